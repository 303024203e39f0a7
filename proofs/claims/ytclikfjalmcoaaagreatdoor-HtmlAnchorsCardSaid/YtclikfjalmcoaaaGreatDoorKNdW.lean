/- Plain part: nodes of markup, and the nodes of inlines and blocks, as the chapter says. Plain part: what well-formed, resolved blocks give to the walk of their nodes; the plain text of nodes; their anchors. Plain part: the anchors of a page have the identifiers of its document. Plain part: slides, as the program and as the reference divide blocks. Plain part: the sections of the page with slides, as the program and as the reference cut the blocks. Plain part: the page with slides has the anchors of the page, each as often. Plain part: the page of a well-formed document is valid markup. Plain part: the page of a well-formed, resolved document is valid markup (blocks, notes, the page). Plain part: the pieces of a well-formed document are well-formed; the page with slides is valid markup. Plain part: what the walk of the nodes of blocks asks, where blocks stand that are no rows and no cells. publisherref04.Deep, List: inlines and blocks with those in them, in document order. publisherref04.List: blocks with those in them, in document order. The contract of publisherref04.Inlines: all inlines of blocks. Plain part: all inlines of blocks: theirs are among them; how large they are together; unresolved ones. Words for nodes in memory. -/
import Derived.Test.YtclikfjalmcoaaaGreatDoorKPlLd
import Derived.Test.YtclikfjalmcoaaaGreatDoorKRfD
set_option maxHeartbeats 4000000
set_option maxRecDepth 100000
namespace Go.Proofs.YtclikfjalmcoaaaGreatDoor
open List renaming getElem?_eq_getElem->je6,length_append->jeq,mem_cons_self->jg9
set_option linter.unusedVariables false
set_option linter.unusedSimpArgs false
inductive Nd where
 | mk (nm tx:ByteArray) (at_:List Pr) (ks:List Nd)
def Nd.nm:Nd->ByteArray
 | .mk n _ _ _=>n
def Nd.tx:Nd->ByteArray
 | .mk _ t _ _=>t
def Nd.at_:Nd->List Pr
 | .mk _ _ a _=>a
def Nd.ks:Nd->List Nd
 | .mk _ _ _ k=>k
mutual
def Nd.d:Nd->D
 | .mk n t a ks=>.st [.str n,.str t,.sl 2 (a.map Pr.d),.sl 4 (Nd.dl ks)]
def Nd.dl:List Nd->List D
 | []=>[]
 | x::l=>x.d::Nd.dl l
end
theorem Nd.iX:∀ (l:List Nd),Nd.dl l=l.map Nd.d
 | []=>by unfold Nd.dl;rfl
 | x::l=>by rw [Nd.dl,Nd.iX l];rfl
def bX (l:List Nd):D:=.sl 4 (l.map Nd.d)
mutual
def Nd.sz:Nd->Nat
 | .mk _ _ _ ks=>1+Nd.aS ks
def Nd.aS:List Nd->Nat
 | []=>0
 | x::l=>x.sz+Nd.aS l
end
def bsS (l:List UInt8):ByteArray:=⟨l.toArray⟩
def eT:ByteArray:=⟨#[105,100]⟩
def eP:ByteArray:=⟨#[99,108,97,115,115]⟩
def qQ:ByteArray:=⟨#[109,97,116,104]⟩
def cZ:ByteArray:=⟨#[116,105,116,108,101]⟩
def gL:ByteArray:=⟨#[104,114,101,102]⟩
def BF:ByteArray:=⟨#[115,114,99]⟩
def BG:ByteArray:=⟨#[97,108,116]⟩
def kZ:ByteArray:=⟨#[110,111,116,101,114,101,102]⟩
def tY:ByteArray:=⟨#[35,110,111,116,101,45]⟩
def rT:ByteArray:=⟨#[110,111,116,101,45]⟩
def dx:ByteArray:=⟨#[110,111,116,101]⟩
def iV:ByteArray:=⟨#[110,111,116,101,115]⟩
def tH:ByteArray:=⟨#[108,97,110,103,117,97,103,101,45]⟩
def sStart:ByteArray:=⟨#[115,116,97,114,116]⟩
def uo:ByteArray:=⟨#[97,108,105,103,110]⟩
def nBr:ByteArray:=⟨#[98,114]⟩
def gK:ByteArray:=⟨#[99,111,100,101]⟩
def FV:ByteArray:=⟨#[115,112,97,110]⟩
def nEm:ByteArray:=⟨#[101,109]⟩
def FU:ByteArray:=⟨#[115,116,114,111,110,103]⟩
def nS:ByteArray:=⟨#[115]⟩
def nA:ByteArray:=⟨#[97]⟩
def UU:ByteArray:=⟨#[105,109,103]⟩
def nP:ByteArray:=⟨#[112]⟩
def nH:ByteArray:=⟨#[104]⟩
def Hf:ByteArray:=⟨#[112,114,101]⟩
def jM:ByteArray:=⟨#[100,105,118]⟩
def Uv:ByteArray:=⟨#[104,114]⟩
def tC:ByteArray:=⟨#[98,108,111,99,107,113,117,111,116,101]⟩
def nUl:ByteArray:=⟨#[117,108]⟩
def Tt:ByteArray:=⟨#[111,108]⟩
def nLi:ByteArray:=⟨#[108,105]⟩
def uP:ByteArray:=⟨#[116,97,98,108,101]⟩
def dZ:ByteArray:=⟨#[116,104,101,97,100]⟩
def ny:ByteArray:=⟨#[116,98,111,100,121]⟩
def qw:ByteArray:=⟨#[116,114]⟩
def Eu:ByteArray:=⟨#[116,104]⟩
def wG:ByteArray:=⟨#[116,100]⟩
def gN:ByteArray:=⟨#[115,101,99,116,105,111,110]⟩
def mK:ByteArray:=⟨#[104,101,97,100]⟩
def iU:ByteArray:=⟨#[109,101,116,97]⟩
def fA:ByteArray:=⟨#[116,105,116,108,101]⟩
def P6:ByteArray:=⟨#[104,116,109,108]⟩
def oK:ByteArray:=⟨#[98,111,100,121]⟩
def zZ:ByteArray:=⟨#[99,104,97,114,115,101,116]⟩
def fQ:ByteArray:=⟨#[117,116,102,45,56]⟩
def jC:ByteArray:=⟨#[108,97,110,103]⟩
def Wd:ByteArray:=⟨#[108,101,102,116]⟩
def NY:ByteArray:=⟨#[99,101,110,116,101,114]⟩
def Sj:ByteArray:=⟨#[114,105,103,104,116]⟩
def Q7:ByteArray:=⟨#[32]⟩
def aN (name:ByteArray) (a:List Pr) (ks:List Nd):Nd:=.mk name ⟨#[]⟩ a ks
def yL (s:ByteArray):Nd:=.mk ⟨#[]⟩ s [] []
def bG (s:ByteArray):List Nd:=if q01 s=true then [] else [yL s]
def iD (k v:ByteArray):List Pr:=if q01 v=true then [] else [⟨k,v⟩]
def dX:List ByteArray->ByteArray
 | []=>⟨#[]⟩
 | [x]=>x
 | x::y::l=>x++Q7++dX (y::l)
def JX (l:List ByteArray):List Pr:=if l.isEmpty=true then [] else [⟨eP,dX l⟩]
def jB (a:At) (more:List ByteArray):List Pr:=iD eT a.id++JX (more++a.cls)
def oP (out:List Nd) (x:Nd):List Nd:=if q01 x.nm=true then match out.getLast? with
  | some y=>if q01 y.nm=true then out.dropLast++[.mk y.nm (y.tx++x.tx) y.at_ y.ks] else out++[x]
  | none=>out++[x]
 else out++[x]
def gF (l:List Nd):List Nd:=l.foldl oP []
def lg (l:List aj):ByteArray:=bsS (aj.aM l)
mutual
def aj.nd:aj->Nd
 | .mk k t d ti a ar ci ks=>
  if k=2 then yL Q7
  else if k=3 then aN nBr [] []
  else if k=4 then aN gK [] (bG t)
  else if k=5 then aN FV [⟨eP,qQ⟩] (bG t)
  else if k=6 then aN nEm [] (gF (aj.zX ks))
  else if k=7 then aN FU [] (gF (aj.zX ks))
  else if k=8 then aN nS [] (gF (aj.zX ks))
  else if k=9 then aN nA (⟨gL,d⟩::iD cZ ti) (gF (aj.zX ks))
  else if k=10 then aN UU (⟨BF,d⟩::⟨BG,lg ks⟩::iD cZ ti++jB a []) []
  else if k=11 then aN FV (jB a []) (gF (aj.zX ks))
  else if k=12 then aN nA [⟨gL,tY++t⟩,⟨eP,kZ⟩] (bG t)
  else if k=16 then aN nA [⟨gL,d⟩] (bG d)
  else yL t
def aj.zX:List aj->List Nd
 | []=>[]
 | x::l=>x.nd::aj.zX l
end
def iL (l:List aj):List Nd:=gF (aj.zX l)
theorem oJ:∀ (l:List aj),aj.zX l=l.map aj.nd
 | []=>by rw [aj.zX];rfl
 | x::l=>by rw [aj.zX,oJ l];rfl
def dO (c:UInt8):ByteArray:=if c=108 then Wd else if c=99 then NY else if c=114 then Sj else ⟨#[]⟩
def J8 (name:ByteArray) (c:UInt8) (b:ah):Nd:=aN name (iD uo (dO c)) (iL b.kX)
def ah.kids:ah->List ah
 | .mk _ _ _ _ _ _ _ _ ks=>ks
def aT (name:ByteArray):List UInt8->List ah->List Nd
 | c::cs,b::l=>J8 name c b::aT name cs l
 | _,_=>[]
def jE (name i:ByteArray) (b:ah):Nd:=aN qw [] (aT name i.data.toList b.kids)
def cO (i:ByteArray):List ah->Nd
 | []=>aN uP [] [aN dZ [] []]
 | h::rows=>aN uP [] (aN dZ [] [jE Eu i h]::if rows.isEmpty=true then [] else [aN ny [] (rows.map (jE wG i))])
mutual
def ah.qd:ah->List Nd
 | .mk k lv i t d ti a li ks=>
  if k=1 then [aN nP [] (iL li)]
  else if k=2 then [aN (nH++fq lv.toNat) (jB a []) (iL li)]
  else if k=3 then [aN Hf [] [aN gK (iD eP (if q01 i=true then ⟨#[]⟩ else tH++i)) (bG t)]]
  else if k=4 then [aN jM (jB a [qQ]) (bG t)]
  else if k=5 then [aN Uv [] []]
  else if k=6 then [aN tC [] (ah.aR ks)]
  else if k=7 then [aN nUl [] (ah.aR ks)]
  else if k=8 then [aN Tt (if lv=1 then [] else [⟨sStart,fq lv.toNat⟩]) (ah.aR ks)]
  else if k=9 then [aN nLi [] (ah.aR ks)]
  else if k=10 then [cO i ks]
  else if k=13 then [aN jM (jB a [i]) (ah.aR ks)]
  else []
def ah.aR:List ah->List Nd
 | []=>[]
 | x::l=>x.qd++ah.aR l
end
theorem xA:∀ (l:List ah) (k:Nat) (x:ah),l[k]?=some x->ah.aR (l.take (k+1))=ah.aR (l.take k)++x.qd
 | [],_,_,h=>by simp at h
 | y::l,0,x,h=>by
  simp at h;subst h;simp [ah.aR]
 | y::l,k+1,x,h=>by
  rw [List.take_succ_cons,List.take_succ_cons,ah.aR,ah.aR,xA l k x (by simpa using h),List.append_assoc]
def iB (x:aj):Bool:=match x with
 | .mk k t _ _ _ _ _ _=>decide (k=15)||decide (k=13)||decide (k=14)||((decide (k=9)||decide (k=10))&&!q01 t)
def nC (l:List aj):Bool:=(aj.aX l).any iB
def fT (b:ah):List Nd:=match b with
 | .mk k _ i _ _ _ _ _ ks=>if k=14 then [aN jM [⟨eT,rT++i⟩,⟨eP,dx⟩] (ah.aR ks)] else []
def fC (l:List ah):List Nd:=(ah.aF l).flatMap fT
def dK (l:List ah):List Nd:=ah.aR l++if (fC l).isEmpty=true then [] else [aN gN [⟨eP,iV⟩] (fC l)]
def mZ (title lang:ByteArray) (body:List Nd):Nd:=
 aN P6 [⟨jC,lang⟩] [aN mK [] [aN iU [⟨zZ,fQ⟩] [],aN fA [] (bG title)],aN oK [] body]
def dJ (p:List Nd × ByteArray) (x:Nd):List Nd × ByteArray:=if q01 x.nm=true then (p.1,p.2++x.tx) else (p.1++bG p.2++[x],⟨#[]⟩)
def fP (l:List Nd):List Nd × ByteArray:=l.foldl dJ ([],⟨#[]⟩)
def KW (l:List Nd):Prop:=∀ y,l.getLast?=some y->q01 y.nm=false
def Nd.full (x:Nd):Prop:=q01 x.nm=true->x=yL x.tx/\q01 x.tx=false
theorem KY {s:ByteArray} (h:q01 s=true):s=⟨#[]⟩:=by unfold q01 at h;have:=of_decide_eq_true h;exact ByteArray.ext (Array.toList_inj.1 (by simpa using this))
theorem yK (a b:ByteArray):q01 (a++b)=(q01 a&&q01 b):=by unfold q01;rw [show (a++b).data.toList=a.data.toList++b.data.toList by simp [ByteArray.data_append]];simp [Bool.decide_and]
theorem uQ:∀ (l:List Nd) (out:List Nd) (acc:ByteArray),(∀ x∈l,x.full)->KW out->KW (l.foldl dJ (out,acc)).1/\l.foldl oP (out++bG acc)=(l.foldl dJ (out,acc)).1++bG (l.foldl dJ (out,acc)).2
 | [],out,acc,_,ho=>⟨ho,rfl⟩
 | x::l,out,acc,h,ho=>by
  have hl:=fun y hy=>h y (List.mem_cons_of_mem _ hy)
  have hx:=h x (jg9 ..);rw [List.foldl_cons,List.foldl_cons];by_cases hn:q01 x.nm=true
  ·obtain ⟨e1,e2⟩:=hx hn;have e3:dJ (out,acc) x=(out,acc++x.tx):=by unfold dJ;rw [if_pos hn]
   have e4:oP (out++bG acc) x=out++bG (acc++x.tx):=by
    unfold oP;rw [if_pos hn];have e5:q01 (acc++x.tx)=false:=by rw [yK,e2,Bool.and_false]
    have e6:bG (acc++x.tx)=[yL (acc++x.tx)]:=by unfold bG;rw [if_neg (by rw [e5];simp)]
    rw [e6];by_cases ha:q01 acc=true
    ·have e7:bG acc=[]:=by unfold bG;rw [if_pos ha]
     rw [e7,List.append_nil];have e8:acc++x.tx=x.tx:=by rw [KY ha];apply ByteArray.ext;simp [ByteArray.data_append]
     rw [e8];cases hg:out.getLast? with
     | none=>simp only;rw [e1];rfl
     | some y=>simp only;rw [if_neg (by rw [ho y hg];simp),e1];rfl
    ·have e7:bG acc=[yL acc]:=by unfold bG;rw [if_neg ha]
     rw [e7,List.getLast?_append];simp only [List.getLast?_singleton,Option.some_or];have e9:q01 (yL acc).nm=true:=rfl;rw [if_pos e9,List.dropLast_concat];rfl
   rw [e3,e4];exact uQ l out _ hl ho
  ·have e3:dJ (out,acc) x=(out++bG acc++[x],⟨#[]⟩):=by unfold dJ;rw [if_neg hn]
   have e4:oP (out++bG acc) x=(out++bG acc++[x])++bG ⟨#[]⟩:=by unfold oP;rw [if_neg hn];have:bG ⟨#[]⟩=[]:=rfl;rw [this,List.append_nil]
   rw [e3,e4];refine uQ l _ _ hl ?_;intro y hy;rw [List.getLast?_append] at hy;simp at hy;subst hy;simpa using hn
theorem Ie (l:List Nd) (h:∀ x∈l,x.full):gF l=(fP l).1++bG (fP l).2:=
 (uQ l [] ⟨#[]⟩ h (fun y hy=>by simp at hy)).2
theorem Eb (l:List Nd) (x:Nd):fP (l++[x])=dJ (fP l) x:=by unfold fP;rw [List.foldl_append];rfl
mutual
def aj.tf:aj->Prop
 | .mk k t d ti a ar ci ks=>(k<2\/(12<k/\k<16)\/16<k->q01 t=false)/\aj.Ec ks
def aj.Ec:List aj->Prop
 | []=>True
 | x::l=>x.tf/\aj.Ec l
end
theorem KZ (n:ByteArray) (a:List Pr) (ks:List Nd) (h:q01 n=false):(aN n a ks).full:=fun e=>by
 have:q01 n=true:=e;rw [h] at this;cases this
theorem Cg (s:ByteArray) (h:q01 s=false):(yL s).full:=fun _=>⟨rfl,h⟩
theorem NZ:∀ (x:aj),x.tf->x.nd.full
 | .mk k t d ti a ar ci ks,h=>by
  rw [aj.tf] at h;rw [aj.nd];by_cases h2:k=2
  ·rw [if_pos h2];exact Cg _ rfl
  rw [if_neg h2];by_cases h3:k=3
  ·rw [if_pos h3];exact KZ _ _ _ rfl
  rw [if_neg h3];by_cases h4:k=4
  ·rw [if_pos h4];exact KZ _ _ _ rfl
  rw [if_neg h4];by_cases h5:k=5
  ·rw [if_pos h5];exact KZ _ _ _ rfl
  rw [if_neg h5];by_cases h6:k=6
  ·rw [if_pos h6];exact KZ _ _ _ rfl
  rw [if_neg h6];by_cases h7:k=7
  ·rw [if_pos h7];exact KZ _ _ _ rfl
  rw [if_neg h7];by_cases h8:k=8
  ·rw [if_pos h8];exact KZ _ _ _ rfl
  rw [if_neg h8];by_cases h9:k=9
  ·rw [if_pos h9];exact KZ _ _ _ rfl
  rw [if_neg h9];by_cases h10:k=10
  ·rw [if_pos h10];exact KZ _ _ _ rfl
  rw [if_neg h10];by_cases h11:k=11
  ·rw [if_pos h11];exact KZ _ _ _ rfl
  rw [if_neg h11];by_cases h12:k=12
  ·rw [if_pos h12];exact KZ _ _ _ rfl
  rw [if_neg h12];by_cases h16:k=16
  ·rw [if_pos h16];exact KZ _ _ _ rfl
  rw [if_neg h16];exact Cg _ (h.1 (by omega))
theorem yX:∀ (l:List aj),aj.Ec l->∀ x∈l,x.tf
 | [],_,x,hx=>by cases hx
 | y::l,h,x,hx=>by
  rw [aj.Ec] at h;rcases List.mem_cons.1 hx with rfl | hx
  ·exact h.1
  ·exact yX l h.2 x hx
theorem BK (l:List aj) (h:aj.Ec l):∀ x∈aj.zX l,x.full:=by intro x hx;rw [oJ] at hx;obtain ⟨y,hy,rfl⟩:=List.mem_map.1 hx;exact NZ y (yX l h y hy)
theorem J4 (l:List aj) (h:aj.Ec l):iL l=(fP (aj.zX l)).1++bG (fP (aj.zX l)).2:=Ie _ (BK l h)
theorem Ey {k:Int} {t d ti:ByteArray} {a:At} {ar:List ByteArray} {ci:List Ci} {ks:List aj} (h:Df k t d ti a ar ci ks=true):1<=k/\k<=16:=by unfold Df at h;simp only [Bool.and_eq_true,decide_eq_true_eq] at h;omega
mutual
theorem Sk:∀ (x:aj),x.src->x.deep.any iB=false->x.tf
 | .mk k t d ti a ar ci ks,h,hu=>by
  rw [aj.src] at h;rw [aj.deep,List.any_cons,Bool.or_eq_false_iff] at hu;rw [aj.tf];refine ⟨fun hk=>?_,zk ks h.2 hu.2⟩;have h1:=h.1;unfold rJ at h1;split at h1
  ·cases h1
  ·rename_i h0
   have hf:=Ey (by simpa using h0);have hu1:=hu.1;unfold iB at hu1;simp only [Bool.or_eq_false_iff,decide_eq_false_iff_not] at hu1;have hk1:k=1:=by omega
   rw [if_pos (.inl hk1)] at h1;split at h1
   ·cases h1
   ·rename_i h2
    cases h3:q01 t
    ·rfl
    ·exact absurd (.inl h3) h2
theorem zk:∀ (l:List aj),aj.Ez l->(aj.aX l).any iB=false->aj.Ec l
 | [],_,_=>by rw [aj.Ec];trivial
 | x::l,h,hu=>by
  rw [aj.Ez] at h;rw [aj.aX,List.any_append,Bool.or_eq_false_iff] at hu;rw [aj.Ec];exact ⟨Sk x h.1 hu.1,zk l h.2 hu.2⟩
end
theorem zl (l:List aj) (h:uR l=0) (hu:nC l=false):aj.Ec l:=zk l (aj.uS l 0 true 0 h) hu
mutual
def ah.bD:ah->List aj
 | .mk _ _ _ _ _ _ _ li ks=>aj.aX li++ah.dh ks
def ah.dh:List ah->List aj
 | []=>[]
 | x::l=>x.bD++ah.dh l
end
mutual
def ah.hok:ah->Prop
 | .mk k lv i t d ti a li ks=>aj.Ec li/\(k=2\/k=8->0<=lv/\lv<=999999999)/\(k=10->ks≠[]/\∀ r∈ks,r.kids.length=i.size)/\(∀ c∈a.cls,q01 c=false)/\(k=13->q01 i=false)/\ah.K5 ks
def ah.K5:List ah->Prop
 | []=>True
 | x::l=>x.hok/\ah.K5 l
end
theorem Gh (s:ByteArray) (h:je s=true):q01 s=false:=by
 unfold je at h;simp only [Bool.and_eq_true,decide_eq_true_eq] at h;unfold q01;refine decide_eq_false fun e=>?_
 have h1:s.data.toList.length=s.size:=by simp
 rw [e] at h1;simp at h1;omega
theorem K7:∀ (l seen:List ByteArray),eu seen l=0->∀ c∈l,q01 c=false
 | [],_,_,c,hc=>by cases hc
 | x::l,seen,h,c,hc=>by
  rw [eu] at h;split at h
  ·cases h
  ·rename_i h1
   split at h
   ·cases h
   ·rcases List.mem_cons.1 hc with rfl | hc
    ·exact Gh _ (by simpa using h1)
    ·exact K7 l _ h c hc
theorem zm (a:At) (h:a.err=0):∀ c∈a.cls,q01 c=false:=by
 unfold At.err at h;split at h
 ·cases h
 ·split at h
  ·rename_i h1;exact absurd h h1
  ·rename_i h1
   exact K7 a.cls [] (Classical.not_not.1 h1)
theorem K9 (a:At) (h:a.none=true):∀ c∈a.cls,q01 c=false:=by
 unfold At.none at h;simp only [Bool.and_eq_true] at h;have h1:a.cls=[]:=by simpa using h.1.2
 rw [h1];intro c hc;cases hc
mutual
theorem ah.Gi (cl:ByteArray->Bool):∀ (b:ah) (par:Int) (dp:Nat),b.err cl par dp=0->(b.bD).any iB=false->b.hok
 | .mk k lv i t d ti a li ks,par,dp,h,hu=>by
  rw [ah.err] at h;rw [ah.bD,List.any_append,Bool.or_eq_false_iff] at hu;rw [ah.hok];split at h
  ·cases h
  ·split at h
   ·cases h
   ·rename_i hb
    split at h
    ·rename_i h1;exact absurd h h1
    ·rename_i h1
     have h2:=Classical.not_not.1 h1;have hbf:wm k lv i t d ti a li ks=true:=by
      cases hx:wm k lv i t d ti a li ks
      ·exact absurd (.inl hx) hb
      ·rfl
     unfold wm at hbf;simp only [Bool.and_eq_true,decide_eq_true_eq] at hbf;obtain ⟨⟨⟨⟨⟨⟨⟨⟨b1,b2⟩,b3⟩,b4⟩,b5⟩,b6⟩,b7⟩,b8⟩,b9⟩:=hbf;have Fp:=ah.Ch cl ks k (dp+1) h hu.2;have hli:uR li=0:=by
      by_cases c1:k=1
      ·unfold rV at h2;rw [if_pos c1] at h2;split at h2
       ·cases h2
       ·exact h2
      by_cases c2:k=2
      ·unfold rV at h2;rw [if_neg c1,if_pos c2] at h2;split at h2
       ·cases h2
       ·split at h2
        ·rename_i h3;exact absurd h2 h3
        ·split at h2
         ·cases h2
         ·exact h2
      by_cases c3:k=12
      ·unfold rV at h2;rw [if_neg c1,if_neg c2,if_pos c3] at h2;split at h2
       ·cases h2
       ·exact h2
      ·have:li=[]:=by
        rw [Bool.or_eq_true] at b8;rcases b8 with b8 | b8
        ·simp at b8;omega
        ·simpa using b8
       rw [this];unfold uR;rw [aj.aQ]
     refine ⟨zl li hli hu.1,?_,?_,?_,?_,Fp⟩
     ·intro hk;rcases hk with rfl | rfl
      ·unfold rV at h2;rw [if_neg (by decide),if_pos rfl] at h2;split at h2
       ·cases h2
       ·omega
      ·unfold rV at h2;rw [if_neg (by decide),if_neg (by decide),if_neg (by decide),if_neg (by decide),if_neg (by decide),if_pos (.inr rfl)] at h2;split at h2
       ·cases h2
       ·split at h2
        ·cases h2
        ·rename_i h4
         constructor<;>(rcases Classical.em (lv<0) with h5 | h5<;>rcases Classical.em (999999999<lv) with h6 | h6<;>first | omega | exact absurd ⟨rfl,.inl h5⟩ h4 | exact absurd ⟨rfl,.inr h6⟩ h4)
     ·rintro rfl;unfold rV at h2;rw [if_neg (by decide),if_neg (by decide),if_neg (by decide),if_neg (by decide),if_neg (by decide),if_neg (by decide),if_pos rfl] at h2;unfold iY at h2;split at h2
      ·cases h2
      ·split at h2
       ·cases h2
       ·split at h2
        ·cases h2
        ·split at h2
         ·cases h2
         ·rename_i h5
          split at h2
          ·cases h2
          ·rename_i h6
           refine ⟨fun e=>h5 (by rw [e];rfl),fun r hr=>?_⟩;have h7:ks.any (fun b=>!decide (b.uT=i.size))=false:=by simpa using h6
           rw [List.any_eq_false] at h7;have h8:=h7 r hr;have h9:decide (r.uT=i.size)=true:=by
            cases hx:decide (r.uT=i.size)
            ·rw [hx] at h8;exact absurd rfl h8
            ·rfl
           have h10:=of_decide_eq_true h9;cases r
           exact h10
     ·by_cases c2:k=2
      ·unfold rV at h2;rw [if_neg (by omega),if_pos c2] at h2;split at h2
       ·cases h2
       ·split at h2
        ·rename_i h3;exact absurd h2 h3
        ·rename_i h3;exact zm a (Classical.not_not.1 h3)
      by_cases c4:k=4
      ·unfold rV at h2;rw [if_neg (by omega),if_neg c2,if_neg (by omega),if_neg (by omega),if_pos c4] at h2;split at h2
       ·cases h2
       ·split at h2
        ·cases h2
        ·exact zm a h2
      by_cases c13:k=13
      ·unfold rV at h2;rw [if_neg (by omega),if_neg c2,if_neg (by omega),if_neg (by omega),if_neg c4,if_neg (by omega),if_neg (by omega),if_pos (.inl c13)] at h2;split at h2
       ·cases h2
       ·exact zm a h2
      ·rw [Bool.or_eq_true] at b7;rcases b7 with b7 | b7
       ·simp at b7;omega
       ·exact K9 a b7
     ·rintro rfl;unfold rV at h2;rw [if_neg (by decide),if_neg (by decide),if_neg (by decide),if_neg (by decide),if_neg (by decide),if_neg (by decide),if_neg (by decide),if_pos (.inl rfl)] at h2;split at h2
      ·cases h2
      ·rename_i h3;exact Gh i (by simpa using h3)
theorem ah.Ch (cl:ByteArray->Bool):∀ (l:List ah) (par:Int) (dp:Nat),ah.aQ cl par dp l=0->(ah.dh l).any iB=false->ah.K5 l
 | [],_,_,_,_=>by rw [ah.K5];trivial
 | x::l,par,dp,h,hu=>by
  rw [ah.aQ] at h;rw [ah.dh,List.any_append,Bool.or_eq_false_iff] at hu;rw [ah.K5];split at h
  ·rename_i h1;exact absurd h h1
  ·rename_i h1
   exact ⟨ah.Gi cl x par dp (Classical.not_not.1 h1) hu.1,ah.Ch cl l par dp h hu.2⟩
end
mutual
def Nd.vals (key:ByteArray):Nd->List ByteArray
 | .mk n _ a ks=>if q01 n=true then [] else ((a.filter fun p=>decide (p.key=key)).map (·.val))++Nd.aD key ks
def Nd.aD (key:ByteArray):List Nd->List ByteArray
 | []=>[]
 | x::l=>x.vals key++Nd.aD key l
end
theorem Ho (key:ByteArray) (l m:List Nd):Nd.aD key (l++m)=Nd.aD key l++Nd.aD key m:=by
 induction l with
 | nil=>rw [Nd.aD];rfl
 | cons x l ih=>rw [List.cons_append,Nd.aD,Nd.aD,ih,List.append_assoc]
theorem qx (key v:ByteArray):∀ (l:List Nd) (x:Nd),x∈l->v∈x.vals key->v∈Nd.aD key l
 | [],x,hx,_=>by cases hx
 | y::l,x,hx,hv=>by
  rw [Nd.aD];rcases List.mem_cons.1 hx with rfl | hx
  ·exact List.mem_append_left _ hv
  ·exact List.mem_append_right _ (qx key v l x hx hv)
theorem sj {key n:ByteArray} {a:List Pr} {ks:List Nd} (h:q01 n=false) {v:ByteArray} (hv:⟨key,v⟩∈a):v∈(aN n a ks).vals key:=by unfold aN;rw [Nd.vals,if_neg (by rw [h];simp)];refine List.mem_append_left _ (List.mem_map.2 ⟨⟨key,v⟩,List.mem_filter.2 ⟨hv,by simp⟩,rfl⟩)
theorem iF {key n:ByteArray} {a:List Pr} {ks:List Nd} (h:q01 n=false) {v:ByteArray} (hv:v∈Nd.aD key ks):v∈(aN n a ks).vals key:=by unfold aN;rw [Nd.vals,if_neg (by rw [h];simp)];exact List.mem_append_right _ hv
theorem l8 (key:ByteArray) (x:Nd):Nd.aD key [x]=x.vals key:=by rw [Nd.aD,Nd.aD,List.append_nil]
theorem zn (a:At) (more:List ByteArray) (h:q01 a.id=false):(⟨eT,a.id⟩:Pr)∈jB a more:=by unfold jB iD;rw [if_neg (by rw [h];simp)];exact List.mem_append_left _ (List.mem_singleton.2 rfl)
def ah.lH:ah->Int
 | .mk k _ _ _ _ _ _ _ _=>k
def ah.MG:ah->At
 | .mk _ _ _ _ _ _ a _ _=>a
def ah.Wh:ah->ByteArray
 | .mk _ _ i _ _ _ _ _ _=>i
theorem l9 (cl:ByteArray->Bool):∀ (l:List ah) (par:Int) (dp:Nat),ah.aQ cl par dp l=0->∀ x∈l,dA x.lH par=true/\∃ dp',x.err cl par dp'=0
 | [],_,_,_,x,hx=>by cases hx
 | b::l,par,dp,h,x,hx=>by
  rw [ah.aQ] at h;split at h
  ·rename_i h1;exact absurd h h1
  ·rename_i h1
   rcases List.mem_cons.1 hx with rfl | hx
   ·have h2:=Classical.not_not.1 h1;refine ⟨?_,dp,h2⟩;obtain ⟨k,lv,i,t,d,ti,a,li,ks⟩:=x;rw [ah.err] at h2;split at h2
    ·cases h2
    ·split at h2
     ·cases h2
     ·rename_i h3
      show dA k par=true;cases h4:dA k par
      ·exact absurd (.inr h4) h3
      ·rfl
   ·exact l9 cl l par dp h x hx
theorem uU (cl:ByteArray->Bool) {k lv:Int} {i t d ti:ByteArray} {a:At} {li:List aj} {ks:List ah} {par:Int} {dp:Nat} (h:(ah.mk k lv i t d ti a li ks).err cl par dp=0) : ah.aQ cl k (dp+1) ks=0/\(¬ (k=6\/k=7\/k=8\/k=9\/k=10\/k=11\/k=13\/k=14)->ks=[]):=by
 rw [ah.err] at h;split at h
 ·cases h
 ·split at h
  ·cases h
  ·rename_i hb
   split at h
   ·rename_i h1;exact absurd h h1
   ·refine ⟨h,fun hk=>?_⟩;have hbf:wm k lv i t d ti a li ks=true:=by
     cases hx:wm k lv i t d ti a li ks
     ·exact absurd (.inl hx) hb
     ·rfl
    unfold wm at hbf;simp only [Bool.and_eq_true] at hbf;have b9:=hbf.2;rw [Bool.or_eq_true] at b9;rcases b9 with b9 | b9
    ·simp at b9;omega
    ·simpa using b9
theorem Cj (cl:ByteArray->Bool) (ks:List ah) (dp:Nat) (h:ah.aQ cl 11 dp ks=0):∀ x∈ah.aF ks,x.lH=12:=by
 intro x hx;have h1:∀ b∈ks,b.lH=12/\b.each=[b]:=by
  intro b hb;obtain ⟨h2,dp',h3⟩:=l9 cl ks 11 dp h b hb;obtain ⟨k,lv,i,t,d,ti,a,li,ks'⟩:=b;have h2':dA k 11=true:=h2;have hk:k=12:=by unfold dA at h2';simpa using h2'
  have h4:=(uU cl h3).2 (by omega);refine ⟨hk,?_⟩;rw [ah.each,h4,ah.aF]
 have h2:∀ (l:List ah),(∀ b∈l,b.lH=12/\b.each=[b])->∀ x∈ah.aF l,x.lH=12:=by
  intro l;induction l with
  | nil=>intro _ x hx;rw [ah.aF] at hx;cases hx
  | cons b l ih=>
   intro hl x hx;rw [ah.aF] at hx;rcases List.mem_append.1 hx with hx | hx
   ·rw [(hl b (jg9 ..)).2] at hx;simp at hx;subst hx;exact (hl _ (jg9 ..)).1
   ·exact ih (fun c hc=>hl c (List.mem_cons_of_mem _ hc)) x hx
 exact h2 ks h1 x hx
theorem EA (cl:ByteArray->Bool) (ks:List ah) (dp:Nat) (h:ah.aQ cl 10 dp ks=0):∀ x∈ah.aF ks,x.lH=11\/x.lH=12:=by
 have h1:∀ b∈ks,∀ x∈b.each,x.lH=11\/x.lH=12:=by
  intro b hb x hx;obtain ⟨h2,dp',h3⟩:=l9 cl ks 10 dp h b hb;obtain ⟨k,lv,i,t,d,ti,a,li,ks'⟩:=b;have h2':dA k 10=true:=h2;have hk:k=11:=by unfold dA at h2';simpa using h2'
  have h4:=(uU cl h3).1;rw [hk] at h4;rw [ah.each] at hx;rcases List.mem_cons.1 hx with rfl | hx
  ·exact .inl hk
  ·exact .inr (Cj cl ks' _ h4 x hx)
 intro x hx;have h2:∀ (l:List ah),(∀ b∈l,∀ x∈b.each,x.lH=11\/x.lH=12)->∀ x∈ah.aF l,x.lH=11\/x.lH=12:=by
  intro l;induction l with
  | nil=>intro _ x hx;rw [ah.aF] at hx;cases hx
  | cons b l ih=>
   intro hl x hx;rw [ah.aF] at hx;rcases List.mem_append.1 hx with hx | hx
   ·exact hl b (jg9 ..) x hx
   ·exact ih (fun c hc=>hl c (List.mem_cons_of_mem _ hc)) x hx
 exact h2 ks h1 x hx
mutual
theorem ah.anc (cl:ByteArray->Bool):∀ (b:ah) (par:Int) (dp:Nat),b.err cl par dp=0->∀ x∈b.each,(x.lH=2\/x.lH=4\/x.lH=13)->q01 x.MG.id=false -> x.MG.id∈Nd.aD eT b.qd\/∃ n∈b.each,n.lH=14/\x.MG.id∈Nd.aD eT (ah.aR n.kids)
 | .mk k lv i t d ti a li ks,par,dp,h,x,hx,hk,hid=>by
  obtain ⟨h1,h2⟩:=uU cl h;rw [ah.each] at hx ⊢;rcases List.mem_cons.1 hx with rfl | hx
  ·left;have hk':k=2\/k=4\/k=13:=hk;have Sl:q01 a.id=false:=hid;show a.id∈_;rw [ah.qd];rcases hk' with rfl | rfl | rfl
   ·rw [if_neg (by decide),if_pos rfl,l8];exact sj (by unfold nH;rw [yK];rfl) (zn a [] Sl)
   ·rw [if_neg (by decide),if_neg (by decide),if_neg (by decide),if_pos rfl,l8];exact sj rfl (zn a [qQ] Sl)
   ·rw [if_neg (by decide),if_neg (by decide),if_neg (by decide),if_neg (by decide),if_neg (by decide),if_neg (by decide),if_neg (by decide),if_neg (by decide),if_neg (by decide),if_neg (by decide),if_pos rfl,l8];exact sj rfl (zn a [i] Sl)
  ·have hxk:=hx;rcases ah.Sm cl ks k (dp+1) h1 x hx hk hid with h3 | ⟨n,hn,h4,h5⟩
   ·by_cases c14:k=14
    ·exact .inr ⟨_,jg9 ..,c14,h3⟩
    left;rw [ah.qd];by_cases c6:k=6
    ·rw [if_neg (by omega),if_neg (by omega),if_neg (by omega),if_neg (by omega),if_neg (by omega),if_pos c6,l8];exact iF rfl h3
    by_cases c7:k=7
    ·rw [if_neg (by omega),if_neg (by omega),if_neg (by omega),if_neg (by omega),if_neg (by omega),if_neg c6,if_pos c7,l8];exact iF rfl h3
    by_cases c8:k=8
    ·rw [if_neg (by omega),if_neg (by omega),if_neg (by omega),if_neg (by omega),if_neg (by omega),if_neg c6,if_neg c7,if_pos c8,l8];exact iF rfl h3
    by_cases c9:k=9
    ·rw [if_neg (by omega),if_neg (by omega),if_neg (by omega),if_neg (by omega),if_neg (by omega),if_neg c6,if_neg c7,if_neg c8,if_pos c9,l8];exact iF rfl h3
    by_cases c10:k=10
    ·subst c10;have:=EA cl ks _ h1 x hxk;omega
    by_cases c11:k=11
    ·subst c11;have:=Cj cl ks _ h1 x hxk;omega
    by_cases c13:k=13
    ·rw [if_neg (by omega),if_neg (by omega),if_neg (by omega),if_neg (by omega),if_neg (by omega),if_neg c6,if_neg c7,if_neg c8,if_neg c9,if_neg c10,if_pos c13,l8];exact iF rfl h3
    ·rw [h2 (by omega),ah.aF] at hxk;cases hxk
   ·exact .inr ⟨n,List.mem_cons_of_mem _ hn,h4,h5⟩
theorem ah.Sm (cl:ByteArray->Bool):∀ (l:List ah) (par:Int) (dp:Nat),ah.aQ cl par dp l=0->∀ x∈ah.aF l,(x.lH=2\/x.lH=4\/x.lH=13)->q01 x.MG.id=false -> x.MG.id∈Nd.aD eT (ah.aR l)\/∃ n∈ah.aF l,n.lH=14/\x.MG.id∈Nd.aD eT (ah.aR n.kids)
 | [],_,_,_,x,hx,_,_=>by rw [ah.aF] at hx;cases hx
 | b::l,par,dp,h,x,hx,hk,hid=>by
  rw [ah.aQ] at h;rw [ah.aF] at hx ⊢;rw [ah.aR,Ho];split at h
  ·rename_i h1;exact absurd h h1
  ·rename_i h1
   rcases List.mem_append.1 hx with hx | hx
   ·rcases ah.anc cl b par dp (Classical.not_not.1 h1) x hx hk hid with h3 | ⟨n,hn,h4⟩
    ·exact .inl (List.mem_append_left _ h3)
    ·exact .inr ⟨n,List.mem_append_left _ hn,h4⟩
   ·rcases ah.Sm cl l par dp h x hx hk hid with h3 | ⟨n,hn,h4⟩
    ·exact .inl (List.mem_append_right _ h3)
    ·exact .inr ⟨n,List.mem_append_right _ hn,h4⟩
end
theorem Gj {l:List ah} {n:ah} (hn:n∈ah.aF l) (hk:n.lH=14):∃ x∈fC l,x=aN jM [⟨eT,rT++n.Wh⟩,⟨eP,dx⟩] (ah.aR n.kids):=by obtain ⟨k,lv,i,t,d,ti,a,li,ks⟩:=n;have hk':k=14:=hk;refine ⟨_,List.mem_flatMap.2 ⟨_,hn,?_⟩,rfl⟩;show _∈(if k=14 then [aN jM [⟨eT,rT++i⟩,⟨eP,dx⟩] (ah.aR ks)] else []);rw [if_pos hk'];exact List.mem_singleton.2 rfl
theorem uV {l:List ah} {v:ByteArray} (h:v∈Nd.aD eT (fC l)):v∈Nd.aD eT (dK l):=by
 unfold dK;rw [Ho];refine List.mem_append_right _ ?_;split
 ·rename_i h1
  rw [List.isEmpty_iff] at h1;rw [h1,Nd.aD] at h;cases h
 ·rw [l8];exact iF rfl h
theorem N7 (cl:ByteArray->Bool) (l:List ah) (h:ah.aQ cl 0 0 l=0) (x:ah) (hx:x∈ah.aF l) (hk:x.lH=2\/x.lH=4\/x.lH=13) (hid:q01 x.MG.id=false):x.MG.id∈Nd.aD eT (dK l):=by
 rcases ah.Sm cl l 0 0 h x hx hk hid with h1 | ⟨n,hn,h2,h3⟩
 ·unfold dK;rw [Ho];exact List.mem_append_left _ h1
 ·obtain ⟨y,hy,e⟩:=Gj hn h2;exact uV (qx eT _ _ y hy (by rw [e];exact iF rfl h3))
theorem Ig (l:List ah) (x:ah) (hx:x∈ah.aF l) (hk:x.lH=14):rT++x.Wh∈Nd.aD eT (dK l):=by obtain ⟨y,hy,e⟩:=Gj hx hk;exact uV (qx eT _ _ y hy (by rw [e];exact sj rfl (jg9 ..)))
theorem uW (title lang:ByteArray) (body:List Nd) {v:ByteArray} (h:v∈Nd.aD eT body):v∈(mZ title lang body).vals eT:=by unfold mZ;refine iF rfl ?_;rw [Nd.aD,Nd.aD];exact List.mem_append_right _ (List.mem_append_left _ (iF rfl h))
theorem Jy (n m:Nat) (h:n<10 ^ (m+1)):(Lib.decDigits n).length<=m+1:=by
 induction m generalizing n with
 | zero=>
  rw [Lib.decDigits,dif_pos (by simpa using h)];simp
 | succ m ih=>
  rw [Lib.decDigits];split
  ·simp
  ·rw [jeq,List.length_singleton];have:=ih (n/10) (by
    rw [Nat.div_lt_iff_lt_mul (by decide)];have e:10 ^ (m+1+1)=10 ^ (m+1)*10:=Nat.pow_succ ..;omega)
   omega
theorem jO (cl:ByteArray->Bool) {k lv:Int} {i t d ti:ByteArray} {a:At} {li:List aj} {ks:List ah} {par:Int} {dp:Nat} (h:(ah.mk k lv i t d ti a li ks).err cl par dp=0) : rV cl k lv i t d ti a li ks=0/\wm k lv i t d ti a li ks=true/\ah.aQ cl k (dp+1) ks=0:=by
 rw [ah.err] at h;split at h
 ·cases h
 ·split at h
  ·cases h
  ·rename_i hb
   split at h
   ·rename_i h1;exact absurd h h1
   ·rename_i h1
    refine ⟨Classical.not_not.1 h1,?_,h⟩;cases hx:wm k lv i t d ti a li ks
    ·exact absurd (.inl hx) hb
    ·rfl
theorem La (cl:ByteArray->Bool) {k lv:Int} {i t d ti:ByteArray} {a:At} {li:List aj} {ks:List ah} (h2:rV cl k lv i t d ti a li ks=0) (hbf:wm k lv i t d ti a li ks=true):uR li=0:=by
 unfold rV at h2;by_cases c1:k=1
 ·rw [if_pos c1] at h2;split at h2
  ·cases h2
  ·exact h2
 rw [if_neg c1] at h2;by_cases c2:k=2
 ·rw [if_pos c2] at h2;split at h2
  ·cases h2
  ·split at h2
   ·rename_i h3;exact absurd h2 h3
   ·split at h2
    ·cases h2
    ·exact h2
 rw [if_neg c2] at h2;by_cases c3:k=12
 ·rw [if_pos c3] at h2;split at h2
  ·cases h2
  ·exact h2
 ·have:li=[]:=by
   unfold wm at hbf;simp only [Bool.and_eq_true] at hbf;have b8:=hbf.1.2;rw [Bool.or_eq_true] at b8;rcases b8 with b8 | b8
   ·simp at b8;omega
   ·simpa using b8
  rw [this];unfold uR;rw [aj.aQ]
theorem uX (cl:ByteArray->Bool) (par:Int) (dp:Nat):∀ (l:List ah),ah.aQ cl par dp l=0↔∀ b∈l,b.err cl par dp=0
 | []=>by rw [ah.aQ];exact ⟨fun _ b hb=>(by cases hb),fun _=>rfl⟩
 | x::l=>by
  rw [ah.aQ];by_cases h:x.err cl par dp=0
  ·rw [if_neg (by simp [h]),uX cl par dp l];constructor
   ·intro h1 b hb;rcases List.mem_cons.1 hb with rfl | hb
    ·exact h
    ·exact h1 b hb
   ·exact fun h1 b hb=>h1 b (List.mem_cons_of_mem _ hb)
  ·rw [if_pos h];exact ⟨fun h1=>absurd h1 h,fun h1=>absurd (h1 x (jg9 ..)) h⟩
theorem Gl:∀ (l:List ah),(ah.dh l).any iB=false↔∀ b∈l,b.bD.any iB=false
 | []=>by rw [ah.dh];exact ⟨fun _ b hb=>(by cases hb),fun _=>rfl⟩
 | x::l=>by
  rw [ah.dh,List.any_append,Bool.or_eq_false_iff,Gl l];constructor
  ·rintro ⟨h1,h2⟩ b hb;rcases List.mem_cons.1 hb with rfl | hb
   ·exact h1
   ·exact h2 b hb
  ·exact fun h=>⟨h x (jg9 ..),fun b hb=>h b (List.mem_cons_of_mem _ hb)⟩
mutual
def ah.JK:ah->Prop
 | .mk k lv i t d ti a li ks=>aj.Ec li/\(k=2\/k=8->0<=lv/\lv<=999999999)/\(k=10->ks≠[]/\∀ r∈ks,r.kids.length=i.size/\∀ c∈r.kids,aj.Ec c.kX)/\(∀ c∈a.cls,q01 c=false)/\(k=13->q01 i=false)/\k≠11/\k≠12/\(k≠10->ah.qP ks)
def ah.qP:List ah->Prop
 | []=>True
 | x::l=>x.JK/\ah.qP l
end
theorem Gm:∀ (l:List ah),(ah.dh l).any iB=false->∀ b∈l,nC b.kX=false/\(ah.dh b.kids).any iB=false:=by intro l h b hb;have h1:=(Gl l).1 h b hb;obtain ⟨k,lv,i,t,d,ti,a,li,ks⟩:=b;rw [ah.bD,List.any_append,Bool.or_eq_false_iff] at h1;exact h1
mutual
theorem ah.Lb (cl:ByteArray->Bool):∀ (b:ah) (par:Int) (dp:Nat),par≠10->par≠11->dA b.lH par=true->b.err cl par dp=0->(b.bD).any iB=false->b.JK
 | .mk k lv i t d ti a li ks,par,dp,hp0,hp1,hpl,h,hu=>by
  have hh:=ah.Gi cl _ par dp h hu;obtain ⟨h2,hbf,h3⟩:=jO cl h;rw [ah.hok] at hh;obtain ⟨g1,g2,g3,g4,g5,g6⟩:=hh;rw [ah.bD,List.any_append,Bool.or_eq_false_iff] at hu;have hk:k≠11/\k≠12:=by
   have hpl':dA k par=true:=hpl;unfold dA at hpl';split at hpl'
   ·have:=of_decide_eq_true hpl';omega
   ·(try rw [if_neg hp0,if_neg hp1] at hpl')
    simp at hpl';omega
  rw [ah.JK];refine ⟨g1,g2,fun h10=>?_,g4,g5,hk.1,hk.2,fun h10=>ah.mg cl ks k (dp+1) h10 hk.1 h3 hu.2⟩;obtain ⟨q1,q2⟩:=g3 h10;refine ⟨q1,fun r hr=>⟨q2 r hr,fun c hc=>?_⟩⟩;have r1:=(uX cl k (dp+1) ks).1 h3 r hr;have r2:=Gm ks hu.2 r hr;obtain ⟨k',lv',i',t',d',ti',a',li',ks'⟩:=r;obtain ⟨-,-,s3⟩:=jO cl r1;have c1:=(uX cl k' (dp+1+1) ks').1 s3 c hc;have c2:=Gm ks' r2.2 c hc;obtain ⟨k9,lv9,i9,t9,d9,ti9,a9,li9,ks9⟩:=c;obtain ⟨u1,u2,-⟩:=jO cl c1;exact zl li9 (La cl u1 u2) c2.1
theorem ah.mg (cl:ByteArray->Bool):∀ (l:List ah) (par:Int) (dp:Nat),par≠10->par≠11->ah.aQ cl par dp l=0->(ah.dh l).any iB=false->ah.qP l
 | [],_,_,_,_,_,_=>by rw [ah.qP];trivial
 | x::l,par,dp,hp0,hp1,h,hu=>by
  have hpl:=(l9 cl (x::l) par dp h x (jg9 ..)).1;rw [ah.aQ] at h;rw [ah.dh,List.any_append,Bool.or_eq_false_iff] at hu;rw [ah.qP];split at h
  ·rename_i h1;exact absurd h h1
  ·rename_i h1
   exact ⟨ah.Lb cl x par dp hp0 hp1 hpl (Classical.not_not.1 h1) hu.1,ah.mg cl l par dp hp0 hp1 h hu.2⟩
end
open Go.RowKit
theorem N8:(Tryz.prog.info? 30).map (fun i=>(i.zero,i.size,i.bytes))=some (some (.agg #[.int .i64 0,.int .i64 0,.string ByteArray.empty,.string ByteArray.empty,.string ByteArray.empty,.string ByteArray.empty,.string ByteArray.empty,.slice none 0 0,.slice none 0 0,.slice none 0 0,.slice none 0 0]),11,192):=by kernel_rfl
mutual
theorem Rd.qz {ok:Nat->Prop} {w:World}:∀ (d:D) (cs:List Value),Rd ok w d cs->∀ u∈cs,u.oneCell'=true
 | .int _ _,_,h,u,hu=>by rw [h.oQ] at hu;simp at hu;subst hu;rfl
 | .bool _,_,h,u,hu=>by rw [h.xJ] at hu;simp at hu;subst hu;rfl
 | .str _,_,h,u,hu=>by rw [h.aY] at hu;simp at hu;subst hu;rfl
 | .st fs,_,h,u,hu=>by
  obtain ⟨rows,hr,rfl⟩:=h.j6;exact aO.qz fs rows hr u hu
 | .sl k l,_,h,u,hu=>by
  obtain ⟨a,cap,rfl,_⟩:=h.aC;simp at hu;subst hu;rfl
theorem aO.qz {ok:Nat->Prop} {w:World}:∀ (l:List D) (rows:List (List Value)),aO ok w l rows->∀ u∈rows.flatten,u.oneCell'=true
 | [],_,h,u,hu=>by rw [h.dB] at hu;simp at hu
 | d::ds,_,h,u,hu=>by
  obtain ⟨r,rs,rfl,h1,h2⟩:=h.aH;rw [List.flatten_cons] at hu;rcases List.mem_append.1 hu with hu | hu
  ·exact Rd.qz d r h1 u hu
  ·exact aO.qz ds rs h2 u hu
end
structure Row (T:TypeId) (k B:Nat) (w0:World) (ds:List D) (rows:List (List Value)) (v:Value) (w:World):Prop where
 own:w.ownsRow w0.heap.size T k v ds.length rows.flatten
 red:aO (·<B) w ds rows
 len:∀ r∈rows,r.length=k
 aJ:Below w0.heap.size w0 w
section
variable {T:TypeId} {k B:Nat} {w0 w w1 w2:World} {ds es:List D} {rows aW:List (List Value)} {v v':Value}
theorem Row.nil (T:TypeId) (k B:Nat) (w0:World):Row T k B w0 [] [] (.slice none 0 0) w0:=⟨⟨by simp,.inl ⟨rfl,rfl⟩⟩,aO.none,by simp,Below.refl _ _⟩
theorem Row.up (h:Row T k B w0 ds rows v w) (hB:B<=w.heap.size) (hb:Below w.heap.size w w1):Row T k B w0 ds rows v w1:=
 ⟨QZ h.own hb,aO.keep (fun b h1 h2=>⟨h1,hb.block b h2⟩) _ _ h.red,h.len,aU h.aJ hb⟩
theorem Row.app (h:Row T k B w0 ds rows v w1) (hB:B<=w0.heap.size) (hes:aO (·<B) w1 es aW) (hl2:∀ r∈aW,r.length=k) (hown:w2.ownsRow w0.heap.size T k v' (ds.length+es.length) (rows.flatten++aW.flatten)) (hg:w1.grownBy w2 v.ownBlock):Row T k B w0 (ds++es) (rows++aW) v' w2:=by
 have hne:∀ b,b<w0.heap.size->some b≠v.ownBlock:=fun b hb e=>by have:=(h.own.lt b e.symm).1;omega
 have hst:uh (·<B) (·<B) w1 w2:=fun b h1 h2=>⟨h1,hg.block b h2 (hne b (by omega))⟩
 refine ⟨by rw [jeq,List.flatten_append];exact hown,aO.app (aO.keep hst _ _ h.red) (aO.keep hst _ _ hes),?_,?_⟩
 ·intro r hr;rcases List.mem_append.1 hr with hr | hr
  ·exact h.len r hr
  ·exact hl2 r hr
 ·have hb:=h.aJ;exact ⟨hg.os.trans hb.os,hg.tape.trans hb.tape,hg.output.trans hb.output,Nat.le_trans hb.size hg.size,fun b hlt=>(hg.block b (Nat.lt_of_lt_of_le hlt hb.size) (hne b hlt)).trans (hb.block b hlt)⟩
end
mutual
theorem ah.N9:∀ (x:ah),x.each.length=x.sz
 | .mk _ _ _ _ _ _ _ _ ks=>by rw [ah.each,ah.sz,List.length_cons,ah.lI ks];omega
theorem ah.lI:∀ (l:List ah),(ah.aF l).length=ah.aS l
 | []=>by rw [ah.aF,ah.aS];rfl
 | x::l=>by rw [ah.aF,ah.aS,jeq,ah.N9 x,ah.lI l]
end
open Go.RowKit
theorem bM.at4 {w w':World} {b o:Nat} {k lv:Int} {i t d ti id:ByteArray} {vc vp vl vk:Value} (h:bM w b o k lv i t d ti id vc vp vl vk) (hb:w'.heap[b]?=w.heap[b]?):bM w' b o k lv i t d ti id vc vp vl vk:=by obtain ⟨c0,c1,c2,c3,c4,c5,c6,c7,c8,c9,c10⟩:=h;exact ⟨(fH hb _).trans c0,(fH hb _).trans c1,(fH hb _).trans c2,(fH hb _).trans c3,(fH hb _).trans c4,(fH hb _).trans c5,(fH hb _).trans c6,(fH hb _).trans c7,(fH hb _).trans c8,(fH hb _).trans c9,(fH hb _).trans c10⟩
theorem ah.Ck (l m:List ah):ah.aS (l++m)=ah.aS l+ah.aS m:=by
 induction l with
 | nil=>rw [ah.aS];simp
 | cons x l ih=>rw [List.cons_append,ah.aS,ah.aS,ih];omega
theorem ah.Ih {l:List ah} {k:Nat} {x:ah} (hx:l[k]?=some x):ah.aS (l.take (k+1))=ah.aS (l.take k)+x.sz:=by rw [List.take_add_one,hx,ah.Ck];simp [ah.aS]
theorem ah.xK (l:List ah) (k:Nat):ah.aS (l.take k)<=ah.aS l:=by have:=ah.Ck (l.take k) (l.drop k);rw [List.take_append_drop] at this;omega
def Lc (B:Nat) (w:World) (l:List ah) (v vi:Value) (wr:World):Prop:=∃ (k:Nat) (rows:List (List Value)),k<=l.length/\vi=.int .i64 k/\Row 30 11 B w ((ah.aF (l.take k)).map ah.d) rows v wr
theorem Kv (n:Nat):∀ (l:List ah) (B:Nat) (v:Value) (w:World),ah.aS l<=n->n<=1000000->Rd (·<B) w (nR l) [v]->B<=w.heap.size -> Calls Tryz.prog 29 #[v] w fun e w'=>∃ v' rows,e=.returned v'/\Row 30 11 B w ((ah.aF l).map ah.d) rows v' w':=by
 induction n using Nat.strongRecOn with
 | _ n ih=>
  intro l B v w hn hnm hrd hB;obtain ⟨iI,Yf,Nw,Ny,Nz⟩:=info_parts N8;obtain ⟨a,cap,hv,hs⟩:=Rd.aC hrd;obtain rfl:v=.slice a l.length cap:=by simpa using hv
  have hcap:l.length<=cap:=by simpa using hs.le
  have hmx:=hs.max;unfold maxLen at hmx;have HS:=Lib.hid hs;have IH:=Lib.hid ih;have R0:Hid (Lc B w l (.slice none 0 0) (.int .i64 0) w):=⟨0,[],Nat.zero_le _,rfl,by rw [List.take_zero,ah.aF];exact Row.nil _ _ _ _⟩;clear hs hv hrd ih;go_enter Tryz.func29,Tryz.ntmps29;go_wp2
  go_loopw [3,4] (fun v vi wr=>Lc B w l v vi wr) (fun _ i _=>l.length-(intOf i).toNat)
  case atStart=>exact R0.out
  case round=>
   clear R0;obtain ⟨k,rows,hk,rfl,hrow⟩:=hrel;obtain ⟨av,cv,Sn⟩:=lW hrow.own;subst Sn;by_cases hlt:k<l.length
   ·obtain ⟨x,hx⟩:∃ x,l[k]?=some x:=⟨_,je6 hlt⟩;obtain ⟨kd,lv,inf,t,d,ti,at_,li,ks⟩:=x;obtain ⟨g,off,vc,vp,vl,vk,rfl,hok,hbl,hc,hR⟩:=dV HS.out hx;have hsz:=ah.aZ l k _ hx;rw [ah.sz] at hsz;obtain ⟨al,nl,cl,rfl⟩:=Rd.Di hR.line;obtain ⟨ac,nc,cc,rfl⟩:=Rd.Di hR.at_.cls
    obtain ⟨ap,np,cp,rfl⟩:=Rd.Di hR.at_.aP
    obtain ⟨ak,nk,ck,rfl⟩:=Rd.Di hR.kids;have hgw:wr.heap[g]?=w.heap[g]?:=hrow.aJ.block g (by omega);obtain ⟨p0,p1,p2,p3,p4,p5,p6,p7,p8,p9,G5⟩:=hc.at4 (w':=wr) hgw;have hrx:=ah.gI (ok:=(·<B)) (w:=w) kd lv inf t d ti hR;have Wi:((ah.aF (l.take k)).map ah.d).length<=1000000:=by rw [List.length_map,ah.lI];have:=ah.xK l k;omega
    have hsn:=ah.xK l (k+1);rw [ah.Ih hx,ah.sz] at hsn;have hlk:((ah.aF (l.take k)).map ah.d).length=ah.aS (l.take k):=by rw [List.length_map,ah.lI]
    obtain ⟨L,hL⟩:∃ L,L=((ah.aF (l.take k)).map ah.d).length:=⟨_,rfl⟩;obtain ⟨ds,hds⟩:∃ ds,ds=(ah.aF (l.take k)).map ah.d:=⟨_,rfl⟩;rw [<- hds] at hrow Wi hlk hL ⊢;rw [<- hL];rw [<- hL] at hrow;have ow0:=hrow.own;rw [<- hL] at ow0;have ja1:=Lib.hid ow0;clear ow0;have zR:=Lib.hid hds;have bC:=Lib.hid hrow;have HR:=Lib.hid hR;have HRX:=Lib.hid hrx;have HX:=Lib.hid hx;have HC:=Lib.hid hc;have hwz:=hrow.aJ.size;have hLl:L<=1000000:=by omega
    have HL:=Lib.hid hL;clear hc hR hx hrx hds hrow hL;go_wp2_with (at_builtin;refine Mi _ rfl (.tmp 11) (.tmp 16) 28 rfl w.heap.size 30 iI _ 11 192 Tryz.underlying28 Yf Nw Ny Nz rfl (by decide) (.slice av L cv) L rows.flatten rfl (ja1.out.alloc _) (wr.heap.size+1) (some ⟨wr.heap.size,0,none⟩) 1 1 [.int .i64 kd,.int .i64 lv,.string inf,.string t,.string d,.string ti,.string at_.id,.slice ac nc cc,.slice ap np cp,.slice al nl cl,.slice ak nk ck] rfl ?g1 ?g2 ?g3 ?g4 ?g5 ?_)
    case g1=>exact ⟨rfl,fun _=>⟨_,rfl,by simp,Ml wr [.int .i64 kd,.int .i64 lv,.string inf,.string t,.string d,.string ti,.string at_.id,.slice ac nc cc,.slice ap np cp,.slice al nl cl,.slice ak nk ck] _⟩⟩
    case g2=>exact Rd.qz _ _ HRX.out
    case g3=>unfold maxLen;omega
    case g4=>omega
    case g5=>simp;omega
    intro v1 w1 hown1 hg1 _;obtain ⟨a1,c1,rfl⟩:=lW hown1;have hua:Below wr.heap.size wr (wr.alloc (.cells #[.int .i64 kd,.int .i64 lv,.string inf,.string t,.string d,.string ti,.string at_.id,.slice ac nc cc,.slice ap np cp,.slice al nl cl,.slice ak nk ck] 30)):=(Below.refl _ _).alloc (Nat.le_refl _) _;have Sq:Row 30 11 B w (ds++[ah.d (.mk kd lv inf t d ti at_ li ks)]) (rows++[[.int .i64 kd,.int .i64 lv,.string inf,.string t,.string d,.string ti,.string at_.id,.slice ac nc cc,.slice ap np cp,.slice al nl cl,.slice ak nk ck]]) (.slice a1 (L+1) c1) w1:=by
     refine (bC.out.up (by omega) hua).app hB (aO.one (Rd.keep (fun b h1 h2=>⟨h1,?_⟩) _ _ HRX.out)) (by simp) ?_ hg1
     ·exact (hua.block b (by omega)).trans (bC.out.aJ.block b h2)
     ·rw [List.length_singleton,List.flatten_singleton,<- HL.out];exact hown1
    have hb1:=Sq.aJ;have k10:w1.cell? ⟨g,off+k*11+10,none⟩=some (.slice ak nk ck):=(HC.out.at4 (w':=w1) (hb1.block g (by omega))).c10;have hz1:=hb1.size;have DC:=Lib.hid (IH.out (ah.aS ks) (by omega) ks B (.slice ak nk ck) w1 (Nat.le_refl _) (by omega) (Rd.keep (fun b h1 h2=>⟨h1,hb1.block b h2⟩) _ _ HR.out.kids) (by omega));have Wj:=Lib.hid Sq;clear hown1 hg1 hua Sq hb1 bC p0 p1 p2 p3 p4 p5 p6 p7 p8 p9 G5 hgw;go_wp2_with fail
    refine DC.out.mono ?_;rintro e w2 ⟨v2,aW,rfl,hrow2⟩;obtain ⟨a2,c2,rfl⟩:=lW hrow2.own;have hb2:=hrow2.aJ;have hz2:=hb2.size;have Sr:=Lib.hid (Wj.out.up (by omega) hb2);have Ld:=Lib.hid hrow2;have hks:((ah.aF ks).map ah.d).length=ah.aS ks:=by rw [List.length_map,ah.lI]
    have Tw:=Lib.hid (Reads.pR hrow2.own);have UM:=Lib.hid (aO.qz _ _ hrow2.red);have hl1:(ds++[ah.d (.mk kd lv inf t d ti at_ li ks)]).length=L+1:=by rw [jeq,List.length_singleton,<- HL.out]
    have QY:=Sr.out.own;rw [hl1] at QY;obtain ⟨F,hF⟩:∃ F:List Value,F=(rows++[([.int .i64 kd,.int .i64 lv,.string inf,.string t,.string d,.string ti,.string at_.id,.slice ac nc cc,.slice ap np cp,.slice al nl cl,.slice ak nk ck]:List Value)]).flatten:=⟨_,rfl⟩;rw [<- hF] at QY;have HF:=Lib.hid hF;clear hF;obtain ⟨M,hM⟩:∃ M,M=((ah.aF ks).map ah.d).length:=⟨_,rfl⟩;rw [<- hM] at Tw hks ⊢;have ja2:=Lib.hid QY;have HM:=Lib.hid hM;have HL1:=Lib.hid hl1;have Xo:=Lib.hid hks;clear QY hM hl1 hrow2 hb2 DC Wj hks;go_wp2_with (at_builtin;refine Mi _ rfl (.tmp 18) (.tmp 24) 28 rfl w.heap.size 30 iI _ 11 192 Tryz.underlying28 Yf Nw Ny Nz rfl (by decide) (.slice a1 (L+1) c1) (L+1) F rfl ja2.out w2.heap.size a2 M c2 aW.flatten rfl Tw.out UM.out ?k3 ?k4 ?k5 ?_)
    case k3=>have:=Xo.out;unfold maxLen;omega
    case k4=>have:=Xo.out;have:=HL.out;omega
    case k5=>omega
    intro v3 w3 hown3 hg3 _;obtain ⟨a3,c3,rfl⟩:=lW hown3;have ja3:=Lib.hid (Sr.out.app hB Ld.out.red Ld.out.len (by rw [HL1.out,<- HM.out,<- HF.out];exact hown3) hg3);clear hown3 hg3 Sr Ld Tw UM;go_wp2;go_roundw;case rel=>
     refine ⟨k+1,rows++[[.int .i64 kd,.int .i64 lv,.string inf,.string t,.string d,.string ti,.string at_.id,.slice ac nc cc,.slice ap np cp,.slice al nl cl,.slice ak nk ck]]++aW,by omega,by go_num,?_⟩;have h3:=ja3.out;rw [zR.out] at h3;rw [ah.nD l k _ HX.out,ah.each,List.map_append,List.map_cons];simpa using h3
    case measure=>simp [intOf];omega
   ·have hkl:k=l.length:=by omega
    subst hkl;rw [List.take_length] at hrow ⊢;have bC:=Lib.hid hrow;clear hrow HS IH;go_wp2;go_ret;exact ⟨.slice av _ cv,rows,rfl,bC.out⟩
open Go.RowKit
mutual
theorem ah.Le:∀ (b:ah),b.bD=b.inls
 | .mk k lv i t d ti a li ks=>by rw [ah.bD,ah.inls,ah.mh ks]
theorem ah.mh:∀ (l:List ah),ah.dh l=ah.aL l
 | []=>by rw [ah.dh,ah.aL]
 | x::l=>by rw [ah.dh,ah.aL,ah.Le x,ah.mh l]
end
structure jA (ok:Nat->Prop) (w:World) (a:List Pr) (ks:List Nd) (va vk:Value):Prop where
 at_:Rd ok w (bS a) [va]
 ks:Rd ok w (bX ks) [vk]
theorem Nd.open_ {ok:Nat->Prop} {w:World} {n t:ByteArray} {a:List Pr} {ks:List Nd} {cs:List Value} (h:Rd ok w (Nd.mk n t a ks).d cs) : ∃ va vk,cs=[.string n,.string t,va,vk]/\jA ok w a ks va vk:=by
 unfold Nd.d at h;rw [Nd.iX] at h;obtain ⟨_,g0,rfl⟩:=h.j6;obtain ⟨r0,rs,rfl,h0,g0⟩:=g0.aH;obtain ⟨r1,rs,rfl,h1,g0⟩:=g0.aH;obtain ⟨r2,rs,rfl,h2,g0⟩:=g0.aH;obtain ⟨r3,rs,rfl,h3,g0⟩:=g0.aH;obtain rfl:=g0.dB;obtain rfl:=h0.aY;obtain rfl:=h1.aY;obtain ⟨v2,rfl⟩:∃ v,r2=[v]:=by obtain ⟨a,c,e,-⟩:=h2.aC;exact ⟨_,e⟩
 obtain ⟨v3,rfl⟩:∃ v,r3=[v]:=by obtain ⟨a,c,e,-⟩:=h3.aC;exact ⟨_,e⟩
 exact ⟨v2,v3,rfl,h2,h3⟩
theorem Nd.gI {ok:Nat->Prop} {w:World} (n t:ByteArray) {a:List Pr} {ks:List Nd} {va vk:Value} (h:jA ok w a ks va vk):Rd ok w (Nd.mk n t a ks).d [.string n,.string t,va,vk]:=by unfold Nd.d;rw [Nd.iX];exact Rd.xL (rows:=[[.string n],[.string t],[va],[vk]]) (aO.cons (Rd.dD _ _ _) (aO.cons (Rd.dD _ _ _) (aO.cons h.at_ (aO.cons h.ks aO.none))))
theorem qj {ok:Nat->Prop} {w:World} {l:List Nd} {a:Option Addr} {cap:Nat} (h:kL ok w 4 (l.map Nd.d) a cap) {k:Nat} {n t:ByteArray} {at_:List Pr} {ks:List Nd} (hk:l[k]?=some (.mk n t at_ ks)) : ∃ b off va vk,a=some ⟨b,off,none⟩/\ok b/\b<w.heap.size/\w.cell? ⟨b,off+k*4,none⟩=some (.string n)/\w.cell? ⟨b,off+k*4+1,none⟩=some (.string t)/\w.cell? ⟨b,off+k*4+2,none⟩=some va/\w.cell? ⟨b,off+k*4+3,none⟩=some vk/\jA ok w at_ ks va vk:=by
 have hlt:k<l.length:=(List.getElem?_eq_some_iff.1 hk).1;obtain ⟨b,off,ha,hok,hb,hc⟩:=h.at_ (by simpa using Nat.lt_of_le_of_lt (Nat.zero_le _) hlt)
 obtain ⟨r,hr,hl,hcell⟩:=hc k _ (by rw [List.getElem?_map,hk];rfl);obtain ⟨va,vk,rfl,hR⟩:=Nd.open_ hr;exact ⟨b,off,va,vk,ha,hok,hb,hcell 0 _ rfl,hcell 1 _ rfl,hcell 2 _ rfl,hcell 3 _ rfl,hR⟩
theorem Nd.aZ:∀ (l:List Nd) (k:Nat) (x:Nd),l[k]?=some x->x.sz<=Nd.aS l
 | [],_,_,h=>by simp at h
 | y::l,0,x,h=>by simp at h;subst h;rw [Nd.aS];omega
 | y::l,k+1,x,h=>by rw [Nd.aS];have:=Nd.aZ l k x (by simpa using h);omega
theorem jA.keep {ok ok':Nat->Prop} {w w':World} {a:List Pr} {ks:List Nd} {va vk:Value} (h:jA ok w a ks va vk) (hs:uh ok ok' w w'):jA ok' w' a ks va vk:=⟨Rd.keep hs _ _ h.at_,Rd.keep hs _ _ h.ks⟩
theorem j3 {n t:ByteArray} {a1 a2:Option Addr} {n1 n2 c1 c2:Nat}:∀ u∈([.string n,.string t,.slice a1 n1 c1,.slice a2 n2 c2]:List Value),u.oneCell'=true:=by intro u hu;simp at hu;rcases hu with rfl | rfl | rfl | rfl<;>rfl
theorem FW (l:List Nd) (rs:List (List Value)) (ok:Nat->Prop) (w:World) (h:aO ok w (l.map Nd.d) rs):∀ u∈rs.flatten,u.oneCell'=true:=by
 intro u hu;obtain ⟨r,hr,hu⟩:=List.mem_flatten.1 hu;obtain ⟨j,hj,rfl⟩:=List.mem_iff_getElem.1 hr;have hj2:j<(l.map Nd.d).length:=by rw [<- h.len];exact hj
 obtain ⟨r',hr',hd⟩:=h.get j _ (je6 hj2);rw [je6 hj] at hr';obtain rfl:=Option.some.inj hr';rw [List.getElem_map] at hd;generalize l[j]'(by simpa using hj2)=x at hd;obtain ⟨n,t,a,ks⟩:=x;obtain ⟨va,vk,he,hR⟩:=Nd.open_ hd;obtain ⟨a1,n1,c1,rfl⟩:=Rd.au hR.at_
 obtain ⟨a2,n2,c2,rfl⟩:=Rd.au hR.ks;rw [he] at hu;exact j3 u hu
theorem JY (l:List Pr) (rs:List (List Value)) (ok:Nat->Prop) (w:World) (h:aO ok w (l.map Pr.d) rs):∀ u∈rs.flatten,u.oneCell'=true:=by
 intro u hu;obtain ⟨r,hr,hu⟩:=List.mem_flatten.1 hu;obtain ⟨j,hj,rfl⟩:=List.mem_iff_getElem.1 hr;have hj2:j<(l.map Pr.d).length:=by rw [<- h.len];exact hj
 obtain ⟨r',hr',hd⟩:=h.get j _ (je6 hj2);rw [je6 hj] at hr';obtain rfl:=Option.some.inj hr';rw [List.getElem_map] at hd;rw [Pr.open_ hd] at hu;simp at hu;rcases hu with rfl | rfl<;>rfl
end Go.Proofs.YtclikfjalmcoaaaGreatDoor

