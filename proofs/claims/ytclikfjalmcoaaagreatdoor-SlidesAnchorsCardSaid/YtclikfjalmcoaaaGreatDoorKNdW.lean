/- Plain part: nodes of markup, and the nodes of inlines and blocks, as the chapter says. Plain part: what well-formed, resolved blocks give to the walk of their nodes; the plain text of nodes; their anchors. Plain part: the anchors of a page have the identifiers of its document. Plain part: slides, as the program and as the reference divide blocks. Plain part: the sections of the page with slides, as the program and as the reference cut the blocks. Plain part: the page with slides has the anchors of the page, each as often. Plain part: the page of a well-formed document is valid markup. Plain part: the page of a well-formed, resolved document is valid markup (blocks, notes, the page). Plain part: the pieces of a well-formed document are well-formed; the page with slides is valid markup. Plain part: what the walk of the nodes of blocks asks, where blocks stand that are no rows and no cells. publisherref04.Deep, List: inlines and blocks with those in them, in document order. publisherref04.List: blocks with those in them, in document order. The contract of publisherref04.Inlines: all inlines of blocks. Plain part: all inlines of blocks: theirs are among them; how large they are together; unresolved ones. Words for nodes in memory. -/
import Derived.Test.YtclikfjalmcoaaaGreatDoorKPlLd
import Derived.Test.YtclikfjalmcoaaaGreatDoorKRfD
namespace Go.Proofs.YtclikfjalmcoaaaGreatDoor
open List renaming getElem?_eq_getElem->ji6,cons_append->jj6,nil_append->jj7,append_assoc->jjq,mem_cons_self->jk9,append_nil->jl6
set_option linter.unusedVariables false
set_option linter.unusedSimpArgs false
inductive Nd where
 | mk (nm tx:ByteArray) (at_:List Pr) (ks:List Nd)
def Nd.nm:Nd->ByteArray
 | .mk n _ _ _=>n
def Nd.tx:Nd->ByteArray
 | .mk _ t _ _=>t
def Nd.at_:Nd->List Pr
 | .mk _ _ a _=>a
def Nd.ks:Nd->List Nd
 | .mk _ _ _ k=>k
mutual
def Nd.d:Nd->D
 | .mk n t a ks=>.st [.str n,.str t,.sl 2 (a.map Pr.d),.sl 4 (Nd.dl ks)]
def Nd.dl:List Nd->List D
 | []=>[]
 | x::l=>x.d::Nd.dl l
end
theorem Nd.jm:∀ (l:List Nd),Nd.dl l=l.map Nd.d
 | []=>by unfold Nd.dl;rfl
 | x::l=>by rw [Nd.dl,Nd.jm l];rfl
def cZ (l:List Nd):D:=.sl 4 (l.map Nd.d)
mutual
def Nd.sz:Nd->Nat
 | .mk _ _ _ ks=>1+Nd.aY ks
def Nd.aY:List Nd->Nat
 | []=>0
 | x::l=>x.sz+Nd.aY l
end
def bsS (l:List UInt8):ByteArray:=⟨l.toArray⟩
def dR:ByteArray:=⟨#[105,100]⟩
def fJ:ByteArray:=⟨#[99,108,97,115,115]⟩
def vP:ByteArray:=⟨#[109,97,116,104]⟩
def dH:ByteArray:=⟨#[116,105,116,108,101]⟩
def iE:ByteArray:=⟨#[104,114,101,102]⟩
def DZ:ByteArray:=⟨#[115,114,99]⟩
def D5:ByteArray:=⟨#[97,108,116]⟩
def mG:ByteArray:=⟨#[110,111,116,101,114,101,102]⟩
def vQ:ByteArray:=⟨#[35,110,111,116,101,45]⟩
def Bn:ByteArray:=⟨#[110,111,116,101,45]⟩
def fT:ByteArray:=⟨#[110,111,116,101]⟩
def mM:ByteArray:=⟨#[110,111,116,101,115]⟩
def uZ:ByteArray:=⟨#[108,97,110,103,117,97,103,101,45]⟩
def sStart:ByteArray:=⟨#[115,116,97,114,116]⟩
def vJ:ByteArray:=⟨#[97,108,105,103,110]⟩
def nBr:ByteArray:=⟨#[98,114]⟩
def iD:ByteArray:=⟨#[99,111,100,101]⟩
def IU:ByteArray:=⟨#[115,112,97,110]⟩
def nEm:ByteArray:=⟨#[101,109]⟩
def IQ:ByteArray:=⟨#[115,116,114,111,110,103]⟩
def nS:ByteArray:=⟨#[115]⟩
def nA:ByteArray:=⟨#[97]⟩
def YJ:ByteArray:=⟨#[105,109,103]⟩
def nP:ByteArray:=⟨#[112]⟩
def nH:ByteArray:=⟨#[104]⟩
def JW:ByteArray:=⟨#[112,114,101]⟩
def oH:ByteArray:=⟨#[100,105,118]⟩
def nHr:ByteArray:=⟨#[104,114]⟩
def L8:ByteArray:=⟨#[98,108,111,99,107,113,117,111,116,101]⟩
def nUl:ByteArray:=⟨#[117,108]⟩
def Xg:ByteArray:=⟨#[111,108]⟩
def nLi:ByteArray:=⟨#[108,105]⟩
def wK:ByteArray:=⟨#[116,97,98,108,101]⟩
def eZ:ByteArray:=⟨#[116,104,101,97,100]⟩
def oL:ByteArray:=⟨#[116,98,111,100,121]⟩
def qM:ByteArray:=⟨#[116,114]⟩
def Gh:ByteArray:=⟨#[116,104]⟩
def yK:ByteArray:=⟨#[116,100]⟩
def dM:ByteArray:=⟨#[115,101,99,116,105,111,110]⟩
def gJ:ByteArray:=⟨#[104,101,97,100]⟩
def gK:ByteArray:=⟨#[109,101,116,97]⟩
def dN:ByteArray:=⟨#[116,105,116,108,101]⟩
def kL:ByteArray:=⟨#[104,116,109,108]⟩
def fC:ByteArray:=⟨#[98,111,100,121]⟩
def zL:ByteArray:=⟨#[99,104,97,114,115,101,116]⟩
def fD:ByteArray:=⟨#[117,116,102,45,56]⟩
def iM:ByteArray:=⟨#[108,97,110,103]⟩
def Zz:ByteArray:=⟨#[108,101,102,116]⟩
def QU:ByteArray:=⟨#[99,101,110,116,101,114]⟩
def V7:ByteArray:=⟨#[114,105,103,104,116]⟩
def U1:ByteArray:=⟨#[32]⟩
def aV (name:ByteArray) (a:List Pr) (ks:List Nd):Nd:=.mk name ⟨#[]⟩ a ks
def JU (s:ByteArray):Nd:=.mk ⟨#[]⟩ s [] []
def bP (s:ByteArray):List Nd:=if bI s=true then [] else [JU s]
def iZ (k v:ByteArray):List Pr:=if bI v=true then [] else [⟨k,v⟩]
def eX:List ByteArray->ByteArray
 | []=>⟨#[]⟩
 | [x]=>x
 | x::y::l=>x++U1++eX (y::l)
def Mq (l:List ByteArray):List Pr:=if l.isEmpty=true then [] else [⟨fJ,eX l⟩]
def q0z (a:At) (more:List ByteArray):List Pr:=iZ dR a.id++Mq (more++a.cls)
def pX (out:List Nd) (x:Nd):List Nd:=if bI x.nm=true then match out.getLast? with
  | some y=>if bI y.nm=true then out.dropLast++[.mk y.nm (y.tx++x.tx) y.at_ y.ks] else out++[x]
  | none=>out++[x]
 else out++[x]
def iq (l:List Nd):List Nd:=l.foldl pX []
def mH (l:List aj):ByteArray:=bsS (aj.aU l)
mutual
def aj.nd:aj->Nd
 | .mk k t d ti a ar ci ks=>
  if k=2 then JU U1
  else if k=3 then aV nBr [] []
  else if k=4 then aV iD [] (bP t)
  else if k=5 then aV IU [⟨fJ,vP⟩] (bP t)
  else if k=6 then aV nEm [] (iq (aj.Cv ks))
  else if k=7 then aV IQ [] (iq (aj.Cv ks))
  else if k=8 then aV nS [] (iq (aj.Cv ks))
  else if k=9 then aV nA (⟨iE,d⟩::iZ dH ti) (iq (aj.Cv ks))
  else if k=10 then aV YJ (⟨DZ,d⟩::⟨D5,mH ks⟩::iZ dH ti++q0z a []) []
  else if k=11 then aV IU (q0z a []) (iq (aj.Cv ks))
  else if k=12 then aV nA [⟨iE,vQ++t⟩,⟨fJ,mG⟩] (bP t)
  else if k=16 then aV nA [⟨iE,d⟩] (bP d)
  else JU t
def aj.Cv:List aj->List Nd
 | []=>[]
 | x::l=>x.nd::aj.Cv l
end
def jC (l:List aj):List Nd:=iq (aj.Cv l)
theorem pQ:∀ (l:List aj),aj.Cv l=l.map aj.nd
 | []=>by rw [aj.Cv];rfl
 | x::l=>by rw [aj.Cv,pQ l];rfl
def eF (c:UInt8):ByteArray:=if c=108 then Zz else if c=99 then QU else if c=114 then V7 else ⟨#[]⟩
def Mx (name:ByteArray) (c:UInt8) (b:ah):Nd:=aV name (iZ vJ (eF c)) (jC b.mh)
def ah.kids:ah->List ah
 | .mk _ _ _ _ _ _ _ _ ks=>ks
def bg (name:ByteArray):List UInt8->List ah->List Nd
 | c::cs,b::l=>Mx name c b::bg name cs l
 | _,_=>[]
def jV (name i:ByteArray) (b:ah):Nd:=aV qM [] (bg name i.data.toList b.kids)
def dI (i:ByteArray):List ah->Nd
 | []=>aV wK [] [aV eZ [] []]
 | h::rows=>aV wK [] (aV eZ [] [jV Gh i h]::if rows.isEmpty=true then [] else [aV oL [] (rows.map (jV yK i))])
mutual
def ah.tH:ah->List Nd
 | .mk k lv i t d ti a li ks=>
  if k=1 then [aV nP [] (jC li)]
  else if k=2 then [aV (nH++fQ lv.toNat) (q0z a []) (jC li)]
  else if k=3 then [aV JW [] [aV iD (iZ fJ (if bI i=true then ⟨#[]⟩ else uZ++i)) (bP t)]]
  else if k=4 then [aV oH (q0z a [vP]) (bP t)]
  else if k=5 then [aV nHr [] []]
  else if k=6 then [aV L8 [] (ah.aW ks)]
  else if k=7 then [aV nUl [] (ah.aW ks)]
  else if k=8 then [aV Xg (if lv=1 then [] else [⟨sStart,fQ lv.toNat⟩]) (ah.aW ks)]
  else if k=9 then [aV nLi [] (ah.aW ks)]
  else if k=10 then [dI i ks]
  else if k=13 then [aV oH (q0z a [i]) (ah.aW ks)]
  else []
def ah.aW:List ah->List Nd
 | []=>[]
 | x::l=>x.tH++ah.aW l
end
theorem zu:∀ (l:List ah) (k:Nat) (x:ah),l[k]?=some x->ah.aW (l.take (k+1))=ah.aW (l.take k)++x.tH
 | [],_,_,h=>by simp at h
 | y::l,0,x,h=>by
  simp at h;subst h;simp [ah.aW]
 | y::l,k+1,x,h=>by
  rw [List.take_succ_cons,List.take_succ_cons,ah.aW,ah.aW,zu l k x (by simpa using h),jjq]
def iO (x:aj):Bool:=match x with
 | .mk k t _ _ _ _ _ _=>decide (k=15)||decide (k=13)||decide (k=14)||((decide (k=9)||decide (k=10))&&!bI t)
def Ns (l:List aj):Bool:=(aj.bK l).any iO
def gI (b:ah):List Nd:=match b with
 | .mk k _ i _ _ _ _ _ ks=>if k=14 then [aV oH [⟨dR,Bn++i⟩,⟨fJ,fT⟩] (ah.aW ks)] else []
def yJ (l:List ah):List Nd:=(ah.aO l).flatMap gI
def oh (l:List ah):List Nd:=ah.aW l++if (yJ l).isEmpty=true then [] else [aV dM [⟨fJ,mM⟩] (yJ l)]
def tY (title lang:ByteArray) (body:List Nd):Nd:=
 aV kL [⟨iM,lang⟩] [aV gJ [] [aV gK [⟨zL,fD⟩] [],aV dN [] (bP title)],aV fC [] body]
def dX (p:List Nd × ByteArray) (x:Nd):List Nd × ByteArray:=if bI x.nm=true then (p.1,p.2++x.tx) else (p.1++bP p.2++[x],⟨#[]⟩)
def gH (l:List Nd):List Nd × ByteArray:=l.foldl dX ([],⟨#[]⟩)
def Nt (l:List Nd):Prop:=∀ y,l.getLast?=some y->bI y.nm=false
def Nd.full (x:Nd):Prop:=bI x.nm=true->x=JU x.tx/\bI x.tx=false
theorem Nu {s:ByteArray} (h:bI s=true):s=⟨#[]⟩:=by unfold bI at h;have:=of_decide_eq_true h;exact ByteArray.ext (Array.toList_inj.1 (by simpa using this))
theorem Io (a b:ByteArray):bI (a++b)=(bI a&&bI b):=by unfold bI;rw [show (a++b).data.toList=a.data.toList++b.data.toList by simp [ByteArray.data_append]];simp [Bool.decide_and]
theorem wL:∀ (l:List Nd) (out:List Nd) (acc:ByteArray),(∀ x∈l,x.full)->Nt out->Nt (l.foldl dX (out,acc)).1/\l.foldl pX (out++bP acc)=(l.foldl dX (out,acc)).1++bP (l.foldl dX (out,acc)).2
 | [],out,acc,_,ho=>⟨ho,rfl⟩
 | x::l,out,acc,h,ho=>by
  have hl:=fun y hy=>h y (List.mem_cons_of_mem _ hy)
  have hx:=h x (jk9 ..);rw [List.foldl_cons,List.foldl_cons];by_cases hn:bI x.nm=true
  ·obtain ⟨e1,e2⟩:=hx hn;have e3:dX (out,acc) x=(out,acc++x.tx):=by unfold dX;rw [if_pos hn]
   have e4:pX (out++bP acc) x=out++bP (acc++x.tx):=by
    unfold pX;rw [if_pos hn];have e5:bI (acc++x.tx)=false:=by rw [Io,e2,Bool.and_false]
    have e6:bP (acc++x.tx)=[JU (acc++x.tx)]:=by unfold bP;rw [if_neg (by rw [e5];simp)]
    rw [e6];by_cases ha:bI acc=true
    ·have e7:bP acc=[]:=by unfold bP;rw [if_pos ha]
     rw [e7,jl6];have e8:acc++x.tx=x.tx:=by rw [Nu ha];apply ByteArray.ext;simp [ByteArray.data_append]
     rw [e8];cases hg:out.getLast? with
     | none=>simp only;rw [e1];rfl
     | some y=>simp only;rw [if_neg (by rw [ho y hg];simp),e1];rfl
    ·have e7:bP acc=[JU acc]:=by unfold bP;rw [if_neg ha]
     rw [e7,List.getLast?_append];simp only [List.getLast?_singleton,Option.some_or];have e9:bI (JU acc).nm=true:=rfl;rw [if_pos e9,List.dropLast_concat];rfl
   rw [e3,e4];exact wL l out _ hl ho
  ·have e3:dX (out,acc) x=(out++bP acc++[x],⟨#[]⟩):=by unfold dX;rw [if_neg hn]
   have e4:pX (out++bP acc) x=(out++bP acc++[x])++bP ⟨#[]⟩:=by unfold pX;rw [if_neg hn];have:bP ⟨#[]⟩=[]:=rfl;rw [this,jl6]
   rw [e3,e4];refine wL l _ _ hl ?_;intro y hy;rw [List.getLast?_append] at hy;simp at hy;subst hy;simpa using hn
theorem Kl (l:List Nd) (h:∀ x∈l,x.full):iq l=(gH l).1++bP (gH l).2:=
 (wL l [] ⟨#[]⟩ h (fun y hy=>by simp at hy)).2
theorem F5 (l:List Nd) (x:Nd):gH (l++[x])=dX (gH l) x:=by unfold gH;rw [List.foldl_append];rfl
mutual
def aj.tf:aj->Prop
 | .mk k t d ti a ar ci ks=>(k<2\/(12<k/\k<16)\/16<k->bI t=false)/\aj.F6 ks
def aj.F6:List aj->Prop
 | []=>True
 | x::l=>x.tf/\aj.F6 l
end
theorem q24 (n:ByteArray) (a:List Pr) (ks:List Nd) (h:bI n=false):(aV n a ks).full:=fun e=>by
 have:bI n=true:=e;rw [h] at this;cases this
theorem Ej (s:ByteArray) (h:bI s=false):(JU s).full:=fun _=>⟨rfl,h⟩
theorem QV:∀ (x:aj),x.tf->x.nd.full
 | .mk k t d ti a ar ci ks,h=>by
  rw [aj.tf] at h;rw [aj.nd];by_cases h2:k=2
  ·rw [if_pos h2];exact Ej _ rfl
  rw [if_neg h2];by_cases h3:k=3
  ·rw [if_pos h3];exact q24 _ _ _ rfl
  rw [if_neg h3];by_cases h4:k=4
  ·rw [if_pos h4];exact q24 _ _ _ rfl
  rw [if_neg h4];by_cases h5:k=5
  ·rw [if_pos h5];exact q24 _ _ _ rfl
  rw [if_neg h5];by_cases h6:k=6
  ·rw [if_pos h6];exact q24 _ _ _ rfl
  rw [if_neg h6];by_cases h7:k=7
  ·rw [if_pos h7];exact q24 _ _ _ rfl
  rw [if_neg h7];by_cases h8:k=8
  ·rw [if_pos h8];exact q24 _ _ _ rfl
  rw [if_neg h8];by_cases h9:k=9
  ·rw [if_pos h9];exact q24 _ _ _ rfl
  rw [if_neg h9];by_cases h10:k=10
  ·rw [if_pos h10];exact q24 _ _ _ rfl
  rw [if_neg h10];by_cases h11:k=11
  ·rw [if_pos h11];exact q24 _ _ _ rfl
  rw [if_neg h11];by_cases h12:k=12
  ·rw [if_pos h12];exact q24 _ _ _ rfl
  rw [if_neg h12];by_cases h16:k=16
  ·rw [if_pos h16];exact q24 _ _ _ rfl
  rw [if_neg h16];exact Ej _ (h.1 (by omega))
theorem A8:∀ (l:List aj),aj.F6 l->∀ x∈l,x.tf
 | [],_,x,hx=>by cases hx
 | y::l,h,x,hx=>by
  rw [aj.F6] at h;rcases List.mem_cons.1 hx with rfl | hx
  ·exact h.1
  ·exact A8 l h.2 x hx
theorem DV (l:List aj) (h:aj.F6 l):∀ x∈aj.Cv l,x.full:=by intro x hx;rw [pQ] at hx;obtain ⟨y,hy,rfl⟩:=List.mem_map.1 hx;exact QV y (A8 l h y hy)
theorem Mv (l:List aj) (h:aj.F6 l):jC l=(gH (aj.Cv l)).1++bP (gH (aj.Cv l)).2:=Kl _ (DV l h)
theorem Gr {k:Int} {t d ti:ByteArray} {a:At} {ar:List ByteArray} {ci:List Ci} {ks:List aj} (h:Fb k t d ti a ar ci ks=true):1<=k/\k<=16:=by unfold Fb at h;simp only [Bool.and_eq_true,decide_eq_true_eq] at h;omega
mutual
theorem V8:∀ (x:aj),x.src->x.deep.any iO=false->x.tf
 | .mk k t d ti a ar ci ks,h,hu=>by
  rw [aj.src] at h;rw [aj.deep,List.any_cons,Bool.or_eq_false_iff] at hu;rw [aj.tf];refine ⟨fun hk=>?_,Bz ks h.2 hu.2⟩;have h1:=h.1;unfold tu at h1;split at h1
  ·cases h1
  ·rename_i h0
   have hf:=Gr (by simpa using h0);have hu1:=hu.1;unfold iO at hu1;simp only [Bool.or_eq_false_iff,decide_eq_false_iff_not] at hu1;have hk1:k=1:=by omega
   rw [if_pos (.inl hk1)] at h1;split at h1
   ·cases h1
   ·rename_i h2
    cases h3:bI t
    ·rfl
    ·exact absurd (.inl h3) h2
theorem Bz:∀ (l:List aj),aj.Gs l->(aj.bK l).any iO=false->aj.F6 l
 | [],_,_=>by rw [aj.F6];trivial
 | x::l,h,hu=>by
  rw [aj.Gs] at h;rw [aj.bK,List.any_append,Bool.or_eq_false_iff] at hu;rw [aj.F6];exact ⟨V8 x h.1 hu.1,Bz l h.2 hu.2⟩
end
theorem Ja (l:List aj) (h:Fq l=0) (hu:Ns l=false):aj.F6 l:=Bz l (aj.wM l 0 true 0 h) hu
mutual
def ah.bG:ah->List aj
 | .mk _ _ _ _ _ _ _ li ks=>aj.bK li++ah.dw ks
def ah.dw:List ah->List aj
 | []=>[]
 | x::l=>x.bG++ah.dw l
end
mutual
def ah.hok:ah->Prop
 | .mk k lv i t d ti a li ks=>aj.F6 li/\(k=2\/k=8->0<=lv/\lv<=999999999)/\(k=10->ks≠[]/\∀ r∈ks,r.kids.length=i.size)/\(∀ c∈a.cls,bI c=false)/\(k=13->bI i=false)/\ah.Nv ks
def ah.Nv:List ah->Prop
 | []=>True
 | x::l=>x.hok/\ah.Nv l
end
theorem Jb (s:ByteArray) (h:jA s=true):bI s=false:=by
 unfold jA at h;simp only [Bool.and_eq_true,decide_eq_true_eq] at h;unfold bI;refine decide_eq_false fun e=>?_
 have h1:s.data.toList.length=s.size:=by simp
 rw [e] at h1;simp at h1;omega
theorem Nw:∀ (l seen:List ByteArray),fu seen l=0->∀ c∈l,bI c=false
 | [],_,_,c,hc=>by cases hc
 | x::l,seen,h,c,hc=>by
  rw [fu] at h;split at h
  ·cases h
  ·rename_i h1
   split at h
   ·cases h
   ·rcases List.mem_cons.1 hc with rfl | hc
    ·exact Jb _ (by simpa using h1)
    ·exact Nw l _ h c hc
theorem BG (a:At) (h:a.err=0):∀ c∈a.cls,bI c=false:=by
 unfold At.err at h;split at h
 ·cases h
 ·split at h
  ·rename_i h1;exact absurd h h1
  ·rename_i h1
   exact Nw a.cls [] (Classical.not_not.1 h1)
theorem Ny (a:At) (h:a.none=true):∀ c∈a.cls,bI c=false:=by
 unfold At.none at h;simp only [Bool.and_eq_true] at h;have h1:a.cls=[]:=by simpa using h.1.2
 rw [h1];intro c hc;cases hc
mutual
theorem ah.Jc (cl:ByteArray->Bool):∀ (b:ah) (par:Int) (dp:Nat),b.err cl par dp=0->(b.bG).any iO=false->b.hok
 | .mk k lv i t d ti a li ks,par,dp,h,hu=>by
  rw [ah.err] at h;rw [ah.bG,List.any_append,Bool.or_eq_false_iff] at hu;rw [ah.hok];split at h
  ·cases h
  ·split at h
   ·cases h
   ·rename_i hb
    split at h
    ·rename_i h1;exact absurd h h1
    ·rename_i h1
     have h2:=Classical.not_not.1 h1;have hbf:yu k lv i t d ti a li ks=true:=by
      cases hx:yu k lv i t d ti a li ks
      ·exact absurd (.inl hx) hb
      ·rfl
     unfold yu at hbf;simp only [Bool.and_eq_true,decide_eq_true_eq] at hbf;obtain ⟨⟨⟨⟨⟨⟨⟨⟨b1,b2⟩,b3⟩,b4⟩,b5⟩,b6⟩,b7⟩,b8⟩,b9⟩:=hbf;have Ib:=ah.El cl ks k (dp+1) h hu.2;have hli:Fq li=0:=by
      by_cases c1:k=1
      ·unfold tQ at h2;rw [if_pos c1] at h2;split at h2
       ·cases h2
       ·exact h2
      by_cases c2:k=2
      ·unfold tQ at h2;rw [if_neg c1,if_pos c2] at h2;split at h2
       ·cases h2
       ·split at h2
        ·rename_i h3;exact absurd h2 h3
        ·split at h2
         ·cases h2
         ·exact h2
      by_cases c3:k=12
      ·unfold tQ at h2;rw [if_neg c1,if_neg c2,if_pos c3] at h2;split at h2
       ·cases h2
       ·exact h2
      ·have:li=[]:=by
        rw [Bool.or_eq_true] at b8;rcases b8 with b8 | b8
        ·simp at b8;omega
        ·simpa using b8
       rw [this];unfold Fq;rw [aj.aX]
     refine ⟨Ja li hli hu.1,?_,?_,?_,?_,Ib⟩
     ·intro hk;rcases hk with rfl | rfl
      ·unfold tQ at h2;rw [if_neg (by decide),if_pos rfl] at h2;split at h2
       ·cases h2
       ·omega
      ·unfold tQ at h2;rw [if_neg (by decide),if_neg (by decide),if_neg (by decide),if_neg (by decide),if_neg (by decide),if_pos (.inr rfl)] at h2;split at h2
       ·cases h2
       ·split at h2
        ·cases h2
        ·rename_i h4
         constructor<;>(rcases Classical.em (lv<0) with h5 | h5<;>rcases Classical.em (999999999<lv) with h6 | h6<;>first | omega | exact absurd ⟨rfl,.inl h5⟩ h4 | exact absurd ⟨rfl,.inr h6⟩ h4)
     ·rintro rfl;unfold tQ at h2;rw [if_neg (by decide),if_neg (by decide),if_neg (by decide),if_neg (by decide),if_neg (by decide),if_neg (by decide),if_pos rfl] at h2;unfold jo at h2;split at h2
      ·cases h2
      ·split at h2
       ·cases h2
       ·split at h2
        ·cases h2
        ·split at h2
         ·cases h2
         ·rename_i h5
          split at h2
          ·cases h2
          ·rename_i h6
           refine ⟨fun e=>h5 (by rw [e];rfl),fun r hr=>?_⟩;have h7:ks.any (fun b=>!decide (b.wP=i.size))=false:=by simpa using h6
           rw [List.any_eq_false] at h7;have h8:=h7 r hr;have h9:decide (r.wP=i.size)=true:=by
            cases hx:decide (r.wP=i.size)
            ·rw [hx] at h8;exact absurd rfl h8
            ·rfl
           have h10:=of_decide_eq_true h9;cases r
           exact h10
     ·by_cases c2:k=2
      ·unfold tQ at h2;rw [if_neg (by omega),if_pos c2] at h2;split at h2
       ·cases h2
       ·split at h2
        ·rename_i h3;exact absurd h2 h3
        ·rename_i h3;exact BG a (Classical.not_not.1 h3)
      by_cases c4:k=4
      ·unfold tQ at h2;rw [if_neg (by omega),if_neg c2,if_neg (by omega),if_neg (by omega),if_pos c4] at h2;split at h2
       ·cases h2
       ·split at h2
        ·cases h2
        ·exact BG a h2
      by_cases c13:k=13
      ·unfold tQ at h2;rw [if_neg (by omega),if_neg c2,if_neg (by omega),if_neg (by omega),if_neg c4,if_neg (by omega),if_neg (by omega),if_pos (.inl c13)] at h2;split at h2
       ·cases h2
       ·exact BG a h2
      ·rw [Bool.or_eq_true] at b7;rcases b7 with b7 | b7
       ·simp at b7;omega
       ·exact Ny a b7
     ·rintro rfl;unfold tQ at h2;rw [if_neg (by decide),if_neg (by decide),if_neg (by decide),if_neg (by decide),if_neg (by decide),if_neg (by decide),if_neg (by decide),if_pos (.inl rfl)] at h2;split at h2
      ·cases h2
      ·rename_i h3;exact Jb i (by simpa using h3)
theorem ah.El (cl:ByteArray->Bool):∀ (l:List ah) (par:Int) (dp:Nat),ah.aX cl par dp l=0->(ah.dw l).any iO=false->ah.Nv l
 | [],_,_,_,_=>by rw [ah.Nv];trivial
 | x::l,par,dp,h,hu=>by
  rw [ah.aX] at h;rw [ah.dw,List.any_append,Bool.or_eq_false_iff] at hu;rw [ah.Nv];split at h
  ·rename_i h1;exact absurd h h1
  ·rename_i h1
   exact ⟨ah.Jc cl x par dp (Classical.not_not.1 h1) hu.1,ah.El cl l par dp h hu.2⟩
end
mutual
def Nd.vals (key:ByteArray):Nd->List ByteArray
 | .mk n _ a ks=>if bI n=true then [] else ((a.filter fun p=>decide (p.key=key)).map (·.val))++Nd.aH key ks
def Nd.aH (key:ByteArray):List Nd->List ByteArray
 | []=>[]
 | x::l=>x.vals key++Nd.aH key l
end
theorem J4 (key:ByteArray) (l m:List Nd):Nd.aH key (l++m)=Nd.aH key l++Nd.aH key m:=by
 induction l with
 | nil=>rw [Nd.aH];rfl
 | cons x l ih=>rw [jj6,Nd.aH,Nd.aH,ih,jjq]
theorem qA (key:ByteArray) (x:Nd):Nd.aH key [x]=x.vals key:=by rw [Nd.aH,Nd.aH,jl6]
def ah.CF:ah->Int
 | .mk k _ _ _ _ _ _ _ _=>k
def ah.iOf:ah->ByteArray
 | .mk _ _ i _ _ _ _ _ _=>i
theorem zP (cl:ByteArray->Bool):∀ (l:List ah) (par:Int) (dp:Nat),ah.aX cl par dp l=0->∀ x∈l,gN x.CF par=true/\∃ dp',x.err cl par dp'=0
 | [],_,_,_,x,hx=>by cases hx
 | b::l,par,dp,h,x,hx=>by
  rw [ah.aX] at h;split at h
  ·rename_i h1;exact absurd h h1
  ·rename_i h1
   rcases List.mem_cons.1 hx with rfl | hx
   ·have h2:=Classical.not_not.1 h1;refine ⟨?_,dp,h2⟩;obtain ⟨k,lv,i,t,d,ti,a,li,ks⟩:=x;rw [ah.err] at h2;split at h2
    ·cases h2
    ·split at h2
     ·cases h2
     ·rename_i h3
      show gN k par=true;cases h4:gN k par
      ·exact absurd (.inr h4) h3
      ·rfl
   ·exact zP cl l par dp h x hx
theorem Nz (cl:ByteArray->Bool) {k lv:Int} {i t d ti:ByteArray} {a:At} {li:List aj} {ks:List ah} {par:Int} {dp:Nat} (h:(ah.mk k lv i t d ti a li ks).err cl par dp=0) : ah.aX cl k (dp+1) ks=0/\(¬ (k=6\/k=7\/k=8\/k=9\/k=10\/k=11\/k=13\/k=14)->ks=[]):=by
 rw [ah.err] at h;split at h
 ·cases h
 ·split at h
  ·cases h
  ·rename_i hb
   split at h
   ·rename_i h1;exact absurd h h1
   ·refine ⟨h,fun hk=>?_⟩;have hbf:yu k lv i t d ti a li ks=true:=by
     cases hx:yu k lv i t d ti a li ks
     ·exact absurd (.inl hx) hb
     ·rfl
    unfold yu at hbf;simp only [Bool.and_eq_true] at hbf;have b9:=hbf.2;rw [Bool.or_eq_true] at b9;rcases b9 with b9 | b9
    ·simp at b9;omega
    ·simpa using b9
structure Sl where
 ti:List aj
 bl:List ah
def tJ (b:ah):Bool:=match b with
 | .mk k lv _ _ _ _ _ _ _=>decide (k=2)&&(decide (lv=1)||decide (lv=2))
def tK (b:ah):Bool:=decide (b.CF=5)||tJ b
def ah.jd7:ah->List aj
 | .mk _ _ _ _ _ _ _ li _=>li
structure Pt where
 ti:Bool
 bl:List ah
structure xU where
 all:List Pt
 op:Pt
 some_:Bool
def ji (s:xU):xU:=⟨if s.some_=true then s.all++[s.op] else s.all,⟨false,[]⟩,true⟩
def lT (s:xU) (b:ah):xU:=
 if tK b=true then (if tJ b=true then ⟨(ji s).all,⟨true,[b]⟩,true⟩ else ⟨(ji s).all,⟨false,[]⟩,true⟩)
 else ⟨s.all,⟨s.op.ti,s.op.bl++[b]⟩,true⟩
def qR:xU:=⟨[],⟨false,[]⟩,false⟩
def lU (l:List ah):xU:=l.foldl lT qR
def dY (l:List ah):List Pt:=(ji (lU l)).all
def nV (p:Pt):Sl:=if p.ti=true then ⟨match p.bl with | b::_=>b.jd7 | []=>[],p.bl.tail⟩ else ⟨[],p.bl⟩
def slP (l:List ah):List Sl:=(dY l).map nV
def QW (p:Pt):Prop:=p.ti=true->∃ b t,p.bl=b::t/\tJ b=true
theorem ZB (b:ah) (h:tJ b=true):b.CF=2:=by obtain ⟨k,lv,i,t,d,ti,a,li,ks⟩:=b;unfold tJ at h;simp only [Bool.and_eq_true,decide_eq_true_eq] at h;exact h.1
structure Km (s:xU):Prop where
 op:QW s.op
 no:s.some_=false->s.all=[]/\s.op=⟨false,[]⟩
 al:∀ p∈s.all,QW p
theorem Gt (s:xU) (h:Km s):∀ p∈(ji s).all,QW p:=by
 unfold ji;split
 ·intro p hp;rcases List.mem_append.1 hp with hp | hp
  ·exact h.al p hp
  ·simp at hp;subst hp;exact h.op
 ·exact h.al
theorem QX (s:xU) (b:ah) (h:Km s):Km (lT s b):=by
 unfold lT;split
 ·split
  ·rename_i ht
   exact ⟨(fun _=>⟨b,[],rfl,ht⟩),(fun e=>by cases e),Gt s h⟩
  ·exact ⟨(fun e=>by cases e),(fun e=>by cases e),Gt s h⟩
 ·refine ⟨fun e=>?_,(fun e=>by cases e),h.al⟩;obtain ⟨c,t,h1,h2⟩:=h.op e;exact ⟨c,t++[b],by show s.op.bl++[b]=_;rw [h1];rfl,h2⟩
theorem Jd:∀ (l:List ah) (s:xU),Km s->Km (l.foldl lT s)
 | [],s,h=>h
 | b::l,s,h=>by rw [List.foldl_cons];exact Jd l _ (QX s b h)
theorem ps0:Km qR:=⟨(fun e=>by cases e),(fun _=>⟨rfl,rfl⟩),(fun p hp=>by cases hp)⟩
def goB (b:ah):Bool:=!tK b
def qU:List ah->List (List ah)
 | []=>[]
 | b::l=>(b::l.takeWhile goB)::qU (l.dropWhile goB)
termination_by l=>l.length
decreasing_by
 have:∀ (l:List ah),(l.dropWhile goB).length<=l.length:=by
  intro l;induction l with
  | nil=>simp
  | cons x l ih=>rw [List.dropWhile_cons];split<;>simp<;>omega
 have:=this l;simp only [List.length_cons];omega
theorem qd:qU []=[]:=by rw [qU]
theorem qV (b:ah) (l:List ah):qU (b::l)=(b::l.takeWhile goB)::qU (l.dropWhile goB):=by rw [qU]
def gW (s:List ah):List ah:=match s with
 | b::l=>if b.CF=5 then l else b::l
 | []=>[]
def qg (s:List ah):Pt:=match s with
 | b::l=>if tJ b=true then ⟨true,b::l⟩ else if b.CF=5 then ⟨false,l⟩ else ⟨false,b::l⟩
 | []=>⟨false,[]⟩
theorem uj (s:List ah):(qg s).bl=gW s:=by
 unfold qg gW;cases s with
 | nil=>rfl
 | cons b l=>
  simp only;by_cases ht:tJ b=true
  ·have:=ZB b ht;rw [if_pos ht,if_neg (by omega)]
  ·rw [if_neg ht];split<;>rfl
theorem NA {b:ah}:goB b=true↔¬ tK b=true:=by unfold goB;cases tK b<;>simp
theorem qW:∀ (l:List ah) (s:xU),s.some_=true->(ji (l.foldl lT s)).all=s.all++⟨s.op.ti,s.op.bl++l.takeWhile goB⟩::(qU (l.dropWhile goB)).map qg
 | [],s,hs=>by
  rw [List.foldl_nil,List.takeWhile_nil,List.dropWhile_nil,qd,jl6];unfold ji;rw [if_pos hs];rfl
 | b::l,s,hs=>by
  rw [List.foldl_cons,List.takeWhile_cons,List.dropWhile_cons];by_cases hb:tK b=true
  ·have hg:¬ goB b=true:=fun h=>NA.1 h hb
   rw [if_neg hg,if_neg hg,jl6,qV,List.map_cons];have hfin:(ji s).all=s.all++[s.op]:=by unfold ji;rw [if_pos hs]
   by_cases ht:tJ b=true
   ·have e1:lT s b=⟨s.all++[s.op],⟨true,[b]⟩,true⟩:=by unfold lT;rw [if_pos hb,if_pos ht,hfin]
    rw [e1,qW l _ rfl];have e2:qg (b::l.takeWhile goB)=⟨true,b::l.takeWhile goB⟩:=by unfold qg;simp only;rw [if_pos ht]
    rw [e2,jjq];rfl
   ·have hk:b.CF=5:=by
     unfold tK at hb;rw [Bool.or_eq_true] at hb;rcases hb with hb | hb
     ·exact of_decide_eq_true hb
     ·exact absurd hb ht
    have e1:lT s b=⟨s.all++[s.op],⟨false,[]⟩,true⟩:=by unfold lT;rw [if_pos hb,if_neg ht,hfin]
    rw [e1,qW l _ rfl];have e2:qg (b::l.takeWhile goB)=⟨false,l.takeWhile goB⟩:=by unfold qg;simp only;rw [if_neg ht,if_pos hk]
    rw [e2,jjq];rfl
  ·have hg:goB b=true:=NA.2 hb;rw [if_pos hg,if_pos hg];have e1:lT s b=⟨s.all,⟨s.op.ti,s.op.bl++[b]⟩,true⟩:=by unfold lT;rw [if_neg hb]
   rw [e1,qW l _ rfl,jjq];rfl
theorem qh (l:List ah):dY l=(qU l).map qg:=by
 unfold dY lU;cases l with
 | nil=>rw [qd];rfl
 | cons b l=>
  rw [List.foldl_cons,qV,List.map_cons];by_cases hb:tK b=true
  ·by_cases ht:tJ b=true
   ·have e1:lT qR b=⟨[],⟨true,[b]⟩,true⟩:=by unfold lT;rw [if_pos hb,if_pos ht];rfl
    have e2:qg (b::l.takeWhile goB)=⟨true,b::l.takeWhile goB⟩:=by unfold qg;simp only;rw [if_pos ht]
    rw [e1,qW l _ rfl,e2];rfl
   ·have hk:b.CF=5:=by
     unfold tK at hb;rw [Bool.or_eq_true] at hb;rcases hb with hb | hb
     ·exact of_decide_eq_true hb
     ·exact absurd hb ht
    have e1:lT qR b=⟨[],⟨false,[]⟩,true⟩:=by unfold lT;rw [if_pos hb,if_neg ht];rfl
    have e2:qg (b::l.takeWhile goB)=⟨false,l.takeWhile goB⟩:=by unfold qg;simp only;rw [if_neg ht,if_pos hk]
    rw [e1,qW l _ rfl,e2];rfl
  ·have e1:lT qR b=⟨[],⟨false,[b]⟩,true⟩:=by unfold lT;rw [if_neg hb];rfl
   have ht:¬ tJ b=true:=fun h=>hb (by unfold tK;rw [h,Bool.or_true])
   have hk:¬ b.CF=5:=fun h=>hb (by unfold tK;rw [decide_eq_true h];rfl)
   have e2:qg (b::l.takeWhile goB)=⟨false,b::l.takeWhile goB⟩:=by unfold qg;simp only;rw [if_neg ht,if_neg hk]
   rw [e1,qW l _ rfl,e2];rfl
def BI:ByteArray:=⟨#[115,108,105,100,101]⟩
def oM (bl:List ah):Nd:=aV dM [⟨fJ,BI⟩] (oh bl)
def Gi (l:List ah):List Nd:=(qU l).map fun s=>oM (gW s)
theorem lF (l:List ah):(dY l).map (fun p=>oM p.bl)=Gi l:=by
 rw [qh,List.map_map];unfold Gi;congr 1
 funext s
 simp [uj]
theorem Em:∀ (l m:List ah),ah.aO (l++m)=ah.aO l++ah.aO m
 | [],m=>by rw [jj7,show ah.aO []=[] by rw [ah.aO],jj7]
 | x::l,m=>by rw [jj6,ah.aO,ah.aO,Em l m,jjq]
theorem En:∀ (l m:List ah),ah.aW (l++m)=ah.aW l++ah.aW m
 | [],m=>by rw [jj7,show ah.aW []=[] by rw [ah.aW],jj7]
 | x::l,m=>by rw [jj6,ah.aW,ah.aW,En l m,jjq]
theorem Kn (l m:List ah):yJ (l++m)=yJ l++yJ m:=by unfold yJ;rw [Em,List.flatMap_append]
theorem wR (n v:ByteArray) (ks:List Nd) (h:bI n=false):(aV n [⟨fJ,v⟩] ks).vals dR=Nd.aH dR ks:=by
 unfold aV;rw [Nd.vals,if_neg (by rw [h];simp)];have:([⟨fJ,v⟩]:List Pr).filter (fun p=>decide (p.key=dR))=[]:=by
  have hne:¬ fJ=dR:=by decide
  simp [hne]
 rw [this];rfl
theorem kM (l:List ah):Nd.aH dR (oh l)=Nd.aH dR (ah.aW l)++Nd.aH dR (yJ l):=by
 unfold oh;rw [J4];congr 1;split
 ·rename_i h
  rw [List.isEmpty_iff] at h;rw [h]
 ·rw [qA,wR _ _ _ rfl]
def tN (v:ByteArray) (l:List ah):Nat:=(Nd.aH dR (oh l)).countP fun x=>decide (x=v)
theorem Je (v:ByteArray) (l m:List ah):tN v (l++m)=tN v l+tN v m:=by unfold tN;rw [kM,kM,kM,En,Kn,J4,J4];simp only [List.countP_append];omega
theorem QY (v:ByteArray):tN v []=0:=by
 unfold tN;rw [kM];have h1:ah.aW []=[]:=by rw [ah.aW]
 have h2:yJ []=[]:=by unfold yJ;rw [show ah.aO []=[] by rw [ah.aO]];rfl
 rw [h1,h2];simp [Nd.aH]
theorem ND (v:ByteArray) (b:ah) (h:b.CF=5) (hk:b.kids=[]):tN v [b]=0:=by
 obtain ⟨k,lv,i,t,d,ti,a,li,ks⟩:=b;have h':k=5:=h;have hk':ks=[]:=hk;subst h' hk';unfold tN;rw [kM];have h1:ah.aW [ah.mk 5 lv i t d ti a li []]=[aV nHr [] []]:=by rw [ah.aW,ah.tH,ah.aW];rfl
 have h2:yJ [ah.mk 5 lv i t d ti a li []]=[]:=by unfold yJ;rw [ah.aO,ah.each,ah.aO];rfl
 rw [h1,h2,qA];unfold aV;rw [Nd.vals,if_neg (by decide)];simp [Nd.aH]
theorem Gu (v:ByteArray) (s:List ah) (hk:∀ b∈s,b.CF=5->b.kids=[]):tN v (gW s)=tN v s:=by
 unfold gW;cases s with
 | nil=>rfl
 | cons b l=>
  simp only;split
  ·rename_i h
   have e:=Je v [b] l;rw [List.singleton_append] at e;rw [e,ND v b h (hk b (jk9 ..) h)];omega
  ·rfl
theorem nM (n:Nat):∀ (l:List ah),l.length<=n->(qU l).flatten=l:=by
 induction n with
 | zero=>intro l hl;rw [List.eq_nil_of_length_eq_zero (Nat.le_zero.1 hl),qd];rfl
 | succ n ih=>
  intro l hl;cases l with
  | nil=>rw [qd];rfl
  | cons b l=>
   rw [List.length_cons] at hl;have:(l.dropWhile goB).length<=l.length:=by have h:=congrArg List.length (List.takeWhile_append_dropWhile (p:=goB) (l:=l));rw [List.length_append] at h;omega
   rw [qV,List.flatten_cons,ih _ (by omega),jj6,List.takeWhile_append_dropWhile]
theorem NG (s:List ah):(oM s).vals dR=Nd.aH dR (oh s):=by unfold oM;exact wR _ _ _ rfl
theorem Eo (v:ByteArray):∀ (L:List (List ah)),(∀ s∈L,∀ b∈s,b.CF=5->b.kids=[])->(Nd.aH dR (L.map fun s=>oM (gW s))).countP (fun x=>decide (x=v))=tN v L.flatten
 | [],_=>by rw [List.flatten_nil,QY,List.map_nil];simp [Nd.aH]
 | s::L,h=>by
  rw [List.map_cons,Nd.aH,List.countP_append,NG,Eo v L (fun x hx=>h x (List.mem_cons_of_mem _ hx)),List.flatten_cons,Je];have:=Gu v s (h s (jk9 ..));unfold tN at this ⊢;omega
theorem Gj (v:ByteArray) (l:List ah) (h:∀ b∈l,b.CF=5->b.kids=[]):(Nd.aH dR (Gi l)).countP (fun x=>decide (x=v))=(Nd.aH dR (oh l)).countP (fun x=>decide (x=v)):=by have hf:=nM l.length l (Nat.le_refl _);unfold Gi;rw [Eo v (qU l) (fun s hs b hb=>h b (by rw [<- hf];exact List.mem_flatten.2 ⟨s,hs,hb⟩)),hf];rfl
theorem zO (v title lang:ByteArray) (body:List Nd):((tY title lang body).vals dR).countP (fun x=>decide (x=v))=(Nd.aH dR body).countP (fun x=>decide (x=v)):=by
 have h1:(tY title lang body).vals dR=Nd.aH dR body:=by
  unfold tY;have e1:∀ (n:ByteArray) (ks:List Nd),bI n=false->(aV n [] ks).vals dR=Nd.aH dR ks:=fun n ks h=>by
   unfold aV;rw [Nd.vals,if_neg (by rw [h];simp)];rfl
  have e2:∀ (n k v:ByteArray) (ks:List Nd),bI n=false->k≠dR->(aV n [⟨k,v⟩] ks).vals dR=Nd.aH dR ks:=fun n k v ks h hk=>by
   unfold aV;rw [Nd.vals,if_neg (by rw [h];simp)];simp [hk]
  have e0:Nd.aH dR []=[]:=by rw [Nd.aH]
  rw [e2 _ _ _ _ rfl (by decide)];simp only [Nd.aH,jl6];rw [e1 gJ _ rfl,e1 fC _ rfl];simp only [Nd.aH,jl6];rw [e2 gK _ _ _ rfl (by decide),e1 dN _ rfl,e0];have e3:Nd.aH dR (bP title)=[]:=by
   unfold bP;split
   ·rw [Nd.aH]
   ·rw [qA];unfold JU;rw [Nd.vals,if_pos (by decide)]
  rw [e3];rfl
 rw [h1]
theorem LZ (n m:Nat) (h:n<10 ^ (m+1)):(Lib.decDigits n).length<=m+1:=by
 induction m generalizing n with
 | zero=>
  rw [Lib.decDigits,dif_pos (by simpa using h)];simp
 | succ m ih=>
  rw [Lib.decDigits];split
  ·simp
  ·rw [List.length_append,List.length_singleton];have:=ih (n/10) (by
    rw [Nat.div_lt_iff_lt_mul (by decide)];have e:10 ^ (m+1+1)=10 ^ (m+1)*10:=Nat.pow_succ ..;omega)
   omega
theorem ku (cl:ByteArray->Bool) {k lv:Int} {i t d ti:ByteArray} {a:At} {li:List aj} {ks:List ah} {par:Int} {dp:Nat} (h:(ah.mk k lv i t d ti a li ks).err cl par dp=0) : tQ cl k lv i t d ti a li ks=0/\yu k lv i t d ti a li ks=true/\ah.aX cl k (dp+1) ks=0:=by
 rw [ah.err] at h;split at h
 ·cases h
 ·split at h
  ·cases h
  ·rename_i hb
   split at h
   ·rename_i h1;exact absurd h h1
   ·rename_i h1
    refine ⟨Classical.not_not.1 h1,?_,h⟩;cases hx:yu k lv i t d ti a li ks
    ·exact absurd (.inl hx) hb
    ·rfl
theorem NH (cl:ByteArray->Bool) {k lv:Int} {i t d ti:ByteArray} {a:At} {li:List aj} {ks:List ah} (h2:tQ cl k lv i t d ti a li ks=0) (hbf:yu k lv i t d ti a li ks=true):Fq li=0:=by
 unfold tQ at h2;by_cases c1:k=1
 ·rw [if_pos c1] at h2;split at h2
  ·cases h2
  ·exact h2
 rw [if_neg c1] at h2;by_cases c2:k=2
 ·rw [if_pos c2] at h2;split at h2
  ·cases h2
  ·split at h2
   ·rename_i h3;exact absurd h2 h3
   ·split at h2
    ·cases h2
    ·exact h2
 rw [if_neg c2] at h2;by_cases c3:k=12
 ·rw [if_pos c3] at h2;split at h2
  ·cases h2
  ·exact h2
 ·have:li=[]:=by
   unfold yu at hbf;simp only [Bool.and_eq_true] at hbf;have b8:=hbf.1.2;rw [Bool.or_eq_true] at b8;rcases b8 with b8 | b8
   ·simp at b8;omega
   ·simpa using b8
  rw [this];unfold Fq;rw [aj.aX]
theorem kN (cl:ByteArray->Bool) (par:Int) (dp:Nat):∀ (l:List ah),ah.aX cl par dp l=0↔∀ b∈l,b.err cl par dp=0
 | []=>by rw [ah.aX];exact ⟨fun _ b hb=>(by cases hb),fun _=>rfl⟩
 | x::l=>by
  rw [ah.aX];by_cases h:x.err cl par dp=0
  ·rw [if_neg (by simp [h]),kN cl par dp l];constructor
   ·intro h1 b hb;rcases List.mem_cons.1 hb with rfl | hb
    ·exact h
    ·exact h1 b hb
   ·exact fun h1 b hb=>h1 b (List.mem_cons_of_mem _ hb)
  ·rw [if_pos h];exact ⟨fun h1=>absurd h1 h,fun h1=>absurd (h1 x (jk9 ..)) h⟩
theorem um:∀ (l:List ah),(ah.dw l).any iO=false↔∀ b∈l,b.bG.any iO=false
 | []=>by rw [ah.dw];exact ⟨fun _ b hb=>(by cases hb),fun _=>rfl⟩
 | x::l=>by
  rw [ah.dw,List.any_append,Bool.or_eq_false_iff,um l];constructor
  ·rintro ⟨h1,h2⟩ b hb;rcases List.mem_cons.1 hb with rfl | hb
   ·exact h1
   ·exact h2 b hb
  ·exact fun h=>⟨h x (jk9 ..),fun b hb=>h b (List.mem_cons_of_mem _ hb)⟩
theorem Gv (s:List ah):∀ b∈gW s,b∈s:=by
 unfold gW;cases s with
 | nil=>exact fun b hb=>hb
 | cons x l=>
  simp only;split
  ·exact fun b hb=>List.mem_cons_of_mem _ hb
  ·exact fun b hb=>hb
theorem Jf (l:List ah):∀ s∈qU l,∀ b∈gW s,b∈l:=by intro s hs b hb;have hf:=nM l.length l (Nat.le_refl _);rw [<- hf];exact List.mem_flatten.2 ⟨s,hs,Gv s b hb⟩
theorem V9 (cl:ByteArray->Bool) (l:List ah) (h:ah.aX cl 0 0 l=0) (hu:(ah.dw l).any iO=false) (s:List ah) (hs:s∈qU l) : ah.aX cl 0 0 (gW s)=0/\(ah.dw (gW s)).any iO=false:=
 ⟨(kN cl 0 0 _).2 fun b hb=>(kN cl 0 0 l).1 h b (Jf l s hs b hb),(um _).2 fun b hb=>(um l).1 hu b (Jf l s hs b hb)⟩
theorem Ka (cl:ByteArray->Bool) (l:List ah) (h:ah.aX cl 0 0 l=0):∀ b∈l,b.CF=5->b.kids=[]:=by intro b hb hk;have h1:=(kN cl 0 0 l).1 h b hb;obtain ⟨k,lv,i,t,d,ti,a,li,ks⟩:=b;have hk':k=5:=hk;exact (Nz cl h1).2 (by omega)
mutual
def ah.Mk:ah->Prop
 | .mk k lv i t d ti a li ks=>aj.F6 li/\(k=2\/k=8->0<=lv/\lv<=999999999)/\(k=10->ks≠[]/\∀ r∈ks,r.kids.length=i.size/\∀ c∈r.kids,aj.F6 c.mh)/\(∀ c∈a.cls,bI c=false)/\(k=13->bI i=false)/\k≠11/\k≠12/\(k≠10->ah.sD ks)
def ah.sD:List ah->Prop
 | []=>True
 | x::l=>x.Mk/\ah.sD l
end
theorem Jg:∀ (l:List ah),(ah.dw l).any iO=false->∀ b∈l,Ns b.mh=false/\(ah.dw b.kids).any iO=false:=by intro l h b hb;have h1:=(um l).1 h b hb;obtain ⟨k,lv,i,t,d,ti,a,li,ks⟩:=b;rw [ah.bG,List.any_append,Bool.or_eq_false_iff] at h1;exact h1
mutual
theorem ah.NJ (cl:ByteArray->Bool):∀ (b:ah) (par:Int) (dp:Nat),par≠10->par≠11->gN b.CF par=true->b.err cl par dp=0->(b.bG).any iO=false->b.Mk
 | .mk k lv i t d ti a li ks,par,dp,hp0,hp1,hpl,h,hu=>by
  have hh:=ah.Jc cl _ par dp h hu;obtain ⟨h2,hbf,h3⟩:=ku cl h;rw [ah.hok] at hh;obtain ⟨g1,g2,g3,g4,g5,g6⟩:=hh;rw [ah.bG,List.any_append,Bool.or_eq_false_iff] at hu;have hk:k≠11/\k≠12:=by
   have hpl':gN k par=true:=hpl;unfold gN at hpl';split at hpl'
   ·have:=of_decide_eq_true hpl';omega
   ·(try rw [if_neg hp0,if_neg hp1] at hpl')
    simp at hpl';omega
  rw [ah.Mk];refine ⟨g1,g2,fun h10=>?_,g4,g5,hk.1,hk.2,fun h10=>ah.nG cl ks k (dp+1) h10 hk.1 h3 hu.2⟩;obtain ⟨q1,q2⟩:=g3 h10;refine ⟨q1,fun r hr=>⟨q2 r hr,fun c hc=>?_⟩⟩;have r1:=(kN cl k (dp+1) ks).1 h3 r hr;have r2:=Jg ks hu.2 r hr;obtain ⟨k',lv',i',t',d',ti',a',li',ks'⟩:=r;obtain ⟨-,-,s3⟩:=ku cl r1;have c1:=(kN cl k' (dp+1+1) ks').1 s3 c hc;have c2:=Jg ks' r2.2 c hc;obtain ⟨k9,lv9,i9,t9,d9,ti9,a9,li9,ks9⟩:=c;obtain ⟨u1,u2,-⟩:=ku cl c1;exact Ja li9 (NH cl u1 u2) c2.1
theorem ah.nG (cl:ByteArray->Bool):∀ (l:List ah) (par:Int) (dp:Nat),par≠10->par≠11->ah.aX cl par dp l=0->(ah.dw l).any iO=false->ah.sD l
 | [],_,_,_,_,_,_=>by rw [ah.sD];trivial
 | x::l,par,dp,hp0,hp1,h,hu=>by
  have hpl:=(zP cl (x::l) par dp h x (jk9 ..)).1;rw [ah.aX] at h;rw [ah.dw,List.any_append,Bool.or_eq_false_iff] at hu;rw [ah.sD];split at h
  ·rename_i h1;exact absurd h h1
  ·rename_i h1
   exact ⟨ah.NJ cl x par dp hp0 hp1 hpl (Classical.not_not.1 h1) hu.1,ah.nG cl l par dp hp0 hp1 h hu.2⟩
end
open Go.RowKit
section
variable {T:TypeId} {k B:Nat} {w0 w w1 w2:World} {ds es:List D} {rows bV:List (List Value)} {v v':Value}
end
open Go.RowKit
open Go.RowKit
mutual
theorem ah.NK:∀ (b:ah),b.bG=b.inls
 | .mk k lv i t d ti a li ks=>by rw [ah.bG,ah.inls,ah.jc ks]
theorem ah.jc:∀ (l:List ah),ah.dw l=ah.aQ l
 | []=>by rw [ah.dw,ah.aQ]
 | x::l=>by rw [ah.dw,ah.aQ,ah.NK x,ah.jc l]
end
structure jT (ok:Nat->Prop) (w:World) (a:List Pr) (ks:List Nd) (va vk:Value):Prop where
 at_:Rd ok w (bX a) [va]
 ks:Rd ok w (cZ ks) [vk]
theorem Nd.open_ {ok:Nat->Prop} {w:World} {n t:ByteArray} {a:List Pr} {ks:List Nd} {cs:List Value} (h:Rd ok w (Nd.mk n t a ks).d cs) : ∃ va vk,cs=[.string n,.string t,va,vk]/\jT ok w a ks va vk:=by
 unfold Nd.d at h;rw [Nd.jm] at h;obtain ⟨_,g0,rfl⟩:=h.jL;obtain ⟨r0,rs,rfl,h0,g0⟩:=g0.aC;obtain ⟨r1,rs,rfl,h1,g0⟩:=g0.aC;obtain ⟨r2,rs,rfl,h2,g0⟩:=g0.aC;obtain ⟨r3,rs,rfl,h3,g0⟩:=g0.aC;obtain rfl:=g0.cO;obtain rfl:=h0.bJ;obtain rfl:=h1.bJ;obtain ⟨v2,rfl⟩:∃ v,r2=[v]:=by obtain ⟨a,c,e,-⟩:=h2.aG;exact ⟨_,e⟩
 obtain ⟨v3,rfl⟩:∃ v,r3=[v]:=by obtain ⟨a,c,e,-⟩:=h3.aG;exact ⟨_,e⟩
 exact ⟨v2,v3,rfl,h2,h3⟩
theorem Nd.eD {ok:Nat->Prop} {w:World} (n t:ByteArray) {a:List Pr} {ks:List Nd} {va vk:Value} (h:jT ok w a ks va vk):Rd ok w (Nd.mk n t a ks).d [.string n,.string t,va,vk]:=by unfold Nd.d;rw [Nd.jm];exact Rd.sH (rows:=[[.string n],[.string t],[va],[vk]]) (aP.cons (Rd.dP _ _ _) (aP.cons (Rd.dP _ _ _) (aP.cons h.at_ (aP.cons h.ks aP.none))))
theorem FX {ok:Nat->Prop} {w:World} {l:List Nd} {a:Option Addr} {cap:Nat} (h:o8 ok w 4 (l.map Nd.d) a cap) {k:Nat} {n t:ByteArray} {at_:List Pr} {ks:List Nd} (hk:l[k]?=some (.mk n t at_ ks)) : ∃ b off va vk,a=some ⟨b,off,none⟩/\ok b/\b<w.heap.size/\w.cell? ⟨b,off+k*4,none⟩=some (.string n)/\w.cell? ⟨b,off+k*4+1,none⟩=some (.string t)/\w.cell? ⟨b,off+k*4+2,none⟩=some va/\w.cell? ⟨b,off+k*4+3,none⟩=some vk/\jT ok w at_ ks va vk:=by
 have hlt:k<l.length:=(List.getElem?_eq_some_iff.1 hk).1;obtain ⟨b,off,ha,hok,hb,hc⟩:=h.at_ (by simpa using Nat.lt_of_le_of_lt (Nat.zero_le _) hlt)
 obtain ⟨r,hr,hl,hcell⟩:=hc k _ (by rw [List.getElem?_map,hk];rfl);obtain ⟨va,vk,rfl,hR⟩:=Nd.open_ hr;exact ⟨b,off,va,vk,ha,hok,hb,hcell 0 _ rfl,hcell 1 _ rfl,hcell 2 _ rfl,hcell 3 _ rfl,hR⟩
theorem Nd.bM:∀ (l:List Nd) (k:Nat) (x:Nd),l[k]?=some x->x.sz<=Nd.aY l
 | [],_,_,h=>by simp at h
 | y::l,0,x,h=>by simp at h;subst h;rw [Nd.aY];omega
 | y::l,k+1,x,h=>by rw [Nd.aY];have:=Nd.bM l k x (by simpa using h);omega
theorem jT.keep {ok ok':Nat->Prop} {w w':World} {a:List Pr} {ks:List Nd} {va vk:Value} (h:jT ok w a ks va vk) (hs:zB ok ok' w w'):jT ok' w' a ks va vk:=⟨Rd.keep hs _ _ h.at_,Rd.keep hs _ _ h.ks⟩
theorem jJ {n t:ByteArray} {a1 a2:Option Addr} {n1 n2 c1 c2:Nat}:∀ u∈([.string n,.string t,.slice a1 n1 c1,.slice a2 n2 c2]:List Value),u.oneCell'=true:=by intro u hu;simp at hu;rcases hu with rfl | rfl | rfl | rfl<;>rfl
theorem Iz (l:List Nd) (rs:List (List Value)) (ok:Nat->Prop) (w:World) (h:aP ok w (l.map Nd.d) rs):∀ u∈rs.flatten,u.oneCell'=true:=by
 intro u hu;obtain ⟨r,hr,hu⟩:=List.mem_flatten.1 hu;obtain ⟨j,hj,rfl⟩:=List.mem_iff_getElem.1 hr;have hj2:j<(l.map Nd.d).length:=by rw [<- h.len];exact hj
 obtain ⟨r',hr',hd⟩:=h.get j _ (ji6 hj2);rw [ji6 hj] at hr';obtain rfl:=Option.some.inj hr';rw [List.getElem_map] at hd;generalize l[j]'(by simpa using hj2)=x at hd;obtain ⟨n,t,a,ks⟩:=x;obtain ⟨va,vk,he,hR⟩:=Nd.open_ hd;obtain ⟨a1,n1,c1,rfl⟩:=Rd.au hR.at_
 obtain ⟨a2,n2,c2,rfl⟩:=Rd.au hR.ks;rw [he] at hu;exact jJ u hu
theorem MG (l:List Pr) (rs:List (List Value)) (ok:Nat->Prop) (w:World) (h:aP ok w (l.map Pr.d) rs):∀ u∈rs.flatten,u.oneCell'=true:=by
 intro u hu;obtain ⟨r,hr,hu⟩:=List.mem_flatten.1 hu;obtain ⟨j,hj,rfl⟩:=List.mem_iff_getElem.1 hr;have hj2:j<(l.map Pr.d).length:=by rw [<- h.len];exact hj
 obtain ⟨r',hr',hd⟩:=h.get j _ (ji6 hj2);rw [ji6 hj] at hr';obtain rfl:=Option.some.inj hr';rw [List.getElem_map] at hd;rw [Pr.open_ hd] at hu;simp at hu;rcases hu with rfl | rfl<;>rfl
end Go.Proofs.YtclikfjalmcoaaaGreatDoor

