/- Plain part: the numbers of a document: sections, figures, tables, equations, notes. Plain part: nodes of markup, and the nodes of inlines and blocks, as the chapter says. Plain part: entries, and the list of entries, as the program and as the reference make it. Plain part: the entries of numbers. Plain part: blocks with their tables of contents filled. tree.Each: what the function that it returns does with a loop's body. Plain part: what a small document's parts are bounded by. Plain part: what the entries of a well-formed document have. Plain part: the lists of entries of a well-formed document have no error but for the depth. Plain part: what well-formed, resolved blocks give to the walk of their nodes; the plain text of nodes; their anchors. Plain part: the anchors of a page have the identifiers of its document. Plain part: slides, as the program and as the reference divide blocks. Plain part: the sections of the page with slides, as the program and as the reference cut the blocks. Plain part: the page with slides has the anchors of the page, each as often. Plain part: the page of a well-formed document is valid markup. Words for nodes in memory. -/
import Derived.Test.YtkfnkeflalcphaaGreatDoorKRwC
import Derived.Test.YtkfnkeflalcphaaGreatDoorKSmall
import Derived.Test.YtkfnkeflalcphaaGreatDoorKPlParse
set_option maxHeartbeats 4000000
set_option maxRecDepth 100000
open Go.Lib (hid)
namespace Go.Proofs.YtkfnkeflalcphaaGreatDoor
open List renaming getElem?_eq_getElem->jnj,length_append->jo1,mem_cons_self->jpz
set_option linter.unusedVariables false
set_option linter.unusedSimpArgs false
def dD (n:Nat):ByteArray:=⟨(Lib.decDigits n).toArray⟩
def ah.mI:ah->List aj
 | .mk _ _ _ _ _ _ _ li _=>li
inductive Nd where
 | mk (nm tx:ByteArray) (at_:List Pr) (ks:List Nd)
def Nd.nm:Nd->ByteArray
 | .mk n _ _ _=>n
def Nd.tx:Nd->ByteArray
 | .mk _ t _ _=>t
def Nd.at_:Nd->List Pr
 | .mk _ _ a _=>a
def Nd.ks:Nd->List Nd
 | .mk _ _ _ k=>k
mutual
def Nd.d:Nd->D
 | .mk n t a ks=>.st [.str n,.str t,.sl 2 (a.map Pr.d),.sl 4 (Nd.dl ks)]
def Nd.dl:List Nd->List D
 | []=>[]
 | x::l=>x.d::Nd.dl l
end
theorem Nd.jS:∀ (l:List Nd),Nd.dl l=l.map Nd.d
 | []=>by unfold Nd.dl;rfl
 | x::l=>by rw [Nd.dl,Nd.jS l];rfl
def dh (l:List Nd):D:=.sl 4 (l.map Nd.d)
mutual
def Nd.sz:Nd->Nat
 | .mk _ _ _ ks=>1+Nd.aW ks
def Nd.aW:List Nd->Nat
 | []=>0
 | x::l=>x.sz+Nd.aW l
end
def kJ (l:List UInt8):ByteArray:=⟨l.toArray⟩
def jZ:ByteArray:=⟨#[105,100]⟩
def eX:ByteArray:=⟨#[99,108,97,115,115]⟩
def pG:ByteArray:=⟨#[109,97,116,104]⟩
def Eb:ByteArray:=⟨#[116,105,116,108,101]⟩
def fB:ByteArray:=⟨#[104,114,101,102]⟩
def zM:ByteArray:=⟨#[115,114,99]⟩
def zO:ByteArray:=⟨#[97,108,116]⟩
def lH:ByteArray:=⟨#[110,111,116,101,114,101,102]⟩
def pX:ByteArray:=⟨#[35,110,111,116,101,45]⟩
def bY:ByteArray:=⟨#[110,111,116,101,45]⟩
def dK:ByteArray:=⟨#[110,111,116,101]⟩
def je:ByteArray:=⟨#[110,111,116,101,115]⟩
def tY:ByteArray:=⟨#[108,97,110,103,117,97,103,101,45]⟩
def sStart:ByteArray:=⟨#[115,116,97,114,116]⟩
def wY:ByteArray:=⟨#[97,108,105,103,110]⟩
def nBr:ByteArray:=⟨#[98,114]⟩
def ji:ByteArray:=⟨#[99,111,100,101]⟩
def JY:ByteArray:=⟨#[115,112,97,110]⟩
def nEm:ByteArray:=⟨#[101,109]⟩
def JX:ByteArray:=⟨#[115,116,114,111,110,103]⟩
def nS:ByteArray:=⟨#[115]⟩
def nA:ByteArray:=⟨#[97]⟩
def Sj:ByteArray:=⟨#[105,109,103]⟩
def nP:ByteArray:=⟨#[112]⟩
def nH:ByteArray:=⟨#[104]⟩
def LB:ByteArray:=⟨#[112,114,101]⟩
def mH:ByteArray:=⟨#[100,105,118]⟩
def Xm:ByteArray:=⟨#[104,114]⟩
def wU:ByteArray:=⟨#[98,108,111,99,107,113,117,111,116,101]⟩
def nUl:ByteArray:=⟨#[117,108]⟩
def Y6:ByteArray:=⟨#[111,108]⟩
def nLi:ByteArray:=⟨#[108,105]⟩
def xS:ByteArray:=⟨#[116,97,98,108,101]⟩
def jf:ByteArray:=⟨#[116,104,101,97,100]⟩
def sP:ByteArray:=⟨#[116,98,111,100,121]⟩
def wX:ByteArray:=⟨#[116,114]⟩
def IV:ByteArray:=⟨#[116,104]⟩
def zT:ByteArray:=⟨#[116,100]⟩
def iM:ByteArray:=⟨#[115,101,99,116,105,111,110]⟩
def rz:ByteArray:=⟨#[104,101,97,100]⟩
def jP:ByteArray:=⟨#[109,101,116,97]⟩
def jc:ByteArray:=⟨#[116,105,116,108,101]⟩
def VO:ByteArray:=⟨#[104,116,109,108]⟩
def uo:ByteArray:=⟨#[98,111,100,121]⟩
def GV:ByteArray:=⟨#[99,104,97,114,115,101,116]⟩
def iL:ByteArray:=⟨#[117,116,102,45,56]⟩
def kT:ByteArray:=⟨#[108,97,110,103]⟩
def jd4:ByteArray:=⟨#[108,101,102,116]⟩
def TV:ByteArray:=⟨#[99,101,110,116,101,114]⟩
def Yr:ByteArray:=⟨#[114,105,103,104,116]⟩
def MX:ByteArray:=⟨#[32]⟩
def aO (name:ByteArray) (a:List Pr) (ks:List Nd):Nd:=.mk name ⟨#[]⟩ a ks
def uS (s:ByteArray):Nd:=.mk ⟨#[]⟩ s [] []
def bM (s:ByteArray):List Nd:=if q01 s=true then [] else [uS s]
def iJ (k v:ByteArray):List Pr:=if q01 v=true then [] else [⟨k,v⟩]
def zu:List ByteArray->ByteArray
 | []=>⟨#[]⟩
 | [x]=>x
 | x::y::l=>x++MX++zu (y::l)
def Hw (l:List ByteArray):List Pr:=if l.isEmpty=true then [] else [⟨eX,zu l⟩]
def q0z (a:At) (more:List ByteArray):List Pr:=iJ jZ a.id++Hw (more++a.cls)
def lU (out:List Nd) (x:Nd):List Nd:=if q01 x.nm=true then match out.getLast? with
  | some y=>if q01 y.nm=true then out.dropLast++[.mk y.nm (y.tx++x.tx) y.at_ y.ks] else out++[x]
  | none=>out++[x]
 else out++[x]
def iC (l:List Nd):List Nd:=l.foldl lU []
def mG (l:List aj):ByteArray:=kJ (aj.aJ l)
mutual
def aj.nd:aj->Nd
 | .mk k t d ti a ar ci ks=>
  if k=2 then uS MX
  else if k=3 then aO nBr [] []
  else if k=4 then aO ji [] (bM t)
  else if k=5 then aO JY [⟨eX,pG⟩] (bM t)
  else if k=6 then aO nEm [] (iC (aj.zw ks))
  else if k=7 then aO JX [] (iC (aj.zw ks))
  else if k=8 then aO nS [] (iC (aj.zw ks))
  else if k=9 then aO nA (⟨fB,d⟩::iJ Eb ti) (iC (aj.zw ks))
  else if k=10 then aO Sj (⟨zM,d⟩::⟨zO,mG ks⟩::iJ Eb ti++q0z a []) []
  else if k=11 then aO JY (q0z a []) (iC (aj.zw ks))
  else if k=12 then aO nA [⟨fB,pX++t⟩,⟨eX,lH⟩] (bM t)
  else if k=16 then aO nA [⟨fB,d⟩] (bM d)
  else uS t
def aj.zw:List aj->List Nd
 | []=>[]
 | x::l=>x.nd::aj.zw l
end
def iY (l:List aj):List Nd:=iC (aj.zw l)
theorem ru:∀ (l:List aj),aj.zw l=l.map aj.nd
 | []=>by rw [aj.zw];rfl
 | x::l=>by rw [aj.zw,ru l];rfl
def AL (c:UInt8):ByteArray:=if c=108 then jd4 else if c=99 then TV else if c=114 then Yr else ⟨#[]⟩
def Ow (name:ByteArray) (c:UInt8) (b:ah):Nd:=aO name (iJ wY (AL c)) (iY b.mI)
def ah.kids:ah->List ah
 | .mk _ _ _ _ _ _ _ _ ks=>ks
def aT (name:ByteArray):List UInt8->List ah->List Nd
 | c::cs,b::l=>Ow name c b::aT name cs l
 | _,_=>[]
def lV (name i:ByteArray) (b:ah):Nd:=aO wX [] (aT name i.data.toList b.kids)
def Aw (i:ByteArray):List ah->Nd
 | []=>aO xS [] [aO jf [] []]
 | h::rows=>aO xS [] (aO jf [] [lV IV i h]::if rows.isEmpty=true then [] else [aO sP [] (rows.map (lV zT i))])
mutual
def ah.tZ:ah->List Nd
 | .mk k lv i t d ti a li ks=>
  if k=1 then [aO nP [] (iY li)]
  else if k=2 then [aO (nH++dD lv.toNat) (q0z a []) (iY li)]
  else if k=3 then [aO LB [] [aO ji (iJ eX (if q01 i=true then ⟨#[]⟩ else tY++i)) (bM t)]]
  else if k=4 then [aO mH (q0z a [pG]) (bM t)]
  else if k=5 then [aO Xm [] []]
  else if k=6 then [aO wU [] (ah.aS ks)]
  else if k=7 then [aO nUl [] (ah.aS ks)]
  else if k=8 then [aO Y6 (if lv=1 then [] else [⟨sStart,dD lv.toNat⟩]) (ah.aS ks)]
  else if k=9 then [aO nLi [] (ah.aS ks)]
  else if k=10 then [Aw i ks]
  else if k=13 then [aO mH (q0z a [i]) (ah.aS ks)]
  else []
def ah.aS:List ah->List Nd
 | []=>[]
 | x::l=>x.tZ++ah.aS l
end
theorem AA:∀ (l:List ah) (k:Nat) (x:ah),l[k]?=some x->ah.aS (l.take (k+1))=ah.aS (l.take k)++x.tZ
 | [],_,_,h=>by simp at h
 | y::l,0,x,h=>by
  simp at h;subst h;simp [ah.aS]
 | y::l,k+1,x,h=>by
  rw [List.take_succ_cons,List.take_succ_cons,ah.aS,ah.aS,AA l k x (by simpa using h),List.append_assoc]
def fu (x:aj):Bool:=match x with
 | .mk k t _ _ _ _ _ _=>decide (k=15)||decide (k=13)||decide (k=14)||((decide (k=9)||decide (k=10))&&!q01 t)
def og (l:List aj):Bool:=(aj.aY l).any fu
def gN (b:ah):List Nd:=match b with
 | .mk k _ i _ _ _ _ _ ks=>if k=14 then [aO mH [⟨jZ,bY++i⟩,⟨eX,dK⟩] (ah.aS ks)] else []
def ig (l:List ah):List Nd:=(ah.aI l).flatMap gN
def eB (l:List ah):List Nd:=ah.aS l++if (ig l).isEmpty=true then [] else [aO iM [⟨eX,je⟩] (ig l)]
def jd (title lang:ByteArray) (body:List Nd):Nd:=
 aO VO [⟨kT,lang⟩] [aO rz [] [aO jP [⟨GV,iL⟩] [],aO jc [] (bM title)],aO uo [] body]
def dZ (p:List Nd × ByteArray) (x:Nd):List Nd × ByteArray:=if q01 x.nm=true then (p.1,p.2++x.tx) else (p.1++bM p.2++[x],⟨#[]⟩)
def gM (l:List Nd):List Nd × ByteArray:=l.foldl dZ ([],⟨#[]⟩)
def P6 (l:List Nd):Prop:=∀ y,l.getLast?=some y->q01 y.nm=false
def Nd.full (x:Nd):Prop:=q01 x.nm=true->x=uS x.tx/\q01 x.tx=false
theorem rG {s:ByteArray} (h:q01 s=true):s=⟨#[]⟩:=by unfold q01 at h;have:=of_decide_eq_true h;exact ByteArray.ext (Array.toList_inj.1 (by simpa using this))
theorem Cy (a b:ByteArray):q01 (a++b)=(q01 a&&q01 b):=by unfold q01;rw [show (a++b).data.toList=a.data.toList++b.data.toList by simp [ByteArray.data_append]];simp [Bool.decide_and]
theorem xU:∀ (l:List Nd) (out:List Nd) (acc:ByteArray),(∀ x∈l,x.full)->P6 out->P6 (l.foldl dZ (out,acc)).1/\l.foldl lU (out++bM acc)=(l.foldl dZ (out,acc)).1++bM (l.foldl dZ (out,acc)).2
 | [],out,acc,_,ho=>⟨ho,rfl⟩
 | x::l,out,acc,h,ho=>by
  have hl:=fun y hy=>h y (List.mem_cons_of_mem _ hy)
  have hx:=h x (jpz ..);rw [List.foldl_cons,List.foldl_cons];by_cases hn:q01 x.nm=true
  ·obtain ⟨e1,e2⟩:=hx hn;have e3:dZ (out,acc) x=(out,acc++x.tx):=by unfold dZ;rw [if_pos hn]
   have e4:lU (out++bM acc) x=out++bM (acc++x.tx):=by
    unfold lU;rw [if_pos hn];have e5:q01 (acc++x.tx)=false:=by rw [Cy,e2,Bool.and_false]
    have e6:bM (acc++x.tx)=[uS (acc++x.tx)]:=by unfold bM;rw [if_neg (by rw [e5];simp)]
    rw [e6];by_cases ha:q01 acc=true
    ·have e7:bM acc=[]:=by unfold bM;rw [if_pos ha]
     rw [e7,List.append_nil];have e8:acc++x.tx=x.tx:=by rw [rG ha];apply ByteArray.ext;simp [ByteArray.data_append]
     rw [e8];cases hg:out.getLast? with
     | none=>simp only;rw [e1];rfl
     | some y=>simp only;rw [if_neg (by rw [ho y hg];simp),e1];rfl
    ·have e7:bM acc=[uS acc]:=by unfold bM;rw [if_neg ha]
     rw [e7,List.getLast?_append];simp only [List.getLast?_singleton,Option.some_or];have e9:q01 (uS acc).nm=true:=rfl;rw [if_pos e9,List.dropLast_concat];rfl
   rw [e3,e4];exact xU l out _ hl ho
  ·have e3:dZ (out,acc) x=(out++bM acc++[x],⟨#[]⟩):=by unfold dZ;rw [if_neg hn]
   have e4:lU (out++bM acc) x=(out++bM acc++[x])++bM ⟨#[]⟩:=by unfold lU;rw [if_neg hn];have:bM ⟨#[]⟩=[]:=rfl;rw [this,List.append_nil]
   rw [e3,e4];refine xU l _ _ hl ?_;intro y hy;rw [List.getLast?_append] at hy;simp at hy;subst hy;simpa using hn
theorem Mf (l:List Nd) (h:∀ x∈l,x.full):iC l=(gM l).1++bM (gM l).2:=
 (xU l [] ⟨#[]⟩ h (fun y hy=>by simp at hy)).2
theorem Ii (l:List Nd) (x:Nd):gM (l++[x])=dZ (gM l) x:=by unfold gM;rw [List.foldl_append];rfl
open Go.RowKit Go.Shelf
attribute [local go_sem] Oper.semAt_some
theorem Mg (W:World):W.grownBy W.drew none:=⟨rfl,rfl,rfl,Nat.le_refl _,fun _ _ _=>rfl⟩
theorem P7 (n l Bl B0:Nat) (P:ah->Prop) (bs:List ah) (v:Value) (w0:World) (Kp:World->World->Prop) (hK:P8 B0 Kp) (J Jx:List (BW B0 w0 P)->World->Prop) (W:World) (hJ:AbidesFrom W.heap.size J) (hY:∀ (m:Nat) (pre:List (BW B0 w0 P)) (x:BW B0 w0 P) (W1:World),J pre W1->pre.length<(ah.aI bs).length->YieldAt Fence.wide m Tryz.prog l #[x.1.enc] W1 fun e W'=> (e=.returned (.bool true)/\J (pre++[x]) W'/\Kp W1 W')\/(e=.returned (.bool false)/\Jx (pre++[x]) W')) (hPb:∀ b∈ah.aI bs,P b) (hrd:Rd (·<B0) w0 (bZ bs) [v]) (hbel:Below B0 w0 W) (hB0:B0<=W.heap.size) (hBl:aF Bl v 22 W) (h0:J [] W) : CallsIn Fence.wide n Tryz.prog 87 #[.func (.yield l) #[] #[],.pointer (some ⟨Bl,0,none⟩)] W fun e W'=>(∃ v,e=.returned v) /\ ((∃ xs,vE xs=ah.aI bs/\J xs W')\/(∃ pre,vE pre <+: ah.aI bs/\Jx pre W')):=by
 obtain ⟨va,vn,vc,rfl⟩:=Rd.au hrd;have hdd:∀ k:Nat,(Fence.wide.depth.isSome=true->1<=k):=fun k h=>by cases h
 have HC:Hid (∀ (m:Nat) (w2:World),Below B0 w0 w2->EB l W.heap.size (W.heap.size+1) w2->J [] w2->_):=fun m w2 h1 h2 h3=>
  Mh l B0 W.heap.size (W.heap.size+1) (ah.aI bs).length P w0 Kp hK J Jx (fun pre W1 h=>hJ pre W1 W1.drew none h (Mg W1) (fun r e=>by cases e)) hY (ah.aW bs) m bs (.slice va vn vc) [] w2 (Nat.le_refl _) hPb hrd h1 h2 h3 (by simp)
 have HJ:=hid hJ;have HB:=hid hBl;have gI:=hid hbel;have H0:=hid h0;obtain ⟨p,hp⟩:∃ p,p=W.heap.size:=⟨_,rfl⟩;rw [<- hp] at HC;clear hK hY hrd hbel hBl h0 hJ;refine callsIn_of_wp Tryz.func87 rfl trivial ?_ rfl;simp only [Tryz.ntmps87,List.size_toArray,List.length_cons,List.length_nil,Nat.reduceAdd,Nat.reduceSub,Array.replicate_succ,Array.replicate_zero,List.push_toArray,List.append_toArray,List.nil_append,List.cons_append]
 gi_upto_region 2 with (fail)
 obtain ⟨wA,gD⟩:∃ wA,wA=(W.alloc (.cells #[.func (.yield l) #[] #[]] 98)).alloc (.cells #[.nilFunc] 33):=⟨_,rfl⟩;have b0:aF p (.func (.yield l) #[] #[]) 98 wA:=by rw [gD,hp];exact (aF.new W _ _).alloc _
 have b1:aF (p+1) .nilFunc 33 wA:=by
  rw [gD,hp];have:=aF.new (W.alloc (.cells #[.func (.yield l) #[] #[]] 98)) .nilFunc 33
  rwa [World.size_alloc] at this
 have gA:Below p W wA:=by rw [gD,hp];exact ((Below.refl _ _).alloc (Nat.le_refl _) _).alloc (by simp) _
 rw [<- gD,<- hp];rw [<- hp] at hB0;have HP:=hid hp;clear gD hp;have c1:=b1.cell;have f1:=b1.free
 gi_upto_region 3 with (fail)
 obtain ⟨wB,uj⟩:∃ wB,wB=wA.setCell ⟨p+1,0,none⟩ (Bg p (p+1)):=⟨_,rfl⟩;have d0:aF p (.func (.yield l) #[] #[]) 98 wB:=by rw [uj];exact b0.far (by omega) _
 have d1:aF (p+1) (Bg p (p+1)) 33 wB:=by rw [uj];exact b1.set _
 have gB:Below p W wB:=by rw [uj];exact gA.setCell (p:=⟨p+1,0,none⟩) (by show p<=p+1;omega) _
 have cl:wB.cell? ⟨Bl,0,none⟩=some (.slice va vn vc):=(HB.out.below (by have:=HB.out.lt;rw [HP.out];exact this) gB).cell;have c2:=d1.cell;have HD:=hid (HC.out (n-1) wB (gI.out.trans (gB.mono hB0)) ⟨d0,d1⟩ (HJ.out [] W wB none H0.out ⟨gB.os,gB.tape,gB.output,gB.size,fun k hk _=>gB.block k (by rw [HP.out];exact hk)⟩ (fun r e=>by cases e)));unfold Bg at uj c2;rw [<- uj];clear uj b0 b1 gA c1 f1 d0 d1 gB
 gi_wp2_with (first
  | (refine ⟨trivial,hdd _,?_⟩;refine HD.out.mono ?_;clear HD;rintro e W1 (⟨rfl,q,hq,TW,hb1,hE1⟩ | ⟨rfl,q,hq,hx1⟩))
  | (refine HD.out.mono ?_;clear HD;rintro e W1 (⟨rfl,q,hq,TW,hb1,hE1⟩ | ⟨rfl,q,hq,hx1⟩)))
 ·go_end0
  exact ⟨⟨_,rfl⟩,.inl ⟨q,hq,by simpa using TW⟩⟩
 ·go_end0
  exact ⟨⟨_,rfl⟩,.inr ⟨q,hq,by simpa using hx1⟩⟩
theorem I5 (n Bl B0:Nat) (P:ah->Prop) (bs:List ah) (v:Value) (w0 w:World) (Kp:World->World->Prop) (hK:P8 B0 Kp) (hPb:∀ b∈ah.aI bs,P b) (hrd:Rd (·<B0) w0 (bZ bs) [v]) (hbel:Below B0 w0 w) (hB0:B0<=w.heap.size) (hBl:aF Bl v 22 w) : SeqStopsK Fence.wide n Tryz.prog 87 #[.pointer (some ⟨Bl,0,none⟩)] (fun x:BW B0 w0 P=>#[x.1.enc]) Kp (fun xs=>vE xs=ah.aI bs) (fun pre=>vE pre <+: ah.aI bs) (ah.aI bs).length w:=fun l J Jx W hW hJ hJx hY h0=>
 P7 n l Bl B0 P bs v w0 Kp hK J Jx W hJ (fun m pre x W1 hj hl=>P9 rfl m (hY pre x W1 hj hl)) hPb hrd (hbel.trans (hW.mono hB0)) (Nat.le_trans hB0 hW.size) (hBl.below hBl.lt hW) h0
theorem Qa (va:Option Addr) (vn vc:Nat) (w:World):Calls Tryz.prog 42 #[.slice va vn vc] w fun e w'=>e=.returned (.func (.func 87) #[] #[.pointer (some ⟨w.heap.size,0,none⟩)])/\w'=w.alloc (.cells #[.slice va vn vc] 22):=by go_enter Tryz.func42,Tryz.ntmps42;go_wp2;go_ret;exact ⟨rfl,rfl⟩
mutual
theorem aj.Qb:∀ (x:aj),x.small->x.plain.length<=300*x.sz
 | .mk k t d ti a ar ci ks,h=>by
  unfold aj.small at h;obtain ⟨h1,h2,h3,h4,h5,h6,h7,h8,h9⟩:=h;have hk:=aj.oF ks h9;have e1:t.data.toList.length=t.size:=by rw [Array.length_toList];rfl
  have e2:d.data.toList.length=d.size:=by rw [Array.length_toList];rfl
  rw [aj.plain,aj.sz];split
  ·omega
  ·split
   ·simp;omega
   ·split
    ·omega
    ·split
     ·omega
     ·simp
theorem aj.oF:∀ (l:List aj),aj.ay l->(aj.aJ l).length<=300*aj.aW l
 | [],_=>by rw [aj.aJ];simp
 | x::l,h=>by
  unfold aj.ay at h;rw [aj.aJ,aj.aW,jo1];have:=aj.Qb x h.1;have:=aj.oF l h.2;omega
end
mutual
theorem aj.Qc:∀ (x:aj),x.small->x.bd
 | .mk k t d ti a ar ci ks,h=>by
  unfold aj.small at h;obtain ⟨h1,h2,h3,h4,h5,h6,h7,h8,h9⟩:=h;unfold At.short at h4;have hk:=aj.kU ks h9;unfold aj.bd;exact ⟨by omega,by omega,by omega,by omega,hk⟩
theorem aj.kU:∀ (l:List aj),aj.ay l->aj.sj l
 | [],_=>by unfold aj.sj;trivial
 | x::l,h=>by
  unfold aj.ay at h;unfold aj.sj;exact ⟨aj.Qc x h.1,aj.kU l h.2⟩
end
mutual
theorem ah.Qc:∀ (x:ah),x.small->x.bd
 | .mk k lv i t d ti a li ks,h=>by
  unfold ah.small at h;obtain ⟨h1,h2,h3,h4,h5,h6,h7,h8⟩:=h;unfold At.short at h5;have hk:=ah.kU ks h8;unfold ah.bd;exact ⟨by omega,by omega,aj.kU li h6,by omega,hk⟩
theorem ah.kU:∀ (l:List ah),ah.ay l->ah.sj l
 | [],_=>by unfold ah.sj;trivial
 | x::l,h=>by
  unfold ah.ay at h;unfold ah.sj;exact ⟨ah.Qc x h.1,ah.kU l h.2⟩
end
mutual
theorem ah.Yt:∀ (x:ah),x.sz+x.inls.length=x.all
 | .mk k lv i t d ti a li ks=>by
  have:=ah.CY ks;have h2:=aj.dW li;rw [ah.sz,ah.inls,ah.all,jo1,h2];omega
theorem ah.CY:∀ (l:List ah),ah.aW l+(ah.aM l).length=ah.bS l
 | []=>by rw [ah.aW,ah.aM,ah.bS];rfl
 | x::l=>by
  have:=ah.Yt x;have:=ah.CY l;rw [ah.aW,ah.aM,ah.bS,jo1];omega
end
mutual
theorem ah.I6:∀ (x:ah),x.small->∀ b∈x.each,b.small
 | .mk k lv i t d ti a li ks,h,b,hb=>by
  rw [ah.each] at hb;rcases List.mem_cons.1 hb with rfl | hb
  ·exact h
  ·unfold ah.small at h;exact ah.fE ks h.2.2.2.2.2.2.2 b hb
theorem ah.fE:∀ (l:List ah),ah.ay l->∀ b∈ah.aI l,b.small
 | [],_,b,hb=>by rw [ah.aI] at hb;simp at hb
 | x::l,h,b,hb=>by
  unfold ah.ay at h;rw [ah.aI] at hb;rcases List.mem_append.1 hb with hb | hb
  ·exact ah.I6 x h.1 b hb
  ·exact ah.fE l h.2 b hb
end
section
variable {P:Int->ByteArray->Prop}
end
mutual
def aj.ok:aj->Prop
 | .mk k t d ti a ar ci ks=>sF 0 false false k t d ti a ar ci ks=0/\k≠2/\k≠3/\aj.okL 0 ks
def aj.okL (b:Int):List aj->Prop
 | []=>True
 | x::l=>x.ok/\¬ (b=x.kd/\(b=1\/b=4))/\aj.okL x.kd l
end
mutual
def aj.src:aj->Prop
 | .mk k t d ti a ar ci ks=>sF 0 false false k t d ti a ar ci ks=0/\aj.Dj ks
def aj.Dj:List aj->Prop
 | []=>True
 | x::l=>x.src/\aj.Dj l
end
theorem TY {before k:Int} {first last:Bool} {t d ti:ByteArray} {a:At} {ar:List ByteArray} {ci:List Ci} {ks:List aj} (h:sF before first last k t d ti a ar ci ks=0) : sF 0 false false k t d ti a ar ci ks=0:=by
 unfold sF at h ⊢;by_cases h0:D6 k t d ti a ar ci ks=false
 ·rw [if_pos h0] at h;cases h
 rw [if_neg h0] at h ⊢;by_cases h1:k=1\/k=4\/k=5
 ·rw [if_pos h1] at h ⊢;by_cases h4:q01 t=true\/fH t=false
  ·rw [if_pos h4] at h;cases h
  ·rw [if_neg h4,if_neg (by omega)]
 rw [if_neg h1] at h ⊢;by_cases h2:k=2
 ·rw [if_pos h2,if_neg (by simp)]
 rw [if_neg h2] at h ⊢;by_cases h3:k=3
 ·rw [if_pos h3,if_neg (by simp)]
 rw [if_neg h3] at h ⊢;exact h
mutual
theorem aj.T9:∀ (x:aj) (before:Int) (first last:Bool) (dp:Nat),x.err before first last dp=0->x.src
 | .mk k t d ti a ar ci ks,before,first,last,dp,h=>by
  rw [aj.err] at h;rw [aj.src];by_cases h1:sF before first last k t d ti a ar ci ks=0
  ·rw [if_neg (by simp [h1])] at h;exact ⟨TY h1,aj.rH ks _ _ _ h⟩
  ·rw [if_pos h1] at h;exact absurd h h1
theorem aj.rH:∀ (l:List aj) (before:Int) (st:Bool) (dp:Nat),aj.aR before st dp l=0->aj.Dj l
 | [],_,_,_,_=>by rw [aj.Dj];trivial
 | x::l,before,st,dp,h=>by
  rw [aj.aR] at h;rw [aj.Dj];split at h
  ·cases h
  ·split at h
   ·rename_i h2;exact absurd h h2
   ·rename_i h2
    exact ⟨aj.T9 x _ _ _ dp (Classical.not_not.1 h2),aj.rH l _ _ dp h⟩
end
mutual
def aj.tf:aj->Prop
 | .mk k t d ti a ar ci ks=>(k<2\/(12<k/\k<16)\/16<k->q01 t=false)/\aj.Ij ks
def aj.Ij:List aj->Prop
 | []=>True
 | x::l=>x.tf/\aj.Ij l
end
theorem Qd (n:ByteArray) (a:List Pr) (ks:List Nd) (h:q01 n=false):(aO n a ks).full:=fun e=>by
 have:q01 n=true:=e;rw [h] at this;cases this
theorem F6 (s:ByteArray) (h:q01 s=false):(uS s).full:=fun _=>⟨rfl,h⟩
theorem Ua:∀ (x:aj),x.tf->x.nd.full
 | .mk k t d ti a ar ci ks,h=>by
  rw [aj.tf] at h;rw [aj.nd];by_cases h2:k=2
  ·rw [if_pos h2];exact F6 _ rfl
  rw [if_neg h2];by_cases h3:k=3
  ·rw [if_pos h3];exact Qd _ _ _ rfl
  rw [if_neg h3];by_cases h4:k=4
  ·rw [if_pos h4];exact Qd _ _ _ rfl
  rw [if_neg h4];by_cases h5:k=5
  ·rw [if_pos h5];exact Qd _ _ _ rfl
  rw [if_neg h5];by_cases h6:k=6
  ·rw [if_pos h6];exact Qd _ _ _ rfl
  rw [if_neg h6];by_cases h7:k=7
  ·rw [if_pos h7];exact Qd _ _ _ rfl
  rw [if_neg h7];by_cases h8:k=8
  ·rw [if_pos h8];exact Qd _ _ _ rfl
  rw [if_neg h8];by_cases h9:k=9
  ·rw [if_pos h9];exact Qd _ _ _ rfl
  rw [if_neg h9];by_cases h10:k=10
  ·rw [if_pos h10];exact Qd _ _ _ rfl
  rw [if_neg h10];by_cases h11:k=11
  ·rw [if_pos h11];exact Qd _ _ _ rfl
  rw [if_neg h11];by_cases h12:k=12
  ·rw [if_pos h12];exact Qd _ _ _ rfl
  rw [if_neg h12];by_cases h16:k=16
  ·rw [if_pos h16];exact Qd _ _ _ rfl
  rw [if_neg h16];exact F6 _ (h.1 (by omega))
theorem CG:∀ (l:List aj),aj.Ij l->∀ x∈l,x.tf
 | [],_,x,hx=>by cases hx
 | y::l,h,x,hx=>by
  rw [aj.Ij] at h;rcases List.mem_cons.1 hx with rfl | hx
  ·exact h.1
  ·exact CG l h.2 x hx
theorem Fv (l:List aj) (h:aj.Ij l):∀ x∈aj.zw l,x.full:=by intro x hx;rw [ru] at hx;obtain ⟨y,hy,rfl⟩:=List.mem_map.1 hx;exact Ua y (CG l h y hy)
theorem Oq (l:List aj) (h:aj.Ij l):iY l=(gM (aj.zw l)).1++bM (gM (aj.zw l)).2:=Mf _ (Fv l h)
theorem xV {k:Int} {t d ti:ByteArray} {a:At} {ar:List ByteArray} {ci:List Ci} {ks:List aj} (h:D6 k t d ti a ar ci ks=true):1<=k/\k<=16:=by unfold D6 at h;simp only [Bool.and_eq_true,decide_eq_true_eq] at h;omega
mutual
theorem Yu:∀ (x:aj),x.src->x.deep.any fu=false->x.tf
 | .mk k t d ti a ar ci ks,h,hu=>by
  rw [aj.src] at h;rw [aj.deep,List.any_cons,Bool.or_eq_false_iff] at hu;rw [aj.tf];refine ⟨fun hk=>?_,Dk ks h.2 hu.2⟩;have h1:=h.1;unfold sF at h1;split at h1
  ·cases h1
  ·rename_i h0
   have hf:=xV (by simpa using h0);have hu1:=hu.1;unfold fu at hu1;simp only [Bool.or_eq_false_iff,decide_eq_false_iff_not] at hu1;have hk1:k=1:=by omega
   rw [if_pos (.inl hk1)] at h1;split at h1
   ·cases h1
   ·rename_i h2
    cases h3:q01 t
    ·rfl
    ·exact absurd (.inl h3) h2
theorem Dk:∀ (l:List aj),aj.Dj l->(aj.aY l).any fu=false->aj.Ij l
 | [],_,_=>by rw [aj.Ij];trivial
 | x::l,h,hu=>by
  rw [aj.Dj] at h;rw [aj.aY,List.any_append,Bool.or_eq_false_iff] at hu;rw [aj.Ij];exact ⟨Yu x h.1 hu.1,Dk l h.2 hu.2⟩
end
theorem Dl (l:List aj) (h:vF l=0) (hu:og l=false):aj.Ij l:=Dk l (aj.rH l 0 true 0 h) hu
mutual
def ah.bq:ah->List aj
 | .mk _ _ _ _ _ _ _ li ks=>aj.aY li++ah.bg ks
def ah.bg:List ah->List aj
 | []=>[]
 | x::l=>x.bq++ah.bg l
end
mutual
def ah.hok:ah->Prop
 | .mk k lv i t d ti a li ks=>aj.Ij li/\(k=2\/k=8->0<=lv/\lv<=999999999)/\(k=10->ks≠[]/\∀ r∈ks,r.kids.length=i.size)/\(∀ c∈a.cls,q01 c=false)/\(k=13->q01 i=false)/\ah.Qe ks
def ah.Qe:List ah->Prop
 | []=>True
 | x::l=>x.hok/\ah.Qe l
end
theorem Kv (s:ByteArray) (h:iU s=true):q01 s=false:=by
 unfold iU at h;simp only [Bool.and_eq_true,decide_eq_true_eq] at h;unfold q01;refine decide_eq_false fun e=>?_
 have h1:s.data.toList.length=s.size:=by simp
 rw [e] at h1;simp at h1;omega
theorem Qf:∀ (l seen:List ByteArray),dQ seen l=0->∀ c∈l,q01 c=false
 | [],_,_,c,hc=>by cases hc
 | x::l,seen,h,c,hc=>by
  rw [dQ] at h;split at h
  ·cases h
  ·rename_i h1
   split at h
   ·cases h
   ·rcases List.mem_cons.1 hc with rfl | hc
    ·exact Kv _ (by simpa using h1)
    ·exact Qf l _ h c hc
theorem Dm (a:At) (h:a.err=0):∀ c∈a.cls,q01 c=false:=by
 unfold At.err at h;split at h
 ·cases h
 ·split at h
  ·rename_i h1;exact absurd h h1
  ·rename_i h1
   exact Qf a.cls [] (Classical.not_not.1 h1)
theorem Qg (a:At) (h:a.none=true):∀ c∈a.cls,q01 c=false:=by
 unfold At.none at h;simp only [Bool.and_eq_true] at h;have h1:a.cls=[]:=by simpa using h.1.2
 rw [h1];intro c hc;cases hc
mutual
theorem ah.Kw (cl:ByteArray->Bool):∀ (b:ah) (par:Int) (dp:Nat),b.err cl par dp=0->(b.bq).any fu=false->b.hok
 | .mk k lv i t d ti a li ks,par,dp,h,hu=>by
  rw [ah.err] at h;rw [ah.bq,List.any_append,Bool.or_eq_false_iff] at hu;rw [ah.hok];split at h
  ·cases h
  ·split at h
   ·cases h
   ·rename_i hb
    split at h
    ·rename_i h1;exact absurd h h1
    ·rename_i h1
     have h2:=Classical.not_not.1 h1;have hbf:D7 k lv i t d ti a li ks=true:=by
      cases hx:D7 k lv i t d ti a li ks
      ·exact absurd (.inl hx) hb
      ·rfl
     unfold D7 at hbf;simp only [Bool.and_eq_true,decide_eq_true_eq] at hbf;obtain ⟨⟨⟨⟨⟨⟨⟨⟨b1,b2⟩,b3⟩,b4⟩,b5⟩,b6⟩,b7⟩,b8⟩,b9⟩:=hbf;have JI:=ah.F7 cl ks k (dp+1) h hu.2;have hli:vF li=0:=by
      by_cases c1:k=1
      ·unfold qN at h2;rw [if_pos c1] at h2;split at h2
       ·cases h2
       ·exact h2
      by_cases c2:k=2
      ·unfold qN at h2;rw [if_neg c1,if_pos c2] at h2;split at h2
       ·cases h2
       ·split at h2
        ·rename_i h3;exact absurd h2 h3
        ·split at h2
         ·cases h2
         ·exact h2
      by_cases c3:k=12
      ·unfold qN at h2;rw [if_neg c1,if_neg c2,if_pos c3] at h2;split at h2
       ·cases h2
       ·exact h2
      ·have:li=[]:=by
        rw [Bool.or_eq_true] at b8;rcases b8 with b8 | b8
        ·simp at b8;omega
        ·simpa using b8
       rw [this];unfold vF;rw [aj.aR]
     refine ⟨Dl li hli hu.1,?_,?_,?_,?_,JI⟩
     ·intro hk;rcases hk with rfl | rfl
      ·unfold qN at h2;rw [if_neg (by decide),if_pos rfl] at h2;split at h2
       ·cases h2
       ·omega
      ·unfold qN at h2;rw [if_neg (by decide),if_neg (by decide),if_neg (by decide),if_neg (by decide),if_neg (by decide),if_pos (.inr rfl)] at h2;split at h2
       ·cases h2
       ·split at h2
        ·cases h2
        ·rename_i h4
         constructor<;>(rcases Classical.em (lv<0) with h5 | h5<;>rcases Classical.em (999999999<lv) with h6 | h6<;>first | omega | exact absurd ⟨rfl,.inl h5⟩ h4 | exact absurd ⟨rfl,.inr h6⟩ h4)
     ·rintro rfl;unfold qN at h2;rw [if_neg (by decide),if_neg (by decide),if_neg (by decide),if_neg (by decide),if_neg (by decide),if_neg (by decide),if_pos rfl] at h2;unfold jT at h2;split at h2
      ·cases h2
      ·split at h2
       ·cases h2
       ·split at h2
        ·cases h2
        ·split at h2
         ·cases h2
         ·rename_i h5
          split at h2
          ·cases h2
          ·rename_i h6
           refine ⟨fun e=>h5 (by rw [e];rfl),fun r hr=>?_⟩;have h7:ks.any (fun b=>!decide (b.xW=i.size))=false:=by simpa using h6
           rw [List.any_eq_false] at h7;have h8:=h7 r hr;have h9:decide (r.xW=i.size)=true:=by
            cases hx:decide (r.xW=i.size)
            ·rw [hx] at h8;exact absurd rfl h8
            ·rfl
           have h10:=of_decide_eq_true h9;cases r
           exact h10
     ·by_cases c2:k=2
      ·unfold qN at h2;rw [if_neg (by omega),if_pos c2] at h2;split at h2
       ·cases h2
       ·split at h2
        ·rename_i h3;exact absurd h2 h3
        ·rename_i h3;exact Dm a (Classical.not_not.1 h3)
      by_cases c4:k=4
      ·unfold qN at h2;rw [if_neg (by omega),if_neg c2,if_neg (by omega),if_neg (by omega),if_pos c4] at h2;split at h2
       ·cases h2
       ·split at h2
        ·cases h2
        ·exact Dm a h2
      by_cases c13:k=13
      ·unfold qN at h2;rw [if_neg (by omega),if_neg c2,if_neg (by omega),if_neg (by omega),if_neg c4,if_neg (by omega),if_neg (by omega),if_pos (.inl c13)] at h2;split at h2
       ·cases h2
       ·exact Dm a h2
      ·rw [Bool.or_eq_true] at b7;rcases b7 with b7 | b7
       ·simp at b7;omega
       ·exact Qg a b7
     ·rintro rfl;unfold qN at h2;rw [if_neg (by decide),if_neg (by decide),if_neg (by decide),if_neg (by decide),if_neg (by decide),if_neg (by decide),if_neg (by decide),if_pos (.inl rfl)] at h2;split at h2
      ·cases h2
      ·rename_i h3;exact Kv i (by simpa using h3)
theorem ah.F7 (cl:ByteArray->Bool):∀ (l:List ah) (par:Int) (dp:Nat),ah.aR cl par dp l=0->(ah.bg l).any fu=false->ah.Qe l
 | [],_,_,_,_=>by rw [ah.Qe];trivial
 | x::l,par,dp,h,hu=>by
  rw [ah.aR] at h;rw [ah.bg,List.any_append,Bool.or_eq_false_iff] at hu;rw [ah.Qe];split at h
  ·rename_i h1;exact absurd h h1
  ·rename_i h1
   exact ⟨ah.Kw cl x par dp (Classical.not_not.1 h1) hu.1,ah.F7 cl l par dp h hu.2⟩
end
mutual
def Nd.vals (key:ByteArray):Nd->List ByteArray
 | .mk n _ a ks=>if q01 n=true then [] else ((a.filter fun p=>decide (p.key=key)).map (·.val))++Nd.cZ key ks
def Nd.cZ (key:ByteArray):List Nd->List ByteArray
 | []=>[]
 | x::l=>x.vals key++Nd.cZ key l
end
theorem Am (key:ByteArray) (l m:List Nd):Nd.cZ key (l++m)=Nd.cZ key l++Nd.cZ key m:=by
 induction l with
 | nil=>rw [Nd.cZ];rfl
 | cons x l ih=>rw [List.cons_append,Nd.cZ,Nd.cZ,ih,List.append_assoc]
def ah.Rv:ah->Int
 | .mk k _ _ _ _ _ _ _ _=>k
def ah.iOf:ah->ByteArray
 | .mk _ _ i _ _ _ _ _ _=>i
theorem Bj (cl:ByteArray->Bool):∀ (l:List ah) (par:Int) (dp:Nat),ah.aR cl par dp l=0->∀ x∈l,gV x.Rv par=true/\∃ dp',x.err cl par dp'=0
 | [],_,_,_,x,hx=>by cases hx
 | b::l,par,dp,h,x,hx=>by
  rw [ah.aR] at h;split at h
  ·rename_i h1;exact absurd h h1
  ·rename_i h1
   rcases List.mem_cons.1 hx with rfl | hx
   ·have h2:=Classical.not_not.1 h1;refine ⟨?_,dp,h2⟩;obtain ⟨k,lv,i,t,d,ti,a,li,ks⟩:=x;rw [ah.err] at h2;split at h2
    ·cases h2
    ·split at h2
     ·cases h2
     ·rename_i h3
      show gV k par=true;cases h4:gV k par
      ·exact absurd (.inr h4) h3
      ·rfl
   ·exact Bj cl l par dp h x hx
def Ck (c:UInt8):Bool:=decide (97<=c.toNat)&&decide (c.toNat<=122)
def fA (c:UInt8):Bool:=Ck c||(decide (48<=c.toNat)&&decide (c.toNat<=57))||decide (c=45)||decide (c=58)
def dG (s:ByteArray):Bool:=s.data.toList.all fA&&decide (1<=s.size)&&decide (s.size<=60)&&(match s.data.toList with | c::_=>Ck c | []=>false)
def pU (s:ByteArray):Bool:=decide (s=nBr)||decide (s=Xm)||decide (s=Sj)||decide (s=⟨#[108,105,110,107]⟩)||decide (s=jP)
def rZ (seen:List ByteArray):List Pr->Nat
 | []=>0
 | p::l=>if dG p.key=false then 6 else if fJ p.val=false then 17 else if hasB seen p.key=true then 7 else rZ (seen++[p.key]) l
mutual
def Nd.kW:Nd->Nat
 | .mk n t a ks=>if q01 n=true then (if a.isEmpty=false\/ks.isEmpty=false then 5 else if q01 t=true\/fJ t=false then 17 else 0)
   else if dG n=false then 6 else if q01 t=false\/(pU n=true/\ks.isEmpty=false) then 5 else if rZ [] a≠0 then rZ [] a else Nd.iG false ks
def Nd.iG (p:Bool):List Nd->Nat
 | []=>0
 | x::l=>if p=true/\q01 x.nm=true then 5 else if x.kW≠0 then x.kW else Nd.iG (q01 x.nm) l
end
def lastT (p:Bool) (l:List Nd):Bool:=match l.getLast? with | some x=>q01 x.nm | none=>p
theorem I7 (p:Bool) (x:Nd) (l:List Nd):lastT p (x::l)=lastT (q01 x.nm) l:=by
 unfold lastT;cases l with
 | nil=>rfl
 | cons y l=>rw [List.getLast?_cons_cons];cases h:(y::l).getLast? with
  | none=>simp at h
  | some z=>rfl
theorem gW (p:Bool) (x:Nd) (l:List Nd):Nd.iG p (x::l)=0↔¬ (p=true/\q01 x.nm=true)/\x.kW=0/\Nd.iG (q01 x.nm) l=0:=by
 rw [Nd.iG];by_cases h1:p=true/\q01 x.nm=true
 ·rw [if_pos h1];exact ⟨fun h=>(by cases h),fun h=>absurd h1 h.1⟩
 ·rw [if_neg h1];by_cases h2:x.kW=0
  ·rw [if_neg (by simp [h2])];exact ⟨fun h=>⟨h1,h2,h⟩,fun h=>h.2.2⟩
  ·rw [if_pos h2];exact ⟨fun h=>absurd h h2,fun h=>absurd h.2.1 h2⟩
theorem jD:∀ (l:List Nd) (p:Bool) (x:Nd),Nd.iG p (l++[x])=0↔Nd.iG p l=0/\¬ (lastT p l=true/\q01 x.nm=true)/\x.kW=0
 | [],p,x=>by
  rw [List.nil_append,gW];have h0:∀ q,Nd.iG q []=0:=fun q=>by rw [Nd.iG]
  simp only [h0,lastT,List.getLast?_nil];constructor
  ·rintro ⟨h1,h2,-⟩;exact ⟨trivial,h1,h2⟩
  ·rintro ⟨-,h1,h2⟩;exact ⟨h1,h2,trivial⟩
 | y::l,p,x=>by
  rw [List.cons_append,gW,gW,jD l,I7];constructor
  ·rintro ⟨h1,h2,h3,h4,h5⟩;exact ⟨⟨h1,h2,h3⟩,h4,h5⟩
  ·rintro ⟨⟨h1,h2,h3⟩,h4,h5⟩;exact ⟨h1,h2,h3,h4,h5⟩
theorem Dn (s:ByteArray) (h1:q01 s=false) (h2:fJ s=true):(uS s).kW=0:=by unfold uS;rw [Nd.kW,if_pos (by decide),if_neg (by simp),if_neg (by rw [h1,h2];simp)]
theorem mP {x:Nd} (hn:q01 x.nm=true) (h:x.kW=0):x=uS x.tx/\q01 x.tx=false/\fJ x.tx=true:=by
 obtain ⟨n,t,a,ks⟩:=x;have hn':q01 n=true:=hn;rw [Nd.kW,if_pos hn'] at h;split at h
 ·cases h
 ·rename_i h1
  split at h
  ·cases h
  ·rename_i h2
   have ha:a=[]:=by
    cases a with
    | nil=>rfl
    | cons _ _=>exact absurd (.inl rfl) h1
   have hk:ks=[]:=by
    cases ks with
    | nil=>rfl
    | cons _ _=>exact absurd (.inr rfl) h1
   subst ha hk;refine ⟨by rw [rG hn'];rfl,?_,?_⟩
   ·show q01 t=false;cases h3:q01 t
    ·rfl
    ·exact absurd (.inl h3) h2
   ·show fJ t=true;cases h3:fJ t
    ·exact absurd (.inr h3) h2
    ·rfl
theorem Qh (out:List Nd) (x:Nd) (ho:Nd.iG false out=0) (hx:x.kW=0):Nd.iG false (lU out x)=0:=by
 unfold lU;by_cases hn:q01 x.nm=true
 ·rw [if_pos hn];cases hg:out.getLast? with
  | none=>
   simp only;rw [jD];exact ⟨ho,(fun h=>by have h1:=h.1;unfold lastT at h1;rw [hg] at h1;cases h1),hx⟩
  | some y=>
   simp only;by_cases hy:q01 y.nm=true
   ·rw [if_pos hy];rw [xM hg,jD] at ho;obtain ⟨h1,h2,h3⟩:=ho;obtain ⟨e1,e2,e3⟩:=mP hy h3;obtain ⟨g1,g2,g3⟩:=mP hn hx;have e:(Nd.mk y.nm (y.tx++x.tx) y.at_ y.ks)=uS (y.tx++x.tx):=by rw [e1];rfl
    rw [e,jD];refine ⟨h1,fun h=>h2 ⟨h.1,hy⟩,Dn _ (by rw [Cy,e2];rfl) (lY _ _ e3 g3)⟩
   ·rw [if_neg hy,jD];exact ⟨ho,(fun h=>by have h1:=h.1;unfold lastT at h1;rw [hg] at h1;exact hy h1),hx⟩
 ·rw [if_neg hn,jD];exact ⟨ho,fun h=>hn h.2,hx⟩
theorem xX:∀ (l out:List Nd),Nd.iG false out=0->(∀ x∈l,x.kW=0)->Nd.iG false (l.foldl lU out)=0
 | [],out,ho,_=>ho
 | x::l,out,ho,h=>by
  rw [List.foldl_cons];exact xX l _ (Qh out x ho (h x (jpz ..))) (fun y hy=>h y (List.mem_cons_of_mem _ hy))
theorem kK:Nd.iG false []=0:=by rw [Nd.iG]
theorem xY (l:List Nd) (h:∀ x∈l,x.kW=0):Nd.iG false (iC l)=0:=xX l [] kK h
theorem iq (s:ByteArray) (h:fJ s=true):Nd.iG false (bM s)=0:=by
 unfold bM;split
 ·exact kK
 ·rename_i h1
  rw [gW];exact ⟨(fun h=>by cases h.1),Dn s (by simpa using h1) h,by rw [Nd.iG]⟩
theorem xZ (n:ByteArray) (a:List Pr) (ks:List Nd) (hn:dG n=true) (he:pU n=false\/ks=[]) (ha:rZ [] a=0) (hk:Nd.iG false ks=0):(aO n a ks).kW=0/\q01 (aO n a ks).nm=false:=by
 have hne:q01 n=false:=by
  unfold dG at hn;simp only [Bool.and_eq_true,decide_eq_true_eq] at hn;unfold q01;refine decide_eq_false fun e=>?_
  have h1:n.data.toList.length=n.size:=by simp
  rw [e] at h1;simp at h1;omega
 refine ⟨?_,hne⟩;unfold aO;rw [Nd.kW,if_neg (by rw [hne];simp),if_neg (by rw [hn];simp),if_neg ?_,if_neg (by simp [ha])]
 ·exact hk
 ·rintro (h | ⟨h1,h2⟩)
  ·exact absurd h (by decide)
  ·rcases he with he | he
   ·rw [he] at h1;cases h1
   ·rw [he] at h2;cases h2
theorem dX:∀ (l:List Nd),(∀ x∈l,x.kW=0/\q01 x.nm=false)->Nd.iG false l=0
 | [],_=>kK
 | x::l,h=>by
  have h1:=h x (jpz ..);rw [gW];exact ⟨(fun h=>by cases h.1),h1.1,by rw [h1.2];exact dX l (fun y hy=>h y (List.mem_cons_of_mem _ hy))⟩
theorem eY {s:ByteArray} (h:fH s=true):fJ s=true:=by unfold fH at h;rw [Bool.and_eq_true] at h;exact h.1
theorem Dp:dG eX=true:=by decide
theorem VP:dG fB=true:=by decide
theorem jik:dG zM=true:=by decide
theorem jiq:dG zO=true:=by decide
theorem FM {s:ByteArray} (h:dH s):fJ s=true:=eY (Qi s h)
theorem jE:fJ (⟨#[]⟩:ByteArray)=true:=FM (by intro c hc;simp at hc)
theorem Qj (c:UInt8) (h:gP c=true):32<=c.toNat/\c.toNat<127:=by unfold gP Rz jY qC at h;simp only [Bool.or_eq_true,Bool.and_eq_true,decide_eq_true_eq] at h;omega
theorem KD (p:UInt8->Bool):∀ (l:List UInt8),(l.takeWhile p).length=l.length->∀ c∈l,p c=true
 | [],_,c,hc=>by cases hc
 | x::l,h,c,hc=>by
  rw [List.takeWhile_cons] at h;split at h
  ·rename_i hx
   rcases List.mem_cons.1 hc with rfl | hc
   ·exact hx
   ·exact KD p l (by simpa using h) c hc
  ·simp at h
theorem jC (s:ByteArray) (h:iU s=true):dH s:=by unfold iU at h;simp only [Bool.and_eq_true,decide_eq_true_eq] at h;have h1:=h.2;unfold Bn at h1;intro c hc;exact Qj c (KD gP _ (by rw [h1];simp) c hc)
theorem yg:∀ (l:List ByteArray),(∀ s∈l,dH s)->dH (zu l)
 | [],_=>by intro c hc;simp [zu] at hc
 | [x],h=>h x (by simp)
 | x::y::l,h=>by
  rw [zu];refine vG _ _ (vG _ _ (h x (by simp)) (by intro c hc;simp [MX] at hc;subst hc;decide)) (yg (y::l) (fun s hs=>h s (List.mem_cons_of_mem _ hs)))
theorem Bo:∀ (l seen:List ByteArray),dQ seen l=0->∀ c∈l,iU c=true
 | [],_,_,c,hc=>by cases hc
 | x::l,seen,h,c,hc=>by
  rw [dQ] at h;split at h
  ·cases h
  ·rename_i h1
   split at h
   ·cases h
   ·rcases List.mem_cons.1 hc with rfl | hc
    ·simpa using h1
    ·exact Bo l _ h c hc
structure I8 (a:At):Prop where
 id:dH a.id
 cls:∀ c∈a.cls,dH c
theorem rJ (a:At) (h:a.err=0):I8 a:=by
 unfold At.err at h;split at h
 ·cases h
 ·rename_i h0
  split at h
  ·rename_i h1;exact absurd h h1
  ·rename_i h1
   refine ⟨?_,fun c hc=>jC c (Bo a.cls [] (Classical.not_not.1 h1) c hc)⟩;by_cases he:q01 a.id=true
   ·rw [rG he];intro c hc;simp at hc
   ·have:iU a.id=true:=by
     cases hx:iU a.id
     ·exact absurd ⟨by simpa using he,hx⟩ h0
     ·rfl
    exact jC _ this
def okP (p:Pr):Prop:=dG p.key=true/\fJ p.val=true
theorem Qk:∀ (l:List Pr) (seen:List ByteArray),(∀ p∈l,okP p)->(∀ p∈l,hasB seen p.key=false)->(l.map (·.key)).Nodup->(∀ p∈l,p.key ∉ seen)->rZ seen l=0
 | [],_,_,_,_,_=>by rw [rZ]
 | p::l,seen,h1,h2,h3,h4=>by
  have hp:=h1 p (jpz ..);rw [List.map_cons,List.nodup_cons] at h3;rw [rZ,if_neg (by rw [hp.1];simp),if_neg (by rw [hp.2];simp),if_neg (by rw [h2 p (jpz ..)];simp)];have hk:∀ q∈l,q.key≠p.key:=fun q hq e=>h3.1 (List.mem_map.2 ⟨q,hq,e⟩)
  refine Qk l _ (fun q hq=>h1 q (List.mem_cons_of_mem _ hq)) (fun q hq=>?_) h3.2 (fun q hq=>?_)
  ·cases hx:hasB (seen++[p.key]) q.key
   ·rfl
   ·exfalso;unfold hasB at hx;simp at hx;rcases hx with hx | hx
    ·exact h4 q (List.mem_cons_of_mem _ hq) (by simpa using hx)
    ·exact hk q hq (by first | exact hx | exact hx.symm)
  ·intro hm;rcases List.mem_append.1 hm with hm | hm
   ·exact h4 q (List.mem_cons_of_mem _ hq) hm
   ·exact hk q hq (List.mem_singleton.1 hm)
theorem Br (l:List Pr) (h1:∀ p∈l,okP p) (h2:(l.map (·.key)).Nodup):rZ [] l=0:=
 Qk l [] h1 (fun p hp=>by unfold hasB;simp) h2 (fun p hp h=>by cases h)
theorem yh (k v:ByteArray):(iJ k v).map (·.key)=if q01 v=true then [] else [k]:=by unfold iJ;split<;>rfl
theorem Dq (k v:ByteArray) (hk:dG k=true) (hv:fJ v=true):∀ p∈iJ k v,okP p:=by
 unfold iJ;split
 ·intro p hp;cases hp
 ·intro p hp;simp at hp;subst hp;exact ⟨hk,hv⟩
theorem KE (a:At) (more:List ByteArray) (h:I8 a) (hm:∀ s∈more,dH s):∀ p∈q0z a more,okP p:=by
 unfold q0z;intro p hp;rcases List.mem_append.1 hp with hp | hp
 ·exact Dq jZ a.id (by decide) (FM h.id) p hp
 ·unfold Hw at hp;split at hp
  ·cases hp
  ·simp at hp;subst hp;refine ⟨Dp,FM (yg _ fun s hs=>?_)⟩;rcases List.mem_append.1 hs with hs | hs
   ·exact hm s hs
   ·exact h.cls s hs
theorem Bt (a:At) (more:List ByteArray):(q0z a more).map (·.key)=(if q01 a.id=true then [] else [jZ])++(if (more++a.cls).isEmpty=true then [] else [eX]):=by unfold q0z Hw;rw [List.map_append,yh];congr 1;split<;>rfl
theorem rM (a:At) (more:List ByteArray) (h:I8 a) (hm:∀ s∈more,dH s):rZ [] (q0z a more)=0:=by refine Br _ (KE a more h hm) ?_;rw [Bt];split<;>split<;>decide
theorem mQ (k v:ByteArray) (hk:dG k=true) (hv:fJ v=true):rZ [] [⟨k,v⟩]=0:=Br _ (fun p hp=>by simp at hp;subst hp;exact ⟨hk,hv⟩) (by simp)
theorem yj (a b:List UInt8):kJ (a++b)=kJ a++kJ b:=by apply ByteArray.ext;apply Array.toList_inj.1;show (a++b).toArray.toList=_;simp [kJ,ByteArray.data_append]
theorem vD (s:ByteArray):kJ s.data.toList=s:=by apply ByteArray.ext;apply Array.toList_inj.1;show s.data.toList.toArray.toList=_;simp
mutual
theorem aj.Yv:∀ (x:aj),x.src->x.deep.any fu=false->x.nd.kW=0/\fJ (kJ x.plain)=true
 | .mk k t d ti a ar ci ks,h,hu=>by
  rw [aj.src] at h;obtain ⟨h1,h2⟩:=h;rw [aj.deep,List.any_cons,Bool.or_eq_false_iff] at hu;obtain ⟨u1,u2⟩:=hu;obtain ⟨hR,hP⟩:=aj.Dt ks h2 u2;have hJ:=xY (aj.zw ks) hR;have hf:D6 k t d ti a ar ci ks=true:=by
   cases hf:D6 k t d ti a ar ci ks
   ·unfold sF at h1;rw [if_pos hf] at h1;cases h1
   ·rfl
  have hk:=xV hf;unfold fu at u1;simp only [Bool.or_eq_false_iff,Bool.and_eq_false_iff,decide_eq_false_iff_not] at u1;unfold sF at h1;rw [if_neg (by rw [hf];simp)] at h1;rw [aj.nd,aj.plain];have hsp:fJ MX=true:=FM (by intro c hc;simp [MX] at hc;subst hc;decide);by_cases c1:k=1\/k=4\/k=5
  ·rw [if_pos c1] at h1 ⊢;have ht:q01 t=false/\fJ t=true:=by
    split at h1
    ·cases h1
    ·rename_i h3
     constructor
     ·cases h4:q01 t
      ·rfl
      ·exact absurd (.inl h4) h3
     ·cases h4:fH t
      ·exact absurd (.inr h4) h3
      ·exact eY h4
   rw [vD];refine ⟨?_,ht.2⟩;rw [if_neg (by omega),if_neg (by omega)];by_cases c4:k=4
   ·rw [if_pos c4];exact (xZ _ _ _ (by decide) (.inl (by decide)) (by rw [rZ]) (iq t ht.2)).1
   rw [if_neg c4];by_cases c5:k=5
   ·rw [if_pos c5];exact (xZ _ _ _ (by decide) (.inl (by decide)) (mQ _ _ (by decide) (FM (by unfold dH;decide))) (iq t ht.2)).1
   rw [if_neg c5,if_neg (by omega),if_neg (by omega),if_neg (by omega),if_neg (by omega),if_neg (by omega),if_neg (by omega),if_neg (by omega),if_neg (by omega)];exact Dn t ht.1 ht.2
  rw [if_neg c1] at h1 ⊢;by_cases c2:k=2
  ·rw [if_pos c2,if_pos (.inl c2)];exact ⟨Dn _ rfl hsp,hsp⟩
  by_cases c3:k=3
  ·rw [if_neg c2,if_pos c3,if_pos (.inr c3)];exact ⟨(xZ _ _ _ (by decide) (.inr rfl) (by rw [rZ]) kK).1,hsp⟩
  rw [if_neg c2,if_neg c3] at h1;rw [if_neg c2,if_neg c3,if_neg (by omega),if_neg (by omega),if_neg (show ¬ (k=2\/k=3) by omega)];by_cases c6:k=6
  ·rw [if_pos c6,if_pos (by omega)];exact ⟨(xZ _ _ _ (by decide) (.inl (by decide)) (by rw [rZ]) hJ).1,hP⟩
  rw [if_neg c6];by_cases c7:k=7
  ·rw [if_pos c7,if_pos (by omega)];exact ⟨(xZ _ _ _ (by decide) (.inl (by decide)) (by rw [rZ]) hJ).1,hP⟩
  rw [if_neg c7];by_cases c8:k=8
  ·rw [if_pos c8,if_pos (by omega)];exact ⟨(xZ _ _ _ (by decide) (.inl (by decide)) (by rw [rZ]) hJ).1,hP⟩
  rw [if_neg c8];rw [if_neg (by omega)] at h1;by_cases c9:k=9\/k=10
  ·rw [if_pos c9] at h1;unfold gQ at h1;split at h1
   ·cases h1
   ·split at h1
    ·cases h1
    ·split at h1
     ·cases h1
     ·rename_i h5
      have hd:fJ d=true:=by
       cases h6:fH d
       ·exact absurd (.inl h6) h5
       ·exact eY h6
      have hti:fJ ti=true:=by
       cases h6:fH ti
       ·exact absurd (.inr h6) h5
       ·exact eY h6
      split at h1
      ·cases h1
      ·by_cases d9:k=9
       ·rw [if_pos d9,if_pos (by omega)];refine ⟨(xZ _ _ _ (by decide) (.inl (by decide)) (Br _ ?_ ?_) hJ).1,hP⟩
        ·intro p hp;rcases List.mem_cons.1 hp with rfl | hp
         ·exact ⟨VP,hd⟩
         ·exact Dq _ _ (by decide) hti p hp
        ·rw [List.map_cons,yh];show (fB::_).Nodup;split<;>decide
       ·have d10:k=10:=by omega
        rw [if_pos d10] at h1;rw [if_neg d9,if_pos d10,if_pos (by omega)];have hg:=rJ a h1;refine ⟨(xZ _ _ _ (by decide) (.inr rfl) (Br _ ?_ ?_) kK).1,hP⟩
        ·intro p hp;rcases List.mem_append.1 hp with hp | hp
         ·rcases List.mem_cons.1 hp with rfl | hp
          ·exact ⟨jik,hd⟩
          ·rcases List.mem_cons.1 hp with rfl | hp
           ·exact ⟨jiq,hP⟩
           ·exact Dq _ _ (by decide) hti p hp
         ·exact KE a [] hg (by intro s hs;cases hs) p hp
        ·rw [List.map_append,List.map_cons,List.map_cons,yh,Bt];show ((zM::zO::_)++_).Nodup;split<;>split<;>split<;>decide
  rw [if_neg c9] at h1;rw [if_neg (by omega),if_neg (by omega)];by_cases c11:k=11
  ·rw [if_pos c11] at h1;rw [if_pos c11,if_pos (by omega)];split at h1
   ·cases h1
   ·exact ⟨(xZ _ _ _ (by decide) (.inl (by decide)) (rM a [] (rJ a h1) (by intro s hs;cases hs)) hJ).1,hP⟩
  rw [if_neg c11] at h1 ⊢;rw [if_neg (show ¬ (k=6\/k=7\/k=8\/k=9\/k=10\/k=11) by omega)];by_cases c12:k=12
  ·rw [if_pos (.inl c12)] at h1;unfold jL at h1;split at h1
   ·cases h1
   ·rename_i h5
    have ha:dH t:=jC t (by simpa using h5);rw [if_pos c12,if_neg (by omega)];refine ⟨(xZ _ _ _ (by decide) (.inl (by decide)) (Br _ ?_ ?_) (iq t (FM ha))).1,jE⟩;case refine_2=>
     show [fB,eX].Nodup;decide
    intro p hp;rcases List.mem_cons.1 hp with rfl | hp
    ·exact ⟨VP,FM (vG _ _ (by unfold dH;decide) ha)⟩
    ·simp at hp;subst hp;exact ⟨by decide,FM (by unfold dH;decide)⟩
  rw [if_neg (by omega),if_neg (by omega)] at h1;have c16:k=16:=by omega
  have hau:pE d=true:=by
   cases hx:pE d
   ·rw [hx] at h1;simp at h1
   ·rfl
  unfold pE at hau;simp only [Bool.and_eq_true] at hau;have hd:=eY hau.1.2;rw [if_neg c12,if_pos c16,if_pos c16,vD];exact ⟨(xZ _ _ _ (by decide) (.inl (by decide)) (mQ _ _ (by decide) hd) (iq d hd)).1,hd⟩
theorem aj.Dt:∀ (l:List aj),aj.Dj l->(aj.aY l).any fu=false->(∀ x∈aj.zw l,x.kW=0)/\fJ (kJ (aj.aJ l))=true
 | [],_,_=>by
  rw [aj.zw,aj.aJ];exact ⟨(fun x hx=>by cases hx),jE⟩
 | x::l,h,hu=>by
  rw [aj.Dj] at h;rw [aj.aY,List.any_append,Bool.or_eq_false_iff] at hu;obtain ⟨h1,h2⟩:=aj.Yv x h.1 hu.1;obtain ⟨h3,h4⟩:=aj.Dt l h.2 hu.2;rw [aj.zw,aj.aJ,yj];refine ⟨fun y hy=>?_,lY _ _ h2 h4⟩;rcases List.mem_cons.1 hy with rfl | hy
  ·exact h1
  ·exact h3 y hy
end
theorem Ql (l:List aj) (h:vF l=0) (hu:og l=false):Nd.iG false (iY l)=0:=xY _ (aj.Dt l (aj.rH l 0 true 0 h) hu).1
theorem yu {s:ByteArray} (h:jJ s=true):fJ s=true:=by
 unfold jJ at h;rw [Bool.or_eq_true,Bool.and_eq_true] at h;rcases h with h | h
 ·rw [rG h];exact jE
 ·exact h.1
theorem yw (n:Nat):∀ c∈Lib.decDigits n,32<=c.toNat/\c.toNat<127/\fA c=true:=by
 induction n using Nat.strongRecOn with
 | _ n ih=>
  intro c hc;rw [Lib.decDigits] at hc;have hd:∀ m:Nat,m<10->32<=(UInt8.ofNat (48+m)).toNat/\(UInt8.ofNat (48+m)).toNat<127/\fA (UInt8.ofNat (48+m))=true:=by
   intro m hm;have h1:(UInt8.ofNat (48+m)).toNat=48+m:=by simp;omega
   refine ⟨by omega,by omega,?_⟩;unfold fA;rw [decide_eq_true (show 48<=(UInt8.ofNat (48+m)).toNat by omega),decide_eq_true (show (UInt8.ofNat (48+m)).toNat<=57 by omega)];simp
  split at hc
  ·rename_i h
   rw [List.mem_singleton] at hc;subst hc;exact hd n h
  ·rcases List.mem_append.1 hc with hc | hc
   ·exact ih (n/10) (by omega) c hc
   ·rw [List.mem_singleton] at hc;subst hc;exact hd (n%10) (by omega)
theorem wT (n m:Nat) (h:n<10 ^ (m+1)):(Lib.decDigits n).length<=m+1:=by
 induction m generalizing n with
 | zero=>
  rw [Lib.decDigits,dif_pos (by simpa using h)];simp
 | succ m ih=>
  rw [Lib.decDigits];split
  ·simp
  ·rw [jo1,List.length_singleton];have:=ih (n/10) (by
    rw [Nat.div_lt_iff_lt_mul (by decide)];have e:10 ^ (m+1+1)=10 ^ (m+1)*10:=Nat.pow_succ ..;omega)
   omega
theorem Mi (n:Nat):dH (dD n):=by unfold dD dH;rw [List.toList_toArray];exact fun c hc=>⟨(yw n c hc).1,(yw n c hc).2.1⟩
theorem Yw (n:Nat) (h:n<1000000000):dG (nH++dD n)=true:=by
 have e:(nH++dD n).data.toList=104::Lib.decDigits n:=by rw [M8];unfold dD;rw [List.toList_toArray];rfl
 have hl:(nH++dD n).size=1+(Lib.decDigits n).length:=by rw [<- nD,e,List.length_cons];omega
 have h9:=wT n 8 (by simpa using h);unfold dG;rw [e,hl];simp only [Bool.and_eq_true,decide_eq_true_eq,List.all_cons];refine ⟨⟨⟨⟨by decide,?_⟩,by omega⟩,by omega⟩,by decide⟩;rw [List.all_eq_true];exact fun c hc=>(yw n c hc).2.2
theorem fQ {n:ByteArray} {a:List Pr} {ks:List Nd} (hn:dG n=true) (he:pU n=false\/ks=[]) (ha:rZ [] a=0) (hk:Nd.iG false ks=0):∀ x∈[aO n a ks],x.kW=0/\q01 x.nm=false:=by intro x hx;rw [List.mem_singleton] at hx;subst hx;exact xZ n a ks hn he ha hk
theorem F8:rZ [] []=0:=by rw [rZ]
theorem Mj (c:UInt8):dH (AL c):=by
 unfold AL;split
 ·unfold dH;decide
 ·split
  ·unfold dH;decide
  ·split
   ·unfold dH;decide
   ·intro c hc;simp at hc
theorem F9 (k v:ByteArray) (hk:dG k=true) (hv:fJ v=true):rZ [] (iJ k v)=0:=by
 unfold iJ;split
 ·exact F8
 ·exact mQ k v hk hv
def qm (b:ah):Prop:=Nd.iG false (iY b.mI)=0
theorem Bu (name:ByteArray) (hn:dG name=true) (he:pU name=false):∀ (cs:List UInt8) (l:List ah),(∀ b∈l,qm b)->∀ x∈aT name cs l,x.kW=0/\q01 x.nm=false
 | [],_,_,x,hx=>by rw [aT] at hx;cases hx;all_goals simp_all
 | c::cs,[],_,x,hx=>by rw [aT] at hx;cases hx;all_goals simp_all
 | c::cs,b::l,h,x,hx=>by
  rw [aT] at hx;rcases List.mem_cons.1 hx with rfl | hx
  ·exact xZ _ _ _ hn (.inl he) (F9 _ _ (by decide) (FM (Mj c))) (h b (jpz ..))
  ·exact Bu name hn he cs l (fun y hy=>h y (List.mem_cons_of_mem _ hy)) x hx
theorem KG (name i:ByteArray) (hn:dG name=true) (he:pU name=false) (b:ah) (h:∀ c∈b.kids,qm c):(lV name i b).kW=0/\q01 (lV name i b).nm=false:=
 xZ _ _ _ (by decide) (.inl (by decide)) F8 (dX _ (Bu name hn he i.data.toList b.kids h))
theorem Mk (i:ByteArray) (ks:List ah) (h:∀ r∈ks,∀ c∈r.kids,qm c):∀ x∈[Aw i ks],x.kW=0/\q01 x.nm=false:=by
 intro x hx;rw [List.mem_singleton] at hx;subst hx;unfold Aw;split
 ·refine xZ _ _ _ (by decide) (.inl (by decide)) F8 (dX _ ?_);exact fQ (by decide) (.inl (by decide)) F8 kK
 ·rename_i r rows
  refine xZ _ _ _ (by decide) (.inl (by decide)) F8 (dX _ ?_);intro y hy;rcases List.mem_cons.1 hy with rfl | hy
  ·refine xZ _ _ _ (by decide) (.inl (by decide)) F8 (dX _ ?_);intro z hz;rw [List.mem_singleton] at hz;subst hz;exact KG IV i (by decide) (by decide) r (h r (jpz ..))
  ·split at hy
   ·cases hy
   ·rw [List.mem_singleton] at hy;subst hy;refine xZ _ _ _ (by decide) (.inl (by decide)) F8 (dX _ ?_);intro z hz;obtain ⟨q,hq,rfl⟩:=List.mem_map.1 hz;exact KG zT i (by decide) (by decide) q (h q (List.mem_cons_of_mem _ hq))
structure gF (ok:Nat->Prop) (w:World) (a:List Pr) (ks:List Nd) (va vk:Value):Prop where
 at_:Rd ok w (bD a) [va]
 ks:Rd ok w (dh ks) [vk]
theorem Nd.open_ {ok:Nat->Prop} {w:World} {n t:ByteArray} {a:List Pr} {ks:List Nd} {cs:List Value} (h:Rd ok w (Nd.mk n t a ks).d cs) : ∃ va vk,cs=[.string n,.string t,va,vk]/\gF ok w a ks va vk:=by
 unfold Nd.d at h;rw [Nd.jS] at h;obtain ⟨_,g0,rfl⟩:=h.oL;obtain ⟨r0,rs,rfl,h0,g0⟩:=g0.aG;obtain ⟨r1,rs,rfl,h1,g0⟩:=g0.aG;obtain ⟨r2,rs,rfl,h2,g0⟩:=g0.aG;obtain ⟨r3,rs,rfl,h3,g0⟩:=g0.aG;obtain rfl:=g0.eT;obtain rfl:=h0.bC;obtain rfl:=h1.bC;obtain ⟨v2,rfl⟩:∃ v,r2=[v]:=by obtain ⟨a,c,e,-⟩:=h2.aC;exact ⟨_,e⟩
 obtain ⟨v3,rfl⟩:∃ v,r3=[v]:=by obtain ⟨a,c,e,-⟩:=h3.aC;exact ⟨_,e⟩
 exact ⟨v2,v3,rfl,h2,h3⟩
theorem Nd.iH {ok:Nat->Prop} {w:World} (n t:ByteArray) {a:List Pr} {ks:List Nd} {va vk:Value} (h:gF ok w a ks va vk):Rd ok w (Nd.mk n t a ks).d [.string n,.string t,va,vk]:=by unfold Nd.d;rw [Nd.jS];exact Rd.Bv (rows:=[[.string n],[.string t],[va],[vk]]) (aQ.cons (Rd.dR _ _ _) (aQ.cons (Rd.dR _ _ _) (aQ.cons h.at_ (aQ.cons h.ks aQ.none))))
theorem iX {ok:Nat->Prop} {w:World} {l:List Nd} {a:Option Addr} {cap:Nat} (h:mo ok w 4 (l.map Nd.d) a cap) {k:Nat} {n t:ByteArray} {at_:List Pr} {ks:List Nd} (hk:l[k]?=some (.mk n t at_ ks)) : ∃ b off va vk,a=some ⟨b,off,none⟩/\ok b/\b<w.heap.size/\w.cell? ⟨b,off+k*4,none⟩=some (.string n)/\w.cell? ⟨b,off+k*4+1,none⟩=some (.string t)/\w.cell? ⟨b,off+k*4+2,none⟩=some va/\w.cell? ⟨b,off+k*4+3,none⟩=some vk/\gF ok w at_ ks va vk:=by
 have hlt:k<l.length:=(List.getElem?_eq_some_iff.1 hk).1;obtain ⟨b,off,ha,hok,hb,hc⟩:=h.at_ (by simpa using Nat.lt_of_le_of_lt (Nat.zero_le _) hlt)
 obtain ⟨r,hr,hl,hcell⟩:=hc k _ (by rw [List.getElem?_map,hk];rfl);obtain ⟨va,vk,rfl,hR⟩:=Nd.open_ hr;exact ⟨b,off,va,vk,ha,hok,hb,hcell 0 _ rfl,hcell 1 _ rfl,hcell 2 _ rfl,hcell 3 _ rfl,hR⟩
theorem Nd.aZ:∀ (l:List Nd) (k:Nat) (x:Nd),l[k]?=some x->x.sz<=Nd.aW l
 | [],_,_,h=>by simp at h
 | y::l,0,x,h=>by simp at h;subst h;rw [Nd.aW];omega
 | y::l,k+1,x,h=>by rw [Nd.aW];have:=Nd.aZ l k x (by simpa using h);omega
theorem gF.keep {ok ok':Nat->Prop} {w w':World} {a:List Pr} {ks:List Nd} {va vk:Value} (h:gF ok w a ks va vk) (hs:AJ ok ok' w w'):gF ok' w' a ks va vk:=⟨Rd.keep hs _ _ h.at_,Rd.keep hs _ _ h.ks⟩
theorem kE {n t:ByteArray} {a1 a2:Option Addr} {n1 n2 c1 c2:Nat}:∀ u∈([.string n,.string t,.slice a1 n1 c1,.slice a2 n2 c2]:List Value),u.oneCell'=true:=by intro u hu;simp at hu;rcases hu with rfl | rfl | rfl | rfl<;>rfl
theorem J2 (l:List Nd) (rs:List (List Value)) (ok:Nat->Prop) (w:World) (h:aQ ok w (l.map Nd.d) rs):∀ u∈rs.flatten,u.oneCell'=true:=by
 intro u hu;obtain ⟨r,hr,hu⟩:=List.mem_flatten.1 hu;obtain ⟨j,hj,rfl⟩:=List.mem_iff_getElem.1 hr;have hj2:j<(l.map Nd.d).length:=by rw [<- h.len];exact hj
 obtain ⟨r',hr',hd⟩:=h.get j _ (jnj hj2);rw [jnj hj] at hr';obtain rfl:=Option.some.inj hr';rw [List.getElem_map] at hd;generalize l[j]'(by simpa using hj2)=x at hd;obtain ⟨n,t,a,ks⟩:=x;obtain ⟨va,vk,he,hR⟩:=Nd.open_ hd;obtain ⟨a1,n1,c1,rfl⟩:=Rd.au hR.at_
 obtain ⟨a2,n2,c2,rfl⟩:=Rd.au hR.ks;rw [he] at hu;exact kE u hu
theorem NS (l:List Pr) (rs:List (List Value)) (ok:Nat->Prop) (w:World) (h:aQ ok w (l.map Pr.d) rs):∀ u∈rs.flatten,u.oneCell'=true:=by
 intro u hu;obtain ⟨r,hr,hu⟩:=List.mem_flatten.1 hu;obtain ⟨j,hj,rfl⟩:=List.mem_iff_getElem.1 hr;have hj2:j<(l.map Pr.d).length:=by rw [<- h.len];exact hj
 obtain ⟨r',hr',hd⟩:=h.get j _ (jnj hj2);rw [jnj hj] at hr';obtain rfl:=Option.some.inj hr';rw [List.getElem_map] at hd;rw [Pr.open_ hd] at hu;simp at hu;rcases hu with rfl | rfl<;>rfl
end Go.Proofs.YtkfnkeflalcphaaGreatDoor

