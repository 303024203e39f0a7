/- Plain part: the numbers of a document: sections, figures, tables, equations, notes. Plain part: nodes of markup, and the nodes of inlines and blocks, as the chapter says. Plain part: entries, and the list of entries, as the program and as the reference make it. Plain part: the entries of numbers. Plain part: blocks with their tables of contents filled. tree.Each: what the function that it returns does with a loop's body. Plain part: what a small document's parts are bounded by. Plain part: what the entries of a well-formed document have. Plain part: the lists of entries of a well-formed document have no error but for the depth. Plain part: what well-formed, resolved blocks give to the walk of their nodes; the plain text of nodes; their anchors. Plain part: the anchors of a page have the identifiers of its document. Plain part: slides, as the program and as the reference divide blocks. Plain part: the sections of the page with slides, as the program and as the reference cut the blocks. Plain part: the page with slides has the anchors of the page, each as often. Plain part: the page of a well-formed document is valid markup. Plain part: the page of a well-formed, resolved document is valid markup (blocks, notes, the page). Plain part: the pieces of a well-formed document are well-formed; the page with slides is valid markup. Plain part: what the walk of the nodes of blocks asks, where blocks stand that are no rows and no cells. publisherref04.Deep, List: inlines and blocks with those in them, in document order. publisherref04.List: blocks with those in them, in document order. The contract of publisherref04.Inlines: all inlines of blocks. Plain part: all inlines of blocks: theirs are among them; how large they are together; unresolved ones. Words for nodes in memory. -/
import Derived.Test.YtkfnkeflalcphaaGreatDoorKRwC
import Derived.Test.YtkfnkeflalcphaaGreatDoorKRfD
set_option maxHeartbeats 4000000
set_option maxRecDepth 100000
open Go.Lib (hid)
namespace Go.Proofs.YtkfnkeflalcphaaGreatDoor
open List renaming getElem?_eq_getElem->jD6,length_append->jDq,length_map->jDx,length_cons->jDz,cons_append->jE6,mem_cons_self->jF9
open Nat renaming le_refl->jD8
open Go renaming World->jG9,Value->jGk
set_option linter.unusedVariables false
set_option linter.unusedSimpArgs false
def iE (n:Nat):ByteArray:=⟨(Lib.decDigits n).toArray⟩
def ah.kT:ah->List aj
 | .mk _ _ _ _ _ _ _ li _=>li
inductive Nd where
 | mk (nm tx:ByteArray) (at_:List Pr) (ks:List Nd)
def Nd.nm:Nd->ByteArray
 | .mk n _ _ _=>n
def Nd.tx:Nd->ByteArray
 | .mk _ t _ _=>t
def Nd.at_:Nd->List Pr
 | .mk _ _ a _=>a
def Nd.ks:Nd->List Nd
 | .mk _ _ _ k=>k
mutual
def Nd.d:Nd->D
 | .mk n t a ks=>.st [.str n,.str t,.sl 2 (a.map Pr.d),.sl 4 (Nd.dl ks)]
def Nd.dl:List Nd->List D
 | []=>[]
 | x::l=>x.d::Nd.dl l
end
theorem Nd.jJ:∀ (l:List Nd),Nd.dl l=l.map Nd.d
 | []=>by unfold Nd.dl;rfl
 | x::l=>by rw [Nd.dl,Nd.jJ l];rfl
def gD (l:List Nd):D:=.sl 4 (l.map Nd.d)
mutual
def Nd.sz:Nd->Nat
 | .mk _ _ _ ks=>1+Nd.aY ks
def Nd.aY:List Nd->Nat
 | []=>0
 | x::l=>x.sz+Nd.aY l
end
def bsS (l:List UInt8):ByteArray:=⟨l.toArray⟩
def jT:ByteArray:=⟨#[105,100]⟩
def dx:ByteArray:=⟨#[99,108,97,115,115]⟩
def oh:ByteArray:=⟨#[109,97,116,104]⟩
def lS:ByteArray:=⟨#[116,105,116,108,101]⟩
def kC:ByteArray:=⟨#[104,114,101,102]⟩
def qX:ByteArray:=⟨#[115,114,99]⟩
def qY:ByteArray:=⟨#[97,108,116]⟩
def M9:ByteArray:=⟨#[110,111,116,101,114,101,102]⟩
def gH:ByteArray:=⟨#[35,110,111,116,101,45]⟩
def Bw:ByteArray:=⟨#[110,111,116,101,45]⟩
def dO:ByteArray:=⟨#[110,111,116,101]⟩
def eO:ByteArray:=⟨#[110,111,116,101,115]⟩
def G9:ByteArray:=⟨#[108,97,110,103,117,97,103,101,45]⟩
def Ct:ByteArray:=⟨#[115,116,97,114,116]⟩
def zl:ByteArray:=⟨#[97,108,105,103,110]⟩
def nBr:ByteArray:=⟨#[98,114]⟩
def dK:ByteArray:=⟨#[99,111,100,101]⟩
def C9:ByteArray:=⟨#[115,112,97,110]⟩
def nEm:ByteArray:=⟨#[101,109]⟩
def EG:ByteArray:=⟨#[115,116,114,111,110,103]⟩
def nS:ByteArray:=⟨#[115]⟩
def nA:ByteArray:=⟨#[97]⟩
def jrz:ByteArray:=⟨#[105,109,103]⟩
def nP:ByteArray:=⟨#[112]⟩
def nH:ByteArray:=⟨#[104]⟩
def GQ:ByteArray:=⟨#[112,114,101]⟩
def jS:ByteArray:=⟨#[100,105,118]⟩
def nHr:ByteArray:=⟨#[104,114]⟩
def qU:ByteArray:=⟨#[98,108,111,99,107,113,117,111,116,101]⟩
def nUl:ByteArray:=⟨#[117,108]⟩
def WM:ByteArray:=⟨#[111,108]⟩
def nLi:ByteArray:=⟨#[108,105]⟩
def nT:ByteArray:=⟨#[116,97,98,108,101]⟩
def AJ:ByteArray:=⟨#[116,104,101,97,100]⟩
def iV:ByteArray:=⟨#[116,98,111,100,121]⟩
def jU:ByteArray:=⟨#[116,114]⟩
def rT:ByteArray:=⟨#[116,104]⟩
def mI:ByteArray:=⟨#[116,100]⟩
def Q9:ByteArray:=⟨#[115,101,99,116,105,111,110]⟩
def sI:ByteArray:=⟨#[104,101,97,100]⟩
def lu:ByteArray:=⟨#[109,101,116,97]⟩
def iU:ByteArray:=⟨#[116,105,116,108,101]⟩
def Zq:ByteArray:=⟨#[104,116,109,108]⟩
def vI:ByteArray:=⟨#[98,111,100,121]⟩
def Jd:ByteArray:=⟨#[99,104,97,114,115,101,116]⟩
def iY:ByteArray:=⟨#[117,116,102,45,56]⟩
def kS:ByteArray:=⟨#[108,97,110,103]⟩
def jtz:ByteArray:=⟨#[108,101,102,116]⟩
def Ya:ByteArray:=⟨#[99,101,110,116,101,114]⟩
def jnq:ByteArray:=⟨#[114,105,103,104,116]⟩
def J6:ByteArray:=⟨#[32]⟩
def aJ (name:ByteArray) (a:List Pr) (ks:List Nd):Nd:=.mk name ⟨#[]⟩ a ks
def Cm (s:ByteArray):Nd:=.mk ⟨#[]⟩ s [] []
def bI (s:ByteArray):List Nd:=if aW s=true then [] else [Cm s]
def bU (k v:ByteArray):List Pr:=if aW v=true then [] else [⟨k,v⟩]
def AU:List ByteArray->ByteArray
 | []=>⟨#[]⟩
 | [x]=>x
 | x::y::l=>x++J6++AU (y::l)
def G5 (l:List ByteArray):List Pr:=if l.isEmpty=true then [] else [⟨dx,AU l⟩]
def eT (a:At) (more:List ByteArray):List Pr:=bU jT a.id++G5 (more++a.cls)
def jG (out:List Nd) (x:Nd):List Nd:=if aW x.nm=true then match out.getLast? with
  | some y=>if aW y.nm=true then out.dropLast++[.mk y.nm (y.tx++x.tx) y.at_ y.ks] else out++[x]
  | none=>out++[x]
 else out++[x]
def Bu (l:List Nd):List Nd:=l.foldl jG []
def fI (l:List aj):ByteArray:=bsS (aj.aG l)
mutual
def aj.nd:aj->Nd
 | .mk k t d ti a ar ci ks=>
  if k=2 then Cm J6
  else if k=3 then aJ nBr [] []
  else if k=4 then aJ dK [] (bI t)
  else if k=5 then aJ C9 [⟨dx,oh⟩] (bI t)
  else if k=6 then aJ nEm [] (Bu (aj.MK ks))
  else if k=7 then aJ EG [] (Bu (aj.MK ks))
  else if k=8 then aJ nS [] (Bu (aj.MK ks))
  else if k=9 then aJ nA (⟨kC,d⟩::bU lS ti) (Bu (aj.MK ks))
  else if k=10 then aJ jrz (⟨qX,d⟩::⟨qY,fI ks⟩::bU lS ti++eT a []) []
  else if k=11 then aJ C9 (eT a []) (Bu (aj.MK ks))
  else if k=12 then aJ nA [⟨kC,gH++t⟩,⟨dx,M9⟩] (bI t)
  else if k=16 then aJ nA [⟨kC,d⟩] (bI d)
  else Cm t
def aj.MK:List aj->List Nd
 | []=>[]
 | x::l=>x.nd::aj.MK l
end
def dQ (l:List aj):List Nd:=Bu (aj.MK l)
theorem pF:∀ (l:List aj),aj.MK l=l.map aj.nd
 | []=>by rw [aj.MK];rfl
 | x::l=>by rw [aj.MK,pF l];rfl
def gG (c:UInt8):ByteArray:=if c=108 then jtz else if c=99 then Ya else if c=114 then jnq else ⟨#[]⟩
def jbq (name:ByteArray) (c:UInt8) (b:ah):Nd:=aJ name (bU zl (gG c)) (dQ b.kT)
def ah.kids:ah->List ah
 | .mk _ _ _ _ _ _ _ _ ks=>ks
def gN (name:ByteArray):List UInt8->List ah->List Nd
 | c::cs,b::l=>jbq name c b::gN name cs l
 | _,_=>[]
def fB (name i:ByteArray) (b:ah):Nd:=aJ jU [] (gN name i.data.toList b.kids)
def Bq (i:ByteArray):List ah->Nd
 | []=>aJ nT [] [aJ AJ [] []]
 | h::rows=>aJ nT [] (aJ AJ [] [fB rT i h]::if rows.isEmpty=true then [] else [aJ iV [] (rows.map (fB mI i))])
mutual
def ah.mK:ah->List Nd
 | .mk k lv i t d ti a li ks=>
  if k=1 then [aJ nP [] (dQ li)]
  else if k=2 then [aJ (nH++iE lv.toNat) (eT a []) (dQ li)]
  else if k=3 then [aJ GQ [] [aJ dK (bU dx (if aW i=true then ⟨#[]⟩ else G9++i)) (bI t)]]
  else if k=4 then [aJ jS (eT a [oh]) (bI t)]
  else if k=5 then [aJ nHr [] []]
  else if k=6 then [aJ qU [] (ah.aV ks)]
  else if k=7 then [aJ nUl [] (ah.aV ks)]
  else if k=8 then [aJ WM (if lv=1 then [] else [⟨Ct,iE lv.toNat⟩]) (ah.aV ks)]
  else if k=9 then [aJ nLi [] (ah.aV ks)]
  else if k=10 then [Bq i ks]
  else if k=13 then [aJ jS (eT a [i]) (ah.aV ks)]
  else []
def ah.aV:List ah->List Nd
 | []=>[]
 | x::l=>x.mK++ah.aV l
end
theorem Df:∀ (l:List ah) (k:Nat) (x:ah),l[k]?=some x->ah.aV (l.take (k+1))=ah.aV (l.take k)++x.mK
 | [],_,_,h=>by simp at h
 | y::l,0,x,h=>by
  simp at h;subst h;simp [ah.aV]
 | y::l,k+1,x,h=>by
  rw [List.take_succ_cons,List.take_succ_cons,ah.aV,ah.aV,Df l k x (by simpa using h),List.append_assoc]
def eH (x:aj):Bool:=match x with
 | .mk k t _ _ _ _ _ _=>decide (k=15)||decide (k=13)||decide (k=14)||((decide (k=9)||decide (k=10))&&!aW t)
def jA (l:List aj):Bool:=(aj.aP l).any eH
def qA (b:ah):List Nd:=match b with
 | .mk k _ i _ _ _ _ _ ks=>if k=14 then [aJ jS [⟨jT,Bw++i⟩,⟨dx,dO⟩] (ah.aV ks)] else []
def oq (l:List ah):List Nd:=(ah.aT l).flatMap qA
def jB (l:List ah):List Nd:=ah.aV l++if (oq l).isEmpty=true then [] else [aJ Q9 [⟨dx,eO⟩] (oq l)]
def JM (title lang:ByteArray) (body:List Nd):Nd:=
 aJ Zq [⟨kS,lang⟩] [aJ sI [] [aJ lu [⟨Jd,iY⟩] [],aJ iU [] (bI title)],aJ vI [] body]
def eB (p:List Nd × ByteArray) (x:Nd):List Nd × ByteArray:=if aW x.nm=true then (p.1,p.2++x.tx) else (p.1++bI p.2++[x],⟨#[]⟩)
def gP (l:List Nd):List Nd × ByteArray:=l.foldl eB ([],⟨#[]⟩)
def TS (l:List Nd):Prop:=∀ y,l.getLast?=some y->aW y.nm=false
def Nd.full (x:Nd):Prop:=aW x.nm=true->x=Cm x.tx/\aW x.tx=false
theorem Ht {s:ByteArray} (h:aW s=true):s=⟨#[]⟩:=by unfold aW at h;have:=of_decide_eq_true h;exact ByteArray.ext (Array.toList_inj.1 (by simpa using this))
theorem pK (a b:ByteArray):aW (a++b)=(aW a&&aW b):=by unfold aW;rw [show (a++b).data.toList=a.data.toList++b.data.toList by simp [ByteArray.data_append]];simp [Bool.decide_and]
theorem zJ:∀ (l:List Nd) (out:List Nd) (acc:ByteArray),(∀ x∈l,x.full)->TS out->TS (l.foldl eB (out,acc)).1/\l.foldl jG (out++bI acc)=(l.foldl eB (out,acc)).1++bI (l.foldl eB (out,acc)).2
 | [],out,acc,_,ho=>⟨ho,rfl⟩
 | x::l,out,acc,h,ho=>by
  have hl:=fun y hy=>h y (List.mem_cons_of_mem _ hy)
  have hx:=h x (jF9 ..);rw [List.foldl_cons,List.foldl_cons];by_cases hn:aW x.nm=true
  ·obtain ⟨e1,e2⟩:=hx hn;have e3:eB (out,acc) x=(out,acc++x.tx):=by unfold eB;rw [if_pos hn]
   have e4:jG (out++bI acc) x=out++bI (acc++x.tx):=by
    unfold jG;rw [if_pos hn];have e5:aW (acc++x.tx)=false:=by rw [pK,e2,Bool.and_false]
    have e6:bI (acc++x.tx)=[Cm (acc++x.tx)]:=by unfold bI;rw [if_neg (by rw [e5];simp)]
    rw [e6];by_cases ha:aW acc=true
    ·have e7:bI acc=[]:=by unfold bI;rw [if_pos ha]
     rw [e7,List.append_nil];have e8:acc++x.tx=x.tx:=by rw [Ht ha];apply ByteArray.ext;simp [ByteArray.data_append]
     rw [e8];cases hg:out.getLast? with
     | none=>simp only;rw [e1];rfl
     | some y=>simp only;rw [if_neg (by rw [ho y hg];simp),e1];rfl
    ·have e7:bI acc=[Cm acc]:=by unfold bI;rw [if_neg ha]
     rw [e7,List.getLast?_append];simp only [List.getLast?_singleton,Option.some_or];have e9:aW (Cm acc).nm=true:=rfl;rw [if_pos e9,List.dropLast_concat];rfl
   rw [e3,e4];exact zJ l out _ hl ho
  ·have e3:eB (out,acc) x=(out++bI acc++[x],⟨#[]⟩):=by unfold eB;rw [if_neg hn]
   have e4:jG (out++bI acc) x=(out++bI acc++[x])++bI ⟨#[]⟩:=by unfold jG;rw [if_neg hn];have:bI ⟨#[]⟩=[]:=rfl;rw [this,List.append_nil]
   rw [e3,e4];refine zJ l _ _ hl ?_;intro y hy;rw [List.getLast?_append] at hy;simp at hy;subst hy;simpa using hn
theorem OX (l:List Nd) (h:∀ x∈l,x.full):Bu l=(gP l).1++bI (gP l).2:=
 (zJ l [] ⟨#[]⟩ h (fun y hy=>by simp at hy)).2
theorem J8 (l:List Nd) (x:Nd):gP (l++[x])=eB (gP l) x:=by unfold gP;rw [List.foldl_append];rfl
open Go.RowKit Go.Shelf
attribute [local go_sem] Oper.semAt_some
theorem OY (W:jG9):W.grownBy W.drew none:=⟨rfl,rfl,rfl,jD8 _,fun _ _ _=>rfl⟩
theorem TT (n l Bl B0:Nat) (P:ah->Prop) (bs:List ah) (v:jGk) (w0:jG9) (Kp:jG9->jG9->Prop) (hK:SL B0 Kp) (J Jx:List (BW B0 w0 P)->jG9->Prop) (W:jG9) (hJ:AbidesFrom W.heap.size J) (hY:∀ (m:Nat) (pre:List (BW B0 w0 P)) (x:BW B0 w0 P) (W1:jG9),J pre W1->pre.length<(ah.aT bs).length->YieldAt Fence.wide m Tryz.prog l #[x.1.enc] W1 fun e W'=> (e=.returned (.bool true)/\J (pre++[x]) W'/\Kp W1 W')\/(e=.returned (.bool false)/\Jx (pre++[x]) W')) (hPb:∀ b∈ah.aT bs,P b) (hrd:Rd (·<B0) w0 (nN bs) [v]) (hbel:Below B0 w0 W) (hB0:B0<=W.heap.size) (hBl:aH Bl v 22 W) (h0:J [] W) : CallsIn Fence.wide n Tryz.prog 87 #[.func (.yield l) #[] #[],.pointer (some ⟨Bl,0,none⟩)] W fun e W'=>(∃ v,e=.returned v) /\ ((∃ xs,xu xs=ah.aT bs/\J xs W')\/(∃ pre,xu pre <+: ah.aT bs/\Jx pre W')):=by
 obtain ⟨va,vn,vc,rfl⟩:=Rd.au hrd;have hdd:∀ k:Nat,(Fence.wide.depth.isSome=true->1<=k):=fun k h=>by cases h
 have HC:Hid (∀ (m:Nat) (w2:jG9),Below B0 w0 w2->EB l W.heap.size (W.heap.size+1) w2->J [] w2->_):=fun m w2 h1 h2 h3=>
  OZ l B0 W.heap.size (W.heap.size+1) (ah.aT bs).length P w0 Kp hK J Jx (fun pre W1 h=>hJ pre W1 W1.drew none h (OY W1) (fun r e=>by cases e)) hY (ah.aY bs) m bs (.slice va vn vc) [] w2 (jD8 _) hPb hrd h1 h2 h3 (by simp)
 have HJ:=hid hJ;have HB:=hid hBl;have iM:=hid hbel;have H0:=hid h0;obtain ⟨p,hp⟩:∃ p,p=W.heap.size:=⟨_,rfl⟩;rw [<- hp] at HC;clear hK hY hrd hbel hBl h0 hJ;refine callsIn_of_wp Tryz.func87 rfl trivial ?_ rfl;simp only [Tryz.ntmps87,List.size_toArray,jDz,List.length_nil,Nat.reduceAdd,Nat.reduceSub,Array.replicate_succ,Array.replicate_zero,List.push_toArray,List.append_toArray,List.nil_append,jE6]
 gi_upto_region 2 with (fail)
 obtain ⟨wA,iw⟩:∃ wA,wA=(W.alloc (.cells #[.func (.yield l) #[] #[]] 98)).alloc (.cells #[.nilFunc] 33):=⟨_,rfl⟩;have b0:aH p (.func (.yield l) #[] #[]) 98 wA:=by rw [iw,hp];exact (aH.new W _ _).alloc _
 have b1:aH (p+1) .nilFunc 33 wA:=by
  rw [iw,hp];have:=aH.new (W.alloc (.cells #[.func (.yield l) #[] #[]] 98)) .nilFunc 33
  rwa [World.size_alloc] at this
 have gA:Below p W wA:=by rw [iw,hp];exact ((Below.refl _ _).alloc (jD8 _) _).alloc (by simp) _
 rw [<- iw,<- hp];rw [<- hp] at hB0;have HP:=hid hp;clear iw hp;have c1:=b1.cell;have f1:=b1.free
 gi_upto_region 3 with (fail)
 obtain ⟨wB,Hf⟩:∃ wB,wB=wA.setCell ⟨p+1,0,none⟩ (Dk p (p+1)):=⟨_,rfl⟩;have d0:aH p (.func (.yield l) #[] #[]) 98 wB:=by rw [Hf];exact b0.far (by omega) _
 have d1:aH (p+1) (Dk p (p+1)) 33 wB:=by rw [Hf];exact b1.set _
 have gB:Below p W wB:=by rw [Hf];exact gA.setCell (p:=⟨p+1,0,none⟩) (by show p<=p+1;omega) _
 have cl:wB.cell? ⟨Bl,0,none⟩=some (.slice va vn vc):=(HB.out.below (by have:=HB.out.lt;rw [HP.out];exact this) gB).cell;have c2:=d1.cell;have HD:=hid (HC.out (n-1) wB (iM.out.trans (gB.mono hB0)) ⟨d0,d1⟩ (HJ.out [] W wB none H0.out ⟨gB.os,gB.tape,gB.output,gB.size,fun k hk _=>gB.block k (by rw [HP.out];exact hk)⟩ (fun r e=>by cases e)));unfold Dk at Hf c2;rw [<- Hf];clear Hf b0 b1 gA c1 f1 d0 d1 gB
 gi_wp2_with (first
  | (refine ⟨trivial,hdd _,?_⟩;refine HD.out.mono ?_;clear HD;rintro e W1 (⟨rfl,q,hq,Yb,hb1,hE1⟩ | ⟨rfl,q,hq,hx1⟩))
  | (refine HD.out.mono ?_;clear HD;rintro e W1 (⟨rfl,q,hq,Yb,hb1,hE1⟩ | ⟨rfl,q,hq,hx1⟩)))
 ·go_end0
  exact ⟨⟨_,rfl⟩,.inl ⟨q,hq,by simpa using Yb⟩⟩
 ·go_end0
  exact ⟨⟨_,rfl⟩,.inr ⟨q,hq,by simpa using hx1⟩⟩
theorem Kn (n Bl B0:Nat) (P:ah->Prop) (bs:List ah) (v:jGk) (w0 w:jG9) (Kp:jG9->jG9->Prop) (hK:SL B0 Kp) (hPb:∀ b∈ah.aT bs,P b) (hrd:Rd (·<B0) w0 (nN bs) [v]) (hbel:Below B0 w0 w) (hB0:B0<=w.heap.size) (hBl:aH Bl v 22 w) : SeqStopsK Fence.wide n Tryz.prog 87 #[.pointer (some ⟨Bl,0,none⟩)] (fun x:BW B0 w0 P=>#[x.1.enc]) Kp (fun xs=>xu xs=ah.aT bs) (fun pre=>xu pre <+: ah.aT bs) (ah.aT bs).length w:=fun l J Jx W hW hJ hJx hY h0=>
 TT n l Bl B0 P bs v w0 Kp hK J Jx W hJ (fun m pre x W1 hj hl=>TU rfl m (hY pre x W1 hj hl)) hPb hrd (hbel.trans (hW.mono hB0)) (Nat.le_trans hB0 hW.size) (hBl.below hBl.lt hW) h0
theorem SY (va:Option Addr) (vn vc:Nat) (w:jG9):Calls Tryz.prog 42 #[.slice va vn vc] w fun e w'=>e=.returned (.func (.func 87) #[] #[.pointer (some ⟨w.heap.size,0,none⟩)])/\w'=w.alloc (.cells #[.slice va vn vc] 22):=by go_enter Tryz.func42,Tryz.ntmps42;go_wp2;go_ret;exact ⟨rfl,rfl⟩
mutual
theorem aj.TV:∀ (x:aj),x.small->x.plain.length<=300*x.sz
 | .mk k t d ti a ar ci ks,h=>by
  unfold aj.small at h;obtain ⟨h1,h2,h3,h4,h5,h6,h7,h8,h9⟩:=h;have hk:=aj.pI ks h9;have e1:t.data.toList.length=t.size:=by rw [Array.length_toList];rfl
  have e2:d.data.toList.length=d.size:=by rw [Array.length_toList];rfl
  rw [aj.plain,aj.sz];split
  ·omega
  ·split
   ·simp;omega
   ·split
    ·omega
    ·split
     ·omega
     ·simp
theorem aj.pI:∀ (l:List aj),aj.aB l->(aj.aG l).length<=300*aj.aY l
 | [],_=>by rw [aj.aG];simp
 | x::l,h=>by
  unfold aj.aB at h;rw [aj.aG,aj.aY,jDq];have:=aj.TV x h.1;have:=aj.pI l h.2;omega
end
mutual
theorem aj.TW:∀ (x:aj),x.small->x.bd
 | .mk k t d ti a ar ci ks,h=>by
  unfold aj.small at h;obtain ⟨h1,h2,h3,h4,h5,h6,h7,h8,h9⟩:=h;unfold At.short at h4;have hk:=aj.kR ks h9;unfold aj.bd;exact ⟨by omega,by omega,by omega,by omega,hk⟩
theorem aj.kR:∀ (l:List aj),aj.aB l->aj.uw l
 | [],_=>by unfold aj.uw;trivial
 | x::l,h=>by
  unfold aj.aB at h;unfold aj.uw;exact ⟨aj.TW x h.1,aj.kR l h.2⟩
end
mutual
theorem ah.TW:∀ (x:ah),x.small->x.bd
 | .mk k lv i t d ti a li ks,h=>by
  unfold ah.small at h;obtain ⟨h1,h2,h3,h4,h5,h6,h7,h8⟩:=h;unfold At.short at h5;have hk:=ah.kR ks h8;unfold ah.bd;exact ⟨by omega,by omega,aj.kR li h6,by omega,hk⟩
theorem ah.kR:∀ (l:List ah),ah.aB l->ah.uw l
 | [],_=>by unfold ah.uw;trivial
 | x::l,h=>by
  unfold ah.aB at h;unfold ah.uw;exact ⟨ah.TW x h.1,ah.kR l h.2⟩
end
mutual
theorem ah.jnx:∀ (x:ah),x.sz+x.inls.length=x.all
 | .mk k lv i t d ti a li ks=>by
  have:=ah.EO ks;have h2:=aj.fM li;rw [ah.sz,ah.inls,ah.all,jDq,h2];omega
theorem ah.EO:∀ (l:List ah),ah.aY l+(ah.aS l).length=ah.dA l
 | []=>by rw [ah.aY,ah.aS,ah.dA];rfl
 | x::l=>by
  have:=ah.jnx x;have:=ah.EO l;rw [ah.aY,ah.aS,ah.dA,jDq];omega
end
mutual
theorem ah.KG:∀ (x:ah),x.small->∀ b∈x.each,b.small
 | .mk k lv i t d ti a li ks,h,b,hb=>by
  rw [ah.each] at hb;rcases List.mem_cons.1 hb with rfl | hb
  ·exact h
  ·unfold ah.small at h;exact ah.iL ks h.2.2.2.2.2.2.2 b hb
theorem ah.iL:∀ (l:List ah),ah.aB l->∀ b∈ah.aT l,b.small
 | [],_,b,hb=>by rw [ah.aT] at hb;simp at hb
 | x::l,h,b,hb=>by
  unfold ah.aB at h;rw [ah.aT] at hb;rcases List.mem_append.1 hb with hb | hb
  ·exact ah.KG x h.1 b hb
  ·exact ah.iL l h.2 b hb
end
section
variable {P:Int->ByteArray->Prop}
end
mutual
def aj.ok:aj->Prop
 | .mk k t d ti a ar ci ks=>oO 0 false false k t d ti a ar ci ks=0/\k≠2/\k≠3/\aj.okL 0 ks
def aj.okL (b:Int):List aj->Prop
 | []=>True
 | x::l=>x.ok/\¬ (b=x.kd/\(b=1\/b=4))/\aj.okL x.kd l
end
mutual
def aj.src:aj->Prop
 | .mk k t d ti a ar ci ks=>oO 0 false false k t d ti a ar ci ks=0/\aj.El ks
def aj.El:List aj->Prop
 | []=>True
 | x::l=>x.src/\aj.El l
end
theorem Yc {before k:Int} {first last:Bool} {t d ti:ByteArray} {a:At} {ar:List ByteArray} {ci:List Ci} {ks:List aj} (h:oO before first last k t d ti a ar ci ks=0) : oO 0 false false k t d ti a ar ci ks=0:=by
 unfold oO at h ⊢;by_cases h0:xV k t d ti a ar ci ks=false
 ·rw [if_pos h0] at h;cases h
 rw [if_neg h0] at h ⊢;by_cases h1:k=1\/k=4\/k=5
 ·rw [if_pos h1] at h ⊢;by_cases h4:aW t=true\/dG t=false
  ·rw [if_pos h4] at h;cases h
  ·rw [if_neg h4,if_neg (by omega)]
 rw [if_neg h1] at h ⊢;by_cases h2:k=2
 ·rw [if_pos h2,if_neg (by simp)]
 rw [if_neg h2] at h ⊢;by_cases h3:k=3
 ·rw [if_pos h3,if_neg (by simp)]
 rw [if_neg h3] at h ⊢;exact h
mutual
theorem aj.Yd:∀ (x:aj) (before:Int) (first last:Bool) (dp:Nat),x.err before first last dp=0->x.src
 | .mk k t d ti a ar ci ks,before,first,last,dp,h=>by
  rw [aj.err] at h;rw [aj.src];by_cases h1:oO before first last k t d ti a ar ci ks=0
  ·rw [if_neg (by simp [h1])] at h;exact ⟨Yc h1,aj.sG ks _ _ _ h⟩
  ·rw [if_pos h1] at h;exact absurd h h1
theorem aj.sG:∀ (l:List aj) (before:Int) (st:Bool) (dp:Nat),aj.aQ before st dp l=0->aj.El l
 | [],_,_,_,_=>by rw [aj.El];trivial
 | x::l,before,st,dp,h=>by
  rw [aj.aQ] at h;rw [aj.El];split at h
  ·cases h
  ·split at h
   ·rename_i h2;exact absurd h h2
   ·rename_i h2
    exact ⟨aj.Yd x _ _ _ dp (Classical.not_not.1 h2),aj.sG l _ _ dp h⟩
end
mutual
def aj.tf:aj->Prop
 | .mk k t d ti a ar ci ks=>(k<2\/(12<k/\k<16)\/16<k->aW t=false)/\aj.Ka ks
def aj.Ka:List aj->Prop
 | []=>True
 | x::l=>x.tf/\aj.Ka l
end
theorem TY (n:ByteArray) (a:List Pr) (ks:List Nd) (h:aW n=false):(aJ n a ks).full:=fun e=>by
 have:aW n=true:=e;rw [h] at this;cases this
theorem Hu (s:ByteArray) (h:aW s=false):(Cm s).full:=fun _=>⟨rfl,h⟩
theorem Ye:∀ (x:aj),x.tf->x.nd.full
 | .mk k t d ti a ar ci ks,h=>by
  rw [aj.tf] at h;rw [aj.nd];by_cases h2:k=2
  ·rw [if_pos h2];exact Hu _ rfl
  rw [if_neg h2];by_cases h3:k=3
  ·rw [if_pos h3];exact TY _ _ _ rfl
  rw [if_neg h3];by_cases h4:k=4
  ·rw [if_pos h4];exact TY _ _ _ rfl
  rw [if_neg h4];by_cases h5:k=5
  ·rw [if_pos h5];exact TY _ _ _ rfl
  rw [if_neg h5];by_cases h6:k=6
  ·rw [if_pos h6];exact TY _ _ _ rfl
  rw [if_neg h6];by_cases h7:k=7
  ·rw [if_pos h7];exact TY _ _ _ rfl
  rw [if_neg h7];by_cases h8:k=8
  ·rw [if_pos h8];exact TY _ _ _ rfl
  rw [if_neg h8];by_cases h9:k=9
  ·rw [if_pos h9];exact TY _ _ _ rfl
  rw [if_neg h9];by_cases h10:k=10
  ·rw [if_pos h10];exact TY _ _ _ rfl
  rw [if_neg h10];by_cases h11:k=11
  ·rw [if_pos h11];exact TY _ _ _ rfl
  rw [if_neg h11];by_cases h12:k=12
  ·rw [if_pos h12];exact TY _ _ _ rfl
  rw [if_neg h12];by_cases h16:k=16
  ·rw [if_pos h16];exact TY _ _ _ rfl
  rw [if_neg h16];exact Hu _ (h.1 (by omega))
theorem Ev:∀ (l:List aj),aj.Ka l->∀ x∈l,x.tf
 | [],_,x,hx=>by cases hx
 | y::l,h,x,hx=>by
  rw [aj.Ka] at h;rcases List.mem_cons.1 hx with rfl | hx
  ·exact h.1
  ·exact Ev l h.2 x hx
theorem Gy (l:List aj) (h:aj.Ka l):∀ x∈aj.MK l,x.full:=by intro x hx;rw [pF] at hx;obtain ⟨y,hy,rfl⟩:=List.mem_map.1 hx;exact Ye y (Ev l h y hy)
theorem Rz (l:List aj) (h:aj.Ka l):dQ l=(gP (aj.MK l)).1++bI (gP (aj.MK l)).2:=OX _ (Gy l h)
theorem KH {k:Int} {t d ti:ByteArray} {a:At} {ar:List ByteArray} {ci:List Ci} {ks:List aj} (h:xV k t d ti a ar ci ks=true):1<=k/\k<=16:=by unfold xV at h;simp only [Bool.and_eq_true,decide_eq_true_eq] at h;omega
mutual
theorem jnz:∀ (x:aj),x.src->x.deep.any eH=false->x.tf
 | .mk k t d ti a ar ci ks,h,hu=>by
  rw [aj.src] at h;rw [aj.deep,List.any_cons,Bool.or_eq_false_iff] at hu;rw [aj.tf];refine ⟨fun hk=>?_,ET ks h.2 hu.2⟩;have h1:=h.1;unfold oO at h1;split at h1
  ·cases h1
  ·rename_i h0
   have hf:=KH (by simpa using h0);have hu1:=hu.1;unfold eH at hu1;simp only [Bool.or_eq_false_iff,decide_eq_false_iff_not] at hu1;have hk1:k=1:=by omega
   rw [if_pos (.inl hk1)] at h1;split at h1
   ·cases h1
   ·rename_i h2
    cases h3:aW t
    ·rfl
    ·exact absurd (.inl h3) h2
theorem ET:∀ (l:List aj),aj.El l->(aj.aP l).any eH=false->aj.Ka l
 | [],_,_=>by rw [aj.Ka];trivial
 | x::l,h,hu=>by
  rw [aj.El] at h;rw [aj.aP,List.any_append,Bool.or_eq_false_iff] at hu;rw [aj.Ka];exact ⟨jnz x h.1 hu.1,ET l h.2 hu.2⟩
end
theorem En (l:List aj) (h:oV l=0) (hu:jA l=false):aj.Ka l:=ET l (aj.sG l 0 true 0 h) hu
mutual
def ah.bG:ah->List aj
 | .mk _ _ _ _ _ _ _ li ks=>aj.aP li++ah.dL ks
def ah.dL:List ah->List aj
 | []=>[]
 | x::l=>x.bG++ah.dL l
end
mutual
def ah.hok:ah->Prop
 | .mk k lv i t d ti a li ks=>aj.Ka li/\(k=2\/k=8->0<=lv/\lv<=999999999)/\(k=10->ks≠[]/\∀ r∈ks,r.kids.length=i.size)/\(∀ c∈a.cls,aW c=false)/\(k=13->aW i=false)/\ah.T9 ks
def ah.T9:List ah->Prop
 | []=>True
 | x::l=>x.hok/\ah.T9 l
end
theorem Nn (s:ByteArray) (h:dZ s=true):aW s=false:=by
 unfold dZ at h;simp only [Bool.and_eq_true,decide_eq_true_eq] at h;unfold aW;refine decide_eq_false fun e=>?_
 have h1:s.data.toList.length=s.size:=by simp
 rw [e] at h1;simp at h1;omega
theorem Ua:∀ (l seen:List ByteArray),uz seen l=0->∀ c∈l,aW c=false
 | [],_,_,c,hc=>by cases hc
 | x::l,seen,h,c,hc=>by
  rw [uz] at h;split at h
  ·cases h
  ·rename_i h1
   split at h
   ·cases h
   ·rcases List.mem_cons.1 hc with rfl | hc
    ·exact Nn _ (by simpa using h1)
    ·exact Ua l _ h c hc
theorem sF (a:At) (h:a.err=0):∀ c∈a.cls,aW c=false:=by
 unfold At.err at h;split at h
 ·cases h
 ·split at h
  ·rename_i h1;exact absurd h h1
  ·rename_i h1
   exact Ua a.cls [] (Classical.not_not.1 h1)
theorem Gj (a:At) (h:a.none=true):∀ c∈a.cls,aW c=false:=by
 unfold At.none at h;simp only [Bool.and_eq_true] at h;have h1:a.cls=[]:=by simpa using h.1.2
 rw [h1];intro c hc;cases hc
theorem jc8{P:Prop}(h:P:=by
 split at h2
 ·cases h2
 ·split at h2
  ·rename_i h3;exact absurd h2 h3
  ·split at h2
   ·cases h2
   ·exact h2):P:=h
mutual
theorem ah.Np (cl:ByteArray->Bool):∀ (b:ah) (par:Int) (dp:Nat),b.err cl par dp=0->(b.bG).any eH=false->b.hok
 | .mk k lv i t d ti a li ks,par,dp,h,hu=>by
  rw [ah.err] at h;rw [ah.bG,List.any_append,Bool.or_eq_false_iff] at hu;rw [ah.hok];split at h
  ·cases h
  ·split at h
   ·cases h
   ·rename_i hb
    split at h
    ·rename_i h1;exact absurd h h1
    ·rename_i h1
     have h2:=Classical.not_not.1 h1;have hbf:xW k lv i t d ti a li ks=true:=by
      cases hx:xW k lv i t d ti a li ks
      ·exact absurd (.inl hx) hb
      ·rfl
     unfold xW at hbf;simp only [Bool.and_eq_true,decide_eq_true_eq] at hbf;obtain ⟨⟨⟨⟨⟨⟨⟨⟨b1,b2⟩,b3⟩,b4⟩,b5⟩,b6⟩,b7⟩,b8⟩,b9⟩:=hbf;have xK:=ah.Hw cl ks k (dp+1) h hu.2;have hli:oV li=0:=by
      by_cases c1:k=1
      ·unfold qN at h2;rw [if_pos c1] at h2;split at h2
       ·cases h2
       ·exact h2
      by_cases c2:k=2
      ·unfold qN at h2;rw [if_neg c1,if_pos c2] at h2;exact jc8
      by_cases c3:k=12
      ·unfold qN at h2;rw [if_neg c1,if_neg c2,if_pos c3] at h2;split at h2
       ·cases h2
       ·exact h2
      ·have:li=[]:=by
        rw [Bool.or_eq_true] at b8;rcases b8 with b8 | b8
        ·simp at b8;omega
        ·simpa using b8
       rw [this];unfold oV;rw [aj.aQ]
     refine ⟨En li hli hu.1,?_,?_,?_,?_,xK⟩
     ·intro hk;rcases hk with rfl | rfl
      ·unfold qN at h2;rw [if_neg (by decide),if_pos rfl] at h2;split at h2
       ·cases h2
       ·omega
      ·unfold qN at h2;rw [if_neg (by decide),if_neg (by decide),if_neg (by decide),if_neg (by decide),if_neg (by decide),if_pos (.inr rfl)] at h2;split at h2
       ·cases h2
       ·split at h2
        ·cases h2
        ·rename_i h4
         constructor<;>(rcases Classical.em (lv<0) with h5 | h5<;>rcases Classical.em (999999999<lv) with h6 | h6<;>first | omega | exact absurd ⟨rfl,.inl h5⟩ h4 | exact absurd ⟨rfl,.inr h6⟩ h4)
     ·rintro rfl;unfold qN at h2;rw [if_neg (by decide),if_neg (by decide),if_neg (by decide),if_neg (by decide),if_neg (by decide),if_neg (by decide),if_pos rfl] at h2;unfold Qp at h2;split at h2
      ·cases h2
      ·split at h2
       ·cases h2
       ·split at h2
        ·cases h2
        ·split at h2
         ·cases h2
         ·rename_i h5
          split at h2
          ·cases h2
          ·rename_i h6
           refine ⟨fun e=>h5 (by rw [e];rfl),fun r hr=>?_⟩;have h7:ks.any (fun b=>!decide (b.ow=i.size))=false:=by simpa using h6
           rw [List.any_eq_false] at h7;have h8:=h7 r hr;have h9:decide (r.ow=i.size)=true:=by
            cases hx:decide (r.ow=i.size)
            ·rw [hx] at h8;exact absurd rfl h8
            ·rfl
           have h10:=of_decide_eq_true h9;cases r
           exact h10
     ·by_cases c2:k=2
      ·unfold qN at h2;rw [if_neg (by omega),if_pos c2] at h2;split at h2
       ·cases h2
       ·split at h2
        ·rename_i h3;exact absurd h2 h3
        ·rename_i h3;exact sF a (Classical.not_not.1 h3)
      by_cases c4:k=4
      ·unfold qN at h2;rw [if_neg (by omega),if_neg c2,if_neg (by omega),if_neg (by omega),if_pos c4] at h2;split at h2
       ·cases h2
       ·split at h2
        ·cases h2
        ·exact sF a h2
      by_cases c13:k=13
      ·unfold qN at h2;rw [if_neg (by omega),if_neg c2,if_neg (by omega),if_neg (by omega),if_neg c4,if_neg (by omega),if_neg (by omega),if_pos (.inl c13)] at h2;split at h2
       ·cases h2
       ·exact sF a h2
      ·rw [Bool.or_eq_true] at b7;rcases b7 with b7 | b7
       ·simp at b7;omega
       ·exact Gj a b7
     ·rintro rfl;unfold qN at h2;rw [if_neg (by decide),if_neg (by decide),if_neg (by decide),if_neg (by decide),if_neg (by decide),if_neg (by decide),if_neg (by decide),if_pos (.inl rfl)] at h2;split at h2
      ·cases h2
      ·rename_i h3;exact Nn i (by simpa using h3)
theorem ah.Hw (cl:ByteArray->Bool):∀ (l:List ah) (par:Int) (dp:Nat),ah.aQ cl par dp l=0->(ah.dL l).any eH=false->ah.T9 l
 | [],_,_,_,_=>by rw [ah.T9];trivial
 | x::l,par,dp,h,hu=>by
  rw [ah.aQ] at h;rw [ah.dL,List.any_append,Bool.or_eq_false_iff] at hu;rw [ah.T9];split at h
  ·rename_i h1;exact absurd h h1
  ·rename_i h1
   exact ⟨ah.Np cl x par dp (Classical.not_not.1 h1) hu.1,ah.Hw cl l par dp h hu.2⟩
end
mutual
def Nd.vals (key:ByteArray):Nd->List ByteArray
 | .mk n _ a ks=>if aW n=true then [] else ((a.filter fun p=>decide (p.key=key)).map (·.val))++Nd.dF key ks
def Nd.dF (key:ByteArray):List Nd->List ByteArray
 | []=>[]
 | x::l=>x.vals key++Nd.dF key l
end
theorem Di (key:ByteArray) (l m:List Nd):Nd.dF key (l++m)=Nd.dF key l++Nd.dF key m:=by
 induction l with
 | nil=>rw [Nd.dF];rfl
 | cons x l ih=>rw [jE6,Nd.dF,Nd.dF,ih,List.append_assoc]
def ah.kOf:ah->Int
 | .mk k _ _ _ _ _ _ _ _=>k
def ah.iOf:ah->ByteArray
 | .mk _ _ i _ _ _ _ _ _=>i
theorem Dl (cl:ByteArray->Bool):∀ (l:List ah) (par:Int) (dp:Nat),ah.aQ cl par dp l=0->∀ x∈l,dU x.kOf par=true/\∃ dp',x.err cl par dp'=0
 | [],_,_,_,x,hx=>by cases hx
 | b::l,par,dp,h,x,hx=>by
  rw [ah.aQ] at h;split at h
  ·rename_i h1;exact absurd h h1
  ·rename_i h1
   rcases List.mem_cons.1 hx with rfl | hx
   ·have h2:=Classical.not_not.1 h1;refine ⟨?_,dp,h2⟩;obtain ⟨k,lv,i,t,d,ti,a,li,ks⟩:=x;rw [ah.err] at h2;split at h2
    ·cases h2
    ·split at h2
     ·cases h2
     ·rename_i h3
      show dU k par=true;cases h4:dU k par
      ·exact absurd (.inr h4) h3
      ·rfl
   ·exact Dl cl l par dp h x hx
theorem Ta (n m:Nat) (h:n<10 ^ (m+1)):(Lib.decDigits n).length<=m+1:=by
 induction m generalizing n with
 | zero=>
  rw [Lib.decDigits,dif_pos (by simpa using h)];simp
 | succ m ih=>
  rw [Lib.decDigits];split
  ·simp
  ·rw [jDq,List.length_singleton];have:=ih (n/10) (by
    rw [Nat.div_lt_iff_lt_mul (by decide)];have e:10 ^ (m+1+1)=10 ^ (m+1)*10:=Nat.pow_succ ..;omega)
   omega
theorem fP (cl:ByteArray->Bool) {k lv:Int} {i t d ti:ByteArray} {a:At} {li:List aj} {ks:List ah} {par:Int} {dp:Nat} (h:(ah.mk k lv i t d ti a li ks).err cl par dp=0) : qN cl k lv i t d ti a li ks=0/\xW k lv i t d ti a li ks=true/\ah.aQ cl k (dp+1) ks=0:=by
 rw [ah.err] at h;split at h
 ·cases h
 ·split at h
  ·cases h
  ·rename_i hb
   split at h
   ·rename_i h1;exact absurd h h1
   ·rename_i h1
    refine ⟨Classical.not_not.1 h1,?_,h⟩;cases hx:xW k lv i t d ti a li ks
    ·exact absurd (.inl hx) hb
    ·rfl
theorem yJ (cl:ByteArray->Bool) {k lv:Int} {i t d ti:ByteArray} {a:At} {li:List aj} {ks:List ah} (h2:qN cl k lv i t d ti a li ks=0) (hbf:xW k lv i t d ti a li ks=true):oV li=0:=by
 unfold qN at h2;by_cases c1:k=1
 ·rw [if_pos c1] at h2;split at h2
  ·cases h2
  ·exact h2
 rw [if_neg c1] at h2;by_cases c2:k=2
 ·rw [if_pos c2] at h2;exact jc8
 rw [if_neg c2] at h2;by_cases c3:k=12
 ·rw [if_pos c3] at h2;split at h2
  ·cases h2
  ·exact h2
 ·have:li=[]:=by
   unfold xW at hbf;simp only [Bool.and_eq_true] at hbf;have b8:=hbf.1.2;rw [Bool.or_eq_true] at b8;rcases b8 with b8 | b8
   ·simp at b8;omega
   ·simpa using b8
  rw [this];unfold oV;rw [aj.aQ]
theorem nR (cl:ByteArray->Bool) (par:Int) (dp:Nat):∀ (l:List ah),ah.aQ cl par dp l=0↔∀ b∈l,b.err cl par dp=0
 | []=>by rw [ah.aQ];exact ⟨fun _ b hb=>(by cases hb),fun _=>rfl⟩
 | x::l=>by
  rw [ah.aQ];by_cases h:x.err cl par dp=0
  ·rw [if_neg (by simp [h]),nR cl par dp l];constructor
   ·intro h1 b hb;rcases List.mem_cons.1 hb with rfl | hb
    ·exact h
    ·exact h1 b hb
   ·exact fun h1 b hb=>h1 b (List.mem_cons_of_mem _ hb)
  ·rw [if_pos h];exact ⟨fun h1=>absurd h1 h,fun h1=>absurd (h1 x (jF9 ..)) h⟩
theorem Nq:∀ (l:List ah),(ah.dL l).any eH=false↔∀ b∈l,b.bG.any eH=false
 | []=>by rw [ah.dL];exact ⟨fun _ b hb=>(by cases hb),fun _=>rfl⟩
 | x::l=>by
  rw [ah.dL,List.any_append,Bool.or_eq_false_iff,Nq l];constructor
  ·rintro ⟨h1,h2⟩ b hb;rcases List.mem_cons.1 hb with rfl | hb
   ·exact h1
   ·exact h2 b hb
  ·exact fun h=>⟨h x (jF9 ..),fun b hb=>h b (List.mem_cons_of_mem _ hb)⟩
mutual
def ah.JU:ah->Prop
 | .mk k lv i t d ti a li ks=>aj.Ka li/\(k=2\/k=8->0<=lv/\lv<=999999999)/\(k=10->ks≠[]/\∀ r∈ks,r.kids.length=i.size/\∀ c∈r.kids,aj.Ka c.kT)/\(∀ c∈a.cls,aW c=false)/\(k=13->aW i=false)/\k≠11/\k≠12/\(k≠10->ah.qz ks)
def ah.qz:List ah->Prop
 | []=>True
 | x::l=>x.JU/\ah.qz l
end
theorem Nr:∀ (l:List ah),(ah.dL l).any eH=false->∀ b∈l,jA b.kT=false/\(ah.dL b.kids).any eH=false:=by intro l h b hb;have h1:=(Nq l).1 h b hb;obtain ⟨k,lv,i,t,d,ti,a,li,ks⟩:=b;rw [ah.bG,List.any_append,Bool.or_eq_false_iff] at h1;exact h1
mutual
theorem ah.Ub (cl:ByteArray->Bool):∀ (b:ah) (par:Int) (dp:Nat),par≠10->par≠11->dU b.kOf par=true->b.err cl par dp=0->(b.bG).any eH=false->b.JU
 | .mk k lv i t d ti a li ks,par,dp,hp0,hp1,hpl,h,hu=>by
  have hh:=ah.Np cl _ par dp h hu;obtain ⟨h2,hbf,h3⟩:=fP cl h;rw [ah.hok] at hh;obtain ⟨g1,g2,g3,g4,g5,g6⟩:=hh;rw [ah.bG,List.any_append,Bool.or_eq_false_iff] at hu;have hk:k≠11/\k≠12:=by
   have hpl':dU k par=true:=hpl;unfold dU at hpl';split at hpl'
   ·have:=of_decide_eq_true hpl';omega
   ·(try rw [if_neg hp0,if_neg hp1] at hpl')
    simp at hpl';omega
  rw [ah.JU];refine ⟨g1,g2,fun h10=>?_,g4,g5,hk.1,hk.2,fun h10=>ah.oW cl ks k (dp+1) h10 hk.1 h3 hu.2⟩;obtain ⟨q1,q2⟩:=g3 h10;refine ⟨q1,fun r hr=>⟨q2 r hr,fun c hc=>?_⟩⟩;have r1:=(nR cl k (dp+1) ks).1 h3 r hr;have r2:=Nr ks hu.2 r hr;obtain ⟨k',lv',i',t',d',ti',a',li',ks'⟩:=r;obtain ⟨-,-,s3⟩:=fP cl r1;have c1:=(nR cl k' (dp+1+1) ks').1 s3 c hc;have c2:=Nr ks' r2.2 c hc;obtain ⟨k9,lv9,i9,t9,d9,ti9,a9,li9,ks9⟩:=c;obtain ⟨u1,u2,-⟩:=fP cl c1;exact En li9 (yJ cl u1 u2) c2.1
theorem ah.oW (cl:ByteArray->Bool):∀ (l:List ah) (par:Int) (dp:Nat),par≠10->par≠11->ah.aQ cl par dp l=0->(ah.dL l).any eH=false->ah.qz l
 | [],_,_,_,_,_,_=>by rw [ah.qz];trivial
 | x::l,par,dp,hp0,hp1,h,hu=>by
  have hpl:=(Dl cl (x::l) par dp h x (jF9 ..)).1;rw [ah.aQ] at h;rw [ah.dL,List.any_append,Bool.or_eq_false_iff] at hu;rw [ah.qz];split at h
  ·rename_i h1;exact absurd h h1
  ·rename_i h1
   exact ⟨ah.Ub cl x par dp hp0 hp1 hpl (Classical.not_not.1 h1) hu.1,ah.oW cl l par dp hp0 hp1 h hu.2⟩
end
def lF (more:ByteArray) (l:List ByteArray):ByteArray:=l.foldl (fun c x=>(if aW c=true then c else c++J6)++x) more
theorem Uc (a b c:ByteArray):a++b++c=a++(b++c):=by apply ByteArray.ext;simp [ByteArray.data_append,Array.append_assoc]
theorem jo0 (a:ByteArray):(⟨#[]⟩:ByteArray)++a=a:=by apply ByteArray.ext;simp [ByteArray.data_append]
theorem KI (m x:ByteArray) (l:List ByteArray):AU ((m++J6++x)::l)=m++J6++AU (x::l):=by
 cases l with
 | nil=>rfl
 | cons y l=>rw [AU,AU];simp only [Uc]
theorem uN:∀ (l:List ByteArray) (m:ByteArray),aW m=false->lF m l=AU (m::l)
 | [],m,_=>rfl
 | x::l,m,h=>by
  unfold lF;rw [List.foldl_cons,if_neg (by rw [h];simp)];have h2:aW (m++J6++x)=false:=by rw [pK,pK,h];rfl
  have:=uN l (m++J6++x) h2;unfold lF at this;rw [this,KI];rfl
theorem Ns:∀ (l:List ByteArray) (m:ByteArray),aW m=false->aW (AU (m::l))=false
 | [],m,h=>h
 | x::l,m,h=>by rw [AU,pK,pK,h];rfl
theorem Yf (l:List ByteArray) (h:∀ c∈l,aW c=false) (m:ByteArray):bU dx (lF m l)=G5 ((if aW m=true then [] else [m])++l):=by
 by_cases hm:aW m=true
 ·rw [if_pos hm,List.nil_append,Ht hm];cases l with
  | nil=>rfl
  | cons x l=>
   have hx:=h x (jF9 ..);have e:lF ⟨#[]⟩ (x::l)=lF x l:=by unfold lF;rw [List.foldl_cons,if_pos (by decide),jo0]
   rw [e,uN l x hx];unfold bU G5;rw [if_neg (by rw [Ns l x hx];simp),if_neg (by simp)]
 ·have hm2:aW m=false:=by simpa using hm
  rw [if_neg hm,uN l m hm2];unfold bU G5;rw [if_neg (by rw [Ns l m hm2];simp),if_neg (by simp)];rfl
theorem RO (a:At) (m:ByteArray) (h:∀ c∈a.cls,aW c=false):bU jT a.id++bU dx (lF m a.cls)=eT a (if aW m=true then [] else [m]):=by unfold eT;rw [Yf a.cls h m]
open Go.RowKit
theorem Yg:(Tryz.prog.info? 66).map (fun i=>(i.zero,i.size,i.bytes))=some (some (.agg #[.int .i64 0,.string ByteArray.empty,.string ByteArray.empty,.string ByteArray.empty,.string ByteArray.empty,.slice none 0 0,.slice none 0 0,.slice none 0 0,.slice none 0 0,.slice none 0 0]),10,192):=by kernel_rfl
theorem Yh:(Tryz.prog.info? 48).map (fun i=>(i.zero,i.size,i.bytes))=some (some (.agg #[.int .i64 0,.int .i64 0,.string ByteArray.empty,.string ByteArray.empty,.string ByteArray.empty,.string ByteArray.empty,.string ByteArray.empty,.slice none 0 0,.slice none 0 0,.slice none 0 0,.slice none 0 0]),11,192):=by kernel_rfl
mutual
theorem Rd.l9 {ok:Nat->Prop} {w:jG9}:∀ (d:D) (cs:List jGk),Rd ok w d cs->∀ u∈cs,u.oneCell'=true
 | .int _ _,_,h,u,hu=>by rw [h.sW] at hu;simp at hu;subst hu;rfl
 | .bool _,_,h,u,hu=>by rw [h.Dm] at hu;simp at hu;subst hu;rfl
 | .str _,_,h,u,hu=>by rw [h.bM] at hu;simp at hu;subst hu;rfl
 | .st fs,_,h,u,hu=>by
  obtain ⟨rows,hr,rfl⟩:=h.mg;exact aR.l9 fs rows hr u hu
 | .sl k l,_,h,u,hu=>by
  obtain ⟨a,cap,rfl,_⟩:=h.ay;simp at hu;subst hu;rfl
theorem aR.l9 {ok:Nat->Prop} {w:jG9}:∀ (l:List D) (rows:List (List jGk)),aR ok w l rows->∀ u∈rows.flatten,u.oneCell'=true
 | [],_,h,u,hu=>by rw [h.dV] at hu;simp at hu
 | d::ds,_,h,u,hu=>by
  obtain ⟨r,rs,rfl,h1,h2⟩:=h.aI;rw [List.flatten_cons] at hu;rcases List.mem_append.1 hu with hu | hu
  ·exact Rd.l9 d r h1 u hu
  ·exact aR.l9 ds rs h2 u hu
end
structure Row (T:TypeId) (k B:Nat) (w0:jG9) (ds:List D) (rows:List (List jGk)) (v:jGk) (w:jG9):Prop where
 own:w.ownsRow w0.heap.size T k v ds.length rows.flatten
 red:aR (·<B) w ds rows
 len:∀ r∈rows,r.length=k
 aM:Below w0.heap.size w0 w
section
variable {T:TypeId} {k B:Nat} {w0 w w1 w2:jG9} {ds es:List D} {rows aZ:List (List jGk)} {v v':jGk}
theorem Row.nil (T:TypeId) (k B:Nat) (w0:jG9):Row T k B w0 [] [] (.slice none 0 0) w0:=⟨⟨by simp,.inl ⟨rfl,rfl⟩⟩,aR.none,by simp,Below.refl _ _⟩
theorem Row.up (h:Row T k B w0 ds rows v w) (hB:B<=w.heap.size) (hb:Below w.heap.size w w1):Row T k B w0 ds rows v w1:=
 ⟨q24 h.own hb,aR.keep (fun b h1 h2=>⟨h1,hb.block b h2⟩) _ _ h.red,h.len,q01 h.aM hb⟩
theorem Row.app (h:Row T k B w0 ds rows v w1) (hB:B<=w0.heap.size) (hes:aR (·<B) w1 es aZ) (hl2:∀ r∈aZ,r.length=k) (hown:w2.ownsRow w0.heap.size T k v' (ds.length+es.length) (rows.flatten++aZ.flatten)) (hg:w1.grownBy w2 v.ownBlock):Row T k B w0 (ds++es) (rows++aZ) v' w2:=by
 have hne:∀ b,b<w0.heap.size->some b≠v.ownBlock:=fun b hb e=>by have:=(h.own.lt b e.symm).1;omega
 have hst:vM (·<B) (·<B) w1 w2:=fun b h1 h2=>⟨h1,hg.block b h2 (hne b (by omega))⟩
 refine ⟨by rw [jDq,List.flatten_append];exact hown,aR.app (aR.keep hst _ _ h.red) (aR.keep hst _ _ hes),?_,?_⟩
 ·intro r hr;rcases List.mem_append.1 hr with hr | hr
  ·exact h.len r hr
  ·exact hl2 r hr
 ·have hb:=h.aM;exact ⟨hg.os.trans hb.os,hg.tape.trans hb.tape,hg.output.trans hb.output,Nat.le_trans hb.size hg.size,fun b hlt=>(hg.block b (Nat.lt_of_lt_of_le hlt hb.size) (hne b hlt)).trans (hb.block b hlt)⟩
end
mutual
theorem aj.Yi:∀ (x:aj),x.deep.length=x.sz
 | .mk _ _ _ _ _ _ _ ks=>by rw [aj.deep,aj.sz,jDz,aj.lM ks];omega
theorem aj.lM:∀ (l:List aj),(aj.aP l).length=aj.aY l
 | []=>by rw [aj.aP,aj.aY];rfl
 | x::l=>by rw [aj.aP,aj.aY,jDq,aj.Yi x,aj.lM l]
end
mutual
theorem ah.Yj:∀ (x:ah),x.each.length=x.sz
 | .mk _ _ _ _ _ _ _ _ ks=>by rw [ah.each,ah.sz,jDz,ah.oz ks];omega
theorem ah.oz:∀ (l:List ah),(ah.aT l).length=ah.aY l
 | []=>by rw [ah.aT,ah.aY];rfl
 | x::l=>by rw [ah.aT,ah.aY,jDq,ah.Yj x,ah.oz l]
end
theorem aj.KJ {l:List aj} {k:Nat} {x:aj} (hx:l[k]?=some x):aj.aP (l.take (k+1))=aj.aP (l.take k)++x.deep:=by rw [List.take_add_one,hx,aj.uF];simp [aj.aP]
theorem aj.Hy (l:List aj) (k:Nat):aj.aY (l.take k)<=aj.aY l:=by have:=aj.EU (l.take k) (l.drop k);rw [List.take_append_drop] at this;omega
def jc9 (B:Nat) (w:jG9) (l:List aj) (v vi:jGk) (wr:jG9):Prop:=∃ (k:Nat) (rows:List (List jGk)),k<=l.length/\vi=.int .i64 k/\Row 66 10 B w ((aj.aP (l.take k)).map aj.d) rows v wr
theorem jcj{P:Prop}(h:P:=by
 refine (bg.out.up (by omega) hua).app hB (aR.one (Rd.keep (fun b h1 h2=>⟨h1,?_⟩) _ _ HRX.out)) (by simp) ?_ hg1
 ·exact (hua.block b (by omega)).trans (bg.out.aM.block b h2)
 ·rw [List.length_singleton,List.flatten_singleton,<- HL.out];exact hown1):P:=h
theorem jck{P:Prop}(h:P:=by
 have hkl:k=l.length:=by omega
 subst hkl;rw [List.take_length] at hrow ⊢;have bg:=hid hrow;clear hrow HS IH;go_wp2;go_ret;exact ⟨.slice av _ cv,rows,rfl,bg.out⟩):P:=h
theorem jcq{P Q:Prop}(q:Q)(h:Nonempty Q->P:=by
 intro qQ;have ow0:=hrow.own;rw [<- hL] at ow0;have Ud:=hid ow0;clear ow0;have mZ:=hid hds;have bg:=hid hrow;have HR:=hid hR;have HRX:=hid hrx;have HX:=hid hx;have HC:=hid hc;have hwz:=hrow.aM.size;have hLl:L<=1000000:=by omega
 have HL:=hid hL;revert Ud mZ bg HR HRX HX HC hwz hLl HL;exact qQ.elim fun x=>x):P:=h ⟨q⟩
theorem GV (n:Nat):∀ (l:List aj) (B:Nat) (v:Value) (w:World),aj.aY l<=n->n<=1000000->Rd (·<B) w (bG l) [v]->B<=w.heap.size -> Calls Tryz.prog 90 #[v] w fun e w'=>∃ v' rows,e=.returned v'/\Row 66 10 B w ((aj.aP l).map aj.d) rows v' w':=by
 induction n using Nat.strongRecOn with
 | _ n ih=>
  intro l B v w hn hnm hrd hB;obtain ⟨iI,XO,EP,ER,ES⟩:=info_parts Yg;obtain ⟨a,cap,hv,hs⟩:=Rd.ay hrd;obtain rfl:v=.slice a l.length cap:=by simpa using hv
  refine vP ?_;intro hcap hmx HS;have IH:=hid ih;have R0:Hid (jc9 B w l (.slice none 0 0) (.int .i64 0) w):=⟨0,[],Nat.zero_le _,rfl,by rw [List.take_zero,aj.aP];exact Row.nil _ _ _ _⟩;clear hs hv hrd ih;go_enter Tryz.func90,Tryz.ntmps90;go_wp2
  go_loopw [3,4] (fun v vi wr=>jc9 B w l v vi wr) (fun _ i _=>l.length-(intOf i).toNat)
  case atStart=>exact R0.out
  case round=>
   clear R0;obtain ⟨k,rows,hk,rfl,hrow⟩:=hrel;obtain ⟨av,cv,Qq⟩:=kW hrow.own;subst Qq;by_cases hlt:k<l.length
   ·refine iX ?_;intro x hx;obtain ⟨kd,t,d,ti,at_,ar,ci,ks⟩:=x;obtain ⟨g,off,vc,vp,va,vi,vk,rfl,hok,hbl,hc,hR⟩:=L9 HS.out hx;have hsz:=aj.bE l k _ hx;rw [aj.sz] at hsz;obtain ⟨aa,na,ca,rfl⟩:=Rd.zK hR.args;obtain ⟨ai,ni,gu,rfl⟩:=Rd.zK hR.fu;obtain ⟨ac,nc,cc,rfl⟩:=Rd.zK hR.at_.cls
    obtain ⟨ap,np,cp,rfl⟩:=Rd.zK hR.at_.aD
    obtain ⟨ak,nk,ck,rfl⟩:=Rd.zK hR.kids;have hgw:wr.heap[g]?=w.heap[g]?:=hrow.aM.block g (by omega);obtain ⟨p0,p1,p2,p3,p4,p5,p6,p7,p8,p9⟩:=hc.at2 (w':=wr) hgw;have hrx:=aj.dJ (ok:=(·<B)) (w:=w) kd t d ti hR;have Ue:((aj.aP (l.take k)).map aj.d).length<=1000000:=by rw [List.length_map,aj.lM];have:=aj.Hy l k;omega
    have hsn:=aj.Hy l (k+1);rw [aj.sZ hx,aj.sz] at hsn;have hlk:((aj.aP (l.take k)).map aj.d).length=aj.aY (l.take k):=by rw [List.length_map,aj.lM]
    obtain ⟨L,hL⟩:∃ L,L=((aj.aP (l.take k)).map aj.d).length:=⟨_,rfl⟩;obtain ⟨ds,hds⟩:∃ ds,ds=(aj.aP (l.take k)).map aj.d:=⟨_,rfl⟩;rw [<- hds] at hrow Ue hlk hL ⊢;rw [<- hL];rw [<- hL] at hrow;refine jcq ?_;intro Ud mZ bg HR HRX HX HC hwz hLl HL;clear hc hR hx hrx hds hrow hL;go_wp2_with (at_builtin;refine Ma _ rfl (.tmp 11) (.tmp 16) 46 rfl w.heap.size 66 iI _ 10 192 Tryz.underlying46 XO EP ER ES rfl (by decide) (.slice av L cv) L rows.flatten rfl (Ud.out.alloc _) (wr.heap.size+1) (some ⟨wr.heap.size,0,none⟩) 1 1 [.int .i64 kd,.string t,.string d,.string ti,.string at_.id,.slice ac nc cc,.slice ap np cp,.slice aa na ca,.slice ai ni gu,.slice ak nk ck] rfl ?g1 ?g2 ?g3 ?g4 ?g5 ?_)
    case g1=>exact ⟨rfl,fun _=>⟨_,rfl,by simp,Gh wr [.int .i64 kd,.string t,.string d,.string ti,.string at_.id,.slice ac nc cc,.slice ap np cp,.slice aa na ca,.slice ai ni gu,.slice ak nk ck] _⟩⟩
    case g2=>exact Rd.l9 _ _ HRX.out
    case g3=>unfold maxLen;omega
    case g4=>omega
    case g5=>simp;omega
    intro v1 w1 hown1 hg1 _;obtain ⟨a1,c1,rfl⟩:=kW hown1;have hua:Below wr.heap.size wr (wr.alloc (.cells #[.int .i64 kd,.string t,.string d,.string ti,.string at_.id,.slice ac nc cc,.slice ap np cp,.slice aa na ca,.slice ai ni gu,.slice ak nk ck] 66)):=(Below.refl _ _).alloc (Nat.le_refl _) _;have KM:Row 66 10 B w (ds++[aj.d (.mk kd t d ti at_ ar ci ks)]) (rows++[[.int .i64 kd,.string t,.string d,.string ti,.string at_.id,.slice ac nc cc,.slice ap np cp,.slice aa na ca,.slice ai ni gu,.slice ak nk ck]]) (.slice a1 (L+1) c1) w1:=by exact jcj
    have hb1:=KM.aM;have k9:w1.cell? ⟨g,off+k*10+9,none⟩=some (.slice ak nk ck):=(HC.out.at2 (w':=w1) (hb1.block g (by omega))).c9;have hz1:=hb1.size;have DC:=hid (IH.out (aj.aY ks) (by omega) ks B (.slice ak nk ck) w1 (Nat.le_refl _) (by omega) (Rd.keep (fun b h1 h2=>⟨h1,hb1.block b h2⟩) _ _ HR.out.kids) (by omega));have Uf:=hid KM;clear hown1 hg1 hua KM hb1 bg p0 p1 p2 p3 p4 p5 p6 p7 p8 p9 hgw;go_wp2_with fail
    refine DC.out.mono ?_;rintro e w2 ⟨v2,aZ,rfl,hrow2⟩;obtain ⟨a2,c2,rfl⟩:=kW hrow2.own;have hb2:=hrow2.aM;have hz2:=hb2.size;have zL:=hid (Uf.out.up (by omega) hb2);have oC:=hid hrow2;have hks:((aj.aP ks).map aj.d).length=aj.aY ks:=by rw [List.length_map,aj.lM]
    have V4:=hid (Reads.qJ hrow2.own);have ON2:=hid (aR.l9 _ _ hrow2.red);have hl1:(ds++[aj.d (.mk kd t d ti at_ ar ci ks)]).length=L+1:=by rw [List.length_append,List.length_singleton,<- HL.out]
    have O5:=zL.out.own;rw [hl1] at O5;obtain ⟨F,hF⟩:∃ F:List Value,F=(rows++[([.int .i64 kd,.string t,.string d,.string ti,.string at_.id,.slice ac nc cc,.slice ap np cp,.slice aa na ca,.slice ai ni gu,.slice ak nk ck]:List Value)]).flatten:=⟨_,rfl⟩;rw [<- hF] at O5;have HF:=hid hF;clear hF;obtain ⟨M,hM⟩:∃ M,M=((aj.aP ks).map aj.d).length:=⟨_,rfl⟩;rw [<- hM] at V4 hks ⊢;have Ug:=hid O5;have HM:=hid hM;have HL1:=hid hl1;have Kl:=hid hks;clear O5 hM hl1 hrow2 hb2 DC Uf hks;go_wp2_with (at_builtin;refine Ma _ rfl (.tmp 18) (.tmp 24) 46 rfl w.heap.size 66 iI _ 10 192 Tryz.underlying46 XO EP ER ES rfl (by decide) (.slice a1 (L+1) c1) (L+1) F rfl Ug.out w2.heap.size a2 M c2 aZ.flatten rfl V4.out ON2.out ?k3 ?k4 ?k5 ?_)
    case k3=>have:=Kl.out;unfold maxLen;omega
    case k4=>have:=Kl.out;have:=HL.out;omega
    case k5=>omega
    intro v3 w3 hown3 hg3 _;obtain ⟨a3,c3,rfl⟩:=kW hown3;have Uh:=hid (zL.out.app hB oC.out.red oC.out.len (by rw [HL1.out,<- HM.out,<- HF.out];exact hown3) hg3);clear hown3 hg3 zL oC V4 ON2;go_wp2;go_roundw;case rel=>
     refine ⟨k+1,rows++[[.int .i64 kd,.string t,.string d,.string ti,.string at_.id,.slice ac nc cc,.slice ap np cp,.slice aa na ca,.slice ai ni gu,.slice ak nk ck]]++aZ,by omega,by go_num,?_⟩;have h3:=Uh.out;rw [mZ.out] at h3;rw [aj.KJ HX.out,aj.deep,List.map_append,List.map_cons];simpa using h3
    case measure=>simp [intOf];omega
   ·exact jck
open Go.RowKit
theorem dh.at4 {w w':World} {b o:Nat} {k lv:Int} {i t d ti id:ByteArray} {vc vp vl vk:Value} (h:dh w b o k lv i t d ti id vc vp vl vk) (hb:w'.heap[b]?=w.heap[b]?):dh w' b o k lv i t d ti id vc vp vl vk:=by exact jcx
theorem ah.Hz (l m:List ah):ah.aY (l++m)=ah.aY l+ah.aY m:=by
 induction l with
 | nil=>rw [ah.aY];simp
 | cons x l ih=>rw [List.cons_append,ah.aY,ah.aY,ih];omega
theorem ah.O6 {l:List ah} {k:Nat} {x:ah} (hx:l[k]?=some x):ah.aY (l.take (k+1))=ah.aY (l.take k)+x.sz:=by rw [List.take_add_one,hx,ah.Hz];simp [ah.aY]
theorem ah.Dn (l:List ah) (k:Nat):ah.aY (l.take k)<=ah.aY l:=by have:=ah.Hz (l.take k) (l.drop k);rw [List.take_append_drop] at this;omega
def Ui (B:Nat) (w:World) (l:List ah) (v vi:Value) (wr:World):Prop:=∃ (k:Nat) (rows:List (List Value)),k<=l.length/\vi=.int .i64 k/\Row 48 11 B w ((ah.aT (l.take k)).map ah.d) rows v wr
theorem Hq (n:Nat):∀ (l:List ah) (B:Nat) (v:Value) (w:World),ah.aY l<=n->n<=1000000->Rd (·<B) w (nN l) [v]->B<=w.heap.size -> Calls Tryz.prog 47 #[v] w fun e w'=>∃ v' rows,e=.returned v'/\Row 48 11 B w ((ah.aT l).map ah.d) rows v' w':=by
 induction n using Nat.strongRecOn with
 | _ n ih=>
  intro l B v w hn hnm hrd hB;obtain ⟨iI,XO,EP,ER,ES⟩:=info_parts Yh;obtain ⟨a,cap,hv,hs⟩:=Rd.ay hrd;obtain rfl:v=.slice a l.length cap:=by simpa using hv
  refine vP ?_;intro hcap hmx HS;have IH:=hid ih;have R0:Hid (Ui B w l (.slice none 0 0) (.int .i64 0) w):=⟨0,[],Nat.zero_le _,rfl,by rw [List.take_zero,ah.aT];exact Row.nil _ _ _ _⟩;clear hs hv hrd ih;go_enter Tryz.func47,Tryz.ntmps47;go_wp2
  go_loopw [3,4] (fun v vi wr=>Ui B w l v vi wr) (fun _ i _=>l.length-(intOf i).toNat)
  case atStart=>exact R0.out
  case round=>
   clear R0;obtain ⟨k,rows,hk,rfl,hrow⟩:=hrel;obtain ⟨av,cv,Qq⟩:=kW hrow.own;subst Qq;by_cases hlt:k<l.length
   ·refine iX ?_;intro x hx;obtain ⟨kd,lv,inf,t,d,ti,at_,li,ks⟩:=x;obtain ⟨g,off,vc,vp,vl,vk,rfl,hok,hbl,hc,hR⟩:=Gr HS.out hx;have hsz:=ah.bE l k _ hx;rw [ah.sz] at hsz;obtain ⟨al,nl,cl,rfl⟩:=Rd.zK hR.line;obtain ⟨ac,nc,cc,rfl⟩:=Rd.zK hR.at_.cls
    obtain ⟨ap,np,cp,rfl⟩:=Rd.zK hR.at_.aD
    obtain ⟨ak,nk,ck,rfl⟩:=Rd.zK hR.kids;have hgw:wr.heap[g]?=w.heap[g]?:=hrow.aM.block g (by omega);obtain ⟨p0,p1,p2,p3,p4,p5,p6,p7,p8,p9,sj⟩:=hc.at4 (w':=wr) hgw;have hrx:=ah.dJ (ok:=(·<B)) (w:=w) kd lv inf t d ti hR;have Ue:((ah.aT (l.take k)).map ah.d).length<=1000000:=by rw [List.length_map,ah.oz];have:=ah.Dn l k;omega
    have hsn:=ah.Dn l (k+1);rw [ah.O6 hx,ah.sz] at hsn;have hlk:((ah.aT (l.take k)).map ah.d).length=ah.aY (l.take k):=by rw [List.length_map,ah.oz]
    obtain ⟨L,hL⟩:∃ L,L=((ah.aT (l.take k)).map ah.d).length:=⟨_,rfl⟩;obtain ⟨ds,hds⟩:∃ ds,ds=(ah.aT (l.take k)).map ah.d:=⟨_,rfl⟩;rw [<- hds] at hrow Ue hlk hL ⊢;rw [<- hL];rw [<- hL] at hrow;refine jcq ?_;intro Ud mZ bg HR HRX HX HC hwz hLl HL;clear hc hR hx hrx hds hrow hL;go_wp2_with (at_builtin;refine Ma _ rfl (.tmp 11) (.tmp 16) 22 rfl w.heap.size 48 iI _ 11 192 Tryz.underlying22 XO EP ER ES rfl (by decide) (.slice av L cv) L rows.flatten rfl (Ud.out.alloc _) (wr.heap.size+1) (some ⟨wr.heap.size,0,none⟩) 1 1 [.int .i64 kd,.int .i64 lv,.string inf,.string t,.string d,.string ti,.string at_.id,.slice ac nc cc,.slice ap np cp,.slice al nl cl,.slice ak nk ck] rfl ?g1 ?g2 ?g3 ?g4 ?g5 ?_)
    case g1=>exact ⟨rfl,fun _=>⟨_,rfl,by simp,Gh wr [.int .i64 kd,.int .i64 lv,.string inf,.string t,.string d,.string ti,.string at_.id,.slice ac nc cc,.slice ap np cp,.slice al nl cl,.slice ak nk ck] _⟩⟩
    case g2=>exact Rd.l9 _ _ HRX.out
    case g3=>unfold maxLen;omega
    case g4=>omega
    case g5=>simp;omega
    intro v1 w1 hown1 hg1 _;obtain ⟨a1,c1,rfl⟩:=kW hown1;have hua:Below wr.heap.size wr (wr.alloc (.cells #[.int .i64 kd,.int .i64 lv,.string inf,.string t,.string d,.string ti,.string at_.id,.slice ac nc cc,.slice ap np cp,.slice al nl cl,.slice ak nk ck] 48)):=(Below.refl _ _).alloc (Nat.le_refl _) _;have KM:Row 48 11 B w (ds++[ah.d (.mk kd lv inf t d ti at_ li ks)]) (rows++[[.int .i64 kd,.int .i64 lv,.string inf,.string t,.string d,.string ti,.string at_.id,.slice ac nc cc,.slice ap np cp,.slice al nl cl,.slice ak nk ck]]) (.slice a1 (L+1) c1) w1:=by exact jcj
    have hb1:=KM.aM;have k10:w1.cell? ⟨g,off+k*11+10,none⟩=some (.slice ak nk ck):=(HC.out.at4 (w':=w1) (hb1.block g (by omega))).c10;have hz1:=hb1.size;have DC:=hid (IH.out (ah.aY ks) (by omega) ks B (.slice ak nk ck) w1 (Nat.le_refl _) (by omega) (Rd.keep (fun b h1 h2=>⟨h1,hb1.block b h2⟩) _ _ HR.out.kids) (by omega));have Uf:=hid KM;clear hown1 hg1 hua KM hb1 bg p0 p1 p2 p3 p4 p5 p6 p7 p8 p9 sj hgw;go_wp2_with fail
    refine DC.out.mono ?_;rintro e w2 ⟨v2,aZ,rfl,hrow2⟩;obtain ⟨a2,c2,rfl⟩:=kW hrow2.own;have hb2:=hrow2.aM;have hz2:=hb2.size;have zL:=hid (Uf.out.up (by omega) hb2);have oC:=hid hrow2;have hks:((ah.aT ks).map ah.d).length=ah.aY ks:=by rw [List.length_map,ah.oz]
    have V4:=hid (Reads.qJ hrow2.own);have ON2:=hid (aR.l9 _ _ hrow2.red);have hl1:(ds++[ah.d (.mk kd lv inf t d ti at_ li ks)]).length=L+1:=by rw [List.length_append,List.length_singleton,<- HL.out]
    have O5:=zL.out.own;rw [hl1] at O5;obtain ⟨F,hF⟩:∃ F:List Value,F=(rows++[([.int .i64 kd,.int .i64 lv,.string inf,.string t,.string d,.string ti,.string at_.id,.slice ac nc cc,.slice ap np cp,.slice al nl cl,.slice ak nk ck]:List Value)]).flatten:=⟨_,rfl⟩;rw [<- hF] at O5;have HF:=hid hF;clear hF;obtain ⟨M,hM⟩:∃ M,M=((ah.aT ks).map ah.d).length:=⟨_,rfl⟩;rw [<- hM] at V4 hks ⊢;have Ug:=hid O5;have HM:=hid hM;have HL1:=hid hl1;have Kl:=hid hks;clear O5 hM hl1 hrow2 hb2 DC Uf hks;go_wp2_with (at_builtin;refine Ma _ rfl (.tmp 18) (.tmp 24) 22 rfl w.heap.size 48 iI _ 11 192 Tryz.underlying22 XO EP ER ES rfl (by decide) (.slice a1 (L+1) c1) (L+1) F rfl Ug.out w2.heap.size a2 M c2 aZ.flatten rfl V4.out ON2.out ?k3 ?k4 ?k5 ?_)
    case k3=>have:=Kl.out;unfold maxLen;omega
    case k4=>have:=Kl.out;have:=HL.out;omega
    case k5=>omega
    intro v3 w3 hown3 hg3 _;obtain ⟨a3,c3,rfl⟩:=kW hown3;have Uh:=hid (zL.out.app hB oC.out.red oC.out.len (by rw [HL1.out,<- HM.out,<- HF.out];exact hown3) hg3);clear hown3 hg3 zL oC V4 ON2;go_wp2;go_roundw;case rel=>
     refine ⟨k+1,rows++[[.int .i64 kd,.int .i64 lv,.string inf,.string t,.string d,.string ti,.string at_.id,.slice ac nc cc,.slice ap np cp,.slice al nl cl,.slice ak nk ck]]++aZ,by omega,by go_num,?_⟩;have h3:=Uh.out;rw [mZ.out] at h3;rw [ah.qZ l k _ HX.out,ah.each,List.map_append,List.map_cons];simpa using h3
    case measure=>simp [intOf];omega
   ·exact jck
open Go.RowKit
def ah.lnI:ah->List aj
 | .mk _ _ _ _ _ _ _ li _=>li
def eD:List ah->List aj
 | []=>[]
 | x::l=>aj.aP x.lnI++eD l
theorem pO:∀ (l m:List ah),eD (l++m)=eD l++eD m
 | [],m=>rfl
 | x::l,m=>by rw [List.cons_append,eD,pO l m,eD,List.append_assoc]
theorem KO {l:List ah} {k:Nat} {x:ah} (h:l[k]?=some x):eD (l.take (k+1))=eD (l.take k)++aj.aP x.lnI:=by rw [List.take_add_one,h,pO];simp [eD]
theorem zM (l:List ah) (k:Nat):(eD (l.take k)).length<=(eD l).length:=by
 have h:eD l=eD (l.take k++l.drop k):=by rw [List.take_append_drop]
 rw [h,pO,List.length_append];omega
mutual
theorem ah.O7:∀ (x:ah),x.inls=eD x.each
 | .mk k lv i t d ti a li ks=>by rw [ah.inls,ah.each,eD,ah.ru ks];rfl
theorem ah.ru:∀ (l:List ah),ah.aS l=eD (ah.aT l)
 | []=>by rw [ah.aS,ah.aT];rfl
 | x::l=>by rw [ah.aS,ah.aT,pO,ah.O7 x,ah.ru l]
end
def jcz (B:Nat) (w:World) (l:List ah) (v vi:Value) (wr:World):Prop:=
 ∃ (k:Nat) (rows:List (List Value)),k<=l.length/\vi=.int .i64 k/\Row 66 10 B w ((eD (l.take k)).map aj.d) rows v wr
theorem OP (l:List ah) (v:Value) (w:World) (hsz:ah.aY l<=1000000) (hil:(ah.aS l).length<=1000000) (hrd:Rd (·<w.heap.size) w (nN l) [v]) : Calls Tryz.prog 45 #[v] w fun e w'=>∃ v',e=.returned v'/\Rd (·<w'.heap.size) w' (bG (ah.aS l)) [v']/\Below w.heap.size w w':=by
 obtain ⟨iI,XO,EP,ER,ES⟩:=info_parts QW;have LS:=hid (Hq _ l w.heap.size v w (Nat.le_refl _) hsz hrd (Nat.le_refl _));rw [ah.ru] at hil ⊢;obtain ⟨E,hE⟩:∃ E,E=ah.aT l:=⟨_,rfl⟩;rw [<- hE] at LS hil ⊢;clear hrd hE;go_enter Tryz.func45,Tryz.ntmps45;go_wp2_with fail
 refine LS.out.mono ?_;rintro e w1 ⟨v1,ju0,rfl,hr1⟩;have b1:=hr1.aM;have hE1:Rd (·<w1.heap.size) w1 (nN E) [v1]:=
  Rd.fG (l:=E.map ah.d) (rows:=ju0) (B:=w.heap.size) (e:=48) hr1.own (aR.keep (fun b h1 h2=>⟨h2,rfl⟩) _ _ hr1.red) hr1.len (fun g hg=>(hr1.own.lt g hg).2)
 obtain ⟨a1,c1,hv1,hs1⟩:=Rd.ay hE1;obtain rfl:v1=.slice a1 E.length c1:=by simpa using hv1
 have hc1:E.length<=c1:=by simpa using hs1.le
 have hm1:=hs1.max;unfold maxLen at hm1;have HS:=hid hs1;have HB1:=hid b1;have R0:Hid (jcz w1.heap.size w1 E (.slice none 0 0) (.int .i64 0) w1):=⟨0,[],Nat.zero_le _,rfl,Row.nil _ _ _ _⟩;clear hr1 hE1 hv1 hs1 b1 LS;go_wp2
 go_loopw [3,5] (fun v vi wr=>jcz w1.heap.size w1 E v vi wr) (fun _ i _=>E.length-(intOf i).toNat)
 case atStart=>exact R0.out
 case round=>
  clear R0;obtain ⟨k,rows,hk,rfl,hrow⟩:=hrel;have hdp:=zM E k;obtain ⟨L,hL⟩:∃ L,L=((eD (E.take k)).map aj.d).length:=⟨_,rfl⟩;have hLl:L<=1000000:=by rw [hL,List.length_map];omega
  have HL:=hid hL;have hown:=hrow.own;rw [<- hL] at hown;obtain ⟨av,cv,rfl⟩:=kW hown;have HOWN:=hid hown;have bg:=hid hrow;have hbel:=hrow.aM;have hz:=hbel.size;clear hL hrow hown;by_cases hlt:k<E.length
  ·obtain ⟨x,hx⟩:∃ x,E[k]?=some x:=⟨_,List.getElem?_eq_getElem hlt⟩;have hsn:=KO hx;have hsl:=zM E (k+1);rw [hsn,List.length_append] at hsl;obtain ⟨kd,lv,i,t,d,ti,at_,li,ks⟩:=x;obtain ⟨g,off,vc,vp,vl,vk,rfl,hok,hbl,hc,hR⟩:=Gr (HS.out.below hbel) hx;obtain ⟨al,nl,cl,rfl⟩:=Rd.zK hR.line;have c9:=hc.c9;have hli:aj.aY li<=1000000:=by
    rw [<- aj.lM];have:(aj.aP li).length<=(eD E).length:=by change (eD (E.take k)).length+(aj.aP li).length<=_ at hsl;omega
    omega
   have hsl2:L+(aj.aP li).length<=1000000:=by change (eD (E.take k)).length+(aj.aP li).length<=_ at hsl;rw [HL.out,List.length_map];omega
   have DC:=hid (GV _ li w1.heap.size (.slice al nl cl) wr (Nat.le_refl _) hli hR.line hz);have gV:=hid hsn;clear hc hR hx hsn hsl hdp hok hbl hli;go_wp2_with fail
   refine DC.out.mono ?_;rintro e w2 ⟨v2,aZ,rfl,hrow2⟩;obtain ⟨M,hM⟩:∃ M,M=((aj.aP li).map aj.d).length:=⟨_,rfl⟩;have hMl:L+M<=1000000:=by rw [hM,List.length_map];exact hsl2
   have hown2:=hrow2.own;rw [<- hM] at hown2;obtain ⟨a2,c2,rfl⟩:=kW hown2;have hb2:=hrow2.aM;have hz2:=hb2.size;have zL:=hid (bg.out.up hz hb2);have oC:=hid hrow2;have V4:=hid (Reads.qJ hown2);have ON2:=hid (aR.l9 _ _ hrow2.red);have HM:=hid hM;have O5:=zL.out.own;rw [<- HL.out] at O5;have Ug:=hid O5;clear hM hown2 hrow2 hb2 O5 DC c9 hsl2;go_wp2_with (at_builtin;refine Ma _ rfl (.tmp 14) (.tmp 20) 46 rfl w1.heap.size 66 iI _ 10 192 Tryz.underlying46 XO EP ER ES rfl (by decide) (.slice av L cv) L rows.flatten rfl Ug.out w2.heap.size a2 M c2 aZ.flatten rfl V4.out ON2.out ?k3 ?k4 ?k5 ?_)
   case k3=>unfold maxLen;omega
   case k4=>omega
   case k5=>omega
   intro v3 w3 hown3 hg3 _;obtain ⟨a3,c3,rfl⟩:=kW hown3;have Uh:=hid (zL.out.app (Nat.le_refl _) oC.out.red oC.out.len (by rw [<- HL.out,<- HM.out];exact hown3) hg3);clear hown3 hg3 zL oC V4 ON2;go_wp2;go_roundw;case rel=>
    refine ⟨k+1,rows++aZ,by omega,by go_num,?_⟩;rw [gV.out,List.map_append];exact Uh.out
   case measure=>simp [intOf];omega
  ·have hkl:k=E.length:=by omega
   subst hkl;have h1:=bg.out;rw [List.take_length] at h1 HL;have HR1:=hid h1;clear h1 bg HOWN hdp;go_wp2;go_ret;refine ⟨_,rfl,?_,q01 HB1.out hbel⟩;have hown:=HR1.out.own;have h2:=Rd.fG (l:=(eD E).map aj.d) (ok:=(·<wr.heap.size)) (rows:=rows) (B:=w1.heap.size) (e:=66) hown (aR.keep (fun b h1 h2=>⟨h2,rfl⟩) _ _ HR1.out.red) HR1.out.len (fun g hg=>(hown.lt g hg).2);exact h2
theorem Uj{P:Prop}(h:P:=by
 exact ⟨by omega,fun z hz=>List.mem_append_right _ (h2 z hz)⟩):P:=h
theorem Uk{P:Prop}(h:P:=by
 exact ⟨by omega,fun z hz=>List.mem_append_left _ (h2 z hz)⟩):P:=h
mutual
theorem aj.Yk:∀ (x:aj),∀ y∈x.deep,y.sz<=x.sz/\∀ z∈y.deep,z∈x.deep
 | .mk k t d ti a ar ci ks,y,hy=>by
  rw [aj.deep] at hy;rcases List.mem_cons.1 hy with rfl | hy
  ·exact ⟨jD8 _,fun z hz=>hz⟩
  ·obtain ⟨h1,h2⟩:=aj.zO ks y hy;refine ⟨?_,fun z hz=>?_⟩
   ·rw [aj.sz];omega
   ·rw [aj.deep];exact List.mem_cons_of_mem _ (h2 z hz)
theorem aj.zO:∀ (l:List aj),∀ y∈aj.aP l,y.sz<=aj.aY l/\∀ z∈y.deep,z∈aj.aP l
 | [],y,hy=>by rw [aj.aP] at hy;cases hy
 | x::l,y,hy=>by
  rw [aj.aP] at hy;rw [aj.aY,aj.aP];rcases List.mem_append.1 hy with hy | hy
  ·obtain ⟨h1,h2⟩:=aj.Yk x y hy;exact Uk
  ·obtain ⟨h1,h2⟩:=aj.zO l y hy;exact Uj
end
mutual
theorem ah.Yl:∀ (b:ah),∀ y∈b.inls,y.sz<=b.inls.length/\∀ z∈y.deep,z∈b.inls
 | .mk k lv i t d ti a li ks,y,hy=>by
  rw [ah.inls] at hy ⊢;rw [jDq,aj.fM];rcases List.mem_append.1 hy with hy | hy
  ·obtain ⟨h1,h2⟩:=aj.zO li y hy;exact Uk
  ·obtain ⟨h1,h2⟩:=ah.tq ks y hy;exact Uj
theorem ah.tq:∀ (l:List ah),∀ y∈ah.aS l,y.sz<=(ah.aS l).length/\∀ z∈y.deep,z∈ah.aS l
 | [],y,hy=>by rw [ah.aS] at hy;cases hy
 | x::l,y,hy=>by
  rw [ah.aS] at hy ⊢;rw [jDq];rcases List.mem_append.1 hy with hy | hy
  ·obtain ⟨h1,h2⟩:=ah.Yl x y hy;exact Uk
  ·obtain ⟨h1,h2⟩:=ah.tq l y hy;exact Uj
end
theorem O8 (x:aj):x∈x.deep:=by obtain ⟨k,t,d,ti,a,ar,ci,ks⟩:=x;rw [aj.deep];exact jF9 ..
theorem uO:∀ (l:List aj) (y:aj),y∈aj.aP l↔∃ x∈l,y∈x.deep
 | [],y=>by rw [aj.aP];simp
 | x::l,y=>by
  rw [aj.aP,List.mem_append,uO l y];simp
theorem OQ (l:List ah):jA (ah.aS l)=(ah.aS l).any eH:=by
 unfold jA;rw [Bool.eq_iff_iff,List.any_eq_true,List.any_eq_true];constructor
 ·rintro ⟨y,hy,h⟩;obtain ⟨x,hx,hy⟩:=(uO _ _).1 hy;exact ⟨y,(ah.tq l x hx).2 y hy,h⟩
 ·rintro ⟨y,hy,h⟩;exact ⟨y,(uO _ _).2 ⟨y,hy,O8 y⟩,h⟩
mutual
theorem ah.Ul:∀ (b:ah),b.bG=b.inls
 | .mk k lv i t d ti a li ks=>by rw [ah.bG,ah.inls,ah.oZ ks]
theorem ah.oZ:∀ (l:List ah),ah.dL l=ah.aS l
 | []=>by rw [ah.dL,ah.aS]
 | x::l=>by rw [ah.dL,ah.aS,ah.Ul x,ah.oZ l]
end
theorem Nt (n:Nat):∀ (l:List aj),(∀ x∈l,x.sz<=n)->aj.aY l<=l.length*n
 | [],_=>by rw [aj.aY];exact Nat.zero_le _
 | x::l,h=>by
  have h1:=h x (jF9 ..);have h2:=Nt n l (fun y hy=>h y (List.mem_cons_of_mem _ hy));rw [aj.aY,jDz,Nat.succ_mul];omega
theorem Tz (l:List ah) (h:(ah.aS l).length<=1000):aj.aY (ah.aS l)<=1000000:=
 Nat.le_trans (Nt 1000 _ (fun x hx=>Nat.le_trans (ah.tq l x hx).1 h)) (Nat.mul_le_mul_right 1000 h)
structure gZ (ok:Nat->Prop) (w:jG9) (a:List Pr) (ks:List Nd) (va vk:jGk):Prop where
 at_:Rd ok w (q32 a) [va]
 ks:Rd ok w (gD ks) [vk]
theorem Nd.open_ {ok:Nat->Prop} {w:jG9} {n t:ByteArray} {a:List Pr} {ks:List Nd} {cs:List jGk} (h:Rd ok w (Nd.mk n t a ks).d cs) : ∃ va vk,cs=[.string n,.string t,va,vk]/\gZ ok w a ks va vk:=by
 unfold Nd.d at h;rw [Nd.jJ] at h;obtain ⟨_,g0,rfl⟩:=h.mg;obtain ⟨r0,rs,rfl,h0,g0⟩:=g0.aI;obtain ⟨r1,rs,rfl,h1,g0⟩:=g0.aI;obtain ⟨r2,rs,rfl,h2,g0⟩:=g0.aI;obtain ⟨r3,rs,rfl,h3,g0⟩:=g0.aI;obtain rfl:=g0.dV;obtain rfl:=h0.bM;obtain rfl:=h1.bM;obtain ⟨v2,rfl⟩:∃ v,r2=[v]:=by obtain ⟨a,c,e,-⟩:=h2.ay;exact ⟨_,e⟩
 obtain ⟨v3,rfl⟩:∃ v,r3=[v]:=by obtain ⟨a,c,e,-⟩:=h3.ay;exact ⟨_,e⟩
 exact ⟨v2,v3,rfl,h2,h3⟩
theorem Nd.dJ {ok:Nat->Prop} {w:jG9} (n t:ByteArray) {a:List Pr} {ks:List Nd} {va vk:jGk} (h:gZ ok w a ks va vk):Rd ok w (Nd.mk n t a ks).d [.string n,.string t,va,vk]:=by unfold Nd.d;rw [Nd.jJ];exact Rd.Dp (rows:=[[.string n],[.string t],[va],[vk]]) (aR.cons (Rd.dW _ _ _) (aR.cons (Rd.dW _ _ _) (aR.cons h.at_ (aR.cons h.ks aR.none))))
theorem nZ {ok:Nat->Prop} {w:jG9} {l:List Nd} {a:Option Addr} {cap:Nat} (h:qI ok w 4 (l.map Nd.d) a cap) {k:Nat} {n t:ByteArray} {at_:List Pr} {ks:List Nd} (hk:l[k]?=some (.mk n t at_ ks)) : ∃ b off va vk,a=some ⟨b,off,none⟩/\ok b/\b<w.heap.size/\w.cell? ⟨b,off+k*4,none⟩=some (.string n)/\w.cell? ⟨b,off+k*4+1,none⟩=some (.string t)/\w.cell? ⟨b,off+k*4+2,none⟩=some va/\w.cell? ⟨b,off+k*4+3,none⟩=some vk/\gZ ok w at_ ks va vk:=by refine H6 ?_;intro hlt b off ha hok hb hc r hr hl hcell;obtain ⟨va,vk,rfl,hR⟩:=Nd.open_ hr;exact ⟨b,off,va,vk,ha,hok,hb,hcell 0 _ rfl,hcell 1 _ rfl,hcell 2 _ rfl,hcell 3 _ rfl,hR⟩
theorem Nd.bE:∀ (l:List Nd) (k:Nat) (x:Nd),l[k]?=some x->x.sz<=Nd.aY l
 | [],_,_,h=>by simp at h
 | y::l,0,x,h=>by simp at h;subst h;rw [Nd.aY];omega
 | y::l,k+1,x,h=>by rw [Nd.aY];have:=Nd.bE l k x (by simpa using h);omega
theorem gZ.keep {ok ok':Nat->Prop} {w w':jG9} {a:List Pr} {ks:List Nd} {va vk:jGk} (h:gZ ok w a ks va vk) (hs:vM ok ok' w w'):gZ ok' w' a ks va vk:=⟨Rd.keep hs _ _ h.at_,Rd.keep hs _ _ h.ks⟩
theorem Fz {n t:ByteArray} {a1 a2:Option Addr} {n1 n2 c1 c2:Nat}:∀ u∈([.string n,.string t,.slice a1 n1 c1,.slice a2 n2 c2]:List jGk),u.oneCell'=true:=by intro u hu;simp at hu;rcases hu with rfl | rfl | rfl | rfl<;>rfl
theorem Er (l:List Nd) (rs:List (List jGk)) (ok:Nat->Prop) (w:jG9) (h:aR ok w (l.map Nd.d) rs):∀ u∈rs.flatten,u.oneCell'=true:=by
 intro u hu;obtain ⟨r,hr,hu⟩:=List.mem_flatten.1 hu;obtain ⟨j,hj,rfl⟩:=List.mem_iff_getElem.1 hr;have hj2:j<(l.map Nd.d).length:=by rw [<- h.len];exact hj
 obtain ⟨r',hr',hd⟩:=h.get j _ (jD6 hj2);rw [jD6 hj] at hr';obtain rfl:=Option.some.inj hr';rw [List.getElem_map] at hd;generalize l[j]'(by simpa using hj2)=x at hd;obtain ⟨n,t,a,ks⟩:=x;obtain ⟨va,vk,he,hR⟩:=Nd.open_ hd;obtain ⟨a1,n1,c1,rfl⟩:=Rd.au hR.at_
 obtain ⟨a2,n2,c2,rfl⟩:=Rd.au hR.ks;rw [he] at hu;exact Fz u hu
theorem lG (l:List Pr) (rs:List (List jGk)) (ok:Nat->Prop) (w:jG9) (h:aR ok w (l.map Pr.d) rs):∀ u∈rs.flatten,u.oneCell'=true:=by
 intro u hu;obtain ⟨r,hr,hu⟩:=List.mem_flatten.1 hu;obtain ⟨j,hj,rfl⟩:=List.mem_iff_getElem.1 hr;have hj2:j<(l.map Pr.d).length:=by rw [<- h.len];exact hj
 obtain ⟨r',hr',hd⟩:=h.get j _ (jD6 hj2);rw [jD6 hj] at hr';obtain rfl:=Option.some.inj hr';rw [List.getElem_map] at hd;rw [Pr.open_ hd] at hu;simp at hu;rcases hu with rfl | rfl<;>rfl
end Go.Proofs.YtkfnkeflalcphaaGreatDoor

