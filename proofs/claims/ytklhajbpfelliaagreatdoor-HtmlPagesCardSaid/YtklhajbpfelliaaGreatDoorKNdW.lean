/- Plain part: the numbers of a document: sections, figures, tables, equations, notes. Plain part: nodes of markup, and the nodes of inlines and blocks, as the chapter says. Plain part: entries, and the list of entries, as the program and as the reference make it. Plain part: the entries of numbers. Plain part: blocks with their tables of contents filled. tree.Each: what the function that it returns does with a loop's body. Plain part: what a small document's parts are bounded by. Plain part: what the entries of a well-formed document have. Plain part: the lists of entries of a well-formed document have no error but for the depth. Plain part: what well-formed, resolved blocks give to the walk of their nodes; the plain text of nodes; their anchors. Plain part: the anchors of a page have the identifiers of its document. Plain part: slides, as the program and as the reference divide blocks. Plain part: the sections of the page with slides, as the program and as the reference cut the blocks. Plain part: the page with slides has the anchors of the page, each as often. Plain part: the page of a well-formed document is valid markup. Plain part: the page of a well-formed, resolved document is valid markup (blocks, notes, the page). Plain part: the pieces of a well-formed document are well-formed; the page with slides is valid markup. Plain part: what the walk of the nodes of blocks asks, where blocks stand that are no rows and no cells. publisherref04.Deep, List: inlines and blocks with those in them, in document order. publisherref04.List: blocks with those in them, in document order. The contract of publisherref04.Inlines: all inlines of blocks. Plain part: all inlines of blocks: theirs are among them; how large they are together; unresolved ones. Words for nodes in memory. -/
import Derived.Test.YtklhajbpfelliaaGreatDoorKRwC
import Derived.Test.YtklhajbpfelliaaGreatDoorKRfD
set_option maxHeartbeats 4000000
set_option maxRecDepth 100000
open Go.Lib (hid)
namespace Go.Proofs.YtklhajbpfelliaaGreatDoor
open List renaming getElem?_eq_getElem->jF9,length_append->jG0,length_map->jG1,length_cons->jG2,cons_append->jG9,mem_cons_self->jHq
open Nat renaming le_refl->jFk
open Go renaming World->jIq,Value->jIz
set_option linter.unusedVariables false
set_option linter.unusedSimpArgs false
def q2z (n:Nat):ByteArray:=⟨(Lib.decDigits n).toArray⟩
def ah.kV:ah->List aj
 | .mk _ _ _ _ _ _ _ li _=>li
inductive Nd where
 | mk (nm tx:ByteArray) (at_:List Pr) (ks:List Nd)
def Nd.nm:Nd->ByteArray
 | .mk n _ _ _=>n
def Nd.tx:Nd->ByteArray
 | .mk _ t _ _=>t
def Nd.at_:Nd->List Pr
 | .mk _ _ a _=>a
def Nd.ks:Nd->List Nd
 | .mk _ _ _ k=>k
mutual
def Nd.d:Nd->D
 | .mk n t a ks=>.st [.str n,.str t,.sl 2 (a.map Pr.d),.sl 4 (Nd.dl ks)]
def Nd.dl:List Nd->List D
 | []=>[]
 | x::l=>x.d::Nd.dl l
end
theorem Nd.jL:∀ (l:List Nd),Nd.dl l=l.map Nd.d
 | []=>by unfold Nd.dl;rfl
 | x::l=>by rw [Nd.dl,Nd.jL l];rfl
def gH (l:List Nd):D:=.sl 4 (l.map Nd.d)
mutual
def Nd.sz:Nd->Nat
 | .mk _ _ _ ks=>1+Nd.aY ks
def Nd.aY:List Nd->Nat
 | []=>0
 | x::l=>x.sz+Nd.aY l
end
def bsS (l:List UInt8):ByteArray:=⟨l.toArray⟩
def jX:ByteArray:=⟨#[105,100]⟩
def dD:ByteArray:=⟨#[99,108,97,115,115]⟩
def oq:ByteArray:=⟨#[109,97,116,104]⟩
def lV:ByteArray:=⟨#[116,105,116,108,101]⟩
def kF:ByteArray:=⟨#[104,114,101,102]⟩
def rF:ByteArray:=⟨#[115,114,99]⟩
def rG:ByteArray:=⟨#[97,108,116]⟩
def Nr:ByteArray:=⟨#[110,111,116,101,114,101,102]⟩
def gT:ByteArray:=⟨#[35,110,111,116,101,45]⟩
def BM:ByteArray:=⟨#[110,111,116,101,45]⟩
def dR:ByteArray:=⟨#[110,111,116,101]⟩
def eU:ByteArray:=⟨#[110,111,116,101,115]⟩
def H9:ByteArray:=⟨#[108,97,110,103,117,97,103,101,45]⟩
def CO:ByteArray:=⟨#[115,116,97,114,116]⟩
def zw:ByteArray:=⟨#[97,108,105,103,110]⟩
def nBr:ByteArray:=⟨#[98,114]⟩
def dO:ByteArray:=⟨#[99,111,100,101]⟩
def Dt:ByteArray:=⟨#[115,112,97,110]⟩
def nEm:ByteArray:=⟨#[101,109]⟩
def ET:ByteArray:=⟨#[115,116,114,111,110,103]⟩
def nS:ByteArray:=⟨#[115]⟩
def nA:ByteArray:=⟨#[97]⟩
def ju1:ByteArray:=⟨#[105,109,103]⟩
def nP:ByteArray:=⟨#[112]⟩
def nH:ByteArray:=⟨#[104]⟩
def Hr:ByteArray:=⟨#[112,114,101]⟩
def jW:ByteArray:=⟨#[100,105,118]⟩
def nHr:ByteArray:=⟨#[104,114]⟩
def rC:ByteArray:=⟨#[98,108,111,99,107,113,117,111,116,101]⟩
def nUl:ByteArray:=⟨#[117,108]⟩
def Xo:ByteArray:=⟨#[111,108]⟩
def nLi:ByteArray:=⟨#[108,105]⟩
def nW:ByteArray:=⟨#[116,97,98,108,101]⟩
def Bn:ByteArray:=⟨#[116,104,101,97,100]⟩
def iY:ByteArray:=⟨#[116,98,111,100,121]⟩
def jU:ByteArray:=⟨#[116,114]⟩
def sj:ByteArray:=⟨#[116,104]⟩
def mO:ByteArray:=⟨#[116,100]⟩
def R9:ByteArray:=⟨#[115,101,99,116,105,111,110]⟩
def jK:ByteArray:=⟨#[104,101,97,100]⟩
def fI:ByteArray:=⟨#[109,101,116,97]⟩
def Fb:ByteArray:=⟨#[116,105,116,108,101]⟩
def jdj:ByteArray:=⟨#[104,116,109,108]⟩
def lQ:ByteArray:=⟨#[98,111,100,121]⟩
def wu:ByteArray:=⟨#[99,104,97,114,115,101,116]⟩
def dL:ByteArray:=⟨#[117,116,102,45,56]⟩
def eY:ByteArray:=⟨#[108,97,110,103]⟩
def jv9:ByteArray:=⟨#[108,101,102,116]⟩
def Yy:ByteArray:=⟨#[99,101,110,116,101,114]⟩
def jp7:ByteArray:=⟨#[114,105,103,104,116]⟩
def Kk:ByteArray:=⟨#[32]⟩
def aH (name:ByteArray) (a:List Pr) (ks:List Nd):Nd:=.mk name ⟨#[]⟩ a ks
def Da (s:ByteArray):Nd:=.mk ⟨#[]⟩ s [] []
def bK (s:ByteArray):List Nd:=if bq s=true then [] else [Da s]
def cO (k v:ByteArray):List Pr:=if bq v=true then [] else [⟨k,v⟩]
def Br:List ByteArray->ByteArray
 | []=>⟨#[]⟩
 | [x]=>x
 | x::y::l=>x++Kk++Br (y::l)
def H7 (l:List ByteArray):List Pr:=if l.isEmpty=true then [] else [⟨dD,Br l⟩]
def eX (a:At) (more:List ByteArray):List Pr:=cO jX a.id++H7 (more++a.cls)
def jG (out:List Nd) (x:Nd):List Nd:=if bq x.nm=true then match out.getLast? with
  | some y=>if bq y.nm=true then out.dropLast++[.mk y.nm (y.tx++x.tx) y.at_ y.ks] else out++[x]
  | none=>out++[x]
 else out++[x]
def BS (l:List Nd):List Nd:=l.foldl jG []
def fO (l:List aj):ByteArray:=bsS (aj.aI l)
mutual
def aj.nd:aj->Nd
 | .mk k t d ti a ar ci ks=>
  if k=2 then Da Kk
  else if k=3 then aH nBr [] []
  else if k=4 then aH dO [] (bK t)
  else if k=5 then aH Dt [⟨dD,oq⟩] (bK t)
  else if k=6 then aH nEm [] (BS (aj.M7 ks))
  else if k=7 then aH ET [] (BS (aj.M7 ks))
  else if k=8 then aH nS [] (BS (aj.M7 ks))
  else if k=9 then aH nA (⟨kF,d⟩::cO lV ti) (BS (aj.M7 ks))
  else if k=10 then aH ju1 (⟨rF,d⟩::⟨rG,fO ks⟩::cO lV ti++eX a []) []
  else if k=11 then aH Dt (eX a []) (BS (aj.M7 ks))
  else if k=12 then aH nA [⟨kF,gT++t⟩,⟨dD,Nr⟩] (bK t)
  else if k=16 then aH nA [⟨kF,d⟩] (bK d)
  else Da t
def aj.M7:List aj->List Nd
 | []=>[]
 | x::l=>x.nd::aj.M7 l
end
def dV (l:List aj):List Nd:=BS (aj.M7 l)
theorem pF:∀ (l:List aj),aj.M7 l=l.map aj.nd
 | []=>by rw [aj.M7];rfl
 | x::l=>by rw [aj.M7,pF l];rfl
def gQ (c:UInt8):ByteArray:=if c=108 then jv9 else if c=99 then Yy else if c=114 then jp7 else ⟨#[]⟩
def jd0 (name:ByteArray) (c:UInt8) (b:ah):Nd:=aH name (cO zw (gQ c)) (dV b.kV)
def ah.kids:ah->List ah
 | .mk _ _ _ _ _ _ _ _ ks=>ks
def iq (name:ByteArray):List UInt8->List ah->List Nd
 | c::cs,b::l=>jd0 name c b::iq name cs l
 | _,_=>[]
def fE (name i:ByteArray) (b:ah):Nd:=aH jU [] (iq name i.data.toList b.kids)
def BJ (i:ByteArray):List ah->Nd
 | []=>aH nW [] [aH Bn [] []]
 | h::rows=>aH nW [] (aH Bn [] [fE sj i h]::if rows.isEmpty=true then [] else [aH iY [] (rows.map (fE mO i))])
mutual
def ah.mQ:ah->List Nd
 | .mk k lv i t d ti a li ks=>
  if k=1 then [aH nP [] (dV li)]
  else if k=2 then [aH (nH++q2z lv.toNat) (eX a []) (dV li)]
  else if k=3 then [aH Hr [] [aH dO (cO dD (if bq i=true then ⟨#[]⟩ else H9++i)) (bK t)]]
  else if k=4 then [aH jW (eX a [oq]) (bK t)]
  else if k=5 then [aH nHr [] []]
  else if k=6 then [aH rC [] (ah.aZ ks)]
  else if k=7 then [aH nUl [] (ah.aZ ks)]
  else if k=8 then [aH Xo (if lv=1 then [] else [⟨CO,q2z lv.toNat⟩]) (ah.aZ ks)]
  else if k=9 then [aH nLi [] (ah.aZ ks)]
  else if k=10 then [BJ i ks]
  else if k=13 then [aH jW (eX a [i]) (ah.aZ ks)]
  else []
def ah.aZ:List ah->List Nd
 | []=>[]
 | x::l=>x.mQ++ah.aZ l
end
theorem Dw:∀ (l:List ah) (k:Nat) (x:ah),l[k]?=some x->ah.aZ (l.take (k+1))=ah.aZ (l.take k)++x.mQ
 | [],_,_,h=>by simp at h
 | y::l,0,x,h=>by
  simp at h;subst h;simp [ah.aZ]
 | y::l,k+1,x,h=>by
  rw [List.take_succ_cons,List.take_succ_cons,ah.aZ,ah.aZ,Dw l k x (by simpa using h),List.append_assoc]
def eB (x:aj):Bool:=match x with
 | .mk k t _ _ _ _ _ _=>decide (k=15)||decide (k=13)||decide (k=14)||((decide (k=9)||decide (k=10))&&!bq t)
def jH (l:List aj):Bool:=(aj.aS l).any eB
def qH (b:ah):List Nd:=match b with
 | .mk k _ i _ _ _ _ _ ks=>if k=14 then [aH jW [⟨jX,BM++i⟩,⟨dD,dR⟩] (ah.aZ ks)] else []
def oz (l:List ah):List Nd:=(ah.aV l).flatMap qH
def fZ (l:List ah):List Nd:=ah.aZ l++if (oz l).isEmpty=true then [] else [aH R9 [⟨dD,eU⟩] (oz l)]
def zO (title lang:ByteArray) (body:List Nd):Nd:=
 aH jdj [⟨eY,lang⟩] [aH jK [] [aH fI [⟨wu,dL⟩] [],aH Fb [] (bK title)],aH lQ [] body]
def eH (p:List Nd × ByteArray) (x:Nd):List Nd × ByteArray:=if bq x.nm=true then (p.1,p.2++x.tx) else (p.1++bK p.2++[x],⟨#[]⟩)
def iw (l:List Nd):List Nd × ByteArray:=l.foldl eH ([],⟨#[]⟩)
def Uo (l:List Nd):Prop:=∀ y,l.getLast?=some y->bq y.nm=false
def Nd.full (x:Nd):Prop:=bq x.nm=true->x=Da x.tx/\bq x.tx=false
theorem Ij {s:ByteArray} (h:bq s=true):s=⟨#[]⟩:=by unfold bq at h;have:=of_decide_eq_true h;exact ByteArray.ext (Array.toList_inj.1 (by simpa using this))
theorem pK (a b:ByteArray):bq (a++b)=(bq a&&bq b):=by unfold bq;rw [show (a++b).data.toList=a.data.toList++b.data.toList by simp [ByteArray.data_append]];simp [Bool.decide_and]
theorem zU:∀ (l:List Nd) (out:List Nd) (acc:ByteArray),(∀ x∈l,x.full)->Uo out->Uo (l.foldl eH (out,acc)).1/\l.foldl jG (out++bK acc)=(l.foldl eH (out,acc)).1++bK (l.foldl eH (out,acc)).2
 | [],out,acc,_,ho=>⟨ho,rfl⟩
 | x::l,out,acc,h,ho=>by
  have hl:=fun y hy=>h y (List.mem_cons_of_mem _ hy)
  have hx:=h x (jHq ..);rw [List.foldl_cons,List.foldl_cons];by_cases hn:bq x.nm=true
  ·obtain ⟨e1,e2⟩:=hx hn;have e3:eH (out,acc) x=(out,acc++x.tx):=by unfold eH;rw [if_pos hn]
   have e4:jG (out++bK acc) x=out++bK (acc++x.tx):=by
    unfold jG;rw [if_pos hn];have e5:bq (acc++x.tx)=false:=by rw [pK,e2,Bool.and_false]
    have e6:bK (acc++x.tx)=[Da (acc++x.tx)]:=by unfold bK;rw [if_neg (by rw [e5];simp)]
    rw [e6];by_cases ha:bq acc=true
    ·have e7:bK acc=[]:=by unfold bK;rw [if_pos ha]
     rw [e7,List.append_nil];have e8:acc++x.tx=x.tx:=by rw [Ij ha];apply ByteArray.ext;simp [ByteArray.data_append]
     rw [e8];cases hg:out.getLast? with
     | none=>simp only;rw [e1];rfl
     | some y=>simp only;rw [if_neg (by rw [ho y hg];simp),e1];rfl
    ·have e7:bK acc=[Da acc]:=by unfold bK;rw [if_neg ha]
     rw [e7,List.getLast?_append];simp only [List.getLast?_singleton,Option.some_or];have e9:bq (Da acc).nm=true:=rfl;rw [if_pos e9,List.dropLast_concat];rfl
   rw [e3,e4];exact zU l out _ hl ho
  ·have e3:eH (out,acc) x=(out++bK acc++[x],⟨#[]⟩):=by unfold eH;rw [if_neg hn]
   have e4:jG (out++bK acc) x=(out++bK acc++[x])++bK ⟨#[]⟩:=by unfold jG;rw [if_neg hn];have:bK ⟨#[]⟩=[]:=rfl;rw [this,List.append_nil]
   rw [e3,e4];refine zU l _ _ hl ?_;intro y hy;rw [List.getLast?_append] at hy;simp at hy;subst hy;simpa using hn
theorem Px (l:List Nd) (h:∀ x∈l,x.full):BS l=(iw l).1++bK (iw l).2:=
 (zU l [] ⟨#[]⟩ h (fun y hy=>by simp at hy)).2
theorem Km (l:List Nd) (x:Nd):iw (l++[x])=eH (iw l) x:=by unfold iw;rw [List.foldl_append];rfl
open Go.RowKit Go.Shelf
attribute [local go_sem] Oper.semAt_some
theorem Py (W:jIq):W.grownBy W.drew none:=⟨rfl,rfl,rfl,jFk _,fun _ _ _=>rfl⟩
theorem Uq (n l Bl B0:Nat) (P:ah->Prop) (bs:List ah) (v:jIz) (w0:jIq) (Kp:jIq->jIq->Prop) (hK:Ur B0 Kp) (J Jx:List (BW B0 w0 P)->jIq->Prop) (W:jIq) (hJ:AbidesFrom W.heap.size J) (hY:∀ (m:Nat) (pre:List (BW B0 w0 P)) (x:BW B0 w0 P) (W1:jIq),J pre W1->pre.length<(ah.aV bs).length->YieldAt Fence.wide m Tryz.prog l #[x.1.enc] W1 fun e W'=> (e=.returned (.bool true)/\J (pre++[x]) W'/\Kp W1 W')\/(e=.returned (.bool false)/\Jx (pre++[x]) W')) (hPb:∀ b∈ah.aV bs,P b) (hrd:Rd (·<B0) w0 (lu bs) [v]) (hbel:Below B0 w0 W) (hB0:B0<=W.heap.size) (hBl:aJ Bl v 23 W) (h0:J [] W) : CallsIn Fence.wide n Tryz.prog 64 #[.func (.yield l) #[] #[],.pointer (some ⟨Bl,0,none⟩)] W fun e W'=>(∃ v,e=.returned v) /\ ((∃ xs,xR xs=ah.aV bs/\J xs W')\/(∃ pre,xR pre <+: ah.aV bs/\Jx pre W')):=by
 obtain ⟨va,vn,vc,rfl⟩:=Rd.au hrd;have hdd:∀ k:Nat,(Fence.wide.depth.isSome=true->1<=k):=fun k h=>by cases h
 have HC:Hid (∀ (m:Nat) (w2:jIq),Below B0 w0 w2->EB l W.heap.size (W.heap.size+1) w2->J [] w2->_):=fun m w2 h1 h2 h3=>
  Pz l B0 W.heap.size (W.heap.size+1) (ah.aV bs).length P w0 Kp hK J Jx (fun pre W1 h=>hJ pre W1 W1.drew none h (Py W1) (fun r e=>by cases e)) hY (ah.aY bs) m bs (.slice va vn vc) [] w2 (jFk _) hPb hrd h1 h2 h3 (by simp)
 have HJ:=hid hJ;have HB:=hid hBl;have iV:=hid hbel;have H0:=hid h0;obtain ⟨p,hp⟩:∃ p,p=W.heap.size:=⟨_,rfl⟩;rw [<- hp] at HC;clear hK hY hrd hbel hBl h0 hJ;refine callsIn_of_wp Tryz.func64 rfl trivial ?_ rfl;simp only [Tryz.ntmps64,List.size_toArray,jG2,List.length_nil,Nat.reduceAdd,Nat.reduceSub,Array.replicate_succ,Array.replicate_zero,List.push_toArray,List.append_toArray,List.nil_append,jG9]
 gi_upto_region 2 with (fail)
 obtain ⟨wA,iH⟩:∃ wA,wA=(W.alloc (.cells #[.func (.yield l) #[] #[]] 106)).alloc (.cells #[.nilFunc] 107):=⟨_,rfl⟩;have b0:aJ p (.func (.yield l) #[] #[]) 106 wA:=by rw [iH,hp];exact (aJ.new W _ _).alloc _
 have b1:aJ (p+1) .nilFunc 107 wA:=by
  rw [iH,hp];have:=aJ.new (W.alloc (.cells #[.func (.yield l) #[] #[]] 106)) .nilFunc 107
  rwa [World.size_alloc] at this
 have gA:Below p W wA:=by rw [iH,hp];exact ((Below.refl _ _).alloc (jFk _) _).alloc (by simp) _
 rw [<- iH,<- hp];rw [<- hp] at hB0;have HP:=hid hp;clear iH hp;have c1:=b1.cell;have f1:=b1.free
 gi_upto_region 3 with (fail)
 obtain ⟨wB,Ic⟩:∃ wB,wB=wA.setCell ⟨p+1,0,none⟩ (DJ p (p+1)):=⟨_,rfl⟩;have d0:aJ p (.func (.yield l) #[] #[]) 106 wB:=by rw [Ic];exact b0.far (by omega) _
 have d1:aJ (p+1) (DJ p (p+1)) 107 wB:=by rw [Ic];exact b1.set _
 have gB:Below p W wB:=by rw [Ic];exact gA.setCell (p:=⟨p+1,0,none⟩) (by show p<=p+1;omega) _
 have cl:wB.cell? ⟨Bl,0,none⟩=some (.slice va vn vc):=(HB.out.below (by have:=HB.out.lt;rw [HP.out];exact this) gB).cell;have c2:=d1.cell;have HD:=hid (HC.out (n-1) wB (iV.out.trans (gB.mono hB0)) ⟨d0,d1⟩ (HJ.out [] W wB none H0.out ⟨gB.os,gB.tape,gB.output,gB.size,fun k hk _=>gB.block k (by rw [HP.out];exact hk)⟩ (fun r e=>by cases e)));unfold DJ at Ic c2;rw [<- Ic];clear Ic b0 b1 gA c1 f1 d0 d1 gB
 gi_wp2_with (first
  | (refine ⟨trivial,hdd _,?_⟩;refine HD.out.mono ?_;clear HD;rintro e W1 (⟨rfl,q,hq,Yz,hb1,hE1⟩ | ⟨rfl,q,hq,hx1⟩))
  | (refine HD.out.mono ?_;clear HD;rintro e W1 (⟨rfl,q,hq,Yz,hb1,hE1⟩ | ⟨rfl,q,hq,hx1⟩)))
 ·go_end0
  exact ⟨⟨_,rfl⟩,.inl ⟨q,hq,by simpa using Yz⟩⟩
 ·go_end0
  exact ⟨⟨_,rfl⟩,.inr ⟨q,hq,by simpa using hx1⟩⟩
theorem Lc (n Bl B0:Nat) (P:ah->Prop) (bs:List ah) (v:jIz) (w0 w:jIq) (Kp:jIq->jIq->Prop) (hK:Ur B0 Kp) (hPb:∀ b∈ah.aV bs,P b) (hrd:Rd (·<B0) w0 (lu bs) [v]) (hbel:Below B0 w0 w) (hB0:B0<=w.heap.size) (hBl:aJ Bl v 23 w) : SeqStopsK Fence.wide n Tryz.prog 64 #[.pointer (some ⟨Bl,0,none⟩)] (fun x:BW B0 w0 P=>#[x.1.enc]) Kp (fun xs=>xR xs=ah.aV bs) (fun pre=>xR pre <+: ah.aV bs) (ah.aV bs).length w:=fun l J Jx W hW hJ hJx hY h0=>
 Uq n l Bl B0 P bs v w0 Kp hK J Jx W hJ (fun m pre x W1 hj hl=>Us rfl m (hY pre x W1 hj hl)) hPb hrd (hbel.trans (hW.mono hB0)) (Nat.le_trans hB0 hW.size) (hBl.below hBl.lt hW) h0
theorem Ut (va:Option Addr) (vn vc:Nat) (w:jIq):Calls Tryz.prog 32 #[.slice va vn vc] w fun e w'=>e=.returned (.func (.func 64) #[] #[.pointer (some ⟨w.heap.size,0,none⟩)])/\w'=w.alloc (.cells #[.slice va vn vc] 23):=by go_enter Tryz.func32,Tryz.ntmps32;go_wp2;go_ret;exact ⟨rfl,rfl⟩
mutual
theorem aj.Uu:∀ (x:aj),x.small->x.plain.length<=300*x.sz
 | .mk k t d ti a ar ci ks,h=>by
  unfold aj.small at h;obtain ⟨h1,h2,h3,h4,h5,h6,h7,h8,h9⟩:=h;have hk:=aj.pI ks h9;have e1:t.data.toList.length=t.size:=by rw [Array.length_toList];rfl
  have e2:d.data.toList.length=d.size:=by rw [Array.length_toList];rfl
  rw [aj.plain,aj.sz];split
  ·omega
  ·split
   ·simp;omega
   ·split
    ·omega
    ·split
     ·omega
     ·simp
theorem aj.pI:∀ (l:List aj),aj.aC l->(aj.aI l).length<=300*aj.aY l
 | [],_=>by rw [aj.aI];simp
 | x::l,h=>by
  unfold aj.aC at h;rw [aj.aI,aj.aY,jG0];have:=aj.Uu x h.1;have:=aj.pI l h.2;omega
end
mutual
theorem aj.Uv:∀ (x:aj),x.small->x.bd
 | .mk k t d ti a ar ci ks,h=>by
  unfold aj.small at h;obtain ⟨h1,h2,h3,h4,h5,h6,h7,h8,h9⟩:=h;unfold At.short at h4;have hk:=aj.kW ks h9;unfold aj.bd;exact ⟨by omega,by omega,by omega,by omega,hk⟩
theorem aj.kW:∀ (l:List aj),aj.aC l->aj.uG l
 | [],_=>by unfold aj.uG;trivial
 | x::l,h=>by
  unfold aj.aC at h;unfold aj.uG;exact ⟨aj.Uv x h.1,aj.kW l h.2⟩
end
mutual
theorem ah.Uv:∀ (x:ah),x.small->x.bd
 | .mk k lv i t d ti a li ks,h=>by
  unfold ah.small at h;obtain ⟨h1,h2,h3,h4,h5,h6,h7,h8⟩:=h;unfold At.short at h5;have hk:=ah.kW ks h8;unfold ah.bd;exact ⟨by omega,by omega,aj.kW li h6,by omega,hk⟩
theorem ah.kW:∀ (l:List ah),ah.aC l->ah.uG l
 | [],_=>by unfold ah.uG;trivial
 | x::l,h=>by
  unfold ah.aC at h;unfold ah.uG;exact ⟨ah.Uv x h.1,ah.kW l h.2⟩
end
mutual
theorem ah.jp8:∀ (x:ah),x.sz+x.inls.length=x.all
 | .mk k lv i t d ti a li ks=>by
  have:=ah.Fe ks;have h2:=aj.fU li;rw [ah.sz,ah.inls,ah.all,jG0,h2];omega
theorem ah.Fe:∀ (l:List ah),ah.aY l+(ah.aR l).length=ah.bX l
 | []=>by rw [ah.aY,ah.aR,ah.bX];rfl
 | x::l=>by
  have:=ah.jp8 x;have:=ah.Fe l;rw [ah.aY,ah.aR,ah.bX,jG0];omega
end
mutual
theorem ah.Ld:∀ (x:ah),x.small->∀ b∈x.each,b.small
 | .mk k lv i t d ti a li ks,h,b,hb=>by
  rw [ah.each] at hb;rcases List.mem_cons.1 hb with rfl | hb
  ·exact h
  ·unfold ah.small at h;exact ah.iU ks h.2.2.2.2.2.2.2 b hb
theorem ah.iU:∀ (l:List ah),ah.aC l->∀ b∈ah.aV l,b.small
 | [],_,b,hb=>by rw [ah.aV] at hb;simp at hb
 | x::l,h,b,hb=>by
  unfold ah.aC at h;rw [ah.aV] at hb;rcases List.mem_append.1 hb with hb | hb
  ·exact ah.Ld x h.1 b hb
  ·exact ah.iU l h.2 b hb
end
section
variable {P:Int->ByteArray->Prop}
end
mutual
def aj.ok:aj->Prop
 | .mk k t d ti a ar ci ks=>oV 0 false false k t d ti a ar ci ks=0/\k≠2/\k≠3/\aj.okL 0 ks
def aj.okL (b:Int):List aj->Prop
 | []=>True
 | x::l=>x.ok/\¬ (b=x.kd/\(b=1\/b=4))/\aj.okL x.kd l
end
mutual
def aj.src:aj->Prop
 | .mk k t d ti a ar ci ks=>oV 0 false false k t d ti a ar ci ks=0/\aj.Fp ks
def aj.Fp:List aj->Prop
 | []=>True
 | x::l=>x.src/\aj.Fp l
end
theorem YA {before k:Int} {first last:Bool} {t d ti:ByteArray} {a:At} {ar:List ByteArray} {ci:List Ci} {ks:List aj} (h:oV before first last k t d ti a ar ci ks=0) : oV 0 false false k t d ti a ar ci ks=0:=by
 unfold oV at h ⊢;by_cases h0:yH k t d ti a ar ci ks=false
 ·rw [if_pos h0] at h;cases h
 rw [if_neg h0] at h ⊢;by_cases h1:k=1\/k=4\/k=5
 ·rw [if_pos h1] at h ⊢;by_cases h4:bq t=true\/dG t=false
  ·rw [if_pos h4] at h;cases h
  ·rw [if_neg h4,if_neg (by omega)]
 rw [if_neg h1] at h ⊢;by_cases h2:k=2
 ·rw [if_pos h2,if_neg (by simp)]
 rw [if_neg h2] at h ⊢;by_cases h3:k=3
 ·rw [if_pos h3,if_neg (by simp)]
 rw [if_neg h3] at h ⊢;exact h
mutual
theorem aj.YB:∀ (x:aj) (before:Int) (first last:Bool) (dp:Nat),x.err before first last dp=0->x.src
 | .mk k t d ti a ar ci ks,before,first,last,dp,h=>by
  rw [aj.err] at h;rw [aj.src];by_cases h1:oV before first last k t d ti a ar ci ks=0
  ·rw [if_neg (by simp [h1])] at h;exact ⟨YA h1,aj.tC ks _ _ _ h⟩
  ·rw [if_pos h1] at h;exact absurd h h1
theorem aj.tC:∀ (l:List aj) (before:Int) (st:Bool) (dp:Nat),aj.aT before st dp l=0->aj.Fp l
 | [],_,_,_,_=>by rw [aj.Fp];trivial
 | x::l,before,st,dp,h=>by
  rw [aj.aT] at h;rw [aj.Fp];split at h
  ·cases h
  ·split at h
   ·rename_i h2;exact absurd h h2
   ·rename_i h2
    exact ⟨aj.YB x _ _ _ dp (Classical.not_not.1 h2),aj.tC l _ _ dp h⟩
end
mutual
def aj.tf:aj->Prop
 | .mk k t d ti a ar ci ks=>(k<2\/(12<k/\k<16)\/16<k->bq t=false)/\aj.Ko ks
def aj.Ko:List aj->Prop
 | []=>True
 | x::l=>x.tf/\aj.Ko l
end
theorem Uw (n:ByteArray) (a:List Pr) (ks:List Nd) (h:bq n=false):(aH n a ks).full:=fun e=>by
 have:bq n=true:=e;rw [h] at this;cases this
theorem Ik (s:ByteArray) (h:bq s=false):(Da s).full:=fun _=>⟨rfl,h⟩
theorem YC:∀ (x:aj),x.tf->x.nd.full
 | .mk k t d ti a ar ci ks,h=>by
  rw [aj.tf] at h;rw [aj.nd];by_cases h2:k=2
  ·rw [if_pos h2];exact Ik _ rfl
  rw [if_neg h2];by_cases h3:k=3
  ·rw [if_pos h3];exact Uw _ _ _ rfl
  rw [if_neg h3];by_cases h4:k=4
  ·rw [if_pos h4];exact Uw _ _ _ rfl
  rw [if_neg h4];by_cases h5:k=5
  ·rw [if_pos h5];exact Uw _ _ _ rfl
  rw [if_neg h5];by_cases h6:k=6
  ·rw [if_pos h6];exact Uw _ _ _ rfl
  rw [if_neg h6];by_cases h7:k=7
  ·rw [if_pos h7];exact Uw _ _ _ rfl
  rw [if_neg h7];by_cases h8:k=8
  ·rw [if_pos h8];exact Uw _ _ _ rfl
  rw [if_neg h8];by_cases h9:k=9
  ·rw [if_pos h9];exact Uw _ _ _ rfl
  rw [if_neg h9];by_cases h10:k=10
  ·rw [if_pos h10];exact Uw _ _ _ rfl
  rw [if_neg h10];by_cases h11:k=11
  ·rw [if_pos h11];exact Uw _ _ _ rfl
  rw [if_neg h11];by_cases h12:k=12
  ·rw [if_pos h12];exact Uw _ _ _ rfl
  rw [if_neg h12];by_cases h16:k=16
  ·rw [if_pos h16];exact Uw _ _ _ rfl
  rw [if_neg h16];exact Ik _ (h.1 (by omega))
theorem EJ:∀ (l:List aj),aj.Ko l->∀ x∈l,x.tf
 | [],_,x,hx=>by cases hx
 | y::l,h,x,hx=>by
  rw [aj.Ko] at h;rcases List.mem_cons.1 hx with rfl | hx
  ·exact h.1
  ·exact EJ l h.2 x hx
theorem G6 (l:List aj) (h:aj.Ko l):∀ x∈aj.M7 l,x.full:=by intro x hx;rw [pF] at hx;obtain ⟨y,hy,rfl⟩:=List.mem_map.1 hx;exact YC y (EJ l h y hy)
theorem Si (l:List aj) (h:aj.Ko l):dV l=(iw (aj.M7 l)).1++bK (iw (aj.M7 l)).2:=Px _ (G6 l h)
theorem Le {k:Int} {t d ti:ByteArray} {a:At} {ar:List ByteArray} {ci:List Ci} {ks:List aj} (h:yH k t d ti a ar ci ks=true):1<=k/\k<=16:=by unfold yH at h;simp only [Bool.and_eq_true,decide_eq_true_eq] at h;omega
mutual
theorem jp9:∀ (x:aj),x.src->x.deep.any eB=false->x.tf
 | .mk k t d ti a ar ci ks,h,hu=>by
  rw [aj.src] at h;rw [aj.deep,List.any_cons,Bool.or_eq_false_iff] at hu;rw [aj.tf];refine ⟨fun hk=>?_,Fq ks h.2 hu.2⟩;have h1:=h.1;unfold oV at h1;split at h1
  ·cases h1
  ·rename_i h0
   have hf:=Le (by simpa using h0);have hu1:=hu.1;unfold eB at hu1;simp only [Bool.or_eq_false_iff,decide_eq_false_iff_not] at hu1;have hk1:k=1:=by omega
   rw [if_pos (.inl hk1)] at h1;split at h1
   ·cases h1
   ·rename_i h2
    cases h3:bq t
    ·rfl
    ·exact absurd (.inl h3) h2
theorem Fq:∀ (l:List aj),aj.Fp l->(aj.aS l).any eB=false->aj.Ko l
 | [],_,_=>by rw [aj.Ko];trivial
 | x::l,h,hu=>by
  rw [aj.Fp] at h;rw [aj.aS,List.any_append,Bool.or_eq_false_iff] at hu;rw [aj.Ko];exact ⟨jp9 x h.1 hu.1,Fq l h.2 hu.2⟩
end
theorem Fu (l:List aj) (h:pO l=0) (hu:jH l=false):aj.Ko l:=Fq l (aj.tC l 0 true 0 h) hu
mutual
def ah.bJ:ah->List aj
 | .mk _ _ _ _ _ _ _ li ks=>aj.aS li++ah.dQ ks
def ah.dQ:List ah->List aj
 | []=>[]
 | x::l=>x.bJ++ah.dQ l
end
mutual
def ah.hok:ah->Prop
 | .mk k lv i t d ti a li ks=>aj.Ko li/\(k=2\/k=8->0<=lv/\lv<=999999999)/\(k=10->ks≠[]/\∀ r∈ks,r.kids.length=i.size)/\(∀ c∈a.cls,bq c=false)/\(k=13->bq i=false)/\ah.Ux ks
def ah.Ux:List ah->Prop
 | []=>True
 | x::l=>x.hok/\ah.Ux l
end
theorem NK (s:ByteArray) (h:dU s=true):bq s=false:=by
 unfold dU at h;simp only [Bool.and_eq_true,decide_eq_true_eq] at h;unfold bq;refine decide_eq_false fun e=>?_
 have h1:s.data.toList.length=s.size:=by simp
 rw [e] at h1;simp at h1;omega
theorem Uy:∀ (l seen:List ByteArray),uI seen l=0->∀ c∈l,bq c=false
 | [],_,_,c,hc=>by cases hc
 | x::l,seen,h,c,hc=>by
  rw [uI] at h;split at h
  ·cases h
  ·rename_i h1
   split at h
   ·cases h
   ·rcases List.mem_cons.1 hc with rfl | hc
    ·exact NK _ (by simpa using h1)
    ·exact Uy l _ h c hc
theorem tF (a:At) (h:a.err=0):∀ c∈a.cls,bq c=false:=by
 unfold At.err at h;split at h
 ·cases h
 ·split at h
  ·rename_i h1;exact absurd h h1
  ·rename_i h1
   exact Uy a.cls [] (Classical.not_not.1 h1)
theorem Il (a:At) (h:a.none=true):∀ c∈a.cls,bq c=false:=by
 unfold At.none at h;simp only [Bool.and_eq_true] at h;have h1:a.cls=[]:=by simpa using h.1.2
 rw [h1];intro c hc;cases hc
theorem jdk{P:Prop}(h:P:=by
 split at h2
 ·cases h2
 ·split at h2
  ·rename_i h3;exact absurd h2 h3
  ·split at h2
   ·cases h2
   ·exact h2):P:=h
mutual
theorem ah.NP (cl:ByteArray->Bool):∀ (b:ah) (par:Int) (dp:Nat),b.err cl par dp=0->(b.bJ).any eB=false->b.hok
 | .mk k lv i t d ti a li ks,par,dp,h,hu=>by
  rw [ah.err] at h;rw [ah.bJ,List.any_append,Bool.or_eq_false_iff] at hu;rw [ah.hok];split at h
  ·cases h
  ·split at h
   ·cases h
   ·rename_i hb
    split at h
    ·rename_i h1;exact absurd h h1
    ·rename_i h1
     have h2:=Classical.not_not.1 h1;have hbf:yJ k lv i t d ti a li ks=true:=by
      cases hx:yJ k lv i t d ti a li ks
      ·exact absurd (.inl hx) hb
      ·rfl
     unfold yJ at hbf;simp only [Bool.and_eq_true,decide_eq_true_eq] at hbf;obtain ⟨⟨⟨⟨⟨⟨⟨⟨b1,b2⟩,b3⟩,b4⟩,b5⟩,b6⟩,b7⟩,b8⟩,b9⟩:=hbf;have yh:=ah.Im cl ks k (dp+1) h hu.2;have hli:pO li=0:=by
      by_cases c1:k=1
      ·unfold qX at h2;rw [if_pos c1] at h2;split at h2
       ·cases h2
       ·exact h2
      by_cases c2:k=2
      ·unfold qX at h2;rw [if_neg c1,if_pos c2] at h2;exact jdk
      by_cases c3:k=12
      ·unfold qX at h2;rw [if_neg c1,if_neg c2,if_pos c3] at h2;split at h2
       ·cases h2
       ·exact h2
      ·have:li=[]:=by
        rw [Bool.or_eq_true] at b8;rcases b8 with b8 | b8
        ·simp at b8;omega
        ·simpa using b8
       rw [this];unfold pO;rw [aj.aT]
     refine ⟨Fu li hli hu.1,?_,?_,?_,?_,yh⟩
     ·intro hk;rcases hk with rfl | rfl
      ·unfold qX at h2;rw [if_neg (by decide),if_pos rfl] at h2;split at h2
       ·cases h2
       ·omega
      ·unfold qX at h2;rw [if_neg (by decide),if_neg (by decide),if_neg (by decide),if_neg (by decide),if_neg (by decide),if_pos (.inr rfl)] at h2;split at h2
       ·cases h2
       ·split at h2
        ·cases h2
        ·rename_i h4
         constructor<;>(rcases Classical.em (lv<0) with h5 | h5<;>rcases Classical.em (999999999<lv) with h6 | h6<;>first | omega | exact absurd ⟨rfl,.inl h5⟩ h4 | exact absurd ⟨rfl,.inr h6⟩ h4)
     ·rintro rfl;unfold qX at h2;rw [if_neg (by decide),if_neg (by decide),if_neg (by decide),if_neg (by decide),if_neg (by decide),if_neg (by decide),if_pos rfl] at h2;unfold QT at h2;split at h2
      ·cases h2
      ·split at h2
       ·cases h2
       ·split at h2
        ·cases h2
        ·split at h2
         ·cases h2
         ·rename_i h5
          split at h2
          ·cases h2
          ·rename_i h6
           refine ⟨fun e=>h5 (by rw [e];rfl),fun r hr=>?_⟩;have h7:ks.any (fun b=>!decide (b.oC=i.size))=false:=by simpa using h6
           rw [List.any_eq_false] at h7;have h8:=h7 r hr;have h9:decide (r.oC=i.size)=true:=by
            cases hx:decide (r.oC=i.size)
            ·rw [hx] at h8;exact absurd rfl h8
            ·rfl
           have h10:=of_decide_eq_true h9;cases r
           exact h10
     ·by_cases c2:k=2
      ·unfold qX at h2;rw [if_neg (by omega),if_pos c2] at h2;split at h2
       ·cases h2
       ·split at h2
        ·rename_i h3;exact absurd h2 h3
        ·rename_i h3;exact tF a (Classical.not_not.1 h3)
      by_cases c4:k=4
      ·unfold qX at h2;rw [if_neg (by omega),if_neg c2,if_neg (by omega),if_neg (by omega),if_pos c4] at h2;split at h2
       ·cases h2
       ·split at h2
        ·cases h2
        ·exact tF a h2
      by_cases c13:k=13
      ·unfold qX at h2;rw [if_neg (by omega),if_neg c2,if_neg (by omega),if_neg (by omega),if_neg c4,if_neg (by omega),if_neg (by omega),if_pos (.inl c13)] at h2;split at h2
       ·cases h2
       ·exact tF a h2
      ·rw [Bool.or_eq_true] at b7;rcases b7 with b7 | b7
       ·simp at b7;omega
       ·exact Il a b7
     ·rintro rfl;unfold qX at h2;rw [if_neg (by decide),if_neg (by decide),if_neg (by decide),if_neg (by decide),if_neg (by decide),if_neg (by decide),if_neg (by decide),if_pos (.inl rfl)] at h2;split at h2
      ·cases h2
      ·rename_i h3;exact NK i (by simpa using h3)
theorem ah.Im (cl:ByteArray->Bool):∀ (l:List ah) (par:Int) (dp:Nat),ah.aT cl par dp l=0->(ah.dQ l).any eB=false->ah.Ux l
 | [],_,_,_,_=>by rw [ah.Ux];trivial
 | x::l,par,dp,h,hu=>by
  rw [ah.aT] at h;rw [ah.dQ,List.any_append,Bool.or_eq_false_iff] at hu;rw [ah.Ux];split at h
  ·rename_i h1;exact absurd h h1
  ·rename_i h1
   exact ⟨ah.NP cl x par dp (Classical.not_not.1 h1) hu.1,ah.Im cl l par dp h hu.2⟩
end
mutual
def Nd.vals (key:ByteArray):Nd->List ByteArray
 | .mk n _ a ks=>if bq n=true then [] else ((a.filter fun p=>decide (p.key=key)).map (·.val))++Nd.dI key ks
def Nd.dI (key:ByteArray):List Nd->List ByteArray
 | []=>[]
 | x::l=>x.vals key++Nd.dI key l
end
theorem Dy (key:ByteArray) (l m:List Nd):Nd.dI key (l++m)=Nd.dI key l++Nd.dI key m:=by
 induction l with
 | nil=>rw [Nd.dI];rfl
 | cons x l ih=>rw [jG9,Nd.dI,Nd.dI,ih,List.append_assoc]
def ah.kOf:ah->Int
 | .mk k _ _ _ _ _ _ _ _=>k
def ah.iOf:ah->ByteArray
 | .mk _ _ i _ _ _ _ _ _=>i
theorem DK (cl:ByteArray->Bool):∀ (l:List ah) (par:Int) (dp:Nat),ah.aT cl par dp l=0->∀ x∈l,dX x.kOf par=true/\∃ dp',x.err cl par dp'=0
 | [],_,_,_,x,hx=>by cases hx
 | b::l,par,dp,h,x,hx=>by
  rw [ah.aT] at h;split at h
  ·rename_i h1;exact absurd h h1
  ·rename_i h1
   rcases List.mem_cons.1 hx with rfl | hx
   ·have h2:=Classical.not_not.1 h1;refine ⟨?_,dp,h2⟩;obtain ⟨k,lv,i,t,d,ti,a,li,ks⟩:=x;rw [ah.err] at h2;split at h2
    ·cases h2
    ·split at h2
     ·cases h2
     ·rename_i h3
      show dX k par=true;cases h4:dX k par
      ·exact absurd (.inr h4) h3
      ·rfl
   ·exact DK cl l par dp h x hx
theorem Tv (n m:Nat) (h:n<10 ^ (m+1)):(Lib.decDigits n).length<=m+1:=by
 induction m generalizing n with
 | zero=>
  rw [Lib.decDigits,dif_pos (by simpa using h)];simp
 | succ m ih=>
  rw [Lib.decDigits];split
  ·simp
  ·rw [jG0,List.length_singleton];have:=ih (n/10) (by
    rw [Nat.div_lt_iff_lt_mul (by decide)];have e:10 ^ (m+1+1)=10 ^ (m+1)*10:=Nat.pow_succ ..;omega)
   omega
theorem gy (cl:ByteArray->Bool) {k lv:Int} {i t d ti:ByteArray} {a:At} {li:List aj} {ks:List ah} {par:Int} {dp:Nat} (h:(ah.mk k lv i t d ti a li ks).err cl par dp=0) : qX cl k lv i t d ti a li ks=0/\yJ k lv i t d ti a li ks=true/\ah.aT cl k (dp+1) ks=0:=by
 rw [ah.err] at h;split at h
 ·cases h
 ·split at h
  ·cases h
  ·rename_i hb
   split at h
   ·rename_i h1;exact absurd h h1
   ·rename_i h1
    refine ⟨Classical.not_not.1 h1,?_,h⟩;cases hx:yJ k lv i t d ti a li ks
    ·exact absurd (.inl hx) hb
    ·rfl
theorem zV (cl:ByteArray->Bool) {k lv:Int} {i t d ti:ByteArray} {a:At} {li:List aj} {ks:List ah} (h2:qX cl k lv i t d ti a li ks=0) (hbf:yJ k lv i t d ti a li ks=true):pO li=0:=by
 unfold qX at h2;by_cases c1:k=1
 ·rw [if_pos c1] at h2;split at h2
  ·cases h2
  ·exact h2
 rw [if_neg c1] at h2;by_cases c2:k=2
 ·rw [if_pos c2] at h2;exact jdk
 rw [if_neg c2] at h2;by_cases c3:k=12
 ·rw [if_pos c3] at h2;split at h2
  ·cases h2
  ·exact h2
 ·have:li=[]:=by
   unfold yJ at hbf;simp only [Bool.and_eq_true] at hbf;have b8:=hbf.1.2;rw [Bool.or_eq_true] at b8;rcases b8 with b8 | b8
   ·simp at b8;omega
   ·simpa using b8
  rw [this];unfold pO;rw [aj.aT]
theorem oD (cl:ByteArray->Bool) (par:Int) (dp:Nat):∀ (l:List ah),ah.aT cl par dp l=0↔∀ b∈l,b.err cl par dp=0
 | []=>by rw [ah.aT];exact ⟨fun _ b hb=>(by cases hb),fun _=>rfl⟩
 | x::l=>by
  rw [ah.aT];by_cases h:x.err cl par dp=0
  ·rw [if_neg (by simp [h]),oD cl par dp l];constructor
   ·intro h1 b hb;rcases List.mem_cons.1 hb with rfl | hb
    ·exact h
    ·exact h1 b hb
   ·exact fun h1 b hb=>h1 b (List.mem_cons_of_mem _ hb)
  ·rw [if_pos h];exact ⟨fun h1=>absurd h1 h,fun h1=>absurd (h1 x (jHq ..)) h⟩
theorem NQ:∀ (l:List ah),(ah.dQ l).any eB=false↔∀ b∈l,b.bJ.any eB=false
 | []=>by rw [ah.dQ];exact ⟨fun _ b hb=>(by cases hb),fun _=>rfl⟩
 | x::l=>by
  rw [ah.dQ,List.any_append,Bool.or_eq_false_iff,NQ l];constructor
  ·rintro ⟨h1,h2⟩ b hb;rcases List.mem_cons.1 hb with rfl | hb
   ·exact h1
   ·exact h2 b hb
  ·exact fun h=>⟨h x (jHq ..),fun b hb=>h b (List.mem_cons_of_mem _ hb)⟩
mutual
def ah.KM:ah->Prop
 | .mk k lv i t d ti a li ks=>aj.Ko li/\(k=2\/k=8->0<=lv/\lv<=999999999)/\(k=10->ks≠[]/\∀ r∈ks,r.kids.length=i.size/\∀ c∈r.kids,aj.Ko c.kV)/\(∀ c∈a.cls,bq c=false)/\(k=13->bq i=false)/\k≠11/\k≠12/\(k≠10->ah.qM ks)
def ah.qM:List ah->Prop
 | []=>True
 | x::l=>x.KM/\ah.qM l
end
theorem NR:∀ (l:List ah),(ah.dQ l).any eB=false->∀ b∈l,jH b.kV=false/\(ah.dQ b.kids).any eB=false:=by intro l h b hb;have h1:=(NQ l).1 h b hb;obtain ⟨k,lv,i,t,d,ti,a,li,ks⟩:=b;rw [ah.bJ,List.any_append,Bool.or_eq_false_iff] at h1;exact h1
mutual
theorem ah.Uz (cl:ByteArray->Bool):∀ (b:ah) (par:Int) (dp:Nat),par≠10->par≠11->dX b.kOf par=true->b.err cl par dp=0->(b.bJ).any eB=false->b.KM
 | .mk k lv i t d ti a li ks,par,dp,hp0,hp1,hpl,h,hu=>by
  have hh:=ah.NP cl _ par dp h hu;obtain ⟨h2,hbf,h3⟩:=gy cl h;rw [ah.hok] at hh;obtain ⟨g1,g2,g3,g4,g5,g6⟩:=hh;rw [ah.bJ,List.any_append,Bool.or_eq_false_iff] at hu;have hk:k≠11/\k≠12:=by
   have hpl':dX k par=true:=hpl;unfold dX at hpl';split at hpl'
   ·have:=of_decide_eq_true hpl';omega
   ·(try rw [if_neg hp0,if_neg hp1] at hpl')
    simp at hpl';omega
  rw [ah.KM];refine ⟨g1,g2,fun h10=>?_,g4,g5,hk.1,hk.2,fun h10=>ah.pQ cl ks k (dp+1) h10 hk.1 h3 hu.2⟩;obtain ⟨q1,q2⟩:=g3 h10;refine ⟨q1,fun r hr=>⟨q2 r hr,fun c hc=>?_⟩⟩;have r1:=(oD cl k (dp+1) ks).1 h3 r hr;have r2:=NR ks hu.2 r hr;obtain ⟨k',lv',i',t',d',ti',a',li',ks'⟩:=r;obtain ⟨-,-,s3⟩:=gy cl r1;have c1:=(oD cl k' (dp+1+1) ks').1 s3 c hc;have c2:=NR ks' r2.2 c hc;obtain ⟨k9,lv9,i9,t9,d9,ti9,a9,li9,ks9⟩:=c;obtain ⟨u1,u2,-⟩:=gy cl c1;exact Fu li9 (zV cl u1 u2) c2.1
theorem ah.pQ (cl:ByteArray->Bool):∀ (l:List ah) (par:Int) (dp:Nat),par≠10->par≠11->ah.aT cl par dp l=0->(ah.dQ l).any eB=false->ah.qM l
 | [],_,_,_,_,_,_=>by rw [ah.qM];trivial
 | x::l,par,dp,hp0,hp1,h,hu=>by
  have hpl:=(DK cl (x::l) par dp h x (jHq ..)).1;rw [ah.aT] at h;rw [ah.dQ,List.any_append,Bool.or_eq_false_iff] at hu;rw [ah.qM];split at h
  ·rename_i h1;exact absurd h h1
  ·rename_i h1
   exact ⟨ah.Uz cl x par dp hp0 hp1 hpl (Classical.not_not.1 h1) hu.1,ah.pQ cl l par dp hp0 hp1 h hu.2⟩
end
def lF (more:ByteArray) (l:List ByteArray):ByteArray:=l.foldl (fun c x=>(if bq c=true then c else c++Kk)++x) more
theorem UA (a b c:ByteArray):a++b++c=a++(b++c):=by apply ByteArray.ext;simp [ByteArray.data_append,Array.append_assoc]
theorem jpj (a:ByteArray):(⟨#[]⟩:ByteArray)++a=a:=by apply ByteArray.ext;simp [ByteArray.data_append]
theorem Lf (m x:ByteArray) (l:List ByteArray):Br ((m++Kk++x)::l)=m++Kk++Br (x::l):=by
 cases l with
 | nil=>rfl
 | cons y l=>rw [Br,Br];simp only [UA]
theorem uY:∀ (l:List ByteArray) (m:ByteArray),bq m=false->lF m l=Br (m::l)
 | [],m,_=>rfl
 | x::l,m,h=>by
  unfold lF;rw [List.foldl_cons,if_neg (by rw [h];simp)];have h2:bq (m++Kk++x)=false:=by rw [pK,pK,h];rfl
  have:=uY l (m++Kk++x) h2;unfold lF at this;rw [this,Lf];rfl
theorem NS:∀ (l:List ByteArray) (m:ByteArray),bq m=false->bq (Br (m::l))=false
 | [],m,h=>h
 | x::l,m,h=>by rw [Br,pK,pK,h];rfl
theorem YD (l:List ByteArray) (h:∀ c∈l,bq c=false) (m:ByteArray):cO dD (lF m l)=H7 ((if bq m=true then [] else [m])++l):=by
 by_cases hm:bq m=true
 ·rw [if_pos hm,List.nil_append,Ij hm];cases l with
  | nil=>rfl
  | cons x l=>
   have hx:=h x (jHq ..);have e:lF ⟨#[]⟩ (x::l)=lF x l:=by unfold lF;rw [List.foldl_cons,if_pos (by decide),jpj]
   rw [e,uY l x hx];unfold cO H7;rw [if_neg (by rw [NS l x hx];simp),if_neg (by simp)]
 ·have hm2:bq m=false:=by simpa using hm
  rw [if_neg hm,uY l m hm2];unfold cO H7;rw [if_neg (by rw [NS l m hm2];simp),if_neg (by simp)];rfl
theorem Sn (a:At) (m:ByteArray) (h:∀ c∈a.cls,bq c=false):cO jX a.id++cO dD (lF m a.cls)=eX a (if bq m=true then [] else [m]):=by unfold eX;rw [YD a.cls h m]
open Go.RowKit
theorem YE:(Tryz.prog.info? 47).map (fun i=>(i.zero,i.size,i.bytes))=some (some (.agg #[.int .i64 0,.string ByteArray.empty,.string ByteArray.empty,.string ByteArray.empty,.string ByteArray.empty,.slice none 0 0,.slice none 0 0,.slice none 0 0,.slice none 0 0,.slice none 0 0]),10,192):=by kernel_rfl
theorem YF:(Tryz.prog.info? 51).map (fun i=>(i.zero,i.size,i.bytes))=some (some (.agg #[.int .i64 0,.int .i64 0,.string ByteArray.empty,.string ByteArray.empty,.string ByteArray.empty,.string ByteArray.empty,.string ByteArray.empty,.slice none 0 0,.slice none 0 0,.slice none 0 0,.slice none 0 0]),11,192):=by kernel_rfl
mutual
theorem Rd.mD {ok:Nat->Prop} {w:jIq}:∀ (d:D) (cs:List jIz),Rd ok w d cs->∀ u∈cs,u.oneCell'=true
 | .int _ _,_,h,u,hu=>by rw [h.tH] at hu;simp at hu;subst hu;rfl
 | .bool _,_,h,u,hu=>by rw [h.DL] at hu;simp at hu;subst hu;rfl
 | .str _,_,h,u,hu=>by rw [h.bR] at hu;simp at hu;subst hu;rfl
 | .st fs,_,h,u,hu=>by
  obtain ⟨rows,hr,rfl⟩:=h.mE;exact aU.mD fs rows hr u hu
 | .sl k l,_,h,u,hu=>by
  obtain ⟨a,cap,rfl,_⟩:=h.ay;simp at hu;subst hu;rfl
theorem aU.mD {ok:Nat->Prop} {w:jIq}:∀ (l:List D) (rows:List (List jIz)),aU ok w l rows->∀ u∈rows.flatten,u.oneCell'=true
 | [],_,h,u,hu=>by rw [h.dY] at hu;simp at hu
 | d::ds,_,h,u,hu=>by
  obtain ⟨r,rs,rfl,h1,h2⟩:=h.aM;rw [List.flatten_cons] at hu;rcases List.mem_append.1 hu with hu | hu
  ·exact Rd.mD d r h1 u hu
  ·exact aU.mD ds rs h2 u hu
end
structure Row (T:TypeId) (k B:Nat) (w0:jIq) (ds:List D) (rows:List (List jIz)) (v:jIz) (w:jIq):Prop where
 own:w.ownsRow w0.heap.size T k v ds.length rows.flatten
 red:aU (·<B) w ds rows
 len:∀ r∈rows,r.length=k
 aO:Below w0.heap.size w0 w
section
variable {T:TypeId} {k B:Nat} {w0 w w1 w2:jIq} {ds es:List D} {rows bD:List (List jIz)} {v v':jIz}
theorem Row.nil (T:TypeId) (k B:Nat) (w0:jIq):Row T k B w0 [] [] (.slice none 0 0) w0:=⟨⟨by simp,.inl ⟨rfl,rfl⟩⟩,aU.none,by simp,Below.refl _ _⟩
theorem Row.up (h:Row T k B w0 ds rows v w) (hB:B<=w.heap.size) (hb:Below w.heap.size w w1):Row T k B w0 ds rows v w1:=
 ⟨WM h.own hb,aU.keep (fun b h1 h2=>⟨h1,hb.block b h2⟩) _ _ h.red,h.len,q01 h.aO hb⟩
theorem Row.app (h:Row T k B w0 ds rows v w1) (hB:B<=w0.heap.size) (hes:aU (·<B) w1 es bD) (hl2:∀ r∈bD,r.length=k) (hown:w2.ownsRow w0.heap.size T k v' (ds.length+es.length) (rows.flatten++bD.flatten)) (hg:w1.grownBy w2 v.ownBlock):Row T k B w0 (ds++es) (rows++bD) v' w2:=by
 have hne:∀ b,b<w0.heap.size->some b≠v.ownBlock:=fun b hb e=>by have:=(h.own.lt b e.symm).1;omega
 have hst:sP (·<B) (·<B) w1 w2:=fun b h1 h2=>⟨h1,hg.block b h2 (hne b (by omega))⟩
 refine ⟨by rw [jG0,List.flatten_append];exact hown,aU.app (aU.keep hst _ _ h.red) (aU.keep hst _ _ hes),?_,?_⟩
 ·intro r hr;rcases List.mem_append.1 hr with hr | hr
  ·exact h.len r hr
  ·exact hl2 r hr
 ·have hb:=h.aO;exact ⟨hg.os.trans hb.os,hg.tape.trans hb.tape,hg.output.trans hb.output,Nat.le_trans hb.size hg.size,fun b hlt=>(hg.block b (Nat.lt_of_lt_of_le hlt hb.size) (hne b hlt)).trans (hb.block b hlt)⟩
end
mutual
theorem aj.YG:∀ (x:aj),x.deep.length=x.sz
 | .mk _ _ _ _ _ _ _ ks=>by rw [aj.deep,aj.sz,jG2,aj.lS ks];omega
theorem aj.lS:∀ (l:List aj),(aj.aS l).length=aj.aY l
 | []=>by rw [aj.aS,aj.aY];rfl
 | x::l=>by rw [aj.aS,aj.aY,jG0,aj.YG x,aj.lS l]
end
mutual
theorem ah.YH:∀ (x:ah),x.each.length=x.sz
 | .mk _ _ _ _ _ _ _ _ ks=>by rw [ah.each,ah.sz,jG2,ah.oF ks];omega
theorem ah.oF:∀ (l:List ah),(ah.aV l).length=ah.aY l
 | []=>by rw [ah.aV,ah.aY];rfl
 | x::l=>by rw [ah.aV,ah.aY,jG0,ah.YH x,ah.oF l]
end
theorem aj.Lg {l:List aj} {k:Nat} {x:aj} (hx:l[k]?=some x):aj.aS (l.take (k+1))=aj.aS (l.take k)++x.deep:=by rw [List.take_add_one,hx,aj.uO];simp [aj.aS]
theorem aj.Io (l:List aj) (k:Nat):aj.aY (l.take k)<=aj.aY l:=by have:=aj.Fv (l.take k) (l.drop k);rw [List.take_append_drop] at this;omega
def jdq (B:Nat) (w:jIq) (l:List aj) (v vi:jIz) (wr:jIq):Prop:=∃ (k:Nat) (rows:List (List jIz)),k<=l.length/\vi=.int .i64 k/\Row 47 10 B w ((aj.aS (l.take k)).map aj.d) rows v wr
theorem jdx{P:Prop}(h:P:=by
 refine (bE.out.up (by omega) hua).app hB (aU.one (Rd.keep (fun b h1 h2=>⟨h1,?_⟩) _ _ HRX.out)) (by simp) ?_ hg1
 ·exact (hua.block b (by omega)).trans (bE.out.aO.block b h2)
 ·rw [List.length_singleton,List.flatten_singleton,<- HL.out];exact hown1):P:=h
theorem jdz{P:Prop}(h:P:=by
 have hkl:k=l.length:=by omega
 subst hkl;rw [List.take_length] at hrow ⊢;have bE:=hid hrow;clear hrow HS IH;go_wp2;go_ret;exact ⟨.slice av _ cv,rows,rfl,bE.out⟩):P:=h
theorem je0{P Q:Prop}(q:Q)(h:Nonempty Q->P:=by
 intro qQ;have ow0:=hrow.own;rw [<- hL] at ow0;have UF:=hid ow0;clear ow0;have nC:=hid hds;have bE:=hid hrow;have HR:=hid hR;have HRX:=hid hrx;have HX:=hid hx;have HC:=hid hc;have hwz:=hrow.aO.size;have hLl:L<=1000000:=by omega
 have HL:=hid hL;revert UF nC bE HR HRX HX HC hwz hLl HL;exact qQ.elim fun x=>x):P:=h ⟨q⟩
theorem Hw (n:Nat):∀ (l:List aj) (B:Nat) (v:Value) (w:World),aj.aY l<=n->n<=1000000->Rd (·<B) w (bJ l) [v]->B<=w.heap.size -> Calls Tryz.prog 78 #[v] w fun e w'=>∃ v' rows,e=.returned v'/\Row 47 10 B w ((aj.aS l).map aj.d) rows v' w':=by
 induction n using Nat.strongRecOn with
 | _ n ih=>
  intro l B v w hn hnm hrd hB;obtain ⟨iI,Yo,Fg,Fh,Fj⟩:=info_parts YE;obtain ⟨a,cap,hv,hs⟩:=Rd.ay hrd;obtain rfl:v=.slice a l.length cap:=by simpa using hv
  refine qJ ?_;intro hcap hmx HS;have IH:=hid ih;have R0:Hid (jdq B w l (.slice none 0 0) (.int .i64 0) w):=⟨0,[],Nat.zero_le _,rfl,by rw [List.take_zero,aj.aS];exact Row.nil _ _ _ _⟩;clear hs hv hrd ih;go_enter Tryz.func78,Tryz.ntmps78;go_wp2
  go_loopw [3,4] (fun v vi wr=>jdq B w l v vi wr) (fun _ i _=>l.length-(intOf i).toNat)
  case atStart=>exact R0.out
  case round=>
   clear R0;obtain ⟨k,rows,hk,rfl,hrow⟩:=hrel;obtain ⟨av,cv,QU⟩:=kY hrow.own;subst QU;by_cases hlt:k<l.length
   ·refine jc ?_;intro x hx;obtain ⟨kd,t,d,ti,at_,ar,ci,ks⟩:=x;obtain ⟨g,off,vc,vp,va,vi,vk,rfl,hok,hbl,hc,hR⟩:=MC HS.out hx;have hsz:=aj.bI l k _ hx;rw [aj.sz] at hsz;obtain ⟨aa,na,ca,rfl⟩:=Rd.xD hR.args;obtain ⟨ai,ni,gL,rfl⟩:=Rd.xD hR.fC;obtain ⟨ac,nc,cc,rfl⟩:=Rd.xD hR.at_.cls
    obtain ⟨ap,np,cp,rfl⟩:=Rd.xD hR.at_.aF
    obtain ⟨ak,nk,ck,rfl⟩:=Rd.xD hR.kids;have hgw:wr.heap[g]?=w.heap[g]?:=hrow.aO.block g (by omega);obtain ⟨p0,p1,p2,p3,p4,p5,p6,p7,p8,p9⟩:=hc.at2 (w':=wr) hgw;have hrx:=aj.dJ (ok:=(·<B)) (w:=w) kd t d ti hR;have UG:((aj.aS (l.take k)).map aj.d).length<=1000000:=by rw [List.length_map,aj.lS];have:=aj.Io l k;omega
    have hsn:=aj.Io l (k+1);rw [aj.tJ hx,aj.sz] at hsn;have hlk:((aj.aS (l.take k)).map aj.d).length=aj.aY (l.take k):=by rw [List.length_map,aj.lS]
    obtain ⟨L,hL⟩:∃ L,L=((aj.aS (l.take k)).map aj.d).length:=⟨_,rfl⟩;obtain ⟨ds,hds⟩:∃ ds,ds=(aj.aS (l.take k)).map aj.d:=⟨_,rfl⟩;rw [<- hds] at hrow UG hlk hL ⊢;rw [<- hL];rw [<- hL] at hrow;refine je0 ?_;intro UF nC bE HR HRX HX HC hwz hLl HL;clear hc hR hx hrx hds hrow hL;go_wp2_with (at_builtin;refine ME _ rfl (.tmp 11) (.tmp 16) 45 rfl w.heap.size 47 iI _ 10 192 Tryz.underlying45 Yo Fg Fh Fj rfl (by decide) (.slice av L cv) L rows.flatten rfl (UF.out.alloc _) (wr.heap.size+1) (some ⟨wr.heap.size,0,none⟩) 1 1 [.int .i64 kd,.string t,.string d,.string ti,.string at_.id,.slice ac nc cc,.slice ap np cp,.slice aa na ca,.slice ai ni gL,.slice ak nk ck] rfl ?g1 ?g2 ?g3 ?g4 ?g5 ?_)
    case g1=>exact ⟨rfl,fun _=>⟨_,rfl,by simp,GL wr [.int .i64 kd,.string t,.string d,.string ti,.string at_.id,.slice ac nc cc,.slice ap np cp,.slice aa na ca,.slice ai ni gL,.slice ak nk ck] _⟩⟩
    case g2=>exact Rd.mD _ _ HRX.out
    case g3=>unfold maxLen;omega
    case g4=>omega
    case g5=>simp;omega
    intro v1 w1 hown1 hg1 _;obtain ⟨a1,c1,rfl⟩:=kY hown1;have hua:Below wr.heap.size wr (wr.alloc (.cells #[.int .i64 kd,.string t,.string d,.string ti,.string at_.id,.slice ac nc cc,.slice ap np cp,.slice aa na ca,.slice ai ni gL,.slice ak nk ck] 47)):=(Below.refl _ _).alloc (Nat.le_refl _) _;have Lh:Row 47 10 B w (ds++[aj.d (.mk kd t d ti at_ ar ci ks)]) (rows++[[.int .i64 kd,.string t,.string d,.string ti,.string at_.id,.slice ac nc cc,.slice ap np cp,.slice aa na ca,.slice ai ni gL,.slice ak nk ck]]) (.slice a1 (L+1) c1) w1:=by exact jdx
    have hb1:=Lh.aO;have k9:w1.cell? ⟨g,off+k*10+9,none⟩=some (.slice ak nk ck):=(HC.out.at2 (w':=w1) (hb1.block g (by omega))).c9;have hz1:=hb1.size;have DC:=hid (IH.out (aj.aY ks) (by omega) ks B (.slice ak nk ck) w1 (Nat.le_refl _) (by omega) (Rd.keep (fun b h1 h2=>⟨h1,hb1.block b h2⟩) _ _ HR.out.kids) (by omega));have UH:=hid Lh;clear hown1 hg1 hua Lh hb1 bE p0 p1 p2 p3 p4 p5 p6 p7 p8 p9 hgw;go_wp2_with fail
    refine DC.out.mono ?_;rintro e w2 ⟨v2,bD,rfl,hrow2⟩;obtain ⟨a2,c2,rfl⟩:=kY hrow2.own;have hb2:=hrow2.aO;have hz2:=hb2.size;have zW:=hid (UH.out.up (by omega) hb2);have oG:=hid hrow2;have hks:((aj.aS ks).map aj.d).length=aj.aY ks:=by rw [List.length_map,aj.lS]
    have WQ:=hid (Reads.qR hrow2.own);have ON2:=hid (aU.mD _ _ hrow2.red);have hl1:(ds++[aj.d (.mk kd t d ti at_ ar ci ks)]).length=L+1:=by rw [List.length_append,List.length_singleton,<- HL.out]
    have PD:=zW.out.own;rw [hl1] at PD;obtain ⟨F,hF⟩:∃ F:List Value,F=(rows++[([.int .i64 kd,.string t,.string d,.string ti,.string at_.id,.slice ac nc cc,.slice ap np cp,.slice aa na ca,.slice ai ni gL,.slice ak nk ck]:List Value)]).flatten:=⟨_,rfl⟩;rw [<- hF] at PD;have HF:=hid hF;clear hF;obtain ⟨M,hM⟩:∃ M,M=((aj.aS ks).map aj.d).length:=⟨_,rfl⟩;rw [<- hM] at WQ hks ⊢;have UJ:=hid PD;have HM:=hid hM;have HL1:=hid hl1;have KH:=hid hks;clear PD hM hl1 hrow2 hb2 DC UH hks;go_wp2_with (at_builtin;refine ME _ rfl (.tmp 18) (.tmp 24) 45 rfl w.heap.size 47 iI _ 10 192 Tryz.underlying45 Yo Fg Fh Fj rfl (by decide) (.slice a1 (L+1) c1) (L+1) F rfl UJ.out w2.heap.size a2 M c2 bD.flatten rfl WQ.out ON2.out ?k3 ?k4 ?k5 ?_)
    case k3=>have:=KH.out;unfold maxLen;omega
    case k4=>have:=KH.out;have:=HL.out;omega
    case k5=>omega
    intro v3 w3 hown3 hg3 _;obtain ⟨a3,c3,rfl⟩:=kY hown3;have UK:=hid (zW.out.app hB oG.out.red oG.out.len (by rw [HL1.out,<- HM.out,<- HF.out];exact hown3) hg3);clear hown3 hg3 zW oG WQ ON2;go_wp2;go_roundw;case rel=>
     refine ⟨k+1,rows++[[.int .i64 kd,.string t,.string d,.string ti,.string at_.id,.slice ac nc cc,.slice ap np cp,.slice aa na ca,.slice ai ni gL,.slice ak nk ck]]++bD,by omega,by go_num,?_⟩;have h3:=UK.out;rw [nC.out] at h3;rw [aj.Lg HX.out,aj.deep,List.map_append,List.map_cons];simpa using h3
    case measure=>simp [intOf];omega
   ·exact jdz
open Go.RowKit
theorem dA.at4 {w w':World} {b o:Nat} {k lv:Int} {i t d ti id:ByteArray} {vc vp vl vk:Value} (h:dA w b o k lv i t d ti id vc vp vl vk) (hb:w'.heap[b]?=w.heap[b]?):dA w' b o k lv i t d ti id vc vp vl vk:=by exact je1
theorem ah.Ip (l m:List ah):ah.aY (l++m)=ah.aY l+ah.aY m:=by
 induction l with
 | nil=>rw [ah.aY];simp
 | cons x l ih=>rw [List.cons_append,ah.aY,ah.aY,ih];omega
theorem ah.PE {l:List ah} {k:Nat} {x:ah} (hx:l[k]?=some x):ah.aY (l.take (k+1))=ah.aY (l.take k)+x.sz:=by rw [List.take_add_one,hx,ah.Ip];simp [ah.aY]
theorem ah.DN (l:List ah) (k:Nat):ah.aY (l.take k)<=ah.aY l:=by have:=ah.Ip (l.take k) (l.drop k);rw [List.take_append_drop] at this;omega
def UM (B:Nat) (w:World) (l:List ah) (v vi:Value) (wr:World):Prop:=∃ (k:Nat) (rows:List (List Value)),k<=l.length/\vi=.int .i64 k/\Row 51 11 B w ((ah.aV (l.take k)).map ah.d) rows v wr
theorem GV (n:Nat):∀ (l:List ah) (B:Nat) (v:Value) (w:World),ah.aY l<=n->n<=1000000->Rd (·<B) w (lu l) [v]->B<=w.heap.size -> Calls Tryz.prog 47 #[v] w fun e w'=>∃ v' rows,e=.returned v'/\Row 51 11 B w ((ah.aV l).map ah.d) rows v' w':=by
 induction n using Nat.strongRecOn with
 | _ n ih=>
  intro l B v w hn hnm hrd hB;obtain ⟨iI,Yo,Fg,Fh,Fj⟩:=info_parts YF;obtain ⟨a,cap,hv,hs⟩:=Rd.ay hrd;obtain rfl:v=.slice a l.length cap:=by simpa using hv
  refine qJ ?_;intro hcap hmx HS;have IH:=hid ih;have R0:Hid (UM B w l (.slice none 0 0) (.int .i64 0) w):=⟨0,[],Nat.zero_le _,rfl,by rw [List.take_zero,ah.aV];exact Row.nil _ _ _ _⟩;clear hs hv hrd ih;go_enter Tryz.func47,Tryz.ntmps47;go_wp2
  go_loopw [3,4] (fun v vi wr=>UM B w l v vi wr) (fun _ i _=>l.length-(intOf i).toNat)
  case atStart=>exact R0.out
  case round=>
   clear R0;obtain ⟨k,rows,hk,rfl,hrow⟩:=hrel;obtain ⟨av,cv,QU⟩:=kY hrow.own;subst QU;by_cases hlt:k<l.length
   ·refine jc ?_;intro x hx;obtain ⟨kd,lv,inf,t,d,ti,at_,li,ks⟩:=x;obtain ⟨g,off,vc,vp,vl,vk,rfl,hok,hbl,hc,hR⟩:=F7 HS.out hx;have hsz:=ah.bI l k _ hx;rw [ah.sz] at hsz;obtain ⟨al,nl,cl,rfl⟩:=Rd.xD hR.line;obtain ⟨ac,nc,cc,rfl⟩:=Rd.xD hR.at_.cls
    obtain ⟨ap,np,cp,rfl⟩:=Rd.xD hR.at_.aF
    obtain ⟨ak,nk,ck,rfl⟩:=Rd.xD hR.kids;have hgw:wr.heap[g]?=w.heap[g]?:=hrow.aO.block g (by omega);obtain ⟨p0,p1,p2,p3,p4,p5,p6,p7,p8,p9,rZ⟩:=hc.at4 (w':=wr) hgw;have hrx:=ah.dJ (ok:=(·<B)) (w:=w) kd lv inf t d ti hR;have UG:((ah.aV (l.take k)).map ah.d).length<=1000000:=by rw [List.length_map,ah.oF];have:=ah.DN l k;omega
    have hsn:=ah.DN l (k+1);rw [ah.PE hx,ah.sz] at hsn;have hlk:((ah.aV (l.take k)).map ah.d).length=ah.aY (l.take k):=by rw [List.length_map,ah.oF]
    obtain ⟨L,hL⟩:∃ L,L=((ah.aV (l.take k)).map ah.d).length:=⟨_,rfl⟩;obtain ⟨ds,hds⟩:∃ ds,ds=(ah.aV (l.take k)).map ah.d:=⟨_,rfl⟩;rw [<- hds] at hrow UG hlk hL ⊢;rw [<- hL];rw [<- hL] at hrow;refine je0 ?_;intro UF nC bE HR HRX HX HC hwz hLl HL;clear hc hR hx hrx hds hrow hL;go_wp2_with (at_builtin;refine ME _ rfl (.tmp 11) (.tmp 16) 23 rfl w.heap.size 51 iI _ 11 192 Tryz.underlying23 Yo Fg Fh Fj rfl (by decide) (.slice av L cv) L rows.flatten rfl (UF.out.alloc _) (wr.heap.size+1) (some ⟨wr.heap.size,0,none⟩) 1 1 [.int .i64 kd,.int .i64 lv,.string inf,.string t,.string d,.string ti,.string at_.id,.slice ac nc cc,.slice ap np cp,.slice al nl cl,.slice ak nk ck] rfl ?g1 ?g2 ?g3 ?g4 ?g5 ?_)
    case g1=>exact ⟨rfl,fun _=>⟨_,rfl,by simp,GL wr [.int .i64 kd,.int .i64 lv,.string inf,.string t,.string d,.string ti,.string at_.id,.slice ac nc cc,.slice ap np cp,.slice al nl cl,.slice ak nk ck] _⟩⟩
    case g2=>exact Rd.mD _ _ HRX.out
    case g3=>unfold maxLen;omega
    case g4=>omega
    case g5=>simp;omega
    intro v1 w1 hown1 hg1 _;obtain ⟨a1,c1,rfl⟩:=kY hown1;have hua:Below wr.heap.size wr (wr.alloc (.cells #[.int .i64 kd,.int .i64 lv,.string inf,.string t,.string d,.string ti,.string at_.id,.slice ac nc cc,.slice ap np cp,.slice al nl cl,.slice ak nk ck] 51)):=(Below.refl _ _).alloc (Nat.le_refl _) _;have Lh:Row 51 11 B w (ds++[ah.d (.mk kd lv inf t d ti at_ li ks)]) (rows++[[.int .i64 kd,.int .i64 lv,.string inf,.string t,.string d,.string ti,.string at_.id,.slice ac nc cc,.slice ap np cp,.slice al nl cl,.slice ak nk ck]]) (.slice a1 (L+1) c1) w1:=by exact jdx
    have hb1:=Lh.aO;have k10:w1.cell? ⟨g,off+k*11+10,none⟩=some (.slice ak nk ck):=(HC.out.at4 (w':=w1) (hb1.block g (by omega))).c10;have hz1:=hb1.size;have DC:=hid (IH.out (ah.aY ks) (by omega) ks B (.slice ak nk ck) w1 (Nat.le_refl _) (by omega) (Rd.keep (fun b h1 h2=>⟨h1,hb1.block b h2⟩) _ _ HR.out.kids) (by omega));have UH:=hid Lh;clear hown1 hg1 hua Lh hb1 bE p0 p1 p2 p3 p4 p5 p6 p7 p8 p9 rZ hgw;go_wp2_with fail
    refine DC.out.mono ?_;rintro e w2 ⟨v2,bD,rfl,hrow2⟩;obtain ⟨a2,c2,rfl⟩:=kY hrow2.own;have hb2:=hrow2.aO;have hz2:=hb2.size;have zW:=hid (UH.out.up (by omega) hb2);have oG:=hid hrow2;have hks:((ah.aV ks).map ah.d).length=ah.aY ks:=by rw [List.length_map,ah.oF]
    have WQ:=hid (Reads.qR hrow2.own);have ON2:=hid (aU.mD _ _ hrow2.red);have hl1:(ds++[ah.d (.mk kd lv inf t d ti at_ li ks)]).length=L+1:=by rw [List.length_append,List.length_singleton,<- HL.out]
    have PD:=zW.out.own;rw [hl1] at PD;obtain ⟨F,hF⟩:∃ F:List Value,F=(rows++[([.int .i64 kd,.int .i64 lv,.string inf,.string t,.string d,.string ti,.string at_.id,.slice ac nc cc,.slice ap np cp,.slice al nl cl,.slice ak nk ck]:List Value)]).flatten:=⟨_,rfl⟩;rw [<- hF] at PD;have HF:=hid hF;clear hF;obtain ⟨M,hM⟩:∃ M,M=((ah.aV ks).map ah.d).length:=⟨_,rfl⟩;rw [<- hM] at WQ hks ⊢;have UJ:=hid PD;have HM:=hid hM;have HL1:=hid hl1;have KH:=hid hks;clear PD hM hl1 hrow2 hb2 DC UH hks;go_wp2_with (at_builtin;refine ME _ rfl (.tmp 18) (.tmp 24) 23 rfl w.heap.size 51 iI _ 11 192 Tryz.underlying23 Yo Fg Fh Fj rfl (by decide) (.slice a1 (L+1) c1) (L+1) F rfl UJ.out w2.heap.size a2 M c2 bD.flatten rfl WQ.out ON2.out ?k3 ?k4 ?k5 ?_)
    case k3=>have:=KH.out;unfold maxLen;omega
    case k4=>have:=KH.out;have:=HL.out;omega
    case k5=>omega
    intro v3 w3 hown3 hg3 _;obtain ⟨a3,c3,rfl⟩:=kY hown3;have UK:=hid (zW.out.app hB oG.out.red oG.out.len (by rw [HL1.out,<- HM.out,<- HF.out];exact hown3) hg3);clear hown3 hg3 zW oG WQ ON2;go_wp2;go_roundw;case rel=>
     refine ⟨k+1,rows++[[.int .i64 kd,.int .i64 lv,.string inf,.string t,.string d,.string ti,.string at_.id,.slice ac nc cc,.slice ap np cp,.slice al nl cl,.slice ak nk ck]]++bD,by omega,by go_num,?_⟩;have h3:=UK.out;rw [nC.out] at h3;rw [ah.rH l k _ HX.out,ah.each,List.map_append,List.map_cons];simpa using h3
    case measure=>simp [intOf];omega
   ·exact jdz
open Go.RowKit
def ah.lnI:ah->List aj
 | .mk _ _ _ _ _ _ _ li _=>li
def eO:List ah->List aj
 | []=>[]
 | x::l=>aj.aS x.lnI++eO l
theorem pR:∀ (l m:List ah),eO (l++m)=eO l++eO m
 | [],m=>rfl
 | x::l,m=>by rw [List.cons_append,eO,pR l m,eO,List.append_assoc]
theorem Li {l:List ah} {k:Nat} {x:ah} (h:l[k]?=some x):eO (l.take (k+1))=eO (l.take k)++aj.aS x.lnI:=by rw [List.take_add_one,h,pR];simp [eO]
theorem zX (l:List ah) (k:Nat):(eO (l.take k)).length<=(eO l).length:=by
 have h:eO l=eO (l.take k++l.drop k):=by rw [List.take_append_drop]
 rw [h,pR,List.length_append];omega
mutual
theorem ah.PG:∀ (x:ah),x.inls=eO x.each
 | .mk k lv i t d ti a li ks=>by rw [ah.inls,ah.each,eO,ah.rJ ks];rfl
theorem ah.rJ:∀ (l:List ah),ah.aR l=eO (ah.aV l)
 | []=>by rw [ah.aR,ah.aV];rfl
 | x::l=>by rw [ah.aR,ah.aV,pR,ah.PG x,ah.rJ l]
end
def je2 (B:Nat) (w:World) (l:List ah) (v vi:Value) (wr:World):Prop:=
 ∃ (k:Nat) (rows:List (List Value)),k<=l.length/\vi=.int .i64 k/\Row 47 10 B w ((eO (l.take k)).map aj.d) rows v wr
theorem CU (l:List ah) (v:Value) (w:World) (hsz:ah.aY l<=1000000) (hil:(ah.aR l).length<=1000000) (hrd:Rd (·<w.heap.size) w (lu l) [v]) : Calls Tryz.prog 44 #[v] w fun e w'=>∃ v',e=.returned v'/\Rd (·<w'.heap.size) w' (bJ (ah.aR l)) [v']/\Below w.heap.size w w':=by
 obtain ⟨iI,Yo,Fg,Fh,Fj⟩:=info_parts Rv;have LS:=hid (GV _ l w.heap.size v w (Nat.le_refl _) hsz hrd (Nat.le_refl _));rw [ah.rJ] at hil ⊢;obtain ⟨E,hE⟩:∃ E,E=ah.aV l:=⟨_,rfl⟩;rw [<- hE] at LS hil ⊢;clear hrd hE;go_enter Tryz.func44,Tryz.ntmps44;go_wp2_with fail
 refine LS.out.mono ?_;rintro e w1 ⟨v1,jvj,rfl,hr1⟩;have b1:=hr1.aO;have hE1:Rd (·<w1.heap.size) w1 (lu E) [v1]:=
  Rd.fM (l:=E.map ah.d) (rows:=jvj) (B:=w.heap.size) (e:=51) hr1.own (aU.keep (fun b h1 h2=>⟨h2,rfl⟩) _ _ hr1.red) hr1.len (fun g hg=>(hr1.own.lt g hg).2)
 obtain ⟨a1,c1,hv1,hs1⟩:=Rd.ay hE1;obtain rfl:v1=.slice a1 E.length c1:=by simpa using hv1
 have hc1:E.length<=c1:=by simpa using hs1.le
 have hm1:=hs1.max;unfold maxLen at hm1;have HS:=hid hs1;have HB1:=hid b1;have R0:Hid (je2 w1.heap.size w1 E (.slice none 0 0) (.int .i64 0) w1):=⟨0,[],Nat.zero_le _,rfl,Row.nil _ _ _ _⟩;clear hr1 hE1 hv1 hs1 b1 LS;go_wp2
 go_loopw [3,5] (fun v vi wr=>je2 w1.heap.size w1 E v vi wr) (fun _ i _=>E.length-(intOf i).toNat)
 case atStart=>exact R0.out
 case round=>
  clear R0;obtain ⟨k,rows,hk,rfl,hrow⟩:=hrel;have hdp:=zX E k;obtain ⟨L,hL⟩:∃ L,L=((eO (E.take k)).map aj.d).length:=⟨_,rfl⟩;have hLl:L<=1000000:=by rw [hL,List.length_map];omega
  have HL:=hid hL;have hown:=hrow.own;rw [<- hL] at hown;obtain ⟨av,cv,rfl⟩:=kY hown;have HOWN:=hid hown;have bE:=hid hrow;have hbel:=hrow.aO;have hz:=hbel.size;clear hL hrow hown;by_cases hlt:k<E.length
  ·obtain ⟨x,hx⟩:∃ x,E[k]?=some x:=⟨_,List.getElem?_eq_getElem hlt⟩;have hsn:=Li hx;have hsl:=zX E (k+1);rw [hsn,List.length_append] at hsl;obtain ⟨kd,lv,i,t,d,ti,at_,li,ks⟩:=x;obtain ⟨g,off,vc,vp,vl,vk,rfl,hok,hbl,hc,hR⟩:=F7 (HS.out.below hbel) hx;obtain ⟨al,nl,cl,rfl⟩:=Rd.xD hR.line;have c9:=hc.c9;have hli:aj.aY li<=1000000:=by
    rw [<- aj.lS];have:(aj.aS li).length<=(eO E).length:=by change (eO (E.take k)).length+(aj.aS li).length<=_ at hsl;omega
    omega
   have hsl2:L+(aj.aS li).length<=1000000:=by change (eO (E.take k)).length+(aj.aS li).length<=_ at hsl;rw [HL.out,List.length_map];omega
   have DC:=hid (Hw _ li w1.heap.size (.slice al nl cl) wr (Nat.le_refl _) hli hR.line hz);have gZ:=hid hsn;clear hc hR hx hsn hsl hdp hok hbl hli;go_wp2_with fail
   refine DC.out.mono ?_;rintro e w2 ⟨v2,bD,rfl,hrow2⟩;obtain ⟨M,hM⟩:∃ M,M=((aj.aS li).map aj.d).length:=⟨_,rfl⟩;have hMl:L+M<=1000000:=by rw [hM,List.length_map];exact hsl2
   have hown2:=hrow2.own;rw [<- hM] at hown2;obtain ⟨a2,c2,rfl⟩:=kY hown2;have hb2:=hrow2.aO;have hz2:=hb2.size;have zW:=hid (bE.out.up hz hb2);have oG:=hid hrow2;have WQ:=hid (Reads.qR hown2);have ON2:=hid (aU.mD _ _ hrow2.red);have HM:=hid hM;have PD:=zW.out.own;rw [<- HL.out] at PD;have UJ:=hid PD;clear hM hown2 hrow2 hb2 PD DC c9 hsl2;go_wp2_with (at_builtin;refine ME _ rfl (.tmp 14) (.tmp 20) 45 rfl w1.heap.size 47 iI _ 10 192 Tryz.underlying45 Yo Fg Fh Fj rfl (by decide) (.slice av L cv) L rows.flatten rfl UJ.out w2.heap.size a2 M c2 bD.flatten rfl WQ.out ON2.out ?k3 ?k4 ?k5 ?_)
   case k3=>unfold maxLen;omega
   case k4=>omega
   case k5=>omega
   intro v3 w3 hown3 hg3 _;obtain ⟨a3,c3,rfl⟩:=kY hown3;have UK:=hid (zW.out.app (Nat.le_refl _) oG.out.red oG.out.len (by rw [<- HL.out,<- HM.out];exact hown3) hg3);clear hown3 hg3 zW oG WQ ON2;go_wp2;go_roundw;case rel=>
    refine ⟨k+1,rows++bD,by omega,by go_num,?_⟩;rw [gZ.out,List.map_append];exact UK.out
   case measure=>simp [intOf];omega
  ·have hkl:k=E.length:=by omega
   subst hkl;have h1:=bE.out;rw [List.take_length] at h1 HL;have HR1:=hid h1;clear h1 bE HOWN hdp;go_wp2;go_ret;refine ⟨_,rfl,?_,q01 HB1.out hbel⟩;have hown:=HR1.out.own;have h2:=Rd.fM (l:=(eO E).map aj.d) (ok:=(·<wr.heap.size)) (rows:=rows) (B:=w1.heap.size) (e:=47) hown (aU.keep (fun b h1 h2=>⟨h2,rfl⟩) _ _ HR1.out.red) HR1.out.len (fun g hg=>(hown.lt g hg).2);exact h2
theorem UO{P:Prop}(h:P:=by
 exact ⟨by omega,fun z hz=>List.mem_append_right _ (h2 z hz)⟩):P:=h
theorem UQ{P:Prop}(h:P:=by
 exact ⟨by omega,fun z hz=>List.mem_append_left _ (h2 z hz)⟩):P:=h
mutual
theorem aj.YI:∀ (x:aj),∀ y∈x.deep,y.sz<=x.sz/\∀ z∈y.deep,z∈x.deep
 | .mk k t d ti a ar ci ks,y,hy=>by
  rw [aj.deep] at hy;rcases List.mem_cons.1 hy with rfl | hy
  ·exact ⟨jFk _,fun z hz=>hz⟩
  ·obtain ⟨h1,h2⟩:=aj.zY ks y hy;refine ⟨?_,fun z hz=>?_⟩
   ·rw [aj.sz];omega
   ·rw [aj.deep];exact List.mem_cons_of_mem _ (h2 z hz)
theorem aj.zY:∀ (l:List aj),∀ y∈aj.aS l,y.sz<=aj.aY l/\∀ z∈y.deep,z∈aj.aS l
 | [],y,hy=>by rw [aj.aS] at hy;cases hy
 | x::l,y,hy=>by
  rw [aj.aS] at hy;rw [aj.aY,aj.aS];rcases List.mem_append.1 hy with hy | hy
  ·obtain ⟨h1,h2⟩:=aj.YI x y hy;exact UQ
  ·obtain ⟨h1,h2⟩:=aj.zY l y hy;exact UO
end
mutual
theorem ah.YJ:∀ (b:ah),∀ y∈b.inls,y.sz<=b.inls.length/\∀ z∈y.deep,z∈b.inls
 | .mk k lv i t d ti a li ks,y,hy=>by
  rw [ah.inls] at hy ⊢;rw [jG0,aj.fU];rcases List.mem_append.1 hy with hy | hy
  ·obtain ⟨h1,h2⟩:=aj.zY li y hy;exact UQ
  ·obtain ⟨h1,h2⟩:=ah.tK ks y hy;exact UO
theorem ah.tK:∀ (l:List ah),∀ y∈ah.aR l,y.sz<=(ah.aR l).length/\∀ z∈y.deep,z∈ah.aR l
 | [],y,hy=>by rw [ah.aR] at hy;cases hy
 | x::l,y,hy=>by
  rw [ah.aR] at hy ⊢;rw [jG0];rcases List.mem_append.1 hy with hy | hy
  ·obtain ⟨h1,h2⟩:=ah.YJ x y hy;exact UQ
  ·obtain ⟨h1,h2⟩:=ah.tK l y hy;exact UO
end
theorem PI (x:aj):x∈x.deep:=by obtain ⟨k,t,d,ti,a,ar,ci,ks⟩:=x;rw [aj.deep];exact jHq ..
theorem uZ:∀ (l:List aj) (y:aj),y∈aj.aS l↔∃ x∈l,y∈x.deep
 | [],y=>by rw [aj.aS];simp
 | x::l,y=>by
  rw [aj.aS,List.mem_append,uZ l y];simp
theorem CZ (l:List ah):jH (ah.aR l)=(ah.aR l).any eB:=by
 unfold jH;rw [Bool.eq_iff_iff,List.any_eq_true,List.any_eq_true];constructor
 ·rintro ⟨y,hy,h⟩;obtain ⟨x,hx,hy⟩:=(uZ _ _).1 hy;exact ⟨y,(ah.tK l x hx).2 y hy,h⟩
 ·rintro ⟨y,hy,h⟩;exact ⟨y,(uZ _ _).2 ⟨y,hy,PI y⟩,h⟩
mutual
theorem ah.UR:∀ (b:ah),b.bJ=b.inls
 | .mk k lv i t d ti a li ks=>by rw [ah.bJ,ah.inls,ah.pU ks]
theorem ah.pU:∀ (l:List ah),ah.dQ l=ah.aR l
 | []=>by rw [ah.dQ,ah.aR]
 | x::l=>by rw [ah.dQ,ah.aR,ah.UR x,ah.pU l]
end
theorem NU (n:Nat):∀ (l:List aj),(∀ x∈l,x.sz<=n)->aj.aY l<=l.length*n
 | [],_=>by rw [aj.aY];exact Nat.zero_le _
 | x::l,h=>by
  have h1:=h x (jHq ..);have h2:=NU n l (fun y hy=>h y (List.mem_cons_of_mem _ hy));rw [aj.aY,jG2,Nat.succ_mul];omega
theorem GU (l:List ah) (h:(ah.aR l).length<=1000):aj.aY (ah.aR l)<=1000000:=
 Nat.le_trans (NU 1000 _ (fun x hx=>Nat.le_trans (ah.tK l x hx).1 h)) (Nat.mul_le_mul_right 1000 h)
structure gP (ok:Nat->Prop) (w:jIq) (a:List Pr) (ks:List Nd) (va vk:jIz):Prop where
 at_:Rd ok w (fJ a) [va]
 ks:Rd ok w (gH ks) [vk]
theorem Nd.open_ {ok:Nat->Prop} {w:jIq} {n t:ByteArray} {a:List Pr} {ks:List Nd} {cs:List jIz} (h:Rd ok w (Nd.mk n t a ks).d cs) : ∃ va vk,cs=[.string n,.string t,va,vk]/\gP ok w a ks va vk:=by
 unfold Nd.d at h;rw [Nd.jL] at h;obtain ⟨_,g0,rfl⟩:=h.mE;obtain ⟨r0,rs,rfl,h0,g0⟩:=g0.aM;obtain ⟨r1,rs,rfl,h1,g0⟩:=g0.aM;obtain ⟨r2,rs,rfl,h2,g0⟩:=g0.aM;obtain ⟨r3,rs,rfl,h3,g0⟩:=g0.aM;obtain rfl:=g0.dY;obtain rfl:=h0.bR;obtain rfl:=h1.bR;obtain ⟨v2,rfl⟩:∃ v,r2=[v]:=by obtain ⟨a,c,e,-⟩:=h2.ay;exact ⟨_,e⟩
 obtain ⟨v3,rfl⟩:∃ v,r3=[v]:=by obtain ⟨a,c,e,-⟩:=h3.ay;exact ⟨_,e⟩
 exact ⟨v2,v3,rfl,h2,h3⟩
theorem Nd.dJ {ok:Nat->Prop} {w:jIq} (n t:ByteArray) {a:List Pr} {ks:List Nd} {va vk:jIz} (h:gP ok w a ks va vk):Rd ok w (Nd.mk n t a ks).d [.string n,.string t,va,vk]:=by unfold Nd.d;rw [Nd.jL];exact Rd.DR (rows:=[[.string n],[.string t],[va],[vk]]) (aU.cons (Rd.dZ _ _ _) (aU.cons (Rd.dZ _ _ _) (aU.cons h.at_ (aU.cons h.ks aU.none))))
theorem om {ok:Nat->Prop} {w:jIq} {l:List Nd} {a:Option Addr} {cap:Nat} (h:qP ok w 4 (l.map Nd.d) a cap) {k:Nat} {n t:ByteArray} {at_:List Pr} {ks:List Nd} (hk:l[k]?=some (.mk n t at_ ks)) : ∃ b off va vk,a=some ⟨b,off,none⟩/\ok b/\b<w.heap.size/\w.cell? ⟨b,off+k*4,none⟩=some (.string n)/\w.cell? ⟨b,off+k*4+1,none⟩=some (.string t)/\w.cell? ⟨b,off+k*4+2,none⟩=some va/\w.cell? ⟨b,off+k*4+3,none⟩=some vk/\gP ok w at_ ks va vk:=by refine Iq ?_;intro hlt b off ha hok hb hc r hr hl hcell;obtain ⟨va,vk,rfl,hR⟩:=Nd.open_ hr;exact ⟨b,off,va,vk,ha,hok,hb,hcell 0 _ rfl,hcell 1 _ rfl,hcell 2 _ rfl,hcell 3 _ rfl,hR⟩
theorem Nd.bI:∀ (l:List Nd) (k:Nat) (x:Nd),l[k]?=some x->x.sz<=Nd.aY l
 | [],_,_,h=>by simp at h
 | y::l,0,x,h=>by simp at h;subst h;rw [Nd.aY];omega
 | y::l,k+1,x,h=>by rw [Nd.aY];have:=Nd.bI l k x (by simpa using h);omega
theorem gP.keep {ok ok':Nat->Prop} {w w':jIq} {a:List Pr} {ks:List Nd} {va vk:jIz} (h:gP ok w a ks va vk) (hs:sP ok ok' w w'):gP ok' w' a ks va vk:=⟨Rd.keep hs _ _ h.at_,Rd.keep hs _ _ h.ks⟩
theorem F9 {n t:ByteArray} {a1 a2:Option Addr} {n1 n2 c1 c2:Nat}:∀ u∈([.string n,.string t,.slice a1 n1 c1,.slice a2 n2 c2]:List jIz),u.oneCell'=true:=by intro u hu;simp at hu;rcases hu with rfl | rfl | rfl | rfl<;>rfl
theorem EF (l:List Nd) (rs:List (List jIz)) (ok:Nat->Prop) (w:jIq) (h:aU ok w (l.map Nd.d) rs):∀ u∈rs.flatten,u.oneCell'=true:=by
 intro u hu;obtain ⟨r,hr,hu⟩:=List.mem_flatten.1 hu;obtain ⟨j,hj,rfl⟩:=List.mem_iff_getElem.1 hr;have hj2:j<(l.map Nd.d).length:=by rw [<- h.len];exact hj
 obtain ⟨r',hr',hd⟩:=h.get j _ (jF9 hj2);rw [jF9 hj] at hr';obtain rfl:=Option.some.inj hr';rw [List.getElem_map] at hd;generalize l[j]'(by simpa using hj2)=x at hd;obtain ⟨n,t,a,ks⟩:=x;obtain ⟨va,vk,he,hR⟩:=Nd.open_ hd;obtain ⟨a1,n1,c1,rfl⟩:=Rd.au hR.at_
 obtain ⟨a2,n2,c2,rfl⟩:=Rd.au hR.ks;rw [he] at hu;exact F9 u hu
theorem lG (l:List Pr) (rs:List (List jIz)) (ok:Nat->Prop) (w:jIq) (h:aU ok w (l.map Pr.d) rs):∀ u∈rs.flatten,u.oneCell'=true:=by
 intro u hu;obtain ⟨r,hr,hu⟩:=List.mem_flatten.1 hu;obtain ⟨j,hj,rfl⟩:=List.mem_iff_getElem.1 hr;have hj2:j<(l.map Pr.d).length:=by rw [<- h.len];exact hj
 obtain ⟨r',hr',hd⟩:=h.get j _ (jF9 hj2);rw [jF9 hj] at hr';obtain rfl:=Option.some.inj hr';rw [List.getElem_map] at hd;rw [Pr.open_ hd] at hu;simp at hu;rcases hu with rfl | rfl<;>rfl
end Go.Proofs.YtklhajbpfelliaaGreatDoor

