/- Plain part: the numbers of a document: sections, figures, tables, equations, notes. Plain part: nodes of markup, and the nodes of inlines and blocks, as the chapter says. Plain part: entries, and the list of entries, as the program and as the reference make it. Plain part: the entries of numbers. Plain part: blocks with their tables of contents filled. tree.Each: what the function that it returns does with a loop's body. Plain part: what a small document's parts are bounded by. Plain part: what the entries of a well-formed document have. Plain part: the lists of entries of a well-formed document have no error but for the depth. Plain part: what well-formed, resolved blocks give to the walk of their nodes; the plain text of nodes; their anchors. Plain part: the anchors of a page have the identifiers of its document. Plain part: slides, as the program and as the reference divide blocks. Plain part: the sections of the page with slides, as the program and as the reference cut the blocks. Plain part: the page with slides has the anchors of the page, each as often. Plain part: the page of a well-formed document is valid markup. Plain part: the page of a well-formed, resolved document is valid markup (blocks, notes, the page). Plain part: the pieces of a well-formed document are well-formed; the page with slides is valid markup. Plain part: what the walk of the nodes of blocks asks, where blocks stand that are no rows and no cells. publisherref04.Deep, List: inlines and blocks with those in them, in document order. publisherref04.List: blocks with those in them, in document order. The contract of publisherref04.Inlines: all inlines of blocks. Plain part: all inlines of blocks: theirs are among them; how large they are together; unresolved ones. Words for nodes in memory. -/
import Derived.Test.YtkfnkeflalcphaaGreatDoorMRwC
import Derived.Test.YtkfnkeflalcphaaGreatDoorMScB
set_option maxHeartbeats 4000000
set_option maxRecDepth 100000
open Go.Lib (hid)
namespace Go.Proofs.YtkfnkeflalcphaaGreatDoor
open Tryz
open List renaming getElem?_eq_getElem->jK6,length_append->jKq,length_map->jKx,length_cons->jKz,cons_append->jL6,map_append->jL8,append_assoc->jLq,mem_cons_self->jM9,append_nil->jN6
open Nat renaming le_refl->jK8
open Go renaming World->jN9,Value->jNk
set_option linter.unusedVariables false
set_option linter.unusedSimpArgs false
def dU (n:Nat):ByteArray:=⟨(Lib.decDigits n).toArray⟩
def ah.mG:ah->List aj
 | .mk _ _ _ _ _ _ _ li _=>li
inductive Nd where
 | mk (nm tx:ByteArray) (at_:List Pr) (ks:List Nd)
def Nd.nm:Nd->ByteArray
 | .mk n _ _ _=>n
def Nd.tx:Nd->ByteArray
 | .mk _ t _ _=>t
def Nd.at_:Nd->List Pr
 | .mk _ _ a _=>a
def Nd.ks:Nd->List Nd
 | .mk _ _ _ k=>k
mutual
def Nd.d:Nd->D
 | .mk n t a ks=>.st [.str n,.str t,.sl 2 (a.map Pr.d),.sl 4 (Nd.dl ks)]
def Nd.dl:List Nd->List D
 | []=>[]
 | x::l=>x.d::Nd.dl l
end
theorem Nd.jW:∀ (l:List Nd),Nd.dl l=l.map Nd.d
 | []=>by unfold Nd.dl;rfl
 | x::l=>by rw [Nd.dl,Nd.jW l];rfl
def dR (l:List Nd):D:=.sl 4 (l.map Nd.d)
mutual
def Nd.sz:Nd->Nat
 | .mk _ _ _ ks=>1+Nd.aU ks
def Nd.aU:List Nd->Nat
 | []=>0
 | x::l=>x.sz+Nd.aU l
end
def bsS (l:List UInt8):ByteArray:=⟨l.toArray⟩
def pR:ByteArray:=⟨#[105,100]⟩
def gV:ByteArray:=⟨#[99,108,97,115,115]⟩
def qM:ByteArray:=⟨#[109,97,116,104]⟩
def q32:ByteArray:=⟨#[116,105,116,108,101]⟩
def fJ:ByteArray:=⟨#[104,114,101,102]⟩
def Dy:ByteArray:=⟨#[115,114,99]⟩
def Dz:ByteArray:=⟨#[97,108,116]⟩
def lU:ByteArray:=⟨#[110,111,116,101,114,101,102]⟩
def ru:ByteArray:=⟨#[35,110,111,116,101,45]⟩
def eX:ByteArray:=⟨#[110,111,116,101,45]⟩
def jB:ByteArray:=⟨#[110,111,116,101]⟩
def mP:ByteArray:=⟨#[110,111,116,101,115]⟩
def xE:ByteArray:=⟨#[108,97,110,103,117,97,103,101,45]⟩
def sStart:ByteArray:=⟨#[115,116,97,114,116]⟩
def DN:ByteArray:=⟨#[97,108,105,103,110]⟩
def nBr:ByteArray:=⟨#[98,114]⟩
def jA:ByteArray:=⟨#[99,111,100,101]⟩
def Pg:ByteArray:=⟨#[115,112,97,110]⟩
def nEm:ByteArray:=⟨#[101,109]⟩
def Pf:ByteArray:=⟨#[115,116,114,111,110,103]⟩
def nS:ByteArray:=⟨#[115]⟩
def nA:ByteArray:=⟨#[97]⟩
def ZG:ByteArray:=⟨#[105,109,103]⟩
def nP:ByteArray:=⟨#[112]⟩
def nH:ByteArray:=⟨#[104]⟩
def QV:ByteArray:=⟨#[112,114,101]⟩
def vM:ByteArray:=⟨#[100,105,118]⟩
def nHr:ByteArray:=⟨#[104,114]⟩
def UH:ByteArray:=⟨#[98,108,111,99,107,113,117,111,116,101]⟩
def nUl:ByteArray:=⟨#[117,108]⟩
def nOl:ByteArray:=⟨#[111,108]⟩
def nLi:ByteArray:=⟨#[108,105]⟩
def AL:ByteArray:=⟨#[116,97,98,108,101]⟩
def jq:ByteArray:=⟨#[116,104,101,97,100]⟩
def vY:ByteArray:=⟨#[116,98,111,100,121]⟩
def AJ:ByteArray:=⟨#[116,114]⟩
def M4:ByteArray:=⟨#[116,104]⟩
def DU:ByteArray:=⟨#[116,100]⟩
def eu:ByteArray:=⟨#[115,101,99,116,105,111,110]⟩
def jh:ByteArray:=⟨#[104,101,97,100]⟩
def ig:ByteArray:=⟨#[109,101,116,97]⟩
def fH:ByteArray:=⟨#[116,105,116,108,101]⟩
def lX:ByteArray:=⟨#[104,116,109,108]⟩
def fD:ByteArray:=⟨#[98,111,100,121]⟩
def GI:ByteArray:=⟨#[99,104,97,114,115,101,116]⟩
def fP:ByteArray:=⟨#[117,116,102,45,56]⟩
def jr:ByteArray:=⟨#[108,97,110,103]⟩
def jzj:ByteArray:=⟨#[108,101,102,116]⟩
def ja1:ByteArray:=⟨#[99,101,110,116,101,114]⟩
def jt4:ByteArray:=⟨#[114,105,103,104,116]⟩
def TA:ByteArray:=⟨#[32]⟩
def aW (name:ByteArray) (a:List Pr) (ks:List Nd):Nd:=.mk name ⟨#[]⟩ a ks
def Jk (s:ByteArray):Nd:=.mk ⟨#[]⟩ s [] []
def bY (s:ByteArray):List Nd:=if aV s=true then [] else [Jk s]
def jm (k v:ByteArray):List Pr:=if aV v=true then [] else [⟨k,v⟩]
def C9:List ByteArray->ByteArray
 | []=>⟨#[]⟩
 | [x]=>x
 | x::y::l=>x++TA++C9 (y::l)
def MK (l:List ByteArray):List Pr:=if l.isEmpty=true then [] else [⟨gV,C9 l⟩]
def ko (a:At) (more:List ByteArray):List Pr:=jm pR a.id++MK (more++a.cls)
def lY (out:List Nd) (x:Nd):List Nd:=if aV x.nm=true then match out.getLast? with
  | some y=>if aV y.nm=true then out.dropLast++[.mk y.nm (y.tx++x.tx) y.at_ y.ks] else out++[x]
  | none=>out++[x]
 else out++[x]
def iX (l:List Nd):List Nd:=l.foldl lY []
def mJ (l:List aj):ByteArray:=bsS (aj.aR l)
mutual
def aj.nd:aj->Nd
 | .mk k t d ti a ar ci ks=>
  if k=2 then Jk TA
  else if k=3 then aW nBr [] []
  else if k=4 then aW jA [] (bY t)
  else if k=5 then aW Pg [⟨gV,qM⟩] (bY t)
  else if k=6 then aW nEm [] (iX (aj.Da ks))
  else if k=7 then aW Pf [] (iX (aj.Da ks))
  else if k=8 then aW nS [] (iX (aj.Da ks))
  else if k=9 then aW nA (⟨fJ,d⟩::jm q32 ti) (iX (aj.Da ks))
  else if k=10 then aW ZG (⟨Dy,d⟩::⟨Dz,mJ ks⟩::jm q32 ti++ko a []) []
  else if k=11 then aW Pg (ko a []) (iX (aj.Da ks))
  else if k=12 then aW nA [⟨fJ,ru++t⟩,⟨gV,lU⟩] (bY t)
  else if k=16 then aW nA [⟨fJ,d⟩] (bY d)
  else Jk t
def aj.Da:List aj->List Nd
 | []=>[]
 | x::l=>x.nd::aj.Da l
end
def kP (l:List aj):List Nd:=iX (aj.Da l)
theorem um:∀ (l:List aj),aj.Da l=l.map aj.nd
 | []=>by rw [aj.Da];rfl
 | x::l=>by rw [aj.Da,um l];rfl
def Ik (c:UInt8):ByteArray:=if c=108 then jzj else if c=99 then ja1 else if c=114 then jt4 else ⟨#[]⟩
def Vy (name:ByteArray) (c:UInt8) (b:ah):Nd:=aW name (jm DN (Ik c)) (kP b.mG)
def ah.kids:ah->List ah
 | .mk _ _ _ _ _ _ _ _ ks=>ks
def bg (name:ByteArray):List UInt8->List ah->List Nd
 | c::cs,b::l=>Vy name c b::bg name cs l
 | _,_=>[]
def lW (name i:ByteArray) (b:ah):Nd:=aW AJ [] (bg name i.data.toList b.kids)
def En (i:ByteArray):List ah->Nd
 | []=>aW AL [] [aW jq [] []]
 | h::rows=>aW AL [] (aW jq [] [lW M4 i h]::if rows.isEmpty=true then [] else [aW vY [] (rows.map (lW DU i))])
mutual
def ah.yQ:ah->List Nd
 | .mk k lv i t d ti a li ks=>
  if k=1 then [aW nP [] (kP li)]
  else if k=2 then [aW (nH++dU lv.toNat) (ko a []) (kP li)]
  else if k=3 then [aW QV [] [aW jA (jm gV (if aV i=true then ⟨#[]⟩ else xE++i)) (bY t)]]
  else if k=4 then [aW vM (ko a [qM]) (bY t)]
  else if k=5 then [aW nHr [] []]
  else if k=6 then [aW UH [] (ah.bG ks)]
  else if k=7 then [aW nUl [] (ah.bG ks)]
  else if k=8 then [aW nOl (if lv=1 then [] else [⟨sStart,dU lv.toNat⟩]) (ah.bG ks)]
  else if k=9 then [aW nLi [] (ah.bG ks)]
  else if k=10 then [En i ks]
  else if k=13 then [aW vM (ko a [i]) (ah.bG ks)]
  else []
def ah.bG:List ah->List Nd
 | []=>[]
 | x::l=>x.yQ++ah.bG l
end
theorem Es:∀ (l:List ah) (k:Nat) (x:ah),l[k]?=some x->ah.bG (l.take (k+1))=ah.bG (l.take k)++x.yQ
 | [],_,_,h=>by simp at h
 | y::l,0,x,h=>by
  simp at h;subst h;simp [ah.bG]
 | y::l,k+1,x,h=>by
  rw [List.take_succ_cons,List.take_succ_cons,ah.bG,ah.bG,Es l k x (by simpa using h),jLq]
def dG (x:aj):Bool:=match x with
 | .mk k t _ _ _ _ _ _=>decide (k=15)||decide (k=13)||decide (k=14)||((decide (k=9)||decide (k=10))&&!aV t)
def qW (l:List aj):Bool:=(aj.aT l).any dG
def iq (b:ah):List Nd:=match b with
 | .mk k _ i _ _ _ _ _ ks=>if k=14 then [aW vM [⟨pR,eX++i⟩,⟨gV,jB⟩] (ah.bG ks)] else []
def iK (l:List ah):List Nd:=(ah.aG l).flatMap iq
def dL (l:List ah):List Nd:=ah.bG l++if (iK l).isEmpty=true then [] else [aW eu [⟨gV,mP⟩] (iK l)]
def yH (title lang:ByteArray) (body:List Nd):Nd:=
 aW lX [⟨jr,lang⟩] [aW jh [] [aW ig [⟨GI,fP⟩] [],aW fH [] (bY title)],aW fD [] body]
def eO (p:List Nd × ByteArray) (x:Nd):List Nd × ByteArray:=if aV x.nm=true then (p.1,p.2++x.tx) else (p.1++bY p.2++[x],⟨#[]⟩)
def gY (l:List Nd):List Nd × ByteArray:=l.foldl eO ([],⟨#[]⟩)
def VH (l:List Nd):Prop:=∀ y,l.getLast?=some y->aV y.nm=false
def Nd.full (x:Nd):Prop:=aV x.nm=true->x=Jk x.tx/\aV x.tx=false
theorem uw {s:ByteArray} (h:aV s=true):s=⟨#[]⟩:=by unfold aV at h;have:=of_decide_eq_true h;exact ByteArray.ext (Array.toList_inj.1 (by simpa using this))
theorem Gh (a b:ByteArray):aV (a++b)=(aV a&&aV b):=by unfold aV;rw [show (a++b).data.toList=a.data.toList++b.data.toList by simp [ByteArray.data_append]];simp [Bool.decide_and]
theorem AQ:∀ (l:List Nd) (out:List Nd) (acc:ByteArray),(∀ x∈l,x.full)->VH out->VH (l.foldl eO (out,acc)).1/\l.foldl lY (out++bY acc)=(l.foldl eO (out,acc)).1++bY (l.foldl eO (out,acc)).2
 | [],out,acc,_,ho=>⟨ho,rfl⟩
 | x::l,out,acc,h,ho=>by
  have hl:=fun y hy=>h y (List.mem_cons_of_mem _ hy)
  have hx:=h x (jM9 ..);rw [List.foldl_cons,List.foldl_cons];by_cases hn:aV x.nm=true
  ·obtain ⟨e1,e2⟩:=hx hn;have e3:eO (out,acc) x=(out,acc++x.tx):=by unfold eO;rw [if_pos hn]
   have e4:lY (out++bY acc) x=out++bY (acc++x.tx):=by
    unfold lY;rw [if_pos hn];have e5:aV (acc++x.tx)=false:=by rw [Gh,e2,Bool.and_false]
    have e6:bY (acc++x.tx)=[Jk (acc++x.tx)]:=by unfold bY;rw [if_neg (by rw [e5];simp)]
    rw [e6];by_cases ha:aV acc=true
    ·have e7:bY acc=[]:=by unfold bY;rw [if_pos ha]
     rw [e7,jN6];have e8:acc++x.tx=x.tx:=by rw [uw ha];apply ByteArray.ext;simp [ByteArray.data_append]
     rw [e8];cases hg:out.getLast? with
     | none=>simp only;rw [e1];rfl
     | some y=>simp only;rw [if_neg (by rw [ho y hg];simp),e1];rfl
    ·have e7:bY acc=[Jk acc]:=by unfold bY;rw [if_neg ha]
     rw [e7,List.getLast?_append];simp only [List.getLast?_singleton,Option.some_or];have e9:aV (Jk acc).nm=true:=rfl;rw [if_pos e9,List.dropLast_concat];rfl
   rw [e3,e4];exact AQ l out _ hl ho
  ·have e3:eO (out,acc) x=(out++bY acc++[x],⟨#[]⟩):=by unfold eO;rw [if_neg hn]
   have e4:lY (out++bY acc) x=(out++bY acc++[x])++bY ⟨#[]⟩:=by unfold lY;rw [if_neg hn];have:bY ⟨#[]⟩=[]:=rfl;rw [this,jN6]
   rw [e3,e4];refine AQ l _ _ hl ?_;intro y hy;rw [List.getLast?_append] at hy;simp at hy;subst hy;simpa using hn
theorem Rl (l:List Nd) (h:∀ x∈l,x.full):iX l=(gY l).1++bY (gY l).2:=
 (AQ l [] ⟨#[]⟩ h (fun y hy=>by simp at hy)).2
theorem MU (l:List Nd) (x:Nd):gY (l++[x])=eO (gY l) x:=by unfold gY;rw [List.foldl_append];rfl
open Go.RowKit Go.Shelf
attribute [local go_sem] Oper.semAt_some
theorem Rm (W:jN9):W.grownBy W.drew none:=⟨rfl,rfl,rfl,jK8 _,fun _ _ _=>rfl⟩
theorem VI (n l Bl B0:Nat) (P:ah->Prop) (bs:List ah) (v:jNk) (w0:jN9) (Kp:jN9->jN9->Prop) (hK:VJ B0 Kp) (J Jx:List (BW B0 w0 P)->jN9->Prop) (W:jN9) (hJ:AbidesFrom W.heap.size J) (hY:∀ (m:Nat) (pre:List (BW B0 w0 P)) (x:BW B0 w0 P) (W1:jN9),J pre W1->pre.length<(ah.aG bs).length->YieldAt Fence.wide m prog l #[x.1.enc] W1 fun e W'=> (e=.returned (.bool true)/\J (pre++[x]) W'/\Kp W1 W')\/(e=.returned (.bool false)/\Jx (pre++[x]) W')) (hPb:∀ b∈ah.aG bs,P b) (hrd:Rd (·<B0) w0 (iC bs) [v]) (hbel:Below B0 w0 W) (hB0:B0<=W.heap.size) (hBl:aH Bl v 22 W) (h0:J [] W) : CallsIn Fence.wide n prog 87 #[.func (.yield l) #[] #[],.pointer (some ⟨Bl,0,none⟩)] W fun e W'=>(∃ v,e=.returned v) /\ ((∃ xs,yU xs=ah.aG bs/\J xs W')\/(∃ pre,yU pre <+: ah.aG bs/\Jx pre W')):=by
 obtain ⟨va,vn,vc,rfl⟩:=Rd.au hrd;have hdd:∀ k:Nat,(Fence.wide.depth.isSome=true->1<=k):=fun k h=>by cases h
 have HC:Hid (∀ (m:Nat) (w2:jN9),Below B0 w0 w2->EB l W.heap.size (W.heap.size+1) w2->J [] w2->_):=fun m w2 h1 h2 h3=>
  Rn l B0 W.heap.size (W.heap.size+1) (ah.aG bs).length P w0 Kp hK J Jx (fun pre W1 h=>hJ pre W1 W1.drew none h (Rm W1) (fun r e=>by cases e)) hY (ah.aU bs) m bs (.slice va vn vc) [] w2 (jK8 _) hPb hrd h1 h2 h3 (by simp)
 have HJ:=hid hJ;have HB:=hid hBl;have jg:=hid hbel;have H0:=hid h0;obtain ⟨p,hp⟩:∃ p,p=W.heap.size:=⟨_,rfl⟩;rw [<- hp] at HC;clear hK hY hrd hbel hBl h0 hJ;refine callsIn_of_wp func87 rfl trivial ?_ rfl;simp only [ntmps87,List.size_toArray,jKz,List.length_nil,Nat.reduceAdd,Nat.reduceSub,Array.replicate_succ,Array.replicate_zero,List.push_toArray,List.append_toArray,List.nil_append,jL6]
 gi_upto_region 2 with (fail)
 obtain ⟨wA,iD⟩:∃ wA,wA=(W.alloc (.cells #[.func (.yield l) #[] #[]] 98)).alloc (.cells #[.nilFunc] 33):=⟨_,rfl⟩;have b0:aH p (.func (.yield l) #[] #[]) 98 wA:=by rw [iD,hp];exact (aH.new W _ _).alloc _
 have b1:aH (p+1) .nilFunc 33 wA:=by
  rw [iD,hp];have:=aH.new (W.alloc (.cells #[.func (.yield l) #[] #[]] 98)) .nilFunc 33
  rwa [World.size_alloc] at this
 have gA:Below p W wA:=by rw [iD,hp];exact ((Below.refl _ _).alloc (jK8 _) _).alloc (by simp) _
 rw [<- iD,<- hp];rw [<- hp] at hB0;have HP:=hid hp;clear iD hp;have c1:=b1.cell;have f1:=b1.free
 gi_upto_region 3 with (fail)
 obtain ⟨wB,Ju⟩:∃ wB,wB=wA.setCell ⟨p+1,0,none⟩ (EP p (p+1)):=⟨_,rfl⟩;have d0:aH p (.func (.yield l) #[] #[]) 98 wB:=by rw [Ju];exact b0.far (by omega) _
 have d1:aH (p+1) (EP p (p+1)) 33 wB:=by rw [Ju];exact b1.set _
 have gB:Below p W wB:=by rw [Ju];exact gA.setCell (p:=⟨p+1,0,none⟩) (by show p<=p+1;omega) _
 have cl:wB.cell? ⟨Bl,0,none⟩=some (.slice va vn vc):=(HB.out.below (by have:=HB.out.lt;rw [HP.out];exact this) gB).cell;have c2:=d1.cell;have HD:=hid (HC.out (n-1) wB (jg.out.trans (gB.mono hB0)) ⟨d0,d1⟩ (HJ.out [] W wB none H0.out ⟨gB.os,gB.tape,gB.output,gB.size,fun k hk _=>gB.block k (by rw [HP.out];exact hk)⟩ (fun r e=>by cases e)));unfold EP at Ju c2;rw [<- Ju];clear Ju b0 b1 gA c1 f1 d0 d1 gB
 gi_wp2_with (first
  | (refine ⟨trivial,hdd _,?_⟩;refine HD.out.mono ?_;clear HD;rintro e W1 (⟨rfl,q,hq,hJ1,hb1,hE1⟩ | ⟨rfl,q,hq,hx1⟩))
  | (refine HD.out.mono ?_;clear HD;rintro e W1 (⟨rfl,q,hq,hJ1,hb1,hE1⟩ | ⟨rfl,q,hq,hx1⟩)))
 ·go_end0
  exact ⟨⟨_,rfl⟩,.inl ⟨q,hq,by simpa using hJ1⟩⟩
 ·go_end0
  exact ⟨⟨_,rfl⟩,.inr ⟨q,hq,by simpa using hx1⟩⟩
theorem M6 (n Bl B0:Nat) (P:ah->Prop) (bs:List ah) (v:jNk) (w0 w:jN9) (Kp:jN9->jN9->Prop) (hK:VJ B0 Kp) (hPb:∀ b∈ah.aG bs,P b) (hrd:Rd (·<B0) w0 (iC bs) [v]) (hbel:Below B0 w0 w) (hB0:B0<=w.heap.size) (hBl:aH Bl v 22 w) : SeqStopsK Fence.wide n prog 87 #[.pointer (some ⟨Bl,0,none⟩)] (fun x:BW B0 w0 P=>#[x.1.enc]) Kp (fun xs=>yU xs=ah.aG bs) (fun pre=>yU pre <+: ah.aG bs) (ah.aG bs).length w:=fun l J Jx W hW hJ hJx hY h0=>
 VI n l Bl B0 P bs v w0 Kp hK J Jx W hJ (fun m pre x W1 hj hl=>VK rfl m (hY pre x W1 hj hl)) hPb hrd (hbel.trans (hW.mono hB0)) (Nat.le_trans hB0 hW.size) (hBl.below hBl.lt hW) h0
theorem VL (va:Option Addr) (vn vc:Nat) (w:jN9):Calls prog 42 #[.slice va vn vc] w fun e w'=>e=.returned (.func (.func 87) #[] #[.pointer (some ⟨w.heap.size,0,none⟩)])/\w'=w.alloc (.cells #[.slice va vn vc] 22):=by go_enter func42,ntmps42;go_wp2;go_ret;exact ⟨rfl,rfl⟩
mutual
theorem aj.VN:∀ (x:aj),x.small->x.plain.length<=300*x.sz
 | .mk k t d ti a ar ci ks,h=>by
  unfold aj.small at h;obtain ⟨h1,h2,h3,h4,h5,h6,h7,h8,h9⟩:=h;have hk:=aj.pU ks h9;have e1:t.data.toList.length=t.size:=by rw [Array.length_toList];rfl
  have e2:d.data.toList.length=d.size:=by rw [Array.length_toList];rfl
  rw [aj.plain,aj.sz];split
  ·omega
  ·split
   ·simp;omega
   ·split
    ·omega
    ·split
     ·omega
     ·simp
theorem aj.pU:∀ (l:List aj),aj.ay l->(aj.aR l).length<=300*aj.aU l
 | [],_=>by rw [aj.aR];simp
 | x::l,h=>by
  unfold aj.ay at h;rw [aj.aR,aj.aU,jKq];have:=aj.VN x h.1;have:=aj.pU l h.2;omega
end
mutual
theorem aj.VO:∀ (x:aj),x.small->x.bd
 | .mk k t d ti a ar ci ks,h=>by
  unfold aj.small at h;obtain ⟨h1,h2,h3,h4,h5,h6,h7,h8,h9⟩:=h;unfold At.short at h4;have hk:=aj.mQ ks h9;unfold aj.bd;exact ⟨by omega,by omega,by omega,by omega,hk⟩
theorem aj.mQ:∀ (l:List aj),aj.ay l->aj.mh l
 | [],_=>by unfold aj.mh;trivial
 | x::l,h=>by
  unfold aj.ay at h;unfold aj.mh;exact ⟨aj.VO x h.1,aj.mQ l h.2⟩
end
mutual
theorem ah.VO:∀ (x:ah),x.small->x.bd
 | .mk k lv i t d ti a li ks,h=>by
  unfold ah.small at h;obtain ⟨h1,h2,h3,h4,h5,h6,h7,h8⟩:=h;unfold At.short at h5;have hk:=ah.mQ ks h8;unfold ah.bd;exact ⟨by omega,by omega,aj.mQ li h6,by omega,hk⟩
theorem ah.mQ:∀ (l:List ah),ah.ay l->ah.mh l
 | [],_=>by unfold ah.mh;trivial
 | x::l,h=>by
  unfold ah.ay at h;unfold ah.mh;exact ⟨ah.VO x h.1,ah.mQ l h.2⟩
end
mutual
theorem ah.jt5:∀ (x:ah),x.sz+x.inls.length=x.all
 | .mk k lv i t d ti a li ks=>by
  have:=ah.GJ ks;have h2:=aj.eF li;rw [ah.sz,ah.inls,ah.all,jKq,h2];omega
theorem ah.GJ:∀ (l:List ah),ah.aU l+(ah.aJ l).length=ah.bU l
 | []=>by rw [ah.aU,ah.aJ,ah.bU];rfl
 | x::l=>by
  have:=ah.jt5 x;have:=ah.GJ l;rw [ah.aU,ah.aJ,ah.bU,jKq];omega
end
mutual
theorem ah.M7:∀ (x:ah),x.small->∀ b∈x.each,b.small
 | .mk k lv i t d ti a li ks,h,b,hb=>by
  rw [ah.each] at hb;rcases List.mem_cons.1 hb with rfl | hb
  ·exact h
  ·unfold ah.small at h;exact ah.fQ ks h.2.2.2.2.2.2.2 b hb
theorem ah.fQ:∀ (l:List ah),ah.ay l->∀ b∈ah.aG l,b.small
 | [],_,b,hb=>by rw [ah.aG] at hb;simp at hb
 | x::l,h,b,hb=>by
  unfold ah.ay at h;rw [ah.aG] at hb;rcases List.mem_append.1 hb with hb | hb
  ·exact ah.M7 x h.1 b hb
  ·exact ah.fQ l h.2 b hb
end
section
variable {P:Int->ByteArray->Prop}
end
mutual
def aj.ok:aj->Prop
 | .mk k t d ti a ar ci ks=>og 0 false false k t d ti a ar ci ks=0/\k≠2/\k≠3/\aj.okL 0 ks
def aj.okL (b:Int):List aj->Prop
 | []=>True
 | x::l=>x.ok/\¬ (b=x.kd/\(b=1\/b=4))/\aj.okL x.kd l
end
mutual
def aj.src:aj->Prop
 | .mk k t d ti a ar ci ks=>og 0 false false k t d ti a ar ci ks=0/\aj.GK ks
def aj.GK:List aj->Prop
 | []=>True
 | x::l=>x.src/\aj.GK l
end
theorem ja2 {before k:Int} {first last:Bool} {t d ti:ByteArray} {a:At} {ar:List ByteArray} {ci:List Ci} {ks:List aj} (h:og before first last k t d ti a ar ci ks=0) : og 0 false false k t d ti a ar ci ks=0:=by
 unfold og at h ⊢;by_cases h0:zL k t d ti a ar ci ks=false
 ·rw [if_pos h0] at h;cases h
 rw [if_neg h0] at h ⊢;by_cases h1:k=1\/k=4\/k=5
 ·rw [if_pos h1] at h ⊢;by_cases h4:aV t=true\/cZ t=false
  ·rw [if_pos h4] at h;cases h
  ·rw [if_neg h4,if_neg (by omega)]
 rw [if_neg h1] at h ⊢;by_cases h2:k=2
 ·rw [if_pos h2,if_neg (by simp)]
 rw [if_neg h2] at h ⊢;by_cases h3:k=3
 ·rw [if_pos h3,if_neg (by simp)]
 rw [if_neg h3] at h ⊢;exact h
mutual
theorem aj.ja3:∀ (x:aj) (before:Int) (first last:Bool) (dp:Nat),x.err before first last dp=0->x.src
 | .mk k t d ti a ar ci ks,before,first,last,dp,h=>by
  rw [aj.err] at h;rw [aj.src];by_cases h1:og before first last k t d ti a ar ci ks=0
  ·rw [if_neg (by simp [h1])] at h;exact ⟨ja2 h1,aj.uy ks _ _ _ h⟩
  ·rw [if_pos h1] at h;exact absurd h h1
theorem aj.uy:∀ (l:List aj) (before:Int) (st:Bool) (dp:Nat),aj.aQ before st dp l=0->aj.GK l
 | [],_,_,_,_=>by rw [aj.GK];trivial
 | x::l,before,st,dp,h=>by
  rw [aj.aQ] at h;rw [aj.GK];split at h
  ·cases h
  ·split at h
   ·rename_i h2;exact absurd h h2
   ·rename_i h2
    exact ⟨aj.ja3 x _ _ _ dp (Classical.not_not.1 h2),aj.uy l _ _ dp h⟩
end
mutual
def aj.tf:aj->Prop
 | .mk k t d ti a ar ci ks=>(k<2\/(12<k/\k<16)\/16<k->aV t=false)/\aj.MV ks
def aj.MV:List aj->Prop
 | []=>True
 | x::l=>x.tf/\aj.MV l
end
theorem VP (n:ByteArray) (a:List Pr) (ks:List Nd) (h:aV n=false):(aW n a ks).full:=fun e=>by
 have:aV n=true:=e;rw [h] at this;cases this
theorem JK (s:ByteArray) (h:aV s=false):(Jk s).full:=fun _=>⟨rfl,h⟩
theorem ja4:∀ (x:aj),x.tf->x.nd.full
 | .mk k t d ti a ar ci ks,h=>by
  rw [aj.tf] at h;rw [aj.nd];by_cases h2:k=2
  ·rw [if_pos h2];exact JK _ rfl
  rw [if_neg h2];by_cases h3:k=3
  ·rw [if_pos h3];exact VP _ _ _ rfl
  rw [if_neg h3];by_cases h4:k=4
  ·rw [if_pos h4];exact VP _ _ _ rfl
  rw [if_neg h4];by_cases h5:k=5
  ·rw [if_pos h5];exact VP _ _ _ rfl
  rw [if_neg h5];by_cases h6:k=6
  ·rw [if_pos h6];exact VP _ _ _ rfl
  rw [if_neg h6];by_cases h7:k=7
  ·rw [if_pos h7];exact VP _ _ _ rfl
  rw [if_neg h7];by_cases h8:k=8
  ·rw [if_pos h8];exact VP _ _ _ rfl
  rw [if_neg h8];by_cases h9:k=9
  ·rw [if_pos h9];exact VP _ _ _ rfl
  rw [if_neg h9];by_cases h10:k=10
  ·rw [if_pos h10];exact VP _ _ _ rfl
  rw [if_neg h10];by_cases h11:k=11
  ·rw [if_pos h11];exact VP _ _ _ rfl
  rw [if_neg h11];by_cases h12:k=12
  ·rw [if_pos h12];exact VP _ _ _ rfl
  rw [if_neg h12];by_cases h16:k=16
  ·rw [if_pos h16];exact VP _ _ _ rfl
  rw [if_neg h16];exact JK _ (h.1 (by omega))
theorem GD:∀ (l:List aj),aj.MV l->∀ x∈l,x.tf
 | [],_,x,hx=>by cases hx
 | y::l,h,x,hx=>by
  rw [aj.MV] at h;rcases List.mem_cons.1 hx with rfl | hx
  ·exact h.1
  ·exact GD l h.2 x hx
theorem JF (l:List aj) (h:aj.MV l):∀ x∈aj.Da l,x.full:=by intro x hx;rw [um] at hx;obtain ⟨y,hy,rfl⟩:=List.mem_map.1 hx;exact ja4 y (GD l h y hy)
theorem Vw (l:List aj) (h:aj.MV l):kP l=(gY (aj.Da l)).1++bY (gY (aj.Da l)).2:=Rl _ (JF l h)
theorem AU {k:Int} {t d ti:ByteArray} {a:At} {ar:List ByteArray} {ci:List Ci} {ks:List aj} (h:zL k t d ti a ar ci ks=true):1<=k/\k<=16:=by unfold zL at h;simp only [Bool.and_eq_true,decide_eq_true_eq] at h;omega
mutual
theorem jt6:∀ (x:aj),x.src->x.deep.any dG=false->x.tf
 | .mk k t d ti a ar ci ks,h,hu=>by
  rw [aj.src] at h;rw [aj.deep,List.any_cons,Bool.or_eq_false_iff] at hu;rw [aj.tf];refine ⟨fun hk=>?_,GL ks h.2 hu.2⟩;have h1:=h.1;unfold og at h1;split at h1
  ·cases h1
  ·rename_i h0
   have hf:=AU (by simpa using h0);have hu1:=hu.1;unfold dG at hu1;simp only [Bool.or_eq_false_iff,decide_eq_false_iff_not] at hu1;have hk1:k=1:=by omega
   rw [if_pos (.inl hk1)] at h1;split at h1
   ·cases h1
   ·rename_i h2
    cases h3:aV t
    ·rfl
    ·exact absurd (.inl h3) h2
theorem GL:∀ (l:List aj),aj.GK l->(aj.aT l).any dG=false->aj.MV l
 | [],_,_=>by rw [aj.MV];trivial
 | x::l,h,hu=>by
  rw [aj.GK] at h;rw [aj.aT,List.any_append,Bool.or_eq_false_iff] at hu;rw [aj.MV];exact ⟨jt6 x h.1 hu.1,GL l h.2 hu.2⟩
end
theorem Pz (l:List aj) (h:q0z l=0) (hu:qW l=false):aj.MV l:=GL l (aj.uy l 0 true 0 h) hu
mutual
def ah.aZ:ah->List aj
 | .mk _ _ _ _ _ _ _ li ks=>aj.aT li++ah.bJ ks
def ah.bJ:List ah->List aj
 | []=>[]
 | x::l=>x.aZ++ah.bJ l
end
mutual
def ah.hok:ah->Prop
 | .mk k lv i t d ti a li ks=>aj.MV li/\(k=2\/k=8->0<=lv/\lv<=999999999)/\(k=10->ks≠[]/\∀ r∈ks,r.kids.length=i.size)/\(∀ c∈a.cls,aV c=false)/\(k=13->aV i=false)/\ah.VQ ks
def ah.VQ:List ah->Prop
 | []=>True
 | x::l=>x.hok/\ah.VQ l
end
theorem PD (s:ByteArray) (h:dQ s=true):aV s=false:=by
 unfold dQ at h;simp only [Bool.and_eq_true,decide_eq_true_eq] at h;unfold aV;refine decide_eq_false fun e=>?_
 have h1:s.data.toList.length=s.size:=by simp
 rw [e] at h1;simp at h1;omega
theorem VT:∀ (l seen:List ByteArray),sN seen l=0->∀ c∈l,aV c=false
 | [],_,_,c,hc=>by cases hc
 | x::l,seen,h,c,hc=>by
  rw [sN] at h;split at h
  ·cases h
  ·rename_i h1
   split at h
   ·cases h
   ·rcases List.mem_cons.1 hc with rfl | hc
    ·exact PD _ (by simpa using h1)
    ·exact VT l _ h c hc
theorem GN (a:At) (h:a.err=0):∀ c∈a.cls,aV c=false:=by
 unfold At.err at h;split at h
 ·cases h
 ·split at h
  ·rename_i h1;exact absurd h h1
  ·rename_i h1
   exact VT a.cls [] (Classical.not_not.1 h1)
theorem VU (a:At) (h:a.none=true):∀ c∈a.cls,aV c=false:=by
 unfold At.none at h;simp only [Bool.and_eq_true] at h;have h1:a.cls=[]:=by simpa using h.1.2
 rw [h1];intro c hc;cases hc
theorem jgz{P:Prop}(h:P:=by
 split at h2
 ·cases h2
 ·split at h2
  ·rename_i h3;exact absurd h2 h3
  ·split at h2
   ·cases h2
   ·exact h2):P:=h
mutual
theorem ah.PE (cl:ByteArray->Bool):∀ (b:ah) (par:Int) (dp:Nat),b.err cl par dp=0->(b.aZ).any dG=false->b.hok
 | .mk k lv i t d ti a li ks,par,dp,h,hu=>by
  rw [ah.err] at h;rw [ah.aZ,List.any_append,Bool.or_eq_false_iff] at hu;rw [ah.hok];split at h
  ·cases h
  ·split at h
   ·cases h
   ·rename_i hb
    split at h
    ·rename_i h1;exact absurd h h1
    ·rename_i h1
     have h2:=Classical.not_not.1 h1;have hbf:zP k lv i t d ti a li ks=true:=by
      cases hx:zP k lv i t d ti a li ks
      ·exact absurd (.inl hx) hb
      ·rfl
     unfold zP at hbf;simp only [Bool.and_eq_true,decide_eq_true_eq] at hbf;obtain ⟨⟨⟨⟨⟨⟨⟨⟨b1,b2⟩,b3⟩,b4⟩,b5⟩,b6⟩,b7⟩,b8⟩,b9⟩:=hbf;have OG:=ah.JL cl ks k (dp+1) h hu.2;have hli:q0z li=0:=by
      by_cases c1:k=1
      ·unfold nO at h2;rw [if_pos c1] at h2;split at h2
       ·cases h2
       ·exact h2
      by_cases c2:k=2
      ·unfold nO at h2;rw [if_neg c1,if_pos c2] at h2;exact jgz
      by_cases c3:k=12
      ·unfold nO at h2;rw [if_neg c1,if_neg c2,if_pos c3] at h2;split at h2
       ·cases h2
       ·exact h2
      ·have:li=[]:=by
        rw [Bool.or_eq_true] at b8;rcases b8 with b8 | b8
        ·simp at b8;omega
        ·simpa using b8
       rw [this];unfold q0z;rw [aj.aQ]
     refine ⟨Pz li hli hu.1,?_,?_,?_,?_,OG⟩
     ·intro hk;rcases hk with rfl | rfl
      ·unfold nO at h2;rw [if_neg (by decide),if_pos rfl] at h2;split at h2
       ·cases h2
       ·omega
      ·unfold nO at h2;rw [if_neg (by decide),if_neg (by decide),if_neg (by decide),if_neg (by decide),if_neg (by decide),if_pos (.inr rfl)] at h2;split at h2
       ·cases h2
       ·split at h2
        ·cases h2
        ·rename_i h4
         constructor<;>(rcases Classical.em (lv<0) with h5 | h5<;>rcases Classical.em (999999999<lv) with h6 | h6<;>first | omega | exact absurd ⟨rfl,.inl h5⟩ h4 | exact absurd ⟨rfl,.inr h6⟩ h4)
     ·rintro rfl;unfold nO at h2;rw [if_neg (by decide),if_neg (by decide),if_neg (by decide),if_neg (by decide),if_neg (by decide),if_neg (by decide),if_pos rfl] at h2;unfold Tv at h2;split at h2
      ·cases h2
      ·split at h2
       ·cases h2
       ·split at h2
        ·cases h2
        ·split at h2
         ·cases h2
         ·rename_i h5
          split at h2
          ·cases h2
          ·rename_i h6
           refine ⟨fun e=>h5 (by rw [e];rfl),fun r hr=>?_⟩;have h7:ks.any (fun b=>!decide (b.oo=i.size))=false:=by simpa using h6
           rw [List.any_eq_false] at h7;have h8:=h7 r hr;have h9:decide (r.oo=i.size)=true:=by
            cases hx:decide (r.oo=i.size)
            ·rw [hx] at h8;exact absurd rfl h8
            ·rfl
           have h10:=of_decide_eq_true h9;cases r
           exact h10
     ·by_cases c2:k=2
      ·unfold nO at h2;rw [if_neg (by omega),if_pos c2] at h2;split at h2
       ·cases h2
       ·split at h2
        ·rename_i h3;exact absurd h2 h3
        ·rename_i h3;exact GN a (Classical.not_not.1 h3)
      by_cases c4:k=4
      ·unfold nO at h2;rw [if_neg (by omega),if_neg c2,if_neg (by omega),if_neg (by omega),if_pos c4] at h2;split at h2
       ·cases h2
       ·split at h2
        ·cases h2
        ·exact GN a h2
      by_cases c13:k=13
      ·unfold nO at h2;rw [if_neg (by omega),if_neg c2,if_neg (by omega),if_neg (by omega),if_neg c4,if_neg (by omega),if_neg (by omega),if_pos (.inl c13)] at h2;split at h2
       ·cases h2
       ·exact GN a h2
      ·rw [Bool.or_eq_true] at b7;rcases b7 with b7 | b7
       ·simp at b7;omega
       ·exact VU a b7
     ·rintro rfl;unfold nO at h2;rw [if_neg (by decide),if_neg (by decide),if_neg (by decide),if_neg (by decide),if_neg (by decide),if_neg (by decide),if_neg (by decide),if_pos (.inl rfl)] at h2;split at h2
      ·cases h2
      ·rename_i h3;exact PD i (by simpa using h3)
theorem ah.JL (cl:ByteArray->Bool):∀ (l:List ah) (par:Int) (dp:Nat),ah.aQ cl par dp l=0->(ah.bJ l).any dG=false->ah.VQ l
 | [],_,_,_,_=>by rw [ah.VQ];trivial
 | x::l,par,dp,h,hu=>by
  rw [ah.aQ] at h;rw [ah.bJ,List.any_append,Bool.or_eq_false_iff] at hu;rw [ah.VQ];split at h
  ·rename_i h1;exact absurd h h1
  ·rename_i h1
   exact ⟨ah.PE cl x par dp (Classical.not_not.1 h1) hu.1,ah.JL cl l par dp h hu.2⟩
end
mutual
def Nd.vals (key:ByteArray):Nd->List ByteArray
 | .mk n _ a ks=>if aV n=true then [] else ((a.filter fun p=>decide (p.key=key)).map (·.val))++Nd.dn key ks
def Nd.dn (key:ByteArray):List Nd->List ByteArray
 | []=>[]
 | x::l=>x.vals key++Nd.dn key l
end
theorem EA (key:ByteArray) (l m:List Nd):Nd.dn key (l++m)=Nd.dn key l++Nd.dn key m:=by
 induction l with
 | nil=>rw [Nd.dn];rfl
 | cons x l ih=>rw [jL6,Nd.dn,Nd.dn,ih,jLq]
def ah.GQ:ah->Int
 | .mk k _ _ _ _ _ _ _ _=>k
def ah.iOf:ah->ByteArray
 | .mk _ _ i _ _ _ _ _ _=>i
theorem ER (cl:ByteArray->Bool):∀ (l:List ah) (par:Int) (dp:Nat),ah.aQ cl par dp l=0->∀ x∈l,dX x.GQ par=true/\∃ dp',x.err cl par dp'=0
 | [],_,_,_,x,hx=>by cases hx
 | b::l,par,dp,h,x,hx=>by
  rw [ah.aQ] at h;split at h
  ·rename_i h1;exact absurd h h1
  ·rename_i h1
   rcases List.mem_cons.1 hx with rfl | hx
   ·have h2:=Classical.not_not.1 h1;refine ⟨?_,dp,h2⟩;obtain ⟨k,lv,i,t,d,ti,a,li,ks⟩:=x;rw [ah.err] at h2;split at h2
    ·cases h2
    ·split at h2
     ·cases h2
     ·rename_i h3
      show dX k par=true;cases h4:dX k par
      ·exact absurd (.inr h4) h3
      ·rfl
   ·exact ER cl l par dp h x hx
structure Sl where
 ti:List aj
 bl:List ah
def vV (b:ah):Bool:=match b with
 | .mk k lv _ _ _ _ _ _ _=>decide (k=2)&&(decide (lv=1)||decide (lv=2))
def mO (b:ah):Bool:=decide (b.GQ=5)||vV b
def ah.jzk:ah->List aj
 | .mk _ _ _ _ _ _ _ li _=>li
def nE (out:List Sl) (b:ah):List Sl:=
 if mO b=true then out++[⟨if b.GQ=5 then [] else b.jzk,[]⟩]
 else match out.getLast? with
  | some s=>out.dropLast++[⟨s.ti,s.bl++[b]⟩]
  | none=>[⟨[],[b]⟩]
def slR (l:List ah):List Sl:=l.foldl nE []
structure Pt where
 ti:Bool
 bl:List ah
structure yG where
 all:List Pt
 op:Pt
 some_:Bool
def dZ (s:yG):yG:=⟨if s.some_=true then s.all++[s.op] else s.all,⟨false,[]⟩,true⟩
def lZ (s:yG) (b:ah):yG:=
 if mO b=true then (if vV b=true then ⟨(dZ s).all,⟨true,[b]⟩,true⟩ else ⟨(dZ s).all,⟨false,[]⟩,true⟩)
 else ⟨s.all,⟨s.op.ti,s.op.bl++[b]⟩,true⟩
def uz:yG:=⟨[],⟨false,[]⟩,false⟩
def nM (l:List ah):yG:=l.foldl lZ uz
def eP (l:List ah):List Pt:=(dZ (nM l)).all
def lF (p:Pt):Sl:=if p.ti=true then ⟨match p.bl with | b::_=>b.jzk | []=>[],p.bl.tail⟩ else ⟨[],p.bl⟩
def slP (l:List ah):List Sl:=(eP l).map lF
def VW (p:Pt):Prop:=p.ti=true->∃ b t,p.bl=b::t/\vV b=true
theorem jh0 (b:ah) (h:vV b=true):b.GQ=2:=by obtain ⟨k,lv,i,t,d,ti,a,li,ks⟩:=b;unfold vV at h;simp only [Bool.and_eq_true,decide_eq_true_eq] at h;exact h.1
structure JM (s:yG):Prop where
 op:VW s.op
 no:s.some_=false->s.all=[]/\s.op=⟨false,[]⟩
 al:∀ p∈s.all,VW p
theorem M8 (s:yG) (h:JM s):∀ p∈(dZ s).all,VW p:=by
 unfold dZ;split
 ·intro p hp;rcases List.mem_append.1 hp with hp | hp
  ·exact h.al p hp
  ·simp at hp;subst hp;exact h.op
 ·exact h.al
theorem PG (s:yG) (b:ah) (h:JM s):JM (lZ s b):=by
 unfold lZ;split
 ·split
  ·rename_i ht
   exact ⟨(fun _=>⟨b,[],rfl,ht⟩),(fun e=>by cases e),M8 s h⟩
  ·exact ⟨(fun e=>by cases e),(fun e=>by cases e),M8 s h⟩
 ·refine ⟨fun e=>?_,(fun e=>by cases e),h.al⟩;obtain ⟨c,t,h1,h2⟩:=h.op e;exact ⟨c,t++[b],by show s.op.bl++[b]=_;rw [h1];rfl,h2⟩
theorem PI:∀ (l:List ah) (s:yG),JM s->JM (l.foldl lZ s)
 | [],s,h=>h
 | b::l,s,h=>by rw [List.foldl_cons];exact PI l _ (PG s b h)
theorem ps0:JM uz:=⟨(fun e=>by cases e),(fun _=>⟨rfl,rfl⟩),(fun p hp=>by cases hp)⟩
theorem jt7 (p:Pt) (b:ah) (h:VW p):lF ⟨p.ti,p.bl++[b]⟩=⟨(lF p).ti,(lF p).bl++[b]⟩:=by
 unfold lF;by_cases ht:p.ti=true
 ·obtain ⟨c,t,h1,h2⟩:=h ht;rw [if_pos ht,if_pos ht,h1];rfl
 ·rw [if_neg ht,if_neg ht]
def slS (s:yG):List Sl:=(dZ s).all.map lF
theorem VX{P:Prop}(h:P:=by
 unfold mO at hb;rw [Bool.or_eq_true] at hb;rcases hb with hb | hb
 ·exact of_decide_eq_true hb
 ·exact absurd hb ht):P:=h
theorem ja5 (s:yG) (b:ah) (h:JM s):slS (lZ s b)=nE (slS s) b:=by
 unfold slS;by_cases hb:mO b=true
 ·unfold lZ nE;rw [if_pos hb,if_pos hb];by_cases ht:vV b=true
  ·rw [if_pos ht];have hk:=jh0 b ht;have e1:(dZ ⟨(dZ s).all,⟨true,[b]⟩,true⟩).all=(dZ s).all++[⟨true,[b]⟩]:=rfl;rw [e1,jL8,List.map_singleton,if_neg (by omega)];rfl
  ·rw [if_neg ht];have hk:b.GQ=5:=by
    exact VX
   have e1:(dZ ⟨(dZ s).all,⟨false,[]⟩,true⟩).all=(dZ s).all++[⟨false,[]⟩]:=rfl;rw [e1,jL8,List.map_singleton,if_pos hk];rfl
 ·unfold lZ nE;rw [if_neg hb,if_neg hb];have e1:(dZ ⟨s.all,⟨s.op.ti,s.op.bl++[b]⟩,true⟩).all=s.all++[⟨s.op.ti,s.op.bl++[b]⟩]:=rfl;rw [e1,jL8,List.map_singleton,jt7 s.op b h.op];cases hs:s.some_ with
  | true=>
   have e2:(dZ s).all=s.all++[s.op]:=by unfold dZ;rw [if_pos hs]
   rw [e2,jL8,List.map_singleton,List.getLast?_append];simp
  | false=>
   obtain ⟨h1,h2⟩:=h.no hs;have e2:(dZ s).all=[]:=by unfold dZ;rw [if_neg (by rw [hs];simp),h1]
   rw [e2,h1,h2];rfl
theorem PK:∀ (l:List ah) (s:yG),JM s->slS (l.foldl lZ s)=l.foldl nE (slS s)
 | [],s,_=>rfl
 | b::l,s,h=>by rw [List.foldl_cons,List.foldl_cons,PK l _ (PG s b h),ja5 s b h]
theorem VY (l:List ah):slP l=slR l:=PK l uz ps0
def AX (l:List ah):Nat:=(l.filter mO).length
theorem VZ (out:List Sl) (b:ah):(nE out b).length=if mO b=true then out.length+1 else if out.isEmpty=true then 1 else out.length:=by
 unfold nE;split
 ·simp
 ·cases hg:out.getLast? with
  | none=>
   have:out=[]:=by simpa using hg
   rw [this];rfl
  | some s=>
   have e:=rP hg;have h0:out≠[]:=by rintro rfl;simp at hg
   have h1:out.isEmpty=false:=by cases out;exact absurd rfl h0;rfl
   simp only [h1];rw [jKq,List.length_dropLast];have:0<out.length:=List.length_pos_iff.2 h0;simp;omega
theorem JO:∀ (l:List ah) (out:List Sl),(out≠[]->(l.foldl nE out).length=out.length+AX l)/\(out=[]->(l.foldl nE out).length=AX l\/(l.foldl nE out).length=AX l+1)
 | [],out=>⟨fun _=>by simp [AX],fun h=>by rw [h];left;rfl⟩
 | b::l,out=>by
  have hs:=VZ out b;have hne:nE out b≠[]:=by
   intro e;rw [e] at hs;simp at hs;split at hs
   ·omega
   ·split at hs
    ·omega
    ·rename_i h1 h2
     have:out=[]:=List.eq_nil_of_length_eq_zero (by simpa using hs.symm);rw [this] at h2;exact h2 rfl
  have h1:=(JO l (nE out b)).1 hne;have hc:AX (b::l)=(if mO b=true then 1 else 0)+AX l:=by unfold AX;rw [List.filter_cons];cases mO b<;>simp;omega
  rw [List.foldl_cons];constructor
  ·intro h0;have h2:out.isEmpty=false:=by cases out;exact absurd rfl h0;rfl
   rw [h1,hs,hc,h2];cases mO b<;>simp;omega
  ·intro h0;rw [h1,hs,hc,h0];cases mO b
   ·right;simp<;>omega
   ·left;simp<;>omega
theorem V3 (l:List ah):(slR l).length=AX l\/(slR l).length=AX l+1:=(JO l []).2 rfl
def goB (b:ah):Bool:=!mO b
def qD:List ah->List (List ah)
 | []=>[]
 | b::l=>(b::l.takeWhile goB)::qD (l.dropWhile goB)
termination_by l=>l.length
decreasing_by
 have:∀ (l:List ah),(l.dropWhile goB).length<=l.length:=by
  intro l;induction l with
  | nil=>simp
  | cons x l ih=>rw [List.dropWhile_cons];split<;>simp<;>omega
 have:=this l;simp only [jKz];omega
theorem uD:qD []=[]:=by rw [qD]
theorem vZ (b:ah) (l:List ah):qD (b::l)=(b::l.takeWhile goB)::qD (l.dropWhile goB):=by rw [qD]
def DV (s:List ah):List ah:=match s with
 | b::l=>if b.GQ=5 then l else b::l
 | []=>[]
def uE (s:List ah):Pt:=match s with
 | b::l=>if vV b=true then ⟨true,b::l⟩ else if b.GQ=5 then ⟨false,l⟩ else ⟨false,b::l⟩
 | []=>⟨false,[]⟩
theorem yV (s:List ah):(uE s).bl=DV s:=by
 unfold uE DV;cases s with
 | nil=>rfl
 | cons b l=>
  simp only;by_cases ht:vV b=true
  ·have:=jh0 b ht;rw [if_pos ht,if_neg (by omega)]
  ·rw [if_neg ht];split<;>rfl
theorem V4 {b:ah}:goB b=true↔¬ mO b=true:=by unfold goB;cases mO b<;>simp
theorem wh:∀ (l:List ah) (s:yG),s.some_=true->(dZ (l.foldl lZ s)).all=s.all++⟨s.op.ti,s.op.bl++l.takeWhile goB⟩::(qD (l.dropWhile goB)).map uE
 | [],s,hs=>by
  rw [List.foldl_nil,List.takeWhile_nil,List.dropWhile_nil,uD,jN6];unfold dZ;rw [if_pos hs];rfl
 | b::l,s,hs=>by
  rw [List.foldl_cons,List.takeWhile_cons,List.dropWhile_cons];by_cases hb:mO b=true
  ·have hg:¬ goB b=true:=fun h=>V4.1 h hb
   rw [if_neg hg,if_neg hg,jN6,vZ,List.map_cons];have hfin:(dZ s).all=s.all++[s.op]:=by unfold dZ;rw [if_pos hs]
   by_cases ht:vV b=true
   ·have e1:lZ s b=⟨s.all++[s.op],⟨true,[b]⟩,true⟩:=by unfold lZ;rw [if_pos hb,if_pos ht,hfin]
    rw [e1,wh l _ rfl];have e2:uE (b::l.takeWhile goB)=⟨true,b::l.takeWhile goB⟩:=by unfold uE;simp only;rw [if_pos ht]
    rw [e2,jLq];rfl
   ·have hk:b.GQ=5:=by
     exact VX
    have e1:lZ s b=⟨s.all++[s.op],⟨false,[]⟩,true⟩:=by unfold lZ;rw [if_pos hb,if_neg ht,hfin]
    rw [e1,wh l _ rfl];have e2:uE (b::l.takeWhile goB)=⟨false,l.takeWhile goB⟩:=by unfold uE;simp only;rw [if_neg ht,if_pos hk]
    rw [e2,jLq];rfl
  ·have hg:goB b=true:=V4.2 hb;rw [if_pos hg,if_pos hg];have e1:lZ s b=⟨s.all,⟨s.op.ti,s.op.bl++[b]⟩,true⟩:=by unfold lZ;rw [if_neg hb]
   rw [e1,wh l _ rfl,jLq];rfl
theorem oL (l:List ah):eP l=(qD l).map uE:=by
 unfold eP nM;cases l with
 | nil=>rw [uD];rfl
 | cons b l=>
  rw [List.foldl_cons,vZ,List.map_cons];by_cases hb:mO b=true
  ·by_cases ht:vV b=true
   ·have e1:lZ uz b=⟨[],⟨true,[b]⟩,true⟩:=by unfold lZ;rw [if_pos hb,if_pos ht];rfl
    have e2:uE (b::l.takeWhile goB)=⟨true,b::l.takeWhile goB⟩:=by unfold uE;simp only;rw [if_pos ht]
    rw [e1,wh l _ rfl,e2];rfl
   ·have hk:b.GQ=5:=by
     exact VX
    have e1:lZ uz b=⟨[],⟨false,[]⟩,true⟩:=by unfold lZ;rw [if_pos hb,if_neg ht];rfl
    have e2:uE (b::l.takeWhile goB)=⟨false,l.takeWhile goB⟩:=by unfold uE;simp only;rw [if_neg ht,if_pos hk]
    rw [e1,wh l _ rfl,e2];rfl
  ·have e1:lZ uz b=⟨[],⟨false,[b]⟩,true⟩:=by unfold lZ;rw [if_neg hb];rfl
   have ht:¬ vV b=true:=fun h=>hb (by unfold mO;rw [h,Bool.or_true])
   have hk:¬ b.GQ=5:=fun h=>hb (by unfold mO;rw [decide_eq_true h];rfl)
   have e2:uE (b::l.takeWhile goB)=⟨false,b::l.takeWhile goB⟩:=by unfold uE;simp only;rw [if_neg ht,if_neg hk]
   rw [e1,wh l _ rfl,e2];rfl
def AY:ByteArray:=⟨#[115,108,105,100,101]⟩
def rQ (bl:List ah):Nd:=aW eu [⟨gV,AY⟩] (dL bl)
def ES (l:List ah):List Nd:=(qD l).map fun s=>rQ (DV s)
theorem mR (l:List ah):(eP l).map (fun p=>rQ p.bl)=ES l:=by
 rw [oL,List.map_map];unfold ES;congr 1
 funext s
 simp [yV]
theorem PN (l:List ah):(qD l).length=(slR l).length:=by rw [<- VY];unfold slP;rw [jKx,oL,jKx]
theorem pV (n:Nat):∀ (l:List ah),l.length<=n->(qD l).flatten=l:=by
 induction n with
 | zero=>intro l hl;rw [List.eq_nil_of_length_eq_zero (Nat.le_zero.1 hl),uD];rfl
 | succ n ih=>
  intro l hl;cases l with
  | nil=>rw [uD];rfl
  | cons b l=>
   rw [jKz] at hl;have:(l.dropWhile goB).length<=l.length:=by have h:=congrArg List.length (List.takeWhile_append_dropWhile (p:=goB) (l:=l));rw [jKq] at h;omega
   rw [vZ,List.flatten_cons,ih _ (by omega),jL6,List.takeWhile_append_dropWhile]
def UZ (c:UInt8):Bool:=decide (97<=c.toNat)&&decide (c.toNat<=122)
def tQ (c:UInt8):Bool:=UZ c||(decide (48<=c.toNat)&&decide (c.toNat<=57))||decide (c=45)||decide (c=58)
def kI (s:ByteArray):Bool:=s.data.toList.all tQ&&decide (1<=s.size)&&decide (s.size<=60)&&(match s.data.toList with | c::_=>UZ c | []=>false)
def kS (s:ByteArray):Bool:=decide (s=nBr)||decide (s=nHr)||decide (s=ZG)||decide (s=⟨#[108,105,110,107]⟩)||decide (s=ig)
def zZ (seen:List ByteArray):List Pr->Nat
 | []=>0
 | p::l=>if kI p.key=false then 6 else if je p.val=false then 17 else if dO seen p.key=true then 7 else zZ (seen++[p.key]) l
mutual
def Nd.vR:Nd->Nat
 | .mk n t a ks=>if aV n=true then (if a.isEmpty=false\/ks.isEmpty=false then 5 else if aV t=true\/je t=false then 17 else 0)
   else if kI n=false then 6 else if aV t=false\/(kS n=true/\ks.isEmpty=false) then 5 else if zZ [] a≠0 then zZ [] a else Nd.jo false ks
def Nd.jo (p:Bool):List Nd->Nat
 | []=>0
 | x::l=>if p=true/\aV x.nm=true then 5 else if x.vR≠0 then x.vR else Nd.jo (aV x.nm) l
end
def lastT (p:Bool) (l:List Nd):Bool:=match l.getLast? with | some x=>aV x.nm | none=>p
theorem Na (p:Bool) (x:Nd) (l:List Nd):lastT p (x::l)=lastT (aV x.nm) l:=by
 unfold lastT;cases l with
 | nil=>rfl
 | cons y l=>rw [List.getLast?_cons_cons];cases h:(y::l).getLast? with
  | none=>simp at h
  | some z=>rfl
theorem jL (p:Bool) (x:Nd) (l:List Nd):Nd.jo p (x::l)=0↔¬ (p=true/\aV x.nm=true)/\x.vR=0/\Nd.jo (aV x.nm) l=0:=by
 rw [Nd.jo];by_cases h1:p=true/\aV x.nm=true
 ·rw [if_pos h1];exact ⟨fun h=>(by cases h),fun h=>absurd h1 h.1⟩
 ·rw [if_neg h1];by_cases h2:x.vR=0
  ·rw [if_neg (by simp [h2])];exact ⟨fun h=>⟨h1,h2,h⟩,fun h=>h.2.2⟩
  ·rw [if_pos h2];exact ⟨fun h=>absurd h h2,fun h=>absurd h.2.1 h2⟩
theorem jM:∀ (l:List Nd) (p:Bool) (x:Nd),Nd.jo p (l++[x])=0↔Nd.jo p l=0/\¬ (lastT p l=true/\aV x.nm=true)/\x.vR=0
 | [],p,x=>by
  rw [List.nil_append,jL];have h0:∀ q,Nd.jo q []=0:=fun q=>by rw [Nd.jo]
  simp only [h0,lastT,List.getLast?_nil];constructor
  ·rintro ⟨h1,h2,-⟩;exact ⟨trivial,h1,h2⟩
  ·rintro ⟨-,h1,h2⟩;exact ⟨h1,h2,trivial⟩
 | y::l,p,x=>by
  rw [jL6,jL,jL,jM l,Na];constructor
  ·rintro ⟨h1,h2,h3,h4,h5⟩;exact ⟨⟨h1,h2,h3⟩,h4,h5⟩
  ·rintro ⟨⟨h1,h2,h3⟩,h4,h5⟩;exact ⟨h1,h2,h3,h4,h5⟩
theorem GR (s:ByteArray) (h1:aV s=false) (h2:je s=true):(Jk s).vR=0:=by unfold Jk;rw [Nd.vR,if_pos (by decide),if_neg (by simp),if_neg (by rw [h1,h2];simp)]
theorem AZ {x:Nd} (hn:aV x.nm=true) (h:x.vR=0):x=Jk x.tx/\aV x.tx=false/\je x.tx=true:=by
 obtain ⟨n,t,a,ks⟩:=x;have hn':aV n=true:=hn;rw [Nd.vR,if_pos hn'] at h;split at h
 ·cases h
 ·rename_i h1
  split at h
  ·cases h
  ·rename_i h2
   have ha:a=[]:=by
    cases a with
    | nil=>rfl
    | cons _ _=>exact absurd (.inl rfl) h1
   have hk:ks=[]:=by
    cases ks with
    | nil=>rfl
    | cons _ _=>exact absurd (.inr rfl) h1
   subst ha hk;refine ⟨by rw [uw hn'];rfl,?_,?_⟩
   ·show aV t=false;cases h3:aV t
    ·rfl
    ·exact absurd (.inl h3) h2
   ·show je t=true;cases h3:je t
    ·exact absurd (.inr h3) h2
    ·rfl
theorem V5 (out:List Nd) (x:Nd) (ho:Nd.jo false out=0) (hx:x.vR=0):Nd.jo false (lY out x)=0:=by
 unfold lY;by_cases hn:aV x.nm=true
 ·rw [if_pos hn];cases hg:out.getLast? with
  | none=>
   simp only;rw [jM];exact ⟨ho,(fun h=>by have h1:=h.1;unfold lastT at h1;rw [hg] at h1;cases h1),hx⟩
  | some y=>
   simp only;by_cases hy:aV y.nm=true
   ·rw [if_pos hy];rw [rP hg,jM] at ho;obtain ⟨h1,h2,h3⟩:=ho;obtain ⟨e1,e2,e3⟩:=AZ hy h3;obtain ⟨g1,g2,g3⟩:=AZ hn hx;have e:(Nd.mk y.nm (y.tx++x.tx) y.at_ y.ks)=Jk (y.tx++x.tx):=by rw [e1];rfl
    rw [e,jM];refine ⟨h1,fun h=>h2 ⟨h.1,hy⟩,GR _ (by rw [Gh,e2];rfl) (wm _ _ e3 g3)⟩
   ·rw [if_neg hy,jM];exact ⟨ho,(fun h=>by have h1:=h.1;unfold lastT at h1;rw [hg] at h1;exact hy h1),hx⟩
 ·rw [if_neg hn,jM];exact ⟨ho,fun h=>hn h.2,hx⟩
theorem A8:∀ (l out:List Nd),Nd.jo false out=0->(∀ x∈l,x.vR=0)->Nd.jo false (l.foldl lY out)=0
 | [],out,ho,_=>ho
 | x::l,out,ho,h=>by
  rw [List.foldl_cons];exact A8 l _ (V5 out x ho (h x (jM9 ..))) (fun y hy=>h y (List.mem_cons_of_mem _ hy))
theorem kU:Nd.jo false []=0:=by rw [Nd.jo]
theorem A9 (l:List Nd) (h:∀ x∈l,x.vR=0):Nd.jo false (iX l)=0:=A8 l [] kU h
theorem iL (s:ByteArray) (h:je s=true):Nd.jo false (bY s)=0:=by
 unfold bY;split
 ·exact kU
 ·rename_i h1
  rw [jL];exact ⟨(fun h=>by cases h.1),GR s (by simpa using h1) h,by rw [Nd.jo]⟩
theorem GU (n:ByteArray) (a:List Pr) (ks:List Nd) (hn:kI n=true) (he:kS n=false\/ks=[]) (ha:zZ [] a=0) (hk:Nd.jo false ks=0):(aW n a ks).vR=0/\aV (aW n a ks).nm=false:=by
 have hne:aV n=false:=by
  unfold kI at hn;simp only [Bool.and_eq_true,decide_eq_true_eq] at hn;unfold aV;refine decide_eq_false fun e=>?_
  have h1:n.data.toList.length=n.size:=by simp
  rw [e] at h1;simp at h1;omega
 refine ⟨?_,hne⟩;unfold aW;rw [Nd.vR,if_neg (by rw [hne];simp),if_neg (by rw [hn];simp),if_neg ?_,if_neg (by simp [ha])]
 ·exact hk
 ·rintro (h | ⟨h1,h2⟩)
  ·exact absurd h (by decide)
  ·rcases he with he | he
   ·rw [he] at h1;cases h1
   ·rw [he] at h2;cases h2
theorem Y2:∀ (l:List Nd),(∀ x∈l,x.vR=0/\aV x.nm=false)->Nd.jo false l=0
 | [],_=>kU
 | x::l,h=>by
  have h1:=h x (jM9 ..);rw [jL];exact ⟨(fun h=>by cases h.1),h1.1,by rw [h1.2];exact Y2 l (fun y hy=>h y (List.mem_cons_of_mem _ hy))⟩
theorem iM {s:ByteArray} (h:cZ s=true):je s=true:=by unfold cZ at h;rw [Bool.and_eq_true] at h;exact h.1
theorem Ba:kI gV=true:=by decide
theorem jh1:kI fJ=true:=by decide
theorem jF1:kI Dy=true:=by decide
theorem jF2:kI Dz=true:=by decide
theorem LV {s:ByteArray} (h:eG s):je s=true:=iM (V6 s h)
theorem pW:je (⟨#[]⟩:ByteArray)=true:=LV (by intro c hc;simp at hc)
theorem V7 (c:UInt8) (h:gM c=true):32<=c.toNat/\c.toNat<127:=by unfold gM Il dW j6 at h;simp only [Bool.or_eq_true,Bool.and_eq_true,decide_eq_true_eq] at h;omega
theorem PS (p:UInt8->Bool):∀ (l:List UInt8),(l.takeWhile p).length=l.length->∀ c∈l,p c=true
 | [],_,c,hc=>by cases hc
 | x::l,h,c,hc=>by
  rw [List.takeWhile_cons] at h;split at h
  ·rename_i hx
   rcases List.mem_cons.1 hc with rfl | hc
   ·exact hx
   ·exact PS p l (by simpa using h) c hc
  ·simp at h
theorem l6 (s:ByteArray) (h:dQ s=true):eG s:=by unfold dQ at h;simp only [Bool.and_eq_true,decide_eq_true_eq] at h;have h1:=h.2;unfold qN at h1;intro c hc;exact V7 c (PS gM _ (by rw [h1];simp) c hc)
theorem Bc:∀ (l:List ByteArray),(∀ s∈l,eG s)->eG (C9 l)
 | [],_=>by intro c hc;simp [C9] at hc
 | [x],h=>h x (by simp)
 | x::y::l,h=>by
  rw [C9];refine yX _ _ (yX _ _ (h x (by simp)) (by intro c hc;simp [TA] at hc;subst hc;decide)) (Bc (y::l) (fun s hs=>h s (List.mem_cons_of_mem _ hs)))
theorem ET:∀ (l seen:List ByteArray),sN seen l=0->∀ c∈l,dQ c=true
 | [],_,_,c,hc=>by cases hc
 | x::l,seen,h,c,hc=>by
  rw [sN] at h;split at h
  ·cases h
  ·rename_i h1
   split at h
   ·cases h
   ·rcases List.mem_cons.1 hc with rfl | hc
    ·simpa using h1
    ·exact ET l _ h c hc
structure Nb (a:At):Prop where
 id:eG a.id
 cls:∀ c∈a.cls,eG c
theorem uF (a:At) (h:a.err=0):Nb a:=by
 unfold At.err at h;split at h
 ·cases h
 ·rename_i h0
  split at h
  ·rename_i h1;exact absurd h h1
  ·rename_i h1
   refine ⟨?_,fun c hc=>l6 c (ET a.cls [] (Classical.not_not.1 h1) c hc)⟩;by_cases he:aV a.id=true
   ·rw [uw he];intro c hc;simp at hc
   ·have:dQ a.id=true:=by
     cases hx:dQ a.id
     ·exact absurd ⟨by simpa using he,hx⟩ h0
     ·rfl
    exact l6 _ this
def okP (p:Pr):Prop:=kI p.key=true/\je p.val=true
theorem V8:∀ (l:List Pr) (seen:List ByteArray),(∀ p∈l,okP p)->(∀ p∈l,dO seen p.key=false)->(l.map (·.key)).Nodup->(∀ p∈l,p.key ∉ seen)->zZ seen l=0
 | [],_,_,_,_,_=>by rw [zZ]
 | p::l,seen,h1,h2,h3,h4=>by
  have hp:=h1 p (jM9 ..);rw [List.map_cons,List.nodup_cons] at h3;rw [zZ,if_neg (by rw [hp.1];simp),if_neg (by rw [hp.2];simp),if_neg (by rw [h2 p (jM9 ..)];simp)];have hk:∀ q∈l,q.key≠p.key:=fun q hq e=>h3.1 (List.mem_map.2 ⟨q,hq,e⟩)
  refine V8 l _ (fun q hq=>h1 q (List.mem_cons_of_mem _ hq)) (fun q hq=>?_) h3.2 (fun q hq=>?_)
  ·cases hx:dO (seen++[p.key]) q.key
   ·rfl
   ·exfalso;unfold dO at hx;simp at hx;rcases hx with hx | hx
    ·exact h4 q (List.mem_cons_of_mem _ hq) (by simpa using hx)
    ·exact hk q hq (by first | exact hx | exact hx.symm)
  ·intro hm;rcases List.mem_append.1 hm with hm | hm
   ·exact h4 q (List.mem_cons_of_mem _ hq) hm
   ·exact hk q hq (List.mem_singleton.1 hm)
theorem EU (l:List Pr) (h1:∀ p∈l,okP p) (h2:(l.map (·.key)).Nodup):zZ [] l=0:=
 V8 l [] h1 (fun p hp=>by unfold dO;simp) h2 (fun p hp h=>by cases h)
theorem Bg (k v:ByteArray):(jm k v).map (·.key)=if aV v=true then [] else [k]:=by unfold jm;split<;>rfl
theorem GV (k v:ByteArray) (hk:kI k=true) (hv:je v=true):∀ p∈jm k v,okP p:=by
 unfold jm;split
 ·intro p hp;cases hp
 ·intro p hp;simp at hp;subst hp;exact ⟨hk,hv⟩
theorem PU (a:At) (more:List ByteArray) (h:Nb a) (hm:∀ s∈more,eG s):∀ p∈ko a more,okP p:=by
 unfold ko;intro p hp;rcases List.mem_append.1 hp with hp | hp
 ·exact GV pR a.id (by decide) (LV h.id) p hp
 ·unfold MK at hp;split at hp
  ·cases hp
  ·simp at hp;subst hp;refine ⟨Ba,LV (Bc _ fun s hs=>?_)⟩;rcases List.mem_append.1 hs with hs | hs
   ·exact hm s hs
   ·exact h.cls s hs
theorem EW (a:At) (more:List ByteArray):(ko a more).map (·.key)=(if aV a.id=true then [] else [pR])++(if (more++a.cls).isEmpty=true then [] else [gV]):=by unfold ko MK;rw [jL8,Bg];congr 1;split<;>rfl
theorem uG (a:At) (more:List ByteArray) (h:Nb a) (hm:∀ s∈more,eG s):zZ [] (ko a more)=0:=by refine EU _ (PU a more h hm) ?_;rw [EW];split<;>split<;>decide
theorem kV (k v:ByteArray) (hk:kI k=true) (hv:je v=true):zZ [] [⟨k,v⟩]=0:=EU _ (fun p hp=>by simp at hp;subst hp;exact ⟨hk,hv⟩) (by simp)
theorem jt8 (a b:List UInt8):bsS (a++b)=bsS a++bsS b:=by apply ByteArray.ext;apply Array.toList_inj.1;show (a++b).toArray.toList=_;simp [bsS,ByteArray.data_append]
theorem PV (s:ByteArray):bsS s.data.toList=s:=by apply ByteArray.ext;apply Array.toList_inj.1;show s.data.toList.toArray.toList=_;simp
mutual
theorem aj.jt9:∀ (x:aj),x.src->x.deep.any dG=false->x.nd.vR=0/\je (bsS x.plain)=true
 | .mk k t d ti a ar ci ks,h,hu=>by
  rw [aj.src] at h;obtain ⟨h1,h2⟩:=h;rw [aj.deep,List.any_cons,Bool.or_eq_false_iff] at hu;obtain ⟨u1,u2⟩:=hu;obtain ⟨hR,hP⟩:=aj.GX ks h2 u2;have hJ:=A9 (aj.Da ks) hR;have hf:zL k t d ti a ar ci ks=true:=by
   cases hf:zL k t d ti a ar ci ks
   ·unfold og at h1;rw [if_pos hf] at h1;cases h1
   ·rfl
  have hk:=AU hf;unfold dG at u1;simp only [Bool.or_eq_false_iff,Bool.and_eq_false_iff,decide_eq_false_iff_not] at u1;unfold og at h1;rw [if_neg (by rw [hf];simp)] at h1;rw [aj.nd,aj.plain];have hsp:je TA=true:=LV (by intro c hc;simp [TA] at hc;subst hc;decide);by_cases c1:k=1\/k=4\/k=5
  ·rw [if_pos c1] at h1 ⊢;have ht:aV t=false/\je t=true:=by
    split at h1
    ·cases h1
    ·rename_i h3
     constructor
     ·cases h4:aV t
      ·rfl
      ·exact absurd (.inl h4) h3
     ·cases h4:cZ t
      ·exact absurd (.inr h4) h3
      ·exact iM h4
   rw [PV];refine ⟨?_,ht.2⟩;rw [if_neg (by omega),if_neg (by omega)];by_cases c4:k=4
   ·rw [if_pos c4];exact (GU _ _ _ (by decide) (.inl (by decide)) (by rw [zZ]) (iL t ht.2)).1
   rw [if_neg c4];by_cases c5:k=5
   ·rw [if_pos c5];exact (GU _ _ _ (by decide) (.inl (by decide)) (kV _ _ (by decide) (LV (by unfold eG;decide))) (iL t ht.2)).1
   rw [if_neg c5,if_neg (by omega),if_neg (by omega),if_neg (by omega),if_neg (by omega),if_neg (by omega),if_neg (by omega),if_neg (by omega),if_neg (by omega)];exact GR t ht.1 ht.2
  rw [if_neg c1] at h1 ⊢;by_cases c2:k=2
  ·rw [if_pos c2,if_pos (.inl c2)];exact ⟨GR _ rfl hsp,hsp⟩
  by_cases c3:k=3
  ·rw [if_neg c2,if_pos c3,if_pos (.inr c3)];exact ⟨(GU _ _ _ (by decide) (.inr rfl) (by rw [zZ]) kU).1,hsp⟩
  rw [if_neg c2,if_neg c3] at h1;rw [if_neg c2,if_neg c3,if_neg (by omega),if_neg (by omega),if_neg (show ¬ (k=2\/k=3) by omega)];by_cases c6:k=6
  ·rw [if_pos c6,if_pos (by omega)];exact ⟨(GU _ _ _ (by decide) (.inl (by decide)) (by rw [zZ]) hJ).1,hP⟩
  rw [if_neg c6];by_cases c7:k=7
  ·rw [if_pos c7,if_pos (by omega)];exact ⟨(GU _ _ _ (by decide) (.inl (by decide)) (by rw [zZ]) hJ).1,hP⟩
  rw [if_neg c7];by_cases c8:k=8
  ·rw [if_pos c8,if_pos (by omega)];exact ⟨(GU _ _ _ (by decide) (.inl (by decide)) (by rw [zZ]) hJ).1,hP⟩
  rw [if_neg c8];rw [if_neg (by omega)] at h1;by_cases c9:k=9\/k=10
  ·rw [if_pos c9] at h1;unfold Tq at h1;split at h1
   ·cases h1
   ·split at h1
    ·cases h1
    ·split at h1
     ·cases h1
     ·rename_i h5
      have hd:je d=true:=by
       cases h6:cZ d
       ·exact absurd (.inl h6) h5
       ·exact iM h6
      have hti:je ti=true:=by
       cases h6:cZ ti
       ·exact absurd (.inr h6) h5
       ·exact iM h6
      split at h1
      ·cases h1
      ·by_cases d9:k=9
       ·rw [if_pos d9,if_pos (by omega)];refine ⟨(GU _ _ _ (by decide) (.inl (by decide)) (EU _ ?_ ?_) hJ).1,hP⟩
        ·intro p hp;rcases List.mem_cons.1 hp with rfl | hp
         ·exact ⟨jh1,hd⟩
         ·exact GV _ _ (by decide) hti p hp
        ·rw [List.map_cons,Bg];show (fJ::_).Nodup;split<;>decide
       ·have d10:k=10:=by omega
        rw [if_pos d10] at h1;rw [if_neg d9,if_pos d10,if_pos (by omega)];have hg:=uF a h1;refine ⟨(GU _ _ _ (by decide) (.inr rfl) (EU _ ?_ ?_) kU).1,hP⟩
        ·intro p hp;rcases List.mem_append.1 hp with hp | hp
         ·rcases List.mem_cons.1 hp with rfl | hp
          ·exact ⟨jF1,hd⟩
          ·rcases List.mem_cons.1 hp with rfl | hp
           ·exact ⟨jF2,hP⟩
           ·exact GV _ _ (by decide) hti p hp
         ·exact PU a [] hg (by intro s hs;cases hs) p hp
        ·rw [jL8,List.map_cons,List.map_cons,Bg,EW];show ((Dy::Dz::_)++_).Nodup;split<;>split<;>split<;>decide
  rw [if_neg c9] at h1;rw [if_neg (by omega),if_neg (by omega)];by_cases c11:k=11
  ·rw [if_pos c11] at h1;rw [if_pos c11,if_pos (by omega)];split at h1
   ·cases h1
   ·exact ⟨(GU _ _ _ (by decide) (.inl (by decide)) (uG a [] (uF a h1) (by intro s hs;cases hs)) hJ).1,hP⟩
  rw [if_neg c11] at h1 ⊢;rw [if_neg (show ¬ (k=6\/k=7\/k=8\/k=9\/k=10\/k=11) by omega)];by_cases c12:k=12
  ·rw [if_pos (.inl c12)] at h1;unfold Tn at h1;split at h1
   ·cases h1
   ·rename_i h5
    have ha:eG t:=l6 t (by simpa using h5);rw [if_pos c12,if_neg (by omega)];refine ⟨(GU _ _ _ (by decide) (.inl (by decide)) (EU _ ?_ ?_) (iL t (LV ha))).1,pW⟩;case refine_2=>
     show [fJ,gV].Nodup;decide
    intro p hp;rcases List.mem_cons.1 hp with rfl | hp
    ·exact ⟨jh1,LV (yX _ _ (by unfold eG;decide) ha)⟩
    ·simp at hp;subst hp;exact ⟨by decide,LV (by unfold eG;decide)⟩
  rw [if_neg (by omega),if_neg (by omega)] at h1;have c16:k=16:=by omega
  have hau:jS d=true:=by
   cases hx:jS d
   ·rw [hx] at h1;simp at h1
   ·rfl
  unfold jS at hau;simp only [Bool.and_eq_true] at hau;have hd:=iM hau.1.2;rw [if_neg c12,if_pos c16,if_pos c16,PV];exact ⟨(GU _ _ _ (by decide) (.inl (by decide)) (kV _ _ (by decide) hd) (iL d hd)).1,hd⟩
theorem aj.GX:∀ (l:List aj),aj.GK l->(aj.aT l).any dG=false->(∀ x∈aj.Da l,x.vR=0)/\je (bsS (aj.aR l))=true
 | [],_,_=>by
  rw [aj.Da,aj.aR];exact ⟨(fun x hx=>by cases hx),pW⟩
 | x::l,h,hu=>by
  rw [aj.GK] at h;rw [aj.aT,List.any_append,Bool.or_eq_false_iff] at hu;obtain ⟨h1,h2⟩:=aj.jt9 x h.1 hu.1;obtain ⟨h3,h4⟩:=aj.GX l h.2 hu.2;rw [aj.Da,aj.aR,jt8];refine ⟨fun y hy=>?_,wm _ _ h2 h4⟩;rcases List.mem_cons.1 hy with rfl | hy
  ·exact h1
  ·exact h3 y hy
end
theorem V9 (l:List aj) (h:q0z l=0) (hu:qW l=false):Nd.jo false (kP l)=0:=A9 _ (aj.GX l (aj.uy l 0 true 0 h) hu).1
theorem Bj {s:ByteArray} (h:fA s=true):je s=true:=by
 unfold fA at h;rw [Bool.or_eq_true,Bool.and_eq_true] at h;rcases h with h | h
 ·rw [uw h];exact pW
 ·exact h.1
theorem Bn (n:Nat):∀ c∈Lib.decDigits n,32<=c.toNat/\c.toNat<127/\tQ c=true:=by
 induction n using Nat.strongRecOn with
 | _ n ih=>
  intro c hc;rw [Lib.decDigits] at hc;have hd:∀ m:Nat,m<10->32<=(UInt8.ofNat (48+m)).toNat/\(UInt8.ofNat (48+m)).toNat<127/\tQ (UInt8.ofNat (48+m))=true:=by
   intro m hm;have h1:(UInt8.ofNat (48+m)).toNat=48+m:=by simp;omega
   refine ⟨by omega,by omega,?_⟩;unfold tQ;rw [decide_eq_true (show 48<=(UInt8.ofNat (48+m)).toNat by omega),decide_eq_true (show (UInt8.ofNat (48+m)).toNat<=57 by omega)];simp
  split at hc
  ·rename_i h
   rw [List.mem_singleton] at hc;subst hc;exact hd n h
  ·rcases List.mem_append.1 hc with hc | hc
   ·exact ih (n/10) (by omega) c hc
   ·rw [List.mem_singleton] at hc;subst hc;exact hd (n%10) (by omega)
theorem zT (n m:Nat) (h:n<10 ^ (m+1)):(Lib.decDigits n).length<=m+1:=by
 induction m generalizing n with
 | zero=>
  rw [Lib.decDigits,dif_pos (by simpa using h)];simp
 | succ m ih=>
  rw [Lib.decDigits];split
  ·simp
  ·rw [jKq,List.length_singleton];have:=ih (n/10) (by
    rw [Nat.div_lt_iff_lt_mul (by decide)];have e:10 ^ (m+1+1)=10 ^ (m+1)*10:=Nat.pow_succ ..;omega)
   omega
theorem Ro (n:Nat):eG (dU n):=by unfold dU eG;rw [List.toList_toArray];exact fun c hc=>⟨(Bn n c hc).1,(Bn n c hc).2.1⟩
theorem jtj (n:Nat) (h:n<1000000000):kI (nH++dU n)=true:=by
 have e:(nH++dU n).data.toList=104::Lib.decDigits n:=by rw [oM];unfold dU;rw [List.toList_toArray];rfl
 have hl:(nH++dU n).size=1+(Lib.decDigits n).length:=by rw [<- Bo,e,jKz];omega
 have h9:=zT n 8 (by simpa using h);unfold kI;rw [e,hl];simp only [Bool.and_eq_true,decide_eq_true_eq,List.all_cons];refine ⟨⟨⟨⟨by decide,?_⟩,by omega⟩,by omega⟩,by decide⟩;rw [List.all_eq_true];exact fun c hc=>(Bn n c hc).2.2
theorem fI {n:ByteArray} {a:List Pr} {ks:List Nd} (hn:kI n=true) (he:kS n=false\/ks=[]) (ha:zZ [] a=0) (hk:Nd.jo false ks=0):∀ x∈[aW n a ks],x.vR=0/\aV x.nm=false:=by intro x hx;rw [List.mem_singleton] at hx;subst hx;exact GU n a ks hn he ha hk
theorem Rp:zZ [] []=0:=by rw [zZ]
theorem Rq (c:UInt8):eG (Ik c):=by
 unfold Ik;split
 ·unfold eG;decide
 ·split
  ·unfold eG;decide
  ·split
   ·unfold eG;decide
   ·intro c hc;simp at hc
theorem JQ (k v:ByteArray) (hk:kI k=true) (hv:je v=true):zZ [] (jm k v)=0:=by
 unfold jm;split
 ·exact Rp
 ·exact kV k v hk hv
def rR (b:ah):Prop:=Nd.jo false (kP b.mG)=0
theorem EX (name:ByteArray) (hn:kI name=true) (he:kS name=false):∀ (cs:List UInt8) (l:List ah),(∀ b∈l,rR b)->∀ x∈bg name cs l,x.vR=0/\aV x.nm=false
 | [],_,_,x,hx=>by rw [bg] at hx;cases hx;all_goals simp_all
 | c::cs,[],_,x,hx=>by rw [bg] at hx;cases hx;all_goals simp_all
 | c::cs,b::l,h,x,hx=>by
  rw [bg] at hx;rcases List.mem_cons.1 hx with rfl | hx
  ·exact GU _ _ _ hn (.inl he) (JQ _ _ (by decide) (LV (Rq c))) (h b (jM9 ..))
  ·exact EX name hn he cs l (fun y hy=>h y (List.mem_cons_of_mem _ hy)) x hx
theorem PX (name i:ByteArray) (hn:kI name=true) (he:kS name=false) (b:ah) (h:∀ c∈b.kids,rR c):(lW name i b).vR=0/\aV (lW name i b).nm=false:=
 GU _ _ _ (by decide) (.inl (by decide)) Rp (Y2 _ (EX name hn he i.data.toList b.kids h))
theorem JR{P Q:Prop}(q:Q)(h:Nonempty Q->P:=by
 intro qQ;refine GU _ _ _ (by decide) (.inl (by decide)) Rp (Y2 _ ?_);exact qQ.elim fun x=>x):P:=h ⟨q⟩
theorem Rs (i:ByteArray) (ks:List ah) (h:∀ r∈ks,∀ c∈r.kids,rR c):∀ x∈[En i ks],x.vR=0/\aV x.nm=false:=by
 intro x hx;rw [List.mem_singleton] at hx;subst hx;unfold En;split
 ·refine JR ?_;exact fI (by decide) (.inl (by decide)) Rp kU
 ·rename_i r rows
  refine JR ?_;intro y hy;rcases List.mem_cons.1 hy with rfl | hy
  ·refine JR ?_;intro z hz;rw [List.mem_singleton] at hz;subst hz;exact PX M4 i (by decide) (by decide) r (h r (List.mem_cons_self ..))
  ·split at hy
   ·cases hy
   ·rw [List.mem_singleton] at hy;subst hy;refine JR ?_;intro z hz;obtain ⟨q,hq,rfl⟩:=List.mem_map.1 hz;exact PX DU i (by decide) (by decide) q (h q (List.mem_cons_of_mem _ hq))
theorem iE (cl:ByteArray->Bool) {k lv:Int} {i t d ti:ByteArray} {a:At} {li:List aj} {ks:List ah} {par:Int} {dp:Nat} (h:(ah.mk k lv i t d ti a li ks).err cl par dp=0) : nO cl k lv i t d ti a li ks=0/\zP k lv i t d ti a li ks=true/\ah.aQ cl k (dp+1) ks=0:=by
 rw [ah.err] at h;split at h
 ·cases h
 ·split at h
  ·cases h
  ·rename_i hb
   split at h
   ·rename_i h1;exact absurd h h1
   ·rename_i h1
    refine ⟨Classical.not_not.1 h1,?_,h⟩;cases hx:zP k lv i t d ti a li ks
    ·exact absurd (.inl hx) hb
    ·rfl
theorem JU (cl:ByteArray->Bool) {k lv:Int} {i t d ti:ByteArray} {a:At} {li:List aj} {ks:List ah} (h2:nO cl k lv i t d ti a li ks=0) (hbf:zP k lv i t d ti a li ks=true):q0z li=0:=by
 unfold nO at h2;by_cases c1:k=1
 ·rw [if_pos c1] at h2;split at h2
  ·cases h2
  ·exact h2
 rw [if_neg c1] at h2;by_cases c2:k=2
 ·rw [if_pos c2] at h2;exact jgz
 rw [if_neg c2] at h2;by_cases c3:k=12
 ·rw [if_pos c3] at h2;split at h2
  ·cases h2
  ·exact h2
 ·have:li=[]:=by
   unfold zP at hbf;simp only [Bool.and_eq_true] at hbf;have b8:=hbf.1.2;rw [Bool.or_eq_true] at b8;rcases b8 with b8 | b8
   ·simp at b8;omega
   ·simpa using b8
  rw [this];unfold q0z;rw [aj.aQ]
def rT (x:Nd):Prop:=x.vR=0/\aV x.nm=false
def Wd (b:ah):Prop:=b.GQ=14->eG b.iOf/\∀ x∈ah.bG b.kids,rT x
mutual
theorem ah.ja6 (cl:ByteArray->Bool):∀ (b:ah) (par:Int) (dp:Nat),b.err cl par dp=0->b.aZ.any dG=false -> rR b/\(∀ c∈b.kids,rR c)/\(∀ x∈b.yQ,rT x)/\∀ y∈b.each,Wd y
 | .mk k lv i t d ti a li ks,par,dp,h,hu=>by
  obtain ⟨h2,hbf,h3⟩:=iE cl h;rw [ah.aZ,List.any_append,Bool.or_eq_false_iff] at hu;have hln:Nd.jo false (kP li)=0:=V9 li (JU cl h2 hbf) hu.1;obtain ⟨g1,g2,g3,g4⟩:=ah.uH cl ks k (dp+1) h3 hu.2;have hK:=Y2 (ah.bG ks) g3;have hno:∀ s∈([]:List ByteArray),eG s:=by intro s hs;cases hs
  have hcls:eG qM:=by unfold eG;decide
  refine ⟨hln,g1,?_,?_⟩
  ·rw [ah.yQ];by_cases c1:k=1
   ·rw [if_pos c1];exact fI (by decide) (.inl (by decide)) Rp hln
   rw [if_neg c1];by_cases c2:k=2
   ·rw [if_pos c2];unfold nO at h2;rw [if_neg c1,if_pos c2] at h2;split at h2
    ·cases h2
    ·rename_i h4
     split at h2
     ·rename_i h5;exact absurd h2 h5
     ·rename_i h5
      refine fI (jtj _ (by omega)) (.inl ?_) (uG a [] (uF a (Classical.not_not.1 h5)) hno) hln;have e:∀ (s:ByteArray),s.data.toList.length=2->s.data.toList[0]?=some 104->s.data.toList[1]?≠some 114->kS s=false:=by intro s hl h0 h1;unfold kS;simp only [Bool.or_eq_false_iff,decide_eq_false_iff_not];refine ⟨⟨⟨⟨?_,?_⟩,?_⟩,?_⟩,?_⟩<;>(rintro rfl;first | (simp [nBr] at h0;done) | (simp [nHr] at h1;done) | (simp [ZG] at hl;done) | (simp at hl;done) | (simp [ig] at hl;done))
      have hn:lv.toNat<10:=by omega
      have e2:(nH++dU lv.toNat).data.toList=[104,UInt8.ofNat (48+lv.toNat)]:=by rw [oM];unfold dU;rw [List.toList_toArray,Lib.decDigits,dif_pos hn];rfl
      refine e _ (by rw [e2];rfl) (by rw [e2];rfl) ?_;rw [e2];intro e3;have e4:=Option.some.inj e3;have e5:=congrArg UInt8.toNat e4;have e6:(UInt8.ofNat (48+lv.toNat)).toNat=48+lv.toNat:=by simp;omega
      rw [e6] at e5;have e7:(114:UInt8).toNat=114:=rfl;omega
   rw [if_neg c2];by_cases c3:k=3
   ·rw [if_pos c3];unfold nO at h2;rw [if_neg c1,if_neg c2,if_neg (by omega),if_pos c3] at h2;split at h2
    ·cases h2
    ·rename_i h4
     have hi:je i=true:=by
      cases h5:cZ i
      ·exact absurd (.inl h5) h4
      ·exact iM h5
     have ht:je t=true:=by
      cases h5:fA t
      ·exact absurd (.inr (.inr h5)) h4
      ·exact Bj h5
     refine fI (by decide) (.inl (by decide)) Rp (Y2 _ (fI (by decide) (.inl (by decide)) (JQ _ _ Ba ?_) (iL t ht)));split
     ·exact pW
     ·exact wm _ _ (LV (by unfold eG;decide)) hi
   rw [if_neg c3];by_cases c4:k=4
   ·rw [if_pos c4];unfold nO at h2;rw [if_neg c1,if_neg c2,if_neg (by omega),if_neg c3,if_pos c4] at h2;split at h2
    ·cases h2
    ·rename_i h4
     split at h2
     ·cases h2
     ·exact fI (by decide) (.inl (by decide)) (uG a [qM] (uF a h2) (fun s hs=>by rw [List.mem_singleton] at hs;subst hs;exact hcls)) (iL t (Bj (by simpa using h4)))
   rw [if_neg c4];by_cases c5:k=5
   ·rw [if_pos c5];exact fI (by decide) (.inr rfl) Rp kU
   rw [if_neg c5];by_cases c6:k=6
   ·rw [if_pos c6];exact fI (by decide) (.inl (by decide)) Rp hK
   rw [if_neg c6];by_cases c7:k=7
   ·rw [if_pos c7];exact fI (by decide) (.inl (by decide)) Rp hK
   rw [if_neg c7];by_cases c8:k=8
   ·rw [if_pos c8];refine fI (by decide) (.inl (by decide)) ?_ hK;split
    ·exact Rp
    ·exact kV _ _ (by decide) (LV (Ro _))
   rw [if_neg c8];by_cases c9:k=9
   ·rw [if_pos c9];exact fI (by decide) (.inl (by decide)) Rp hK
   rw [if_neg c9];by_cases c10:k=10
   ·rw [if_pos c10];exact Rs i ks (fun r hr=>(g2 r hr))
   rw [if_neg c10];by_cases c13:k=13
   ·rw [if_pos c13];unfold nO at h2;rw [if_neg c1,if_neg c2,if_neg (by omega),if_neg c3,if_neg c4,if_neg (by omega),if_neg c10,if_pos (.inl c13)] at h2;split at h2
    ·cases h2
    ·rename_i h4
     exact fI (by decide) (.inl (by decide)) (uG a [i] (uF a h2) (fun s hs=>by rw [List.mem_singleton] at hs;subst hs;exact l6 _ (by simpa using h4))) hK
   rw [if_neg c13];intro x hx;cases hx
  ·intro y hy;rw [ah.each] at hy;rcases List.mem_cons.1 hy with rfl | hy
   ·intro hk;have hk':k=14:=hk;unfold nO at h2;rw [if_neg (by omega),if_neg (by omega),if_neg (by omega),if_neg (by omega),if_neg (by omega),if_neg (by omega),if_neg (by omega),if_pos (.inr hk')] at h2;split at h2
    ·cases h2
    ·rename_i h4
     exact ⟨l6 i (by simpa using h4),g3⟩
   ·exact g4 y hy
theorem ah.uH (cl:ByteArray->Bool):∀ (l:List ah) (par:Int) (dp:Nat),ah.aQ cl par dp l=0->(ah.bJ l).any dG=false -> (∀ b∈l,rR b)/\(∀ b∈l,∀ c∈b.kids,rR c)/\(∀ x∈ah.bG l,rT x)/\∀ y∈ah.aG l,Wd y
 | [],_,_,_,_=>⟨(fun b hb=>by cases hb),(fun b hb=>by cases hb),(fun x hx=>by rw [ah.bG] at hx;cases hx),(fun y hy=>by rw [ah.aG] at hy;cases hy)⟩
 | b::l,par,dp,h,hu=>by
  rw [ah.aQ] at h;rw [ah.bJ,List.any_append,Bool.or_eq_false_iff] at hu;split at h
  ·rename_i h1;exact absurd h h1
  ·rename_i h1
   obtain ⟨a1,a2,a3,a4⟩:=ah.ja6 cl b par dp (Classical.not_not.1 h1) hu.1;obtain ⟨b1,b2,b3,b4⟩:=ah.uH cl l par dp h hu.2;refine ⟨fun c hc=>?_,fun c hc=>?_,fun x hx=>?_,fun y hy=>?_⟩
   ·rcases List.mem_cons.1 hc with rfl | hc
    ·exact a1
    ·exact b1 c hc
   ·rcases List.mem_cons.1 hc with rfl | hc
    ·exact a2
    ·exact b2 c hc
   ·rw [ah.bG] at hx;rcases List.mem_append.1 hx with hx | hx
    ·exact a3 x hx
    ·exact b3 x hx
   ·rw [ah.aG] at hy;rcases List.mem_append.1 hy with hy | hy
    ·exact a4 y hy
    ·exact b4 y hy
end
theorem Nc (cl:ByteArray->Bool) (l:List ah) (h:ah.aQ cl 0 0 l=0) (hu:(ah.bJ l).any dG=false):∀ x∈iK l,rT x:=by
 intro x hx;obtain ⟨b,hb,hxb⟩:=List.mem_flatMap.1 hx;have hg:=(ah.uH cl l 0 0 h hu).2.2.2 b hb;obtain ⟨k,lv,i,t,d,ti,a,li,ks⟩:=b;have jtk:x∈(if k=14 then [aW vM [⟨pR,eX++i⟩,⟨gV,jB⟩] (ah.bG ks)] else []):=hxb;split at jtk
 ·rename_i hk
  obtain ⟨q1,q2⟩:=hg hk;have q1':eG i:=q1;refine fI (by decide) (.inl (by decide)) (EU _ ?_ ?_) (Y2 _ q2) x jtk;case refine_2=>
   show [pR,gV].Nodup;decide
  intro p hp;rcases List.mem_cons.1 hp with rfl | hp
  ·exact ⟨(show kI pR=true by decide),LV (yX _ _ (by unfold eG;decide) q1')⟩
  ·rw [List.mem_singleton] at hp;subst hp;exact ⟨Ba,LV (by unfold eG;decide)⟩
 ·cases jtk
theorem Rt (cl:ByteArray->Bool) (l:List ah) (h:ah.aQ cl 0 0 l=0) (hu:(ah.bJ l).any dG=false):∀ x∈dL l,rT x:=by
 intro x hx;unfold dL at hx;rcases List.mem_append.1 hx with hx | hx
 ·exact (ah.uH cl l 0 0 h hu).2.2.1 x hx
 ·split at hx
  ·cases hx
  ·exact fI (by decide) (.inl (by decide)) (kV _ _ Ba (LV (by unfold eG;decide))) (Y2 _ (Nc cl l h hu)) x hx
theorem Ru (title lang:ByteArray) (body:List Nd) (ht:je title=true) (hl:je lang=true) (hb:∀ x∈body,rT x):(yH title lang body).vR=0:=by
 unfold yH;refine (GU _ _ _ (by decide) (.inl (by decide)) (kV _ _ (by decide) hl) (Y2 _ ?_)).1;intro x hx;rcases List.mem_cons.1 hx with rfl | hx
 ·refine JR ?_;intro y hy;rcases List.mem_cons.1 hy with rfl | hy
  ·exact GU _ _ _ (by decide) (.inr rfl) (kV _ _ (by decide) (LV (by unfold eG;decide))) kU
  ·rw [List.mem_singleton] at hy;subst hy;exact GU _ _ _ (by decide) (.inl (by decide)) Rp (iL title ht)
 ·rw [List.mem_singleton] at hx;subst hx;exact GU _ _ _ (by decide) (.inl (by decide)) Rp (Y2 _ hb)
theorem oN (cl:ByteArray->Bool) (par:Int) (dp:Nat):∀ (l:List ah),ah.aQ cl par dp l=0↔∀ b∈l,b.err cl par dp=0
 | []=>by rw [ah.aQ];exact ⟨fun _ b hb=>(by cases hb),fun _=>rfl⟩
 | x::l=>by
  rw [ah.aQ];by_cases h:x.err cl par dp=0
  ·rw [if_neg (by simp [h]),oN cl par dp l];constructor
   ·intro h1 b hb;rcases List.mem_cons.1 hb with rfl | hb
    ·exact h
    ·exact h1 b hb
   ·exact fun h1 b hb=>h1 b (List.mem_cons_of_mem _ hb)
  ·rw [if_pos h];exact ⟨fun h1=>absurd h1 h,fun h1=>absurd (h1 x (List.mem_cons_self ..)) h⟩
theorem yY:∀ (l:List ah),(ah.bJ l).any dG=false↔∀ b∈l,b.aZ.any dG=false
 | []=>by rw [ah.bJ];exact ⟨fun _ b hb=>(by cases hb),fun _=>rfl⟩
 | x::l=>by
  rw [ah.bJ,List.any_append,Bool.or_eq_false_iff,yY l];constructor
  ·rintro ⟨h1,h2⟩ b hb;rcases List.mem_cons.1 hb with rfl | hb
   ·exact h1
   ·exact h2 b hb
  ·exact fun h=>⟨h x (List.mem_cons_self ..),fun b hb=>h b (List.mem_cons_of_mem _ hb)⟩
theorem Br (s:List ah):∀ b∈DV s,b∈s:=by
 unfold DV;cases s with
 | nil=>exact fun b hb=>hb
 | cons x l=>
  simp only;split
  ·exact fun b hb=>List.mem_cons_of_mem _ hb
  ·exact fun b hb=>hb
theorem PY (l:List ah):∀ s∈qD l,∀ b∈DV s,b∈l:=by intro s hs b hb;have hf:=pV l.length l (Nat.le_refl _);rw [<- hf];exact List.mem_flatten.2 ⟨s,hs,Br s b hb⟩
theorem Nf (cl:ByteArray->Bool) (l:List ah) (h:ah.aQ cl 0 0 l=0) (hu:(ah.bJ l).any dG=false) (s:List ah) (hs:s∈qD l) : ah.aQ cl 0 0 (DV s)=0/\(ah.bJ (DV s)).any dG=false:=
 ⟨(oN cl 0 0 _).2 fun b hb=>(oN cl 0 0 l).1 h b (PY l s hs b hb),(yY _).2 fun b hb=>(yY l).1 hu b (PY l s hs b hb)⟩
theorem DW (cl:ByteArray->Bool) (l:List ah) (h:ah.aQ cl 0 0 l=0) (hu:(ah.bJ l).any dG=false):∀ x∈ES l,rT x:=by intro x hx;obtain ⟨s,hs,rfl⟩:=List.mem_map.1 hx;obtain ⟨h1,h2⟩:=Nf cl l h hu s hs;exact fI (by decide) (.inl (by decide)) (kV _ _ Ba (LV (by unfold eG;decide))) (Y2 _ (Rt cl _ h1 h2)) _ (List.mem_singleton.2 rfl)
mutual
def ah.MG:ah->Prop
 | .mk k lv i t d ti a li ks=>aj.MV li/\(k=2\/k=8->0<=lv/\lv<=999999999)/\(k=10->ks≠[]/\∀ r∈ks,r.kids.length=i.size/\∀ c∈r.kids,aj.MV c.mG)/\(∀ c∈a.cls,aV c=false)/\(k=13->aV i=false)/\k≠11/\k≠12/\(k≠10->ah.lQ ks)
def ah.lQ:List ah->Prop
 | []=>True
 | x::l=>x.MG/\ah.lQ l
end
theorem PZ:∀ (l:List ah),(ah.bJ l).any dG=false->∀ b∈l,qW b.mG=false/\(ah.bJ b.kids).any dG=false:=by intro l h b hb;have h1:=(yY l).1 h b hb;obtain ⟨k,lv,i,t,d,ti,a,li,ks⟩:=b;rw [ah.aZ,List.any_append,Bool.or_eq_false_iff] at h1;exact h1
mutual
theorem ah.Wh (cl:ByteArray->Bool):∀ (b:ah) (par:Int) (dp:Nat),par≠10->par≠11->dX b.GQ par=true->b.err cl par dp=0->(b.aZ).any dG=false->b.MG
 | .mk k lv i t d ti a li ks,par,dp,hp0,hp1,hpl,h,hu=>by
  have hh:=ah.PE cl _ par dp h hu;obtain ⟨h2,hbf,h3⟩:=iE cl h;rw [ah.hok] at hh;obtain ⟨g1,g2,g3,g4,g5,g6⟩:=hh;rw [ah.aZ,List.any_append,Bool.or_eq_false_iff] at hu;have hk:k≠11/\k≠12:=by
   have hpl':dX k par=true:=hpl;unfold dX at hpl';split at hpl'
   ·have:=of_decide_eq_true hpl';omega
   ·(try rw [if_neg hp0,if_neg hp1] at hpl')
    simp at hpl';omega
  rw [ah.MG];refine ⟨g1,g2,fun h10=>?_,g4,g5,hk.1,hk.2,fun h10=>ah.jN cl ks k (dp+1) h10 hk.1 h3 hu.2⟩;obtain ⟨q1,q2⟩:=g3 h10;refine ⟨q1,fun r hr=>⟨q2 r hr,fun c hc=>?_⟩⟩;have r1:=(oN cl k (dp+1) ks).1 h3 r hr;have r2:=PZ ks hu.2 r hr;obtain ⟨k',lv',i',t',d',ti',a',li',ks'⟩:=r;obtain ⟨-,-,s3⟩:=iE cl r1;have c1:=(oN cl k' (dp+1+1) ks').1 s3 c hc;have c2:=PZ ks' r2.2 c hc;obtain ⟨k9,lv9,i9,t9,d9,ti9,a9,li9,ks9⟩:=c;obtain ⟨u1,u2,-⟩:=iE cl c1;exact Pz li9 (JU cl u1 u2) c2.1
theorem ah.jN (cl:ByteArray->Bool):∀ (l:List ah) (par:Int) (dp:Nat),par≠10->par≠11->ah.aQ cl par dp l=0->(ah.bJ l).any dG=false->ah.lQ l
 | [],_,_,_,_,_,_=>by rw [ah.lQ];trivial
 | x::l,par,dp,hp0,hp1,h,hu=>by
  have hpl:=(ER cl (x::l) par dp h x (List.mem_cons_self ..)).1;rw [ah.aQ] at h;rw [ah.bJ,List.any_append,Bool.or_eq_false_iff] at hu;rw [ah.lQ];split at h
  ·rename_i h1;exact absurd h h1
  ·rename_i h1
   exact ⟨ah.Wh cl x par dp hp0 hp1 hpl (Classical.not_not.1 h1) hu.1,ah.jN cl l par dp hp0 hp1 h hu.2⟩
end
theorem ja7 (cl:ByteArray->Bool) (l:List ah) (h:ah.aQ cl 0 0 l=0) (hu:(ah.bJ l).any dG=false):ah.lQ l:=ah.jN cl l 0 0 (by decide) (by decide) h hu
mutual
theorem ah.Wi (cl:ByteArray->Bool):∀ (b:ah) (par:Int) (dp:Nat),b.err cl par dp=0->(b.aZ).any dG=false->∀ x∈b.each,x.GQ=14->ah.lQ x.kids
 | .mk k lv i t d ti a li ks,par,dp,h,hu,x,hx,hk=>by
  obtain ⟨-,-,h3⟩:=iE cl h;rw [ah.aZ,List.any_append,Bool.or_eq_false_iff] at hu;rw [ah.each] at hx;rcases List.mem_cons.1 hx with rfl | hx
  ·have hk':k=14:=hk;subst hk';exact ah.jN cl ks 14 (dp+1) (by decide) (by decide) h3 hu.2
  ·exact ah.wo cl ks k (dp+1) h3 hu.2 x hx hk
theorem ah.wo (cl:ByteArray->Bool):∀ (l:List ah) (par:Int) (dp:Nat),ah.aQ cl par dp l=0->(ah.bJ l).any dG=false->∀ x∈ah.aG l,x.GQ=14->ah.lQ x.kids
 | [],_,_,_,_,x,hx,_=>by rw [ah.aG] at hx;cases hx
 | b::l,par,dp,h,hu,x,hx,hk=>by
  rw [ah.aQ] at h;rw [ah.bJ,List.any_append,Bool.or_eq_false_iff] at hu;rw [ah.aG] at hx;split at h
  ·rename_i h1;exact absurd h h1
  ·rename_i h1
   rcases List.mem_append.1 hx with hx | hx
   ·exact ah.Wi cl b par dp (Classical.not_not.1 h1) hu.1 x hx hk
   ·exact ah.wo cl l par dp h hu.2 x hx hk
end
open Go.RowKit
theorem ja8:(prog.info? 66).map (fun i=>(i.zero,i.size,i.bytes))=some (some (.agg #[.int .i64 0,.string ByteArray.empty,.string ByteArray.empty,.string ByteArray.empty,.string ByteArray.empty,.slice none 0 0,.slice none 0 0,.slice none 0 0,.slice none 0 0,.slice none 0 0]),10,192):=by kernel_rfl
theorem ja9:(prog.info? 48).map (fun i=>(i.zero,i.size,i.bytes))=some (some (.agg #[.int .i64 0,.int .i64 0,.string ByteArray.empty,.string ByteArray.empty,.string ByteArray.empty,.string ByteArray.empty,.string ByteArray.empty,.slice none 0 0,.slice none 0 0,.slice none 0 0,.slice none 0 0]),11,192):=by kernel_rfl
mutual
theorem Rd.mU {ok:Nat->Prop} {w:World}:∀ (d:D) (cs:List Value),Rd ok w d cs->∀ u∈cs,u.oneCell'=true
 | .int _ _,_,h,u,hu=>by rw [h.uI] at hu;simp at hu;subst hu;rfl
 | .bool _,_,h,u,hu=>by rw [h.vW] at hu;simp at hu;subst hu;rfl
 | .str _,_,h,u,hu=>by rw [h.bM] at hu;simp at hu;subst hu;rfl
 | .st fs,_,h,u,hu=>by
  obtain ⟨rows,hr,rfl⟩:=h.jG;exact aO.mU fs rows hr u hu
 | .sl k l,_,h,u,hu=>by
  obtain ⟨a,cap,rfl,_⟩:=h.aB;simp at hu;subst hu;rfl
theorem aO.mU {ok:Nat->Prop} {w:World}:∀ (l:List D) (rows:List (List Value)),aO ok w l rows->∀ u∈rows.flatten,u.oneCell'=true
 | [],_,h,u,hu=>by rw [h.dw] at hu;simp at hu
 | d::ds,_,h,u,hu=>by
  obtain ⟨r,rs,rfl,h1,h2⟩:=h.aF;rw [List.flatten_cons] at hu;rcases List.mem_append.1 hu with hu | hu
  ·exact Rd.mU d r h1 u hu
  ·exact aO.mU ds rs h2 u hu
end
structure Row (T:TypeId) (k B:Nat) (w0:World) (ds:List D) (rows:List (List Value)) (v:Value) (w:World):Prop where
 own:w.ownsRow w0.heap.size T k v ds.length rows.flatten
 red:aO (·<B) w ds rows
 len:∀ r∈rows,r.length=k
 aY:Below w0.heap.size w0 w
section
variable {T:TypeId} {k B:Nat} {w0 w w1 w2:World} {ds es:List D} {rows bI:List (List Value)} {v v':Value}
theorem Row.nil (T:TypeId) (k B:Nat) (w0:World):Row T k B w0 [] [] (.slice none 0 0) w0:=⟨⟨by simp,.inl ⟨rfl,rfl⟩⟩,aO.none,by simp,Below.refl _ _⟩
theorem Row.up (h:Row T k B w0 ds rows v w) (hB:B<=w.heap.size) (hb:Below w.heap.size w w1):Row T k B w0 ds rows v w1:=
 ⟨UW h.own hb,aO.keep (fun b h1 h2=>⟨h1,hb.block b h2⟩) _ _ h.red,h.len,q01 h.aY hb⟩
theorem Row.app (h:Row T k B w0 ds rows v w1) (hB:B<=w0.heap.size) (hes:aO (·<B) w1 es bI) (hl2:∀ r∈bI,r.length=k) (hown:w2.ownsRow w0.heap.size T k v' (ds.length+es.length) (rows.flatten++bI.flatten)) (hg:w1.grownBy w2 v.ownBlock):Row T k B w0 (ds++es) (rows++bI) v' w2:=by
 have hne:∀ b,b<w0.heap.size->some b≠v.ownBlock:=fun b hb e=>by have:=(h.own.lt b e.symm).1;omega
 have hst:xL (·<B) (·<B) w1 w2:=fun b h1 h2=>⟨h1,hg.block b h2 (hne b (by omega))⟩
 refine ⟨by rw [List.length_append,List.flatten_append];exact hown,aO.app (aO.keep hst _ _ h.red) (aO.keep hst _ _ hes),?_,?_⟩
 ·intro r hr;rcases List.mem_append.1 hr with hr | hr
  ·exact h.len r hr
  ·exact hl2 r hr
 ·have hb:=h.aY;exact ⟨hg.os.trans hb.os,hg.tape.trans hb.tape,hg.output.trans hb.output,Nat.le_trans hb.size hg.size,fun b hlt=>(hg.block b (Nat.lt_of_lt_of_le hlt hb.size) (hne b hlt)).trans (hb.block b hlt)⟩
end
mutual
theorem aj.jaj:∀ (x:aj),x.deep.length=x.sz
 | .mk _ _ _ _ _ _ _ ks=>by rw [aj.deep,aj.sz,List.length_cons,aj.l7 ks];omega
theorem aj.l7:∀ (l:List aj),(aj.aT l).length=aj.aU l
 | []=>by rw [aj.aT,aj.aU];rfl
 | x::l=>by rw [aj.aT,aj.aU,List.length_append,aj.jaj x,aj.l7 l]
end
mutual
theorem ah.jak:∀ (x:ah),x.each.length=x.sz
 | .mk _ _ _ _ _ _ _ _ ks=>by rw [ah.each,ah.sz,List.length_cons,ah.oO ks];omega
theorem ah.oO:∀ (l:List ah),(ah.aG l).length=ah.aU l
 | []=>by rw [ah.aG,ah.aU];rfl
 | x::l=>by rw [ah.aG,ah.aU,List.length_append,ah.jak x,ah.oO l]
end
theorem aj.Ng {l:List aj} {k:Nat} {x:aj} (hx:l[k]?=some x):aj.aT (l.take (k+1))=aj.aT (l.take k)++x.deep:=by rw [List.take_add_one,hx,aj.wu];simp [aj.aT]
theorem aj.JV (l:List aj) (k:Nat):aj.aU (l.take k)<=aj.aU l:=by have:=aj.GY (l.take k) (l.drop k);rw [List.take_append_drop] at this;omega
def jh2 (B:Nat) (w:World) (l:List aj) (v vi:Value) (wr:World):Prop:=∃ (k:Nat) (rows:List (List Value)),k<=l.length/\vi=.int .i64 k/\Row 66 10 B w ((aj.aT (l.take k)).map aj.d) rows v wr
theorem jh3{P:Prop}(h:P:=by
 refine (bR.out.up (by omega) hua).app hB (aO.one (Rd.keep (fun b h1 h2=>⟨h1,?_⟩) _ _ HRX.out)) (by simp) ?_ hg1
 ·exact (hua.block b (by omega)).trans (bR.out.aY.block b h2)
 ·rw [List.length_singleton,List.flatten_singleton,<- HL.out];exact hown1):P:=h
theorem jh4{P:Prop}(h:P:=by
 have hkl:k=l.length:=by omega
 subst hkl;rw [List.take_length] at hrow ⊢;have bR:=hid hrow;clear hrow HS IH;go_wp2;go_ret;exact ⟨.slice av _ cv,rows,rfl,bR.out⟩):P:=h
theorem jh5{P Q:Prop}(q:Q)(h:Nonempty Q->P:=by
 intro qQ;have ow0:=hrow.own;rw [<- hL] at ow0;have Wj:=hid ow0;clear ow0;have Dp:=hid hds;have bR:=hid hrow;have HR:=hid hR;have HRX:=hid hrx;have HX:=hid hx;have HC:=hid hc;have hwz:=hrow.aY.size;have hLl:L<=1000000:=by omega
 have HL:=hid hL;revert Wj Dp bR HR HRX HX HC hwz hLl HL;exact qQ.elim fun x=>x):P:=h ⟨q⟩
theorem Jb (n:Nat):∀ (l:List aj) (B:Nat) (v:Value) (w:World),aj.aU l<=n->n<=1000000->Rd (·<B) w (aZ l) [v]->B<=w.heap.size -> Calls prog 90 #[v] w fun e w'=>∃ v' rows,e=.returned v'/\Row 66 10 B w ((aj.aT l).map aj.d) rows v' w':=by
 induction n using Nat.strongRecOn with
 | _ n ih=>
  intro l B v w hn hnm hrd hB;obtain ⟨iI,ZL,Gu,Gv,Gw⟩:=info_parts ja8;obtain ⟨a,cap,hv,hs⟩:=Rd.aB hrd;obtain rfl:v=.slice a l.length cap:=by simpa using hv
  refine qJ ?_;intro hcap hmx HS;have IH:=hid ih;have R0:Hid (jh2 B w l (.slice none 0 0) (.int .i64 0) w):=⟨0,[],Nat.zero_le _,rfl,by rw [List.take_zero,aj.aT];exact Row.nil _ _ _ _⟩;clear hs hv hrd ih;go_enter func90,ntmps90;go_wp2
  go_loopw [3,4] (fun v vi wr=>jh2 B w l v vi wr) (fun _ i _=>l.length-(intOf i).toNat)
  case atStart=>exact R0.out
  case round=>
   clear R0;obtain ⟨k,rows,hk,rfl,hrow⟩:=hrel;obtain ⟨av,cv,TJ⟩:=lD hrow.own;subst TJ;by_cases hlt:k<l.length
   ·refine kK ?_;intro x hx;obtain ⟨kd,t,d,ti,at_,ar,ci,ks⟩:=x;obtain ⟨g,off,vc,vp,va,vi,vk,rfl,hok,hbl,hc,hR⟩:=fE HS.out hx;have hsz:=aj.bK l k _ hx;rw [aj.sz] at hsz;obtain ⟨aa,na,ca,rfl⟩:=Rd.yJ hR.args;obtain ⟨ai,ni,gD,rfl⟩:=Rd.yJ hR.dH;obtain ⟨ac,nc,cc,rfl⟩:=Rd.yJ hR.at_.cls
    obtain ⟨ap,np,cp,rfl⟩:=Rd.yJ hR.at_.aD
    obtain ⟨ak,nk,ck,rfl⟩:=Rd.yJ hR.kids;have hgw:wr.heap[g]?=w.heap[g]?:=hrow.aY.block g (by omega);obtain ⟨p0,p1,p2,p3,p4,p5,p6,p7,p8,p9⟩:=hc.at2 (w':=wr) hgw;have hrx:=aj.fC (ok:=(·<B)) (w:=w) kd t d ti hR;have Wm:((aj.aT (l.take k)).map aj.d).length<=1000000:=by rw [List.length_map,aj.l7];have:=aj.JV l k;omega
    have hsn:=aj.JV l (k+1);rw [aj.uJ hx,aj.sz] at hsn;have hlk:((aj.aT (l.take k)).map aj.d).length=aj.aU (l.take k):=by rw [List.length_map,aj.l7]
    obtain ⟨L,hL⟩:∃ L,L=((aj.aT (l.take k)).map aj.d).length:=⟨_,rfl⟩;obtain ⟨ds,hds⟩:∃ ds,ds=(aj.aT (l.take k)).map aj.d:=⟨_,rfl⟩;rw [<- hds] at hrow Wm hlk hL ⊢;rw [<- hL];rw [<- hL] at hrow;refine jh5 ?_;intro Wj Dp bR HR HRX HX HC hwz hLl HL;clear hc hR hx hrx hds hrow hL;go_wp2_with (at_builtin;refine Iu _ rfl (.tmp 11) (.tmp 16) 46 rfl w.heap.size 66 iI _ 10 192 underlying46 ZL Gu Gv Gw rfl (by decide) (.slice av L cv) L rows.flatten rfl (Wj.out.alloc _) (wr.heap.size+1) (some ⟨wr.heap.size,0,none⟩) 1 1 [.int .i64 kd,.string t,.string d,.string ti,.string at_.id,.slice ac nc cc,.slice ap np cp,.slice aa na ca,.slice ai ni gD,.slice ak nk ck] rfl ?g1 ?g2 ?g3 ?g4 ?g5 ?_)
    case g1=>exact ⟨rfl,fun _=>⟨_,rfl,by simp,JA wr [.int .i64 kd,.string t,.string d,.string ti,.string at_.id,.slice ac nc cc,.slice ap np cp,.slice aa na ca,.slice ai ni gD,.slice ak nk ck] _⟩⟩
    case g2=>exact Rd.mU _ _ HRX.out
    case g3=>unfold maxLen;omega
    case g4=>omega
    case g5=>simp;omega
    intro v1 w1 hown1 hg1 _;obtain ⟨a1,c1,rfl⟩:=lD hown1;have hua:Below wr.heap.size wr (wr.alloc (.cells #[.int .i64 kd,.string t,.string d,.string ti,.string at_.id,.slice ac nc cc,.slice ap np cp,.slice aa na ca,.slice ai ni gD,.slice ak nk ck] 66)):=(Below.refl _ _).alloc (Nat.le_refl _) _;have Nh:Row 66 10 B w (ds++[aj.d (.mk kd t d ti at_ ar ci ks)]) (rows++[[.int .i64 kd,.string t,.string d,.string ti,.string at_.id,.slice ac nc cc,.slice ap np cp,.slice aa na ca,.slice ai ni gD,.slice ak nk ck]]) (.slice a1 (L+1) c1) w1:=by exact jh3
    have hb1:=Nh.aY;have k9:w1.cell? ⟨g,off+k*10+9,none⟩=some (.slice ak nk ck):=(HC.out.at2 (w':=w1) (hb1.block g (by omega))).c9;have hz1:=hb1.size;have DC:=hid (IH.out (aj.aU ks) (by omega) ks B (.slice ak nk ck) w1 (Nat.le_refl _) (by omega) (Rd.keep (fun b h1 h2=>⟨h1,hb1.block b h2⟩) _ _ HR.out.kids) (by omega));have Wn:=hid Nh;clear hown1 hg1 hua Nh hb1 bR p0 p1 p2 p3 p4 p5 p6 p7 p8 p9 hgw;go_wp2_with fail
    refine DC.out.mono ?_;rintro e w2 ⟨v2,bI,rfl,hrow2⟩;obtain ⟨a2,c2,rfl⟩:=lD hrow2.own;have hb2:=hrow2.aY;have hz2:=hb2.size;have Bt:=hid (Wn.out.up (by omega) hb2);have oP:=hid hrow2;have hks:((aj.aT ks).map aj.d).length=aj.aU ks:=by rw [List.length_map,aj.l7]
    have QY:=hid (Reads.mE hrow2.own);have UY:=hid (aO.mU _ _ hrow2.red);have hl1:(ds++[aj.d (.mk kd t d ti at_ ar ci ks)]).length=L+1:=by rw [List.length_append,List.length_singleton,<- HL.out]
    have LP:=Bt.out.own;rw [hl1] at LP;obtain ⟨F,hF⟩:∃ F:List Value,F=(rows++[([.int .i64 kd,.string t,.string d,.string ti,.string at_.id,.slice ac nc cc,.slice ap np cp,.slice aa na ca,.slice ai ni gD,.slice ak nk ck]:List Value)]).flatten:=⟨_,rfl⟩;rw [<- hF] at LP;have HF:=hid hF;clear hF;obtain ⟨M,hM⟩:∃ M,M=((aj.aT ks).map aj.d).length:=⟨_,rfl⟩;rw [<- hM] at QY hks ⊢;have Wo:=hid LP;have HM:=hid hM;have HL1:=hid hl1;have Je:=hid hks;clear LP hM hl1 hrow2 hb2 DC Wn hks;go_wp2_with (at_builtin;refine Iu _ rfl (.tmp 18) (.tmp 24) 46 rfl w.heap.size 66 iI _ 10 192 underlying46 ZL Gu Gv Gw rfl (by decide) (.slice a1 (L+1) c1) (L+1) F rfl Wo.out w2.heap.size a2 M c2 bI.flatten rfl QY.out UY.out ?k3 ?k4 ?k5 ?_)
    case k3=>have:=Je.out;unfold maxLen;omega
    case k4=>have:=Je.out;have:=HL.out;omega
    case k5=>omega
    intro v3 w3 hown3 hg3 _;obtain ⟨a3,c3,rfl⟩:=lD hown3;have Wp:=hid (Bt.out.app hB oP.out.red oP.out.len (by rw [HL1.out,<- HM.out,<- HF.out];exact hown3) hg3);clear hown3 hg3 Bt oP QY UY;go_wp2;go_roundw;case rel=>
     refine ⟨k+1,rows++[[.int .i64 kd,.string t,.string d,.string ti,.string at_.id,.slice ac nc cc,.slice ap np cp,.slice aa na ca,.slice ai ni gD,.slice ak nk ck]]++bI,by omega,by go_num,?_⟩;have h3:=Wp.out;rw [Dp.out] at h3;rw [aj.Ng HX.out,aj.deep,List.map_append,List.map_cons];simpa using h3
    case measure=>simp [intOf];omega
   ·exact jh4
open Go.RowKit
theorem dA.at4 {w w':World} {b o:Nat} {k lv:Int} {i t d ti id:ByteArray} {vc vp vl vk:Value} (h:dA w b o k lv i t d ti id vc vp vl vk) (hb:w'.heap[b]?=w.heap[b]?):dA w' b o k lv i t d ti id vc vp vl vk:=by exact jh6
theorem ah.JW (l m:List ah):ah.aU (l++m)=ah.aU l+ah.aU m:=by
 induction l with
 | nil=>rw [ah.aU];simp
 | cons x l ih=>rw [List.cons_append,ah.aU,ah.aU,ih];omega
theorem ah.Rv {l:List ah} {k:Nat} {x:ah} (hx:l[k]?=some x):ah.aU (l.take (k+1))=ah.aU (l.take k)+x.sz:=by rw [List.take_add_one,hx,ah.JW];simp [ah.aU]
theorem ah.EY (l:List ah) (k:Nat):ah.aU (l.take k)<=ah.aU l:=by have:=ah.JW (l.take k) (l.drop k);rw [List.take_append_drop] at this;omega
def Wq (B:Nat) (w:World) (l:List ah) (v vi:Value) (wr:World):Prop:=∃ (k:Nat) (rows:List (List Value)),k<=l.length/\vi=.int .i64 k/\Row 48 11 B w ((ah.aG (l.take k)).map ah.d) rows v wr
theorem Ws (n:Nat):∀ (l:List ah) (B:Nat) (v:Value) (w:World),ah.aU l<=n->n<=1000000->Rd (·<B) w (iC l) [v]->B<=w.heap.size -> Calls prog 47 #[v] w fun e w'=>∃ v' rows,e=.returned v'/\Row 48 11 B w ((ah.aG l).map ah.d) rows v' w':=by
 induction n using Nat.strongRecOn with
 | _ n ih=>
  intro l B v w hn hnm hrd hB;obtain ⟨iI,ZL,Gu,Gv,Gw⟩:=info_parts ja9;obtain ⟨a,cap,hv,hs⟩:=Rd.aB hrd;obtain rfl:v=.slice a l.length cap:=by simpa using hv
  refine qJ ?_;intro hcap hmx HS;have IH:=hid ih;have R0:Hid (Wq B w l (.slice none 0 0) (.int .i64 0) w):=⟨0,[],Nat.zero_le _,rfl,by rw [List.take_zero,ah.aG];exact Row.nil _ _ _ _⟩;clear hs hv hrd ih;go_enter func47,ntmps47;go_wp2
  go_loopw [3,4] (fun v vi wr=>Wq B w l v vi wr) (fun _ i _=>l.length-(intOf i).toNat)
  case atStart=>exact R0.out
  case round=>
   clear R0;obtain ⟨k,rows,hk,rfl,hrow⟩:=hrel;obtain ⟨av,cv,TJ⟩:=lD hrow.own;subst TJ;by_cases hlt:k<l.length
   ·refine kK ?_;intro x hx;obtain ⟨kd,lv,inf,t,d,ti,at_,li,ks⟩:=x;obtain ⟨g,off,vc,vp,vl,vk,rfl,hok,hbl,hc,hR⟩:=Mr HS.out hx;have hsz:=ah.bK l k _ hx;rw [ah.sz] at hsz;obtain ⟨al,nl,cl,rfl⟩:=Rd.yJ hR.line;obtain ⟨ac,nc,cc,rfl⟩:=Rd.yJ hR.at_.cls
    obtain ⟨ap,np,cp,rfl⟩:=Rd.yJ hR.at_.aD
    obtain ⟨ak,nk,ck,rfl⟩:=Rd.yJ hR.kids;have hgw:wr.heap[g]?=w.heap[g]?:=hrow.aY.block g (by omega);obtain ⟨p0,p1,p2,p3,p4,p5,p6,p7,p8,p9,sM⟩:=hc.at4 (w':=wr) hgw;have hrx:=ah.fC (ok:=(·<B)) (w:=w) kd lv inf t d ti hR;have Wm:((ah.aG (l.take k)).map ah.d).length<=1000000:=by rw [List.length_map,ah.oO];have:=ah.EY l k;omega
    have hsn:=ah.EY l (k+1);rw [ah.Rv hx,ah.sz] at hsn;have hlk:((ah.aG (l.take k)).map ah.d).length=ah.aU (l.take k):=by rw [List.length_map,ah.oO]
    obtain ⟨L,hL⟩:∃ L,L=((ah.aG (l.take k)).map ah.d).length:=⟨_,rfl⟩;obtain ⟨ds,hds⟩:∃ ds,ds=(ah.aG (l.take k)).map ah.d:=⟨_,rfl⟩;rw [<- hds] at hrow Wm hlk hL ⊢;rw [<- hL];rw [<- hL] at hrow;refine jh5 ?_;intro Wj Dp bR HR HRX HX HC hwz hLl HL;clear hc hR hx hrx hds hrow hL;go_wp2_with (at_builtin;refine Iu _ rfl (.tmp 11) (.tmp 16) 22 rfl w.heap.size 48 iI _ 11 192 underlying22 ZL Gu Gv Gw rfl (by decide) (.slice av L cv) L rows.flatten rfl (Wj.out.alloc _) (wr.heap.size+1) (some ⟨wr.heap.size,0,none⟩) 1 1 [.int .i64 kd,.int .i64 lv,.string inf,.string t,.string d,.string ti,.string at_.id,.slice ac nc cc,.slice ap np cp,.slice al nl cl,.slice ak nk ck] rfl ?g1 ?g2 ?g3 ?g4 ?g5 ?_)
    case g1=>exact ⟨rfl,fun _=>⟨_,rfl,by simp,JA wr [.int .i64 kd,.int .i64 lv,.string inf,.string t,.string d,.string ti,.string at_.id,.slice ac nc cc,.slice ap np cp,.slice al nl cl,.slice ak nk ck] _⟩⟩
    case g2=>exact Rd.mU _ _ HRX.out
    case g3=>unfold maxLen;omega
    case g4=>omega
    case g5=>simp;omega
    intro v1 w1 hown1 hg1 _;obtain ⟨a1,c1,rfl⟩:=lD hown1;have hua:Below wr.heap.size wr (wr.alloc (.cells #[.int .i64 kd,.int .i64 lv,.string inf,.string t,.string d,.string ti,.string at_.id,.slice ac nc cc,.slice ap np cp,.slice al nl cl,.slice ak nk ck] 48)):=(Below.refl _ _).alloc (Nat.le_refl _) _;have Nh:Row 48 11 B w (ds++[ah.d (.mk kd lv inf t d ti at_ li ks)]) (rows++[[.int .i64 kd,.int .i64 lv,.string inf,.string t,.string d,.string ti,.string at_.id,.slice ac nc cc,.slice ap np cp,.slice al nl cl,.slice ak nk ck]]) (.slice a1 (L+1) c1) w1:=by exact jh3
    have hb1:=Nh.aY;have k10:w1.cell? ⟨g,off+k*11+10,none⟩=some (.slice ak nk ck):=(HC.out.at4 (w':=w1) (hb1.block g (by omega))).c10;have hz1:=hb1.size;have DC:=hid (IH.out (ah.aU ks) (by omega) ks B (.slice ak nk ck) w1 (Nat.le_refl _) (by omega) (Rd.keep (fun b h1 h2=>⟨h1,hb1.block b h2⟩) _ _ HR.out.kids) (by omega));have Wn:=hid Nh;clear hown1 hg1 hua Nh hb1 bR p0 p1 p2 p3 p4 p5 p6 p7 p8 p9 sM hgw;go_wp2_with fail
    refine DC.out.mono ?_;rintro e w2 ⟨v2,bI,rfl,hrow2⟩;obtain ⟨a2,c2,rfl⟩:=lD hrow2.own;have hb2:=hrow2.aY;have hz2:=hb2.size;have Bt:=hid (Wn.out.up (by omega) hb2);have oP:=hid hrow2;have hks:((ah.aG ks).map ah.d).length=ah.aU ks:=by rw [List.length_map,ah.oO]
    have QY:=hid (Reads.mE hrow2.own);have UY:=hid (aO.mU _ _ hrow2.red);have hl1:(ds++[ah.d (.mk kd lv inf t d ti at_ li ks)]).length=L+1:=by rw [List.length_append,List.length_singleton,<- HL.out]
    have LP:=Bt.out.own;rw [hl1] at LP;obtain ⟨F,hF⟩:∃ F:List Value,F=(rows++[([.int .i64 kd,.int .i64 lv,.string inf,.string t,.string d,.string ti,.string at_.id,.slice ac nc cc,.slice ap np cp,.slice al nl cl,.slice ak nk ck]:List Value)]).flatten:=⟨_,rfl⟩;rw [<- hF] at LP;have HF:=hid hF;clear hF;obtain ⟨M,hM⟩:∃ M,M=((ah.aG ks).map ah.d).length:=⟨_,rfl⟩;rw [<- hM] at QY hks ⊢;have Wo:=hid LP;have HM:=hid hM;have HL1:=hid hl1;have Je:=hid hks;clear LP hM hl1 hrow2 hb2 DC Wn hks;go_wp2_with (at_builtin;refine Iu _ rfl (.tmp 18) (.tmp 24) 22 rfl w.heap.size 48 iI _ 11 192 underlying22 ZL Gu Gv Gw rfl (by decide) (.slice a1 (L+1) c1) (L+1) F rfl Wo.out w2.heap.size a2 M c2 bI.flatten rfl QY.out UY.out ?k3 ?k4 ?k5 ?_)
    case k3=>have:=Je.out;unfold maxLen;omega
    case k4=>have:=Je.out;have:=HL.out;omega
    case k5=>omega
    intro v3 w3 hown3 hg3 _;obtain ⟨a3,c3,rfl⟩:=lD hown3;have Wp:=hid (Bt.out.app hB oP.out.red oP.out.len (by rw [HL1.out,<- HM.out,<- HF.out];exact hown3) hg3);clear hown3 hg3 Bt oP QY UY;go_wp2;go_roundw;case rel=>
     refine ⟨k+1,rows++[[.int .i64 kd,.int .i64 lv,.string inf,.string t,.string d,.string ti,.string at_.id,.slice ac nc cc,.slice ap np cp,.slice al nl cl,.slice ak nk ck]]++bI,by omega,by go_num,?_⟩;have h3:=Wp.out;rw [Dp.out] at h3;rw [ah.rU l k _ HX.out,ah.each,List.map_append,List.map_cons];simpa using h3
    case measure=>simp [intOf];omega
   ·exact jh4
open Go.RowKit
def ah.lnI:ah->List aj
 | .mk _ _ _ _ _ _ _ li _=>li
def eT:List ah->List aj
 | []=>[]
 | x::l=>aj.aT x.lnI++eT l
theorem pX:∀ (l m:List ah),eT (l++m)=eT l++eT m
 | [],m=>rfl
 | x::l,m=>by rw [List.cons_append,eT,pX l m,eT,List.append_assoc]
theorem Ni {l:List ah} {k:Nat} {x:ah} (h:l[k]?=some x):eT (l.take (k+1))=eT (l.take k)++aj.aT x.lnI:=by rw [List.take_add_one,h,pX];simp [eT]
theorem Bu (l:List ah) (k:Nat):(eT (l.take k)).length<=(eT l).length:=by
 have h:eT l=eT (l.take k++l.drop k):=by rw [List.take_append_drop]
 rw [h,pX,List.length_append];omega
mutual
theorem ah.Rw:∀ (x:ah),x.inls=eT x.each
 | .mk k lv i t d ti a li ks=>by rw [ah.inls,ah.each,eT,ah.rV ks];rfl
theorem ah.rV:∀ (l:List ah),ah.aJ l=eT (ah.aG l)
 | []=>by rw [ah.aJ,ah.aG];rfl
 | x::l=>by rw [ah.aJ,ah.aG,pX,ah.Rw x,ah.rV l]
end
def jh7 (B:Nat) (w:World) (l:List ah) (v vi:Value) (wr:World):Prop:=
 ∃ (k:Nat) (rows:List (List Value)),k<=l.length/\vi=.int .i64 k/\Row 66 10 B w ((eT (l.take k)).map aj.d) rows v wr
theorem Rx (l:List ah) (v:Value) (w:World) (hsz:ah.aU l<=1000000) (hil:(ah.aJ l).length<=1000000) (hrd:Rd (·<w.heap.size) w (iC l) [v]) : Calls prog 45 #[v] w fun e w'=>∃ v',e=.returned v'/\Rd (·<w'.heap.size) w' (aZ (ah.aJ l)) [v']/\Below w.heap.size w w':=by
 obtain ⟨iI,ZL,Gu,Gv,Gw⟩:=info_parts MP;have LS:=hid (Ws _ l w.heap.size v w (Nat.le_refl _) hsz hrd (Nat.le_refl _));rw [ah.rV] at hil ⊢;obtain ⟨E,hE⟩:∃ E,E=ah.aG l:=⟨_,rfl⟩;rw [<- hE] at LS hil ⊢;clear hrd hE;go_enter func45,ntmps45;go_wp2_with fail
 refine LS.out.mono ?_;rintro e w1 ⟨v1,JX,rfl,hr1⟩;have b1:=hr1.aY;have hE1:Rd (·<w1.heap.size) w1 (iC E) [v1]:=
  Rd.jl (l:=E.map ah.d) (rows:=JX) (B:=w.heap.size) (e:=48) hr1.own (aO.keep (fun b h1 h2=>⟨h2,rfl⟩) _ _ hr1.red) hr1.len (fun g hg=>(hr1.own.lt g hg).2)
 obtain ⟨a1,c1,hv1,hs1⟩:=Rd.aB hE1;obtain rfl:v1=.slice a1 E.length c1:=by simpa using hv1
 have hc1:E.length<=c1:=by simpa using hs1.le
 have hm1:=hs1.max;unfold maxLen at hm1;have HS:=hid hs1;have HB1:=hid b1;have R0:Hid (jh7 w1.heap.size w1 E (.slice none 0 0) (.int .i64 0) w1):=⟨0,[],Nat.zero_le _,rfl,Row.nil _ _ _ _⟩;clear hr1 hE1 hv1 hs1 b1 LS;go_wp2
 go_loopw [3,5] (fun v vi wr=>jh7 w1.heap.size w1 E v vi wr) (fun _ i _=>E.length-(intOf i).toNat)
 case atStart=>exact R0.out
 case round=>
  clear R0;obtain ⟨k,rows,hk,rfl,hrow⟩:=hrel;have hdp:=Bu E k;obtain ⟨L,hL⟩:∃ L,L=((eT (E.take k)).map aj.d).length:=⟨_,rfl⟩;have hLl:L<=1000000:=by rw [hL,List.length_map];omega
  have HL:=hid hL;have hown:=hrow.own;rw [<- hL] at hown;obtain ⟨av,cv,rfl⟩:=lD hown;have HOWN:=hid hown;have bR:=hid hrow;have hbel:=hrow.aY;have hz:=hbel.size;clear hL hrow hown;by_cases hlt:k<E.length
  ·obtain ⟨x,hx⟩:∃ x,E[k]?=some x:=⟨_,List.getElem?_eq_getElem hlt⟩;have hsn:=Ni hx;have hsl:=Bu E (k+1);rw [hsn,List.length_append] at hsl;obtain ⟨kd,lv,i,t,d,ti,at_,li,ks⟩:=x;obtain ⟨g,off,vc,vp,vl,vk,rfl,hok,hbl,hc,hR⟩:=Mr (HS.out.below hbel) hx;obtain ⟨al,nl,cl,rfl⟩:=Rd.yJ hR.line;have c9:=hc.c9;have hli:aj.aU li<=1000000:=by
    rw [<- aj.l7];have:(aj.aT li).length<=(eT E).length:=by change (eT (E.take k)).length+(aj.aT li).length<=_ at hsl;omega
    omega
   have hsl2:L+(aj.aT li).length<=1000000:=by change (eT (E.take k)).length+(aj.aT li).length<=_ at hsl;rw [HL.out,List.length_map];omega
   have DC:=hid (Jb _ li w1.heap.size (.slice al nl cl) wr (Nat.le_refl _) hli hR.line hz);have kg:=hid hsn;clear hc hR hx hsn hsl hdp hok hbl hli;go_wp2_with fail
   refine DC.out.mono ?_;rintro e w2 ⟨v2,bI,rfl,hrow2⟩;obtain ⟨M,hM⟩:∃ M,M=((aj.aT li).map aj.d).length:=⟨_,rfl⟩;have hMl:L+M<=1000000:=by rw [hM,List.length_map];exact hsl2
   have hown2:=hrow2.own;rw [<- hM] at hown2;obtain ⟨a2,c2,rfl⟩:=lD hown2;have hb2:=hrow2.aY;have hz2:=hb2.size;have Bt:=hid (bR.out.up hz hb2);have oP:=hid hrow2;have QY:=hid (Reads.mE hown2);have UY:=hid (aO.mU _ _ hrow2.red);have HM:=hid hM;have LP:=Bt.out.own;rw [<- HL.out] at LP;have Wo:=hid LP;clear hM hown2 hrow2 hb2 LP DC c9 hsl2;go_wp2_with (at_builtin;refine Iu _ rfl (.tmp 14) (.tmp 20) 46 rfl w1.heap.size 66 iI _ 10 192 underlying46 ZL Gu Gv Gw rfl (by decide) (.slice av L cv) L rows.flatten rfl Wo.out w2.heap.size a2 M c2 bI.flatten rfl QY.out UY.out ?k3 ?k4 ?k5 ?_)
   case k3=>unfold maxLen;omega
   case k4=>omega
   case k5=>omega
   intro v3 w3 hown3 hg3 _;obtain ⟨a3,c3,rfl⟩:=lD hown3;have Wp:=hid (Bt.out.app (Nat.le_refl _) oP.out.red oP.out.len (by rw [<- HL.out,<- HM.out];exact hown3) hg3);clear hown3 hg3 Bt oP QY UY;go_wp2;go_roundw;case rel=>
    refine ⟨k+1,rows++bI,by omega,by go_num,?_⟩;rw [kg.out,List.map_append];exact Wp.out
   case measure=>simp [intOf];omega
  ·have hkl:k=E.length:=by omega
   subst hkl;have h1:=bR.out;rw [List.take_length] at h1 HL;have HR1:=hid h1;clear h1 bR HOWN hdp;go_wp2;go_ret;refine ⟨_,rfl,?_,q01 HB1.out hbel⟩;have hown:=HR1.out.own;have h2:=Rd.jl (l:=(eT E).map aj.d) (ok:=(·<wr.heap.size)) (rows:=rows) (B:=w1.heap.size) (e:=66) hown (aO.keep (fun b h1 h2=>⟨h2,rfl⟩) _ _ HR1.out.red) HR1.out.len (fun g hg=>(hown.lt g hg).2);exact h2
theorem Wt{P:Prop}(h:P:=by
 exact ⟨by omega,fun z hz=>List.mem_append_right _ (h2 z hz)⟩):P:=h
theorem Wu{P:Prop}(h:P:=by
 exact ⟨by omega,fun z hz=>List.mem_append_left _ (h2 z hz)⟩):P:=h
mutual
theorem aj.jaq:∀ (x:aj),∀ y∈x.deep,y.sz<=x.sz/\∀ z∈y.deep,z∈x.deep
 | .mk k t d ti a ar ci ks,y,hy=>by
  rw [aj.deep] at hy;rcases List.mem_cons.1 hy with rfl | hy
  ·exact ⟨jK8 _,fun z hz=>hz⟩
  ·obtain ⟨h1,h2⟩:=aj.Bv ks y hy;refine ⟨?_,fun z hz=>?_⟩
   ·rw [aj.sz];omega
   ·rw [aj.deep];exact List.mem_cons_of_mem _ (h2 z hz)
theorem aj.Bv:∀ (l:List aj),∀ y∈aj.aT l,y.sz<=aj.aU l/\∀ z∈y.deep,z∈aj.aT l
 | [],y,hy=>by rw [aj.aT] at hy;cases hy
 | x::l,y,hy=>by
  rw [aj.aT] at hy;rw [aj.aU,aj.aT];rcases List.mem_append.1 hy with hy | hy
  ·obtain ⟨h1,h2⟩:=aj.jaq x y hy;exact Wu
  ·obtain ⟨h1,h2⟩:=aj.Bv l y hy;exact Wt
end
mutual
theorem ah.jax:∀ (b:ah),∀ y∈b.inls,y.sz<=b.inls.length/\∀ z∈y.deep,z∈b.inls
 | .mk k lv i t d ti a li ks,y,hy=>by
  rw [ah.inls] at hy ⊢;rw [jKq,aj.eF];rcases List.mem_append.1 hy with hy | hy
  ·obtain ⟨h1,h2⟩:=aj.Bv li y hy;exact Wu
  ·obtain ⟨h1,h2⟩:=ah.uK ks y hy;exact Wt
theorem ah.uK:∀ (l:List ah),∀ y∈ah.aJ l,y.sz<=(ah.aJ l).length/\∀ z∈y.deep,z∈ah.aJ l
 | [],y,hy=>by rw [ah.aJ] at hy;cases hy
 | x::l,y,hy=>by
  rw [ah.aJ] at hy ⊢;rw [jKq];rcases List.mem_append.1 hy with hy | hy
  ·obtain ⟨h1,h2⟩:=ah.jax x y hy;exact Wu
  ·obtain ⟨h1,h2⟩:=ah.uK l y hy;exact Wt
end
theorem Ry (x:aj):x∈x.deep:=by obtain ⟨k,t,d,ti,a,ar,ci,ks⟩:=x;rw [aj.deep];exact jM9 ..
theorem wF:∀ (l:List aj) (y:aj),y∈aj.aT l↔∃ x∈l,y∈x.deep
 | [],y=>by rw [aj.aT];simp
 | x::l,y=>by
  rw [aj.aT,List.mem_append,wF l y];simp
theorem Rz (l:List ah):qW (ah.aJ l)=(ah.aJ l).any dG:=by
 unfold qW;rw [Bool.eq_iff_iff,List.any_eq_true,List.any_eq_true];constructor
 ·rintro ⟨y,hy,h⟩;obtain ⟨x,hx,hy⟩:=(wF _ _).1 hy;exact ⟨y,(ah.uK l x hx).2 y hy,h⟩
 ·rintro ⟨y,hy,h⟩;exact ⟨y,(wF _ _).2 ⟨y,hy,Ry y⟩,h⟩
mutual
theorem ah.Wv:∀ (b:ah),b.aZ=b.inls
 | .mk k lv i t d ti a li ks=>by rw [ah.aZ,ah.inls,ah.iO ks]
theorem ah.iO:∀ (l:List ah),ah.bJ l=ah.aJ l
 | []=>by rw [ah.bJ,ah.aJ]
 | x::l=>by rw [ah.bJ,ah.aJ,ah.Wv x,ah.iO l]
end
theorem P5 (n:Nat):∀ (l:List aj),(∀ x∈l,x.sz<=n)->aj.aU l<=l.length*n
 | [],_=>by rw [aj.aU];exact Nat.zero_le _
 | x::l,h=>by
  have h1:=h x (jM9 ..);have h2:=P5 n l (fun y hy=>h y (List.mem_cons_of_mem _ hy));rw [aj.aU,jKz,Nat.succ_mul];omega
theorem Ww (l:List ah) (h:(ah.aJ l).length<=1000):aj.aU (ah.aJ l)<=1000000:=
 Nat.le_trans (P5 1000 _ (fun x hx=>Nat.le_trans (ah.uK l x hx).1 h)) (Nat.mul_le_mul_right 1000 h)
structure nC (ok:Nat->Prop) (w:jN9) (a:List Pr) (ks:List Nd) (va vk:jNk):Prop where
 at_:Rd ok w (dx a) [va]
 ks:Rd ok w (dR ks) [vk]
theorem Nd.open_ {ok:Nat->Prop} {w:jN9} {n t:ByteArray} {a:List Pr} {ks:List Nd} {cs:List jNk} (h:Rd ok w (Nd.mk n t a ks).d cs) : ∃ va vk,cs=[.string n,.string t,va,vk]/\nC ok w a ks va vk:=by
 unfold Nd.d at h;rw [Nd.jW] at h;obtain ⟨_,g0,rfl⟩:=h.jG;obtain ⟨r0,rs,rfl,h0,g0⟩:=g0.aF;obtain ⟨r1,rs,rfl,h1,g0⟩:=g0.aF;obtain ⟨r2,rs,rfl,h2,g0⟩:=g0.aF;obtain ⟨r3,rs,rfl,h3,g0⟩:=g0.aF;obtain rfl:=g0.dw;obtain rfl:=h0.bM;obtain rfl:=h1.bM;obtain ⟨v2,rfl⟩:∃ v,r2=[v]:=by obtain ⟨a,c,e,-⟩:=h2.aB;exact ⟨_,e⟩
 obtain ⟨v3,rfl⟩:∃ v,r3=[v]:=by obtain ⟨a,c,e,-⟩:=h3.aB;exact ⟨_,e⟩
 exact ⟨v2,v3,rfl,h2,h3⟩
theorem Nd.fC {ok:Nat->Prop} {w:jN9} (n t:ByteArray) {a:List Pr} {ks:List Nd} {va vk:jNk} (h:nC ok w a ks va vk):Rd ok w (Nd.mk n t a ks).d [.string n,.string t,va,vk]:=by unfold Nd.d;rw [Nd.jW];exact Rd.xM (rows:=[[.string n],[.string t],[va],[vk]]) (aO.cons (Rd.eB _ _ _) (aO.cons (Rd.eB _ _ _) (aO.cons h.at_ (aO.cons h.ks aO.none))))
theorem vP {ok:Nat->Prop} {w:jN9} {l:List Nd} {a:Option Addr} {cap:Nat} (h:nV ok w 4 (l.map Nd.d) a cap) {k:Nat} {n t:ByteArray} {at_:List Pr} {ks:List Nd} (hk:l[k]?=some (.mk n t at_ ks)) : ∃ b off va vk,a=some ⟨b,off,none⟩/\ok b/\b<w.heap.size/\w.cell? ⟨b,off+k*4,none⟩=some (.string n)/\w.cell? ⟨b,off+k*4+1,none⟩=some (.string t)/\w.cell? ⟨b,off+k*4+2,none⟩=some va/\w.cell? ⟨b,off+k*4+3,none⟩=some vk/\nC ok w at_ ks va vk:=by refine JY ?_;intro hlt b off ha hok hb hc r hr hl hcell;obtain ⟨va,vk,rfl,hR⟩:=Nd.open_ hr;exact ⟨b,off,va,vk,ha,hok,hb,hcell 0 _ rfl,hcell 1 _ rfl,hcell 2 _ rfl,hcell 3 _ rfl,hR⟩
theorem Nd.bK:∀ (l:List Nd) (k:Nat) (x:Nd),l[k]?=some x->x.sz<=Nd.aU l
 | [],_,_,h=>by simp at h
 | y::l,0,x,h=>by simp at h;subst h;rw [Nd.aU];omega
 | y::l,k+1,x,h=>by rw [Nd.aU];have:=Nd.bK l k x (by simpa using h);omega
theorem nC.keep {ok ok':Nat->Prop} {w w':jN9} {a:List Pr} {ks:List Nd} {va vk:jNk} (h:nC ok w a ks va vk) (hs:xL ok ok' w w'):nC ok' w' a ks va vk:=⟨Rd.keep hs _ _ h.at_,Rd.keep hs _ _ h.ks⟩
theorem kR {n t:ByteArray} {a1 a2:Option Addr} {n1 n2 c1 c2:Nat}:∀ u∈([.string n,.string t,.slice a1 n1 c1,.slice a2 n2 c2]:List jNk),u.oneCell'=true:=by intro u hu;simp at hu;rcases hu with rfl | rfl | rfl | rfl<;>rfl
theorem O8 (l:List Nd) (rs:List (List jNk)) (ok:Nat->Prop) (w:jN9) (h:aO ok w (l.map Nd.d) rs):∀ u∈rs.flatten,u.oneCell'=true:=by
 intro u hu;obtain ⟨r,hr,hu⟩:=List.mem_flatten.1 hu;obtain ⟨j,hj,rfl⟩:=List.mem_iff_getElem.1 hr;have hj2:j<(l.map Nd.d).length:=by rw [<- h.len];exact hj
 obtain ⟨r',hr',hd⟩:=h.get j _ (jK6 hj2);rw [jK6 hj] at hr';obtain rfl:=Option.some.inj hr';rw [List.getElem_map] at hd;generalize l[j]'(by simpa using hj2)=x at hd;obtain ⟨n,t,a,ks⟩:=x;obtain ⟨va,vk,he,hR⟩:=Nd.open_ hd;obtain ⟨a1,n1,c1,rfl⟩:=Rd.au hR.at_
 obtain ⟨a2,n2,c2,rfl⟩:=Rd.au hR.ks;rw [he] at hu;exact kR u hu
theorem Ve (l:List Pr) (rs:List (List jNk)) (ok:Nat->Prop) (w:jN9) (h:aO ok w (l.map Pr.d) rs):∀ u∈rs.flatten,u.oneCell'=true:=by
 intro u hu;obtain ⟨r,hr,hu⟩:=List.mem_flatten.1 hu;obtain ⟨j,hj,rfl⟩:=List.mem_iff_getElem.1 hr;have hj2:j<(l.map Pr.d).length:=by rw [<- h.len];exact hj
 obtain ⟨r',hr',hd⟩:=h.get j _ (jK6 hj2);rw [jK6 hj] at hr';obtain rfl:=Option.some.inj hr';rw [List.getElem_map] at hd;rw [Pr.open_ hd] at hu;simp at hu;rcases hu with rfl | rfl<;>rfl
end Go.Proofs.YtkfnkeflalcphaaGreatDoor

