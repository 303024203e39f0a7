/- Plain part: the numbers of a document: sections, figures, tables, equations, notes. Plain part: nodes of markup, and the nodes of inlines and blocks, as the chapter says. Plain part: entries, and the list of entries, as the program and as the reference make it. Plain part: the entries of numbers. Plain part: blocks with their tables of contents filled. tree.Each: what the function that it returns does with a loop's body. Plain part: what a small document's parts are bounded by. Plain part: what the entries of a well-formed document have. Plain part: the lists of entries of a well-formed document have no error but for the depth. Plain part: what well-formed, resolved blocks give to the walk of their nodes; the plain text of nodes; their anchors. Plain part: the anchors of a page have the identifiers of its document. Plain part: slides, as the program and as the reference divide blocks. Plain part: the sections of the page with slides, as the program and as the reference cut the blocks. Plain part: the page with slides has the anchors of the page, each as often. Plain part: the page of a well-formed document is valid markup. Plain part: the page of a well-formed, resolved document is valid markup (blocks, notes, the page). Plain part: the pieces of a well-formed document are well-formed; the page with slides is valid markup. Plain part: what the walk of the nodes of blocks asks, where blocks stand that are no rows and no cells. publisherref04.Deep, List: inlines and blocks with those in them, in document order. publisherref04.List: blocks with those in them, in document order. The contract of publisherref04.Inlines: all inlines of blocks. Plain part: all inlines of blocks: theirs are among them; how large they are together; unresolved ones. Words for nodes in memory. -/
import Derived.Test.YtclikfjalmcoaaaGreatDoorKRwC
import Derived.Test.YtclikfjalmcoaaaGreatDoorKSizeD
set_option maxHeartbeats 4000000
set_option maxRecDepth 100000
open Go.Lib (hid)
namespace Go.Proofs.YtclikfjalmcoaaaGreatDoor
open List renaming getElem?_eq_getElem->jh0,length_append->jh6,mem_cons_self->jj3
open Go renaming World->jk3,Value->jk5
set_option linter.unusedVariables false
set_option linter.unusedSimpArgs false
def fE (n:Nat):ByteArray:=⟨(Lib.decDigits n).toArray⟩
def au.nX:au->List aj
 | .mk _ _ _ _ _ _ _ li _=>li
inductive Nd where
 | mk (nm tx:ByteArray) (at_:List Pr) (ks:List Nd)
def Nd.nm:Nd->ByteArray
 | .mk n _ _ _=>n
def Nd.tx:Nd->ByteArray
 | .mk _ t _ _=>t
def Nd.at_:Nd->List Pr
 | .mk _ _ a _=>a
def Nd.ks:Nd->List Nd
 | .mk _ _ _ k=>k
mutual
def Nd.d:Nd->D
 | .mk n t a ks=>.st [.str n,.str t,.sl 2 (a.map Pr.d),.sl 4 (Nd.dl ks)]
def Nd.dl:List Nd->List D
 | []=>[]
 | x::l=>x.d::Nd.dl l
end
theorem Nd.jN:∀ (l:List Nd),Nd.dl l=l.map Nd.d
 | []=>by unfold Nd.dl;rfl
 | x::l=>by rw [Nd.dl,Nd.jN l];rfl
def bS (l:List Nd):D:=.sl 4 (l.map Nd.d)
mutual
def Nd.sz:Nd->Nat
 | .mk _ _ _ ks=>1+Nd.aZ ks
def Nd.aZ:List Nd->Nat
 | []=>0
 | x::l=>x.sz+Nd.aZ l
end
def bsS (l:List UInt8):ByteArray:=⟨l.toArray⟩
def jQ:ByteArray:=⟨#[105,100]⟩
def dh:ByteArray:=⟨#[99,108,97,115,115]⟩
def ku:ByteArray:=⟨#[109,97,116,104]⟩
def kY:ByteArray:=⟨#[116,105,116,108,101]⟩
def jf:ByteArray:=⟨#[104,114,101,102]⟩
def mQ:ByteArray:=⟨#[115,114,99]⟩
def mR:ByteArray:=⟨#[97,108,116]⟩
def Ga:ByteArray:=⟨#[110,111,116,101,114,101,102]⟩
def eZ:ByteArray:=⟨#[35,110,111,116,101,45]⟩
def zI:ByteArray:=⟨#[110,111,116,101,45]⟩
def dU:ByteArray:=⟨#[110,111,116,101]⟩
def kI:ByteArray:=⟨#[110,111,116,101,115]⟩
def EL:ByteArray:=⟨#[108,97,110,103,117,97,103,101,45]⟩
def sStart:ByteArray:=⟨#[115,116,97,114,116]⟩
def vI:ByteArray:=⟨#[97,108,105,103,110]⟩
def nBr:ByteArray:=⟨#[98,114]⟩
def iT:ByteArray:=⟨#[99,111,100,101]⟩
def Am:ByteArray:=⟨#[115,112,97,110]⟩
def nEm:ByteArray:=⟨#[101,109]⟩
def Co:ByteArray:=⟨#[115,116,114,111,110,103]⟩
def nS:ByteArray:=⟨#[115]⟩
def nA:ByteArray:=⟨#[97]⟩
def Vo:ByteArray:=⟨#[105,109,103]⟩
def nP:ByteArray:=⟨#[112]⟩
def nH:ByteArray:=⟨#[104]⟩
def KV:ByteArray:=⟨#[112,114,101]⟩
def kZ:ByteArray:=⟨#[100,105,118]⟩
def Yy:ByteArray:=⟨#[104,114]⟩
def xq:ByteArray:=⟨#[98,108,111,99,107,113,117,111,116,101]⟩
def nUl:ByteArray:=⟨#[117,108]⟩
def Xb:ByteArray:=⟨#[111,108]⟩
def nLi:ByteArray:=⟨#[108,105]⟩
def oh:ByteArray:=⟨#[116,97,98,108,101]⟩
def zK:ByteArray:=⟨#[116,104,101,97,100]⟩
def mh:ByteArray:=⟨#[116,98,111,100,121]⟩
def nY:ByteArray:=⟨#[116,114]⟩
def ze:ByteArray:=⟨#[116,104]⟩
def vL:ByteArray:=⟨#[116,100]⟩
def jL:ByteArray:=⟨#[115,101,99,116,105,111,110]⟩
def uD:ByteArray:=⟨#[104,101,97,100]⟩
def pU:ByteArray:=⟨#[109,101,116,97]⟩
def l9:ByteArray:=⟨#[116,105,116,108,101]⟩
def TU:ByteArray:=⟨#[104,116,109,108]⟩
def xJ:ByteArray:=⟨#[98,111,100,121]⟩
def Lb:ByteArray:=⟨#[99,104,97,114,115,101,116]⟩
def lF:ByteArray:=⟨#[117,116,102,45,56]⟩
def qx:ByteArray:=⟨#[108,97,110,103]⟩
def Zw:ByteArray:=⟨#[108,101,102,116]⟩
def RJ:ByteArray:=⟨#[99,101,110,116,101,114]⟩
def Ws:ByteArray:=⟨#[114,105,103,104,116]⟩
def GR:ByteArray:=⟨#[32]⟩
def aN (name:ByteArray) (a:List Pr) (ks:List Nd):Nd:=.mk name ⟨#[]⟩ a ks
def zF (s:ByteArray):Nd:=.mk ⟨#[]⟩ s [] []
def bI (s:ByteArray):List Nd:=if aT s=true then [] else [zF s]
def dF (k v:ByteArray):List Pr:=if aT v=true then [] else [⟨k,v⟩]
def y9:List ByteArray->ByteArray
 | []=>⟨#[]⟩
 | [x]=>x
 | x::y::l=>x++GR++y9 (y::l)
def EA (l:List ByteArray):List Pr:=if l.isEmpty=true then [] else [⟨dh,y9 l⟩]
def q0z (a:At) (more:List ByteArray):List Pr:=dF jQ a.id++EA (more++a.cls)
def jI (out:List Nd) (x:Nd):List Nd:=if aT x.nm=true then match out.getLast? with
  | some y=>if aT y.nm=true then out.dropLast++[.mk y.nm (y.tx++x.tx) y.at_ y.ks] else out++[x]
  | none=>out++[x]
 else out++[x]
def zG (l:List Nd):List Nd:=l.foldl jI []
def dO (l:List aj):ByteArray:=bsS (aj.aD l)
mutual
def aj.nd:aj->Nd
 | .mk k t d ti a ar ci ks=>
  if k=2 then zF GR
  else if k=3 then aN nBr [] []
  else if k=4 then aN iT [] (bI t)
  else if k=5 then aN Am [⟨dh,ku⟩] (bI t)
  else if k=6 then aN nEm [] (zG (aj.GZ ks))
  else if k=7 then aN Co [] (zG (aj.GZ ks))
  else if k=8 then aN nS [] (zG (aj.GZ ks))
  else if k=9 then aN nA (⟨jf,d⟩::dF kY ti) (zG (aj.GZ ks))
  else if k=10 then aN Vo (⟨mQ,d⟩::⟨mR,dO ks⟩::dF kY ti++q0z a []) []
  else if k=11 then aN Am (q0z a []) (zG (aj.GZ ks))
  else if k=12 then aN nA [⟨jf,eZ++t⟩,⟨dh,Ga⟩] (bI t)
  else if k=16 then aN nA [⟨jf,d⟩] (bI d)
  else zF t
def aj.GZ:List aj->List Nd
 | []=>[]
 | x::l=>x.nd::aj.GZ l
end
def dD (l:List aj):List Nd:=zG (aj.GZ l)
theorem kg:∀ (l:List aj),aj.GZ l=l.map aj.nd
 | []=>by rw [aj.GZ];rfl
 | x::l=>by rw [aj.GZ,kg l];rfl
def qo (c:UInt8):ByteArray:=if c=108 then Zw else if c=99 then RJ else if c=114 then Ws else ⟨#[]⟩
def Tv (name:ByteArray) (c:UInt8) (b:au):Nd:=aN name (dF vI (qo c)) (dD b.nX)
def au.kids:au->List au
 | .mk _ _ _ _ _ _ _ _ ks=>ks
def lN (name:ByteArray):List UInt8->List au->List Nd
 | c::cs,b::l=>Tv name c b::lN name cs l
 | _,_=>[]
def kJ (name i:ByteArray) (b:au):Nd:=aN nY [] (lN name i.data.toList b.kids)
def dZ (i:ByteArray):List au->Nd
 | []=>aN oh [] [aN zK [] []]
 | h::rows=>aN oh [] (aN zK [] [kJ ze i h]::if rows.isEmpty=true then [] else [aN mh [] (rows.map (kJ vL i))])
mutual
def au.za:au->List Nd
 | .mk k lv i t d ti a li ks=>
  if k=1 then [aN nP [] (dD li)]
  else if k=2 then [aN (nH++fE lv.toNat) (q0z a []) (dD li)]
  else if k=3 then [aN KV [] [aN iT (dF dh (if aT i=true then ⟨#[]⟩ else EL++i)) (bI t)]]
  else if k=4 then [aN kZ (q0z a [ku]) (bI t)]
  else if k=5 then [aN Yy [] []]
  else if k=6 then [aN xq [] (au.aX ks)]
  else if k=7 then [aN nUl [] (au.aX ks)]
  else if k=8 then [aN Xb (if lv=1 then [] else [⟨sStart,fE lv.toNat⟩]) (au.aX ks)]
  else if k=9 then [aN nLi [] (au.aX ks)]
  else if k=10 then [dZ i ks]
  else if k=13 then [aN kZ (q0z a [i]) (au.aX ks)]
  else []
def au.aX:List au->List Nd
 | []=>[]
 | x::l=>x.za++au.aX l
end
theorem Aw:∀ (l:List au) (k:Nat) (x:au),l[k]?=some x->au.aX (l.take (k+1))=au.aX (l.take k)++x.za
 | [],_,_,h=>by simp at h
 | y::l,0,x,h=>by
  simp at h;subst h;simp [au.aX]
 | y::l,k+1,x,h=>by
  rw [List.take_succ_cons,List.take_succ_cons,au.aX,au.aX,Aw l k x (by simpa using h),List.append_assoc]
def fA (x:aj):Bool:=match x with
 | .mk k t _ _ _ _ _ _=>decide (k=15)||decide (k=13)||decide (k=14)||((decide (k=9)||decide (k=10))&&!aT t)
def jc (l:List aj):Bool:=(aj.aU l).any fA
def jg (b:au):List Nd:=match b with
 | .mk k _ i _ _ _ _ _ ks=>if k=14 then [aN kZ [⟨jQ,zI++i⟩,⟨dh,dU⟩] (au.aX ks)] else []
def nZ (l:List au):List Nd:=(au.aY l).flatMap jg
def lD (l:List au):List Nd:=au.aX l++if (nZ l).isEmpty=true then [] else [aN jL [⟨dh,kI⟩] (nZ l)]
def H8 (title lang:ByteArray) (body:List Nd):Nd:=
 aN TU [⟨qx,lang⟩] [aN uD [] [aN pU [⟨Lb,lF⟩] [],aN l9 [] (bI title)],aN xJ [] body]
def eT (p:List Nd × ByteArray) (x:Nd):List Nd × ByteArray:=if aT x.nm=true then (p.1,p.2++x.tx) else (p.1++bI p.2++[x],⟨#[]⟩)
def fT (l:List Nd):List Nd × ByteArray:=l.foldl eT ([],⟨#[]⟩)
def Ow (l:List Nd):Prop:=∀ y,l.getLast?=some y->aT y.nm=false
def Nd.full (x:Nd):Prop:=aT x.nm=true->x=zF x.tx/\aT x.tx=false
theorem Fp {s:ByteArray} (h:aT s=true):s=⟨#[]⟩:=by unfold aT at h;have:=of_decide_eq_true h;exact ByteArray.ext (Array.toList_inj.1 (by simpa using this))
theorem oO (a b:ByteArray):aT (a++b)=(aT a&&aT b):=by unfold aT;rw [show (a++b).data.toList=a.data.toList++b.data.toList by simp [ByteArray.data_append]];simp [Bool.decide_and]
theorem xX:∀ (l:List Nd) (out:List Nd) (acc:ByteArray),(∀ x∈l,x.full)->Ow out->Ow (l.foldl eT (out,acc)).1/\l.foldl jI (out++bI acc)=(l.foldl eT (out,acc)).1++bI (l.foldl eT (out,acc)).2
 | [],out,acc,_,ho=>⟨ho,rfl⟩
 | x::l,out,acc,h,ho=>by
  have hl:=fun y hy=>h y (List.mem_cons_of_mem _ hy)
  have hx:=h x (jj3 ..);rw [List.foldl_cons,List.foldl_cons];by_cases hn:aT x.nm=true
  ·obtain ⟨e1,e2⟩:=hx hn;have e3:eT (out,acc) x=(out,acc++x.tx):=by unfold eT;rw [if_pos hn]
   have e4:jI (out++bI acc) x=out++bI (acc++x.tx):=by
    unfold jI;rw [if_pos hn];have e5:aT (acc++x.tx)=false:=by rw [oO,e2,Bool.and_false]
    have e6:bI (acc++x.tx)=[zF (acc++x.tx)]:=by unfold bI;rw [if_neg (by rw [e5];simp)]
    rw [e6];by_cases ha:aT acc=true
    ·have e7:bI acc=[]:=by unfold bI;rw [if_pos ha]
     rw [e7,List.append_nil];have e8:acc++x.tx=x.tx:=by rw [Fp ha];apply ByteArray.ext;simp [ByteArray.data_append]
     rw [e8];cases hg:out.getLast? with
     | none=>simp only;rw [e1];rfl
     | some y=>simp only;rw [if_neg (by rw [ho y hg];simp),e1];rfl
    ·have e7:bI acc=[zF acc]:=by unfold bI;rw [if_neg ha]
     rw [e7,List.getLast?_append];simp only [List.getLast?_singleton,Option.some_or];have e9:aT (zF acc).nm=true:=rfl;rw [if_pos e9,List.dropLast_concat];rfl
   rw [e3,e4];exact xX l out _ hl ho
  ·have e3:eT (out,acc) x=(out++bI acc++[x],⟨#[]⟩):=by unfold eT;rw [if_neg hn]
   have e4:jI (out++bI acc) x=(out++bI acc++[x])++bI ⟨#[]⟩:=by unfold jI;rw [if_neg hn];have:bI ⟨#[]⟩=[]:=rfl;rw [this,List.append_nil]
   rw [e3,e4];refine xX l _ _ hl ?_;intro y hy;rw [List.getLast?_append] at hy;simp at hy;subst hy;simpa using hn
theorem Lh (l:List Nd) (h:∀ x∈l,x.full):zG l=(fT l).1++bI (fT l).2:=
 (xX l [] ⟨#[]⟩ h (fun y hy=>by simp at hy)).2
theorem GV (l:List Nd) (x:Nd):fT (l++[x])=eT (fT l) x:=by unfold fT;rw [List.foldl_append];rfl
open Go.RowKit Go.Shelf
attribute [local go_sem] Oper.semAt_some
theorem Li (W:jk3):W.grownBy W.drew none:=⟨rfl,rfl,rfl,Nat.le_refl _,fun _ _ _=>rfl⟩
theorem Ox (n l Bl B0:Nat) (P:au->Prop) (bs:List au) (v:jk5) (w0:jk3) (Kp:jk3->jk3->Prop) (hK:NU B0 Kp) (J Jx:List (BW B0 w0 P)->jk3->Prop) (W:jk3) (hJ:AbidesFrom W.heap.size J) (hY:∀ (m:Nat) (pre:List (BW B0 w0 P)) (x:BW B0 w0 P) (W1:jk3),J pre W1->pre.length<(au.aY bs).length->YieldAt Fence.wide m Tryz.prog l #[x.1.enc] W1 fun e W'=> (e=.returned (.bool true)/\J (pre++[x]) W'/\Kp W1 W')\/(e=.returned (.bool false)/\Jx (pre++[x]) W')) (hPb:∀ b∈au.aY bs,P b) (hrd:Rd (·<B0) w0 (dS bs) [v]) (hbel:Below B0 w0 W) (hB0:B0<=W.heap.size) (hBl:aG Bl v 28 W) (h0:J [] W) : CallsIn Fence.wide n Tryz.prog 107 #[.func (.yield l) #[] #[],.pointer (some ⟨Bl,0,none⟩)] W fun e W'=>(∃ v,e=.returned v) /\ ((∃ xs,vJ xs=au.aY bs/\J xs W')\/(∃ pre,vJ pre <+: au.aY bs/\Jx pre W')):=by
 obtain ⟨va,vn,vc,rfl⟩:=Rd.ah hrd;have hdd:∀ k:Nat,(Fence.wide.depth.isSome=true->1<=k):=fun k h=>by cases h
 have HC:Hid (∀ (m:Nat) (w2:jk3),Below B0 w0 w2->EB l W.heap.size (W.heap.size+1) w2->J [] w2->_):=fun m w2 h1 h2 h3=>
  Lj l B0 W.heap.size (W.heap.size+1) (au.aY bs).length P w0 Kp hK J Jx (fun pre W1 h=>hJ pre W1 W1.drew none h (Li W1) (fun r e=>by cases e)) hY (au.aZ bs) m bs (.slice va vn vc) [] w2 (Nat.le_refl _) hPb hrd h1 h2 h3 (by simp)
 have HJ:=hid hJ;have HB:=hid hBl;have eY:=hid hbel;have H0:=hid h0;obtain ⟨p,hp⟩:∃ p,p=W.heap.size:=⟨_,rfl⟩;rw [<- hp] at HC;clear hK hY hrd hbel hBl h0 hJ;refine callsIn_of_wp Tryz.func107 rfl trivial ?_ rfl;simp only [Tryz.ntmps107,List.size_toArray,List.length_cons,List.length_nil,Nat.reduceAdd,Nat.reduceSub,Array.replicate_succ,Array.replicate_zero,List.push_toArray,List.append_toArray,List.nil_append,List.cons_append]
 gi_upto_region 2 with (fail)
 obtain ⟨wA,gN⟩:∃ wA,wA=(W.alloc (.cells #[.func (.yield l) #[] #[]] 104)).alloc (.cells #[.nilFunc] 41):=⟨_,rfl⟩;have b0:aG p (.func (.yield l) #[] #[]) 104 wA:=by rw [gN,hp];exact (aG.new W _ _).alloc _
 have b1:aG (p+1) .nilFunc 41 wA:=by
  rw [gN,hp];have:=aG.new (W.alloc (.cells #[.func (.yield l) #[] #[]] 104)) .nilFunc 41
  rwa [World.size_alloc] at this
 have gA:Below p W wA:=by rw [gN,hp];exact ((Below.refl _ _).alloc (Nat.le_refl _) _).alloc (by simp) _
 rw [<- gN,<- hp];rw [<- hp] at hB0;have HP:=hid hp;clear gN hp;have c1:=b1.cell;have f1:=b1.free
 gi_upto_region 3 with (fail)
 obtain ⟨wB,ET⟩:∃ wB,wB=wA.setCell ⟨p+1,0,none⟩ (AY p (p+1)):=⟨_,rfl⟩;have d0:aG p (.func (.yield l) #[] #[]) 104 wB:=by rw [ET];exact b0.far (by omega) _
 have d1:aG (p+1) (AY p (p+1)) 41 wB:=by rw [ET];exact b1.set _
 have gB:Below p W wB:=by rw [ET];exact gA.setCell (p:=⟨p+1,0,none⟩) (by show p<=p+1;omega) _
 have cl:wB.cell? ⟨Bl,0,none⟩=some (.slice va vn vc):=(HB.out.below (by have:=HB.out.lt;rw [HP.out];exact this) gB).cell;have c2:=d1.cell;have HD:=hid (HC.out (n-1) wB (eY.out.trans (gB.mono hB0)) ⟨d0,d1⟩ (HJ.out [] W wB none H0.out ⟨gB.os,gB.tape,gB.output,gB.size,fun k hk _=>gB.block k (by rw [HP.out];exact hk)⟩ (fun r e=>by cases e)));unfold AY at ET c2;rw [<- ET];clear ET b0 b1 gA c1 f1 d0 d1 gB
 gi_wp2_with (first
  | (refine ⟨trivial,hdd _,?_⟩;refine HD.out.mono ?_;clear HD;rintro e W1 (⟨rfl,q,hq,RO,hb1,hE1⟩ | ⟨rfl,q,hq,hx1⟩))
  | (refine HD.out.mono ?_;clear HD;rintro e W1 (⟨rfl,q,hq,RO,hb1,hE1⟩ | ⟨rfl,q,hq,hx1⟩)))
 ·go_end0
  exact ⟨⟨_,rfl⟩,.inl ⟨q,hq,by simpa using RO⟩⟩
 ·go_end0
  exact ⟨⟨_,rfl⟩,.inr ⟨q,hq,by simpa using hx1⟩⟩
theorem H7 (n Bl B0:Nat) (P:au->Prop) (bs:List au) (v:jk5) (w0 w:jk3) (Kp:jk3->jk3->Prop) (hK:NU B0 Kp) (hPb:∀ b∈au.aY bs,P b) (hrd:Rd (·<B0) w0 (dS bs) [v]) (hbel:Below B0 w0 w) (hB0:B0<=w.heap.size) (hBl:aG Bl v 28 w) : SeqStopsK Fence.wide n Tryz.prog 107 #[.pointer (some ⟨Bl,0,none⟩)] (fun x:BW B0 w0 P=>#[x.1.enc]) Kp (fun xs=>vJ xs=au.aY bs) (fun pre=>vJ pre <+: au.aY bs) (au.aY bs).length w:=fun l J Jx W hW hJ hJx hY h0=>
 Ox n l Bl B0 P bs v w0 Kp hK J Jx W hJ (fun m pre x W1 hj hl=>Oy rfl m (hY pre x W1 hj hl)) hPb hrd (hbel.trans (hW.mono hB0)) (Nat.le_trans hB0 hW.size) (hBl.below hBl.lt hW) h0
theorem NZ (va:Option Addr) (vn vc:Nat) (w:jk3):Calls Tryz.prog 59 #[.slice va vn vc] w fun e w'=>e=.returned (.func (.func 107) #[] #[.pointer (some ⟨w.heap.size,0,none⟩)])/\w'=w.alloc (.cells #[.slice va vn vc] 28):=by go_enter Tryz.func59,Tryz.ntmps59;go_wp2;go_ret;exact ⟨rfl,rfl⟩
mutual
theorem aj.Oz:∀ (x:aj),x.small->x.plain.length<=300*x.sz
 | .mk k t d ti a ar ci ks,h=>by
  unfold aj.small at h;obtain ⟨h1,h2,h3,h4,h5,h6,h7,h8,h9⟩:=h;have hk:=aj.oL ks h9;have e1:t.data.toList.length=t.size:=by rw [Array.length_toList];rfl
  have e2:d.data.toList.length=d.size:=by rw [Array.length_toList];rfl
  rw [aj.plain,aj.sz];split
  ·omega
  ·split
   ·simp;omega
   ·split
    ·omega
    ·split
     ·omega
     ·simp
theorem aj.oL:∀ (l:List aj),aj.aC l->(aj.aD l).length<=300*aj.aZ l
 | [],_=>by rw [aj.aD];simp
 | x::l,h=>by
  unfold aj.aC at h;rw [aj.aD,aj.aZ,jh6];have:=aj.Oz x h.1;have:=aj.oL l h.2;omega
end
mutual
theorem aj.OB:∀ (x:aj),x.small->x.bd
 | .mk k t d ti a ar ci ks,h=>by
  unfold aj.small at h;obtain ⟨h1,h2,h3,h4,h5,h6,h7,h8,h9⟩:=h;unfold At.short at h4;have hk:=aj.mg ks h9;unfold aj.bd;exact ⟨by omega,by omega,by omega,by omega,hk⟩
theorem aj.mg:∀ (l:List aj),aj.aC l->aj.sP l
 | [],_=>by unfold aj.sP;trivial
 | x::l,h=>by
  unfold aj.aC at h;unfold aj.sP;exact ⟨aj.OB x h.1,aj.mg l h.2⟩
end
mutual
theorem au.OB:∀ (x:au),x.small->x.bd
 | .mk k lv i t d ti a li ks,h=>by
  unfold au.small at h;obtain ⟨h1,h2,h3,h4,h5,h6,h7,h8⟩:=h;unfold At.short at h5;have hk:=au.mg ks h8;unfold au.bd;exact ⟨by omega,by omega,aj.mg li h6,by omega,hk⟩
theorem au.mg:∀ (l:List au),au.aC l->au.sP l
 | [],_=>by unfold au.sP;trivial
 | x::l,h=>by
  unfold au.aC at h;unfold au.sP;exact ⟨au.OB x h.1,au.mg l h.2⟩
end
mutual
theorem au.Io:∀ (x:au),x.small->∀ b∈x.each,b.small
 | .mk k lv i t d ti a li ks,h,b,hb=>by
  rw [au.each] at hb;rcases List.mem_cons.1 hb with rfl | hb
  ·exact h
  ·unfold au.small at h;exact au.kC ks h.2.2.2.2.2.2.2 b hb
theorem au.kC:∀ (l:List au),au.aC l->∀ b∈au.aY l,b.small
 | [],_,b,hb=>by rw [au.aY] at hb;simp at hb
 | x::l,h,b,hb=>by
  unfold au.aC at h;rw [au.aY] at hb;rcases List.mem_append.1 hb with hb | hb
  ·exact au.Io x h.1 b hb
  ·exact au.kC l h.2 b hb
end
section
variable {P:Int->ByteArray->Prop}
end
mutual
def aj.ok:aj->Prop
 | .mk k t d ti a ar ci ks=>oI 0 false false k t d ti a ar ci ks=0/\k≠2/\k≠3/\aj.okL 0 ks
def aj.okL (b:Int):List aj->Prop
 | []=>True
 | x::l=>x.ok/\¬ (b=x.kd/\(b=1\/b=4))/\aj.okL x.kd l
end
mutual
def aj.src:aj->Prop
 | .mk k t d ti a ar ci ks=>oI 0 false false k t d ti a ar ci ks=0/\aj.CY ks
def aj.CY:List aj->Prop
 | []=>True
 | x::l=>x.src/\aj.CY l
end
theorem RP {before k:Int} {first last:Bool} {t d ti:ByteArray} {a:At} {ar:List ByteArray} {ci:List Ci} {ks:List aj} (h:oI before first last k t d ti a ar ci ks=0) : oI 0 false false k t d ti a ar ci ks=0:=by
 unfold oI at h ⊢;by_cases h0:vW k t d ti a ar ci ks=false
 ·rw [if_pos h0] at h;cases h
 rw [if_neg h0] at h ⊢;by_cases h1:k=1\/k=4\/k=5
 ·rw [if_pos h1] at h ⊢;by_cases h4:aT t=true\/eB t=false
  ·rw [if_pos h4] at h;cases h
  ·rw [if_neg h4,if_neg (by omega)]
 rw [if_neg h1] at h ⊢;by_cases h2:k=2
 ·rw [if_pos h2,if_neg (by simp)]
 rw [if_neg h2] at h ⊢;by_cases h3:k=3
 ·rw [if_pos h3,if_neg (by simp)]
 rw [if_neg h3] at h ⊢;exact h
mutual
theorem aj.RQ:∀ (x:aj) (before:Int) (first last:Bool) (dp:Nat),x.err before first last dp=0->x.src
 | .mk k t d ti a ar ci ks,before,first,last,dp,h=>by
  rw [aj.err] at h;rw [aj.src];by_cases h1:oI before first last k t d ti a ar ci ks=0
  ·rw [if_neg (by simp [h1])] at h;exact ⟨RP h1,aj.rJ ks _ _ _ h⟩
  ·rw [if_pos h1] at h;exact absurd h h1
theorem aj.rJ:∀ (l:List aj) (before:Int) (st:Bool) (dp:Nat),aj.aS before st dp l=0->aj.CY l
 | [],_,_,_,_=>by rw [aj.CY];trivial
 | x::l,before,st,dp,h=>by
  rw [aj.aS] at h;rw [aj.CY];split at h
  ·cases h
  ·split at h
   ·rename_i h2;exact absurd h h2
   ·rename_i h2
    exact ⟨aj.RQ x _ _ _ dp (Classical.not_not.1 h2),aj.rJ l _ _ dp h⟩
end
mutual
def aj.tf:aj->Prop
 | .mk k t d ti a ar ci ks=>(k<2\/(12<k/\k<16)\/16<k->aT t=false)/\aj.GY ks
def aj.GY:List aj->Prop
 | []=>True
 | x::l=>x.tf/\aj.GY l
end
theorem OD (n:ByteArray) (a:List Pr) (ks:List Nd) (h:aT n=false):(aN n a ks).full:=fun e=>by
 have:aT n=true:=e;rw [h] at this;cases this
theorem Fq (s:ByteArray) (h:aT s=false):(zF s).full:=fun _=>⟨rfl,h⟩
theorem RU:∀ (x:aj),x.tf->x.nd.full
 | .mk k t d ti a ar ci ks,h=>by
  rw [aj.tf] at h;rw [aj.nd];by_cases h2:k=2
  ·rw [if_pos h2];exact Fq _ rfl
  rw [if_neg h2];by_cases h3:k=3
  ·rw [if_pos h3];exact OD _ _ _ rfl
  rw [if_neg h3];by_cases h4:k=4
  ·rw [if_pos h4];exact OD _ _ _ rfl
  rw [if_neg h4];by_cases h5:k=5
  ·rw [if_pos h5];exact OD _ _ _ rfl
  rw [if_neg h5];by_cases h6:k=6
  ·rw [if_pos h6];exact OD _ _ _ rfl
  rw [if_neg h6];by_cases h7:k=7
  ·rw [if_pos h7];exact OD _ _ _ rfl
  rw [if_neg h7];by_cases h8:k=8
  ·rw [if_pos h8];exact OD _ _ _ rfl
  rw [if_neg h8];by_cases h9:k=9
  ·rw [if_pos h9];exact OD _ _ _ rfl
  rw [if_neg h9];by_cases h10:k=10
  ·rw [if_pos h10];exact OD _ _ _ rfl
  rw [if_neg h10];by_cases h11:k=11
  ·rw [if_pos h11];exact OD _ _ _ rfl
  rw [if_neg h11];by_cases h12:k=12
  ·rw [if_pos h12];exact OD _ _ _ rfl
  rw [if_neg h12];by_cases h16:k=16
  ·rw [if_pos h16];exact OD _ _ _ rfl
  rw [if_neg h16];exact Fq _ (h.1 (by omega))
theorem Ch:∀ (l:List aj),aj.GY l->∀ x∈l,x.tf
 | [],_,x,hx=>by cases hx
 | y::l,h,x,hx=>by
  rw [aj.GY] at h;rcases List.mem_cons.1 hx with rfl | hx
  ·exact h.1
  ·exact Ch l h.2 x hx
theorem Et (l:List aj) (h:aj.GY l):∀ x∈aj.GZ l,x.full:=by intro x hx;rw [kg] at hx;obtain ⟨y,hy,rfl⟩:=List.mem_map.1 hx;exact RU y (Ch l h y hy)
theorem M7 (l:List aj) (h:aj.GY l):dD l=(fT (aj.GZ l)).1++bI (fT (aj.GZ l)).2:=Lh _ (Et l h)
theorem Ip {k:Int} {t d ti:ByteArray} {a:At} {ar:List ByteArray} {ci:List Ci} {ks:List aj} (h:vW k t d ti a ar ci ks=true):1<=k/\k<=16:=by unfold vW at h;simp only [Bool.and_eq_true,decide_eq_true_eq] at h;omega
mutual
theorem Wt:∀ (x:aj),x.src->x.deep.any fA=false->x.tf
 | .mk k t d ti a ar ci ks,h,hu=>by
  rw [aj.src] at h;rw [aj.deep,List.any_cons,Bool.or_eq_false_iff] at hu;rw [aj.tf];refine ⟨fun hk=>?_,Dc ks h.2 hu.2⟩;have h1:=h.1;unfold oI at h1;split at h1
  ·cases h1
  ·rename_i h0
   have hf:=Ip (by simpa using h0);have hu1:=hu.1;unfold fA at hu1;simp only [Bool.or_eq_false_iff,decide_eq_false_iff_not] at hu1;have hk1:k=1:=by omega
   rw [if_pos (.inl hk1)] at h1;split at h1
   ·cases h1
   ·rename_i h2
    cases h3:aT t
    ·rfl
    ·exact absurd (.inl h3) h2
theorem Dc:∀ (l:List aj),aj.CY l->(aj.aU l).any fA=false->aj.GY l
 | [],_,_=>by rw [aj.GY];trivial
 | x::l,h,hu=>by
  rw [aj.CY] at h;rw [aj.aU,List.any_append,Bool.or_eq_false_iff] at hu;rw [aj.GY];exact ⟨Wt x h.1 hu.1,Dc l h.2 hu.2⟩
end
theorem CZ (l:List aj) (h:qh l=0) (hu:jc l=false):aj.GY l:=Dc l (aj.rJ l 0 true 0 h) hu
mutual
def au.bC:au->List aj
 | .mk _ _ _ _ _ _ _ li ks=>aj.aU li++au.dP ks
def au.dP:List au->List aj
 | []=>[]
 | x::l=>x.bC++au.dP l
end
mutual
def au.hok:au->Prop
 | .mk k lv i t d ti a li ks=>aj.GY li/\(k=2\/k=8->0<=lv/\lv<=999999999)/\(k=10->ks≠[]/\∀ r∈ks,r.kids.length=i.size)/\(∀ c∈a.cls,aT c=false)/\(k=13->aT i=false)/\au.OE ks
def au.OE:List au->Prop
 | []=>True
 | x::l=>x.hok/\au.OE l
end
theorem Kc (s:ByteArray) (h:fP s=true):aT s=false:=by
 unfold fP at h;simp only [Bool.and_eq_true,decide_eq_true_eq] at h;unfold aT;refine decide_eq_false fun e=>?_
 have h1:s.data.toList.length=s.size:=by simp
 rw [e] at h1;simp at h1;omega
theorem OG:∀ (l seen:List ByteArray),qA seen l=0->∀ c∈l,aT c=false
 | [],_,_,c,hc=>by cases hc
 | x::l,seen,h,c,hc=>by
  rw [qA] at h;split at h
  ·cases h
  ·rename_i h1
   split at h
   ·cases h
   ·rcases List.mem_cons.1 hc with rfl | hc
    ·exact Kc _ (by simpa using h1)
    ·exact OG l _ h c hc
theorem rH (a:At) (h:a.err=0):∀ c∈a.cls,aT c=false:=by
 unfold At.err at h;split at h
 ·cases h
 ·split at h
  ·rename_i h1;exact absurd h h1
  ·rename_i h1
   exact OG a.cls [] (Classical.not_not.1 h1)
theorem E9 (a:At) (h:a.none=true):∀ c∈a.cls,aT c=false:=by
 unfold At.none at h;simp only [Bool.and_eq_true] at h;have h1:a.cls=[]:=by simpa using h.1.2
 rw [h1];intro c hc;cases hc
mutual
theorem au.Ke (cl:ByteArray->Bool):∀ (b:au) (par:Int) (dp:Nat),b.err cl par dp=0->(b.bC).any fA=false->b.hok
 | .mk k lv i t d ti a li ks,par,dp,h,hu=>by
  rw [au.err] at h;rw [au.bC,List.any_append,Bool.or_eq_false_iff] at hu;rw [au.hok];split at h
  ·cases h
  ·split at h
   ·cases h
   ·rename_i hb
    split at h
    ·rename_i h1;exact absurd h h1
    ·rename_i h1
     have h2:=Classical.not_not.1 h1;have hbf:Dx k lv i t d ti a li ks=true:=by
      cases hx:Dx k lv i t d ti a li ks
      ·exact absurd (.inl hx) hb
      ·rfl
     unfold Dx at hbf;simp only [Bool.and_eq_true,decide_eq_true_eq] at hbf;obtain ⟨⟨⟨⟨⟨⟨⟨⟨b1,b2⟩,b3⟩,b4⟩,b5⟩,b6⟩,b7⟩,b8⟩,b9⟩:=hbf;have vU:=au.Fu cl ks k (dp+1) h hu.2;have hli:qh li=0:=by
      by_cases c1:k=1
      ·unfold vD at h2;rw [if_pos c1] at h2;split at h2
       ·cases h2
       ·exact h2
      by_cases c2:k=2
      ·unfold vD at h2;rw [if_neg c1,if_pos c2] at h2;split at h2
       ·cases h2
       ·split at h2
        ·rename_i h3;exact absurd h2 h3
        ·split at h2
         ·cases h2
         ·exact h2
      by_cases c3:k=12
      ·unfold vD at h2;rw [if_neg c1,if_neg c2,if_pos c3] at h2;split at h2
       ·cases h2
       ·exact h2
      ·have:li=[]:=by
        rw [Bool.or_eq_true] at b8;rcases b8 with b8 | b8
        ·simp at b8;omega
        ·simpa using b8
       rw [this];unfold qh;rw [aj.aS]
     refine ⟨CZ li hli hu.1,?_,?_,?_,?_,vU⟩
     ·intro hk;rcases hk with rfl | rfl
      ·unfold vD at h2;rw [if_neg (by decide),if_pos rfl] at h2;split at h2
       ·cases h2
       ·omega
      ·unfold vD at h2;rw [if_neg (by decide),if_neg (by decide),if_neg (by decide),if_neg (by decide),if_neg (by decide),if_pos (.inr rfl)] at h2;split at h2
       ·cases h2
       ·split at h2
        ·cases h2
        ·rename_i h4
         constructor<;>(rcases Classical.em (lv<0) with h5 | h5<;>rcases Classical.em (999999999<lv) with h6 | h6<;>first | omega | exact absurd ⟨rfl,.inl h5⟩ h4 | exact absurd ⟨rfl,.inr h6⟩ h4)
     ·rintro rfl;unfold vD at h2;rw [if_neg (by decide),if_neg (by decide),if_neg (by decide),if_neg (by decide),if_neg (by decide),if_neg (by decide),if_pos rfl] at h2;unfold jE at h2;split at h2
      ·cases h2
      ·split at h2
       ·cases h2
       ·split at h2
        ·cases h2
        ·split at h2
         ·cases h2
         ·rename_i h5
          split at h2
          ·cases h2
          ·rename_i h6
           refine ⟨fun e=>h5 (by rw [e];rfl),fun r hr=>?_⟩;have h7:ks.any (fun b=>!decide (b.wG=i.size))=false:=by simpa using h6
           rw [List.any_eq_false] at h7;have h8:=h7 r hr;have h9:decide (r.wG=i.size)=true:=by
            cases hx:decide (r.wG=i.size)
            ·rw [hx] at h8;exact absurd rfl h8
            ·rfl
           have h10:=of_decide_eq_true h9;cases r
           exact h10
     ·by_cases c2:k=2
      ·unfold vD at h2;rw [if_neg (by omega),if_pos c2] at h2;split at h2
       ·cases h2
       ·split at h2
        ·rename_i h3;exact absurd h2 h3
        ·rename_i h3;exact rH a (Classical.not_not.1 h3)
      by_cases c4:k=4
      ·unfold vD at h2;rw [if_neg (by omega),if_neg c2,if_neg (by omega),if_neg (by omega),if_pos c4] at h2;split at h2
       ·cases h2
       ·split at h2
        ·cases h2
        ·exact rH a h2
      by_cases c13:k=13
      ·unfold vD at h2;rw [if_neg (by omega),if_neg c2,if_neg (by omega),if_neg (by omega),if_neg c4,if_neg (by omega),if_neg (by omega),if_pos (.inl c13)] at h2;split at h2
       ·cases h2
       ·exact rH a h2
      ·rw [Bool.or_eq_true] at b7;rcases b7 with b7 | b7
       ·simp at b7;omega
       ·exact E9 a b7
     ·rintro rfl;unfold vD at h2;rw [if_neg (by decide),if_neg (by decide),if_neg (by decide),if_neg (by decide),if_neg (by decide),if_neg (by decide),if_neg (by decide),if_pos (.inl rfl)] at h2;split at h2
      ·cases h2
      ·rename_i h3;exact Kc i (by simpa using h3)
theorem au.Fu (cl:ByteArray->Bool):∀ (l:List au) (par:Int) (dp:Nat),au.aS cl par dp l=0->(au.dP l).any fA=false->au.OE l
 | [],_,_,_,_=>by rw [au.OE];trivial
 | x::l,par,dp,h,hu=>by
  rw [au.aS] at h;rw [au.dP,List.any_append,Bool.or_eq_false_iff] at hu;rw [au.OE];split at h
  ·rename_i h1;exact absurd h h1
  ·rename_i h1
   exact ⟨au.Ke cl x par dp (Classical.not_not.1 h1) hu.1,au.Fu cl l par dp h hu.2⟩
end
mutual
def Nd.vals (key:ByteArray):Nd->List ByteArray
 | .mk n _ a ks=>if aT n=true then [] else ((a.filter fun p=>decide (p.key=key)).map (·.val))++Nd.dx key ks
def Nd.dx (key:ByteArray):List Nd->List ByteArray
 | []=>[]
 | x::l=>x.vals key++Nd.dx key l
end
theorem Az (key:ByteArray) (l m:List Nd):Nd.dx key (l++m)=Nd.dx key l++Nd.dx key m:=by
 induction l with
 | nil=>rw [Nd.dx];rfl
 | cons x l ih=>rw [List.cons_append,Nd.dx,Nd.dx,ih,List.append_assoc]
def au.Xf:au->Int
 | .mk k _ _ _ _ _ _ _ _=>k
def au.iOf:au->ByteArray
 | .mk _ _ i _ _ _ _ _ _=>i
theorem AZ (cl:ByteArray->Bool):∀ (l:List au) (par:Int) (dp:Nat),au.aS cl par dp l=0->∀ x∈l,gV x.Xf par=true/\∃ dp',x.err cl par dp'=0
 | [],_,_,_,x,hx=>by cases hx
 | b::l,par,dp,h,x,hx=>by
  rw [au.aS] at h;split at h
  ·rename_i h1;exact absurd h h1
  ·rename_i h1
   rcases List.mem_cons.1 hx with rfl | hx
   ·have h2:=Classical.not_not.1 h1;refine ⟨?_,dp,h2⟩;obtain ⟨k,lv,i,t,d,ti,a,li,ks⟩:=x;rw [au.err] at h2;split at h2
    ·cases h2
    ·split at h2
     ·cases h2
     ·rename_i h3
      show gV k par=true;cases h4:gV k par
      ·exact absurd (.inr h4) h3
      ·rfl
   ·exact AZ cl l par dp h x hx
theorem Np (n m:Nat) (h:n<10 ^ (m+1)):(Lib.decDigits n).length<=m+1:=by
 induction m generalizing n with
 | zero=>
  rw [Lib.decDigits,dif_pos (by simpa using h)];simp
 | succ m ih=>
  rw [Lib.decDigits];split
  ·simp
  ·rw [jh6,List.length_singleton];have:=ih (n/10) (by
    rw [Nat.div_lt_iff_lt_mul (by decide)];have e:10 ^ (m+1+1)=10 ^ (m+1)*10:=Nat.pow_succ ..;omega)
   omega
theorem lq (cl:ByteArray->Bool) {k lv:Int} {i t d ti:ByteArray} {a:At} {li:List aj} {ks:List au} {par:Int} {dp:Nat} (h:(au.mk k lv i t d ti a li ks).err cl par dp=0) : vD cl k lv i t d ti a li ks=0/\Dx k lv i t d ti a li ks=true/\au.aS cl k (dp+1) ks=0:=by
 rw [au.err] at h;split at h
 ·cases h
 ·split at h
  ·cases h
  ·rename_i hb
   split at h
   ·rename_i h1;exact absurd h h1
   ·rename_i h1
    refine ⟨Classical.not_not.1 h1,?_,h⟩;cases hx:Dx k lv i t d ti a li ks
    ·exact absurd (.inl hx) hb
    ·rfl
theorem OH (cl:ByteArray->Bool) {k lv:Int} {i t d ti:ByteArray} {a:At} {li:List aj} {ks:List au} (h2:vD cl k lv i t d ti a li ks=0) (hbf:Dx k lv i t d ti a li ks=true):qh li=0:=by
 unfold vD at h2;by_cases c1:k=1
 ·rw [if_pos c1] at h2;split at h2
  ·cases h2
  ·exact h2
 rw [if_neg c1] at h2;by_cases c2:k=2
 ·rw [if_pos c2] at h2;split at h2
  ·cases h2
  ·split at h2
   ·rename_i h3;exact absurd h2 h3
   ·split at h2
    ·cases h2
    ·exact h2
 rw [if_neg c2] at h2;by_cases c3:k=12
 ·rw [if_pos c3] at h2;split at h2
  ·cases h2
  ·exact h2
 ·have:li=[]:=by
   unfold Dx at hbf;simp only [Bool.and_eq_true] at hbf;have b8:=hbf.1.2;rw [Bool.or_eq_true] at b8;rcases b8 with b8 | b8
   ·simp at b8;omega
   ·simpa using b8
  rw [this];unfold qh;rw [aj.aS]
theorem xY (cl:ByteArray->Bool) (par:Int) (dp:Nat):∀ (l:List au),au.aS cl par dp l=0↔∀ b∈l,b.err cl par dp=0
 | []=>by rw [au.aS];exact ⟨fun _ b hb=>(by cases hb),fun _=>rfl⟩
 | x::l=>by
  rw [au.aS];by_cases h:x.err cl par dp=0
  ·rw [if_neg (by simp [h]),xY cl par dp l];constructor
   ·intro h1 b hb;rcases List.mem_cons.1 hb with rfl | hb
    ·exact h
    ·exact h1 b hb
   ·exact fun h1 b hb=>h1 b (List.mem_cons_of_mem _ hb)
  ·rw [if_pos h];exact ⟨fun h1=>absurd h1 h,fun h1=>absurd (h1 x (jj3 ..)) h⟩
theorem Kg:∀ (l:List au),(au.dP l).any fA=false↔∀ b∈l,b.bC.any fA=false
 | []=>by rw [au.dP];exact ⟨fun _ b hb=>(by cases hb),fun _=>rfl⟩
 | x::l=>by
  rw [au.dP,List.any_append,Bool.or_eq_false_iff,Kg l];constructor
  ·rintro ⟨h1,h2⟩ b hb;rcases List.mem_cons.1 hb with rfl | hb
   ·exact h1
   ·exact h2 b hb
  ·exact fun h=>⟨h x (jj3 ..),fun b hb=>h b (List.mem_cons_of_mem _ hb)⟩
mutual
def au.Ns:au->Prop
 | .mk k lv i t d ti a li ks=>aj.GY li/\(k=2\/k=8->0<=lv/\lv<=999999999)/\(k=10->ks≠[]/\∀ r∈ks,r.kids.length=i.size/\∀ c∈r.kids,aj.GY c.nX)/\(∀ c∈a.cls,aT c=false)/\(k=13->aT i=false)/\k≠11/\k≠12/\(k≠10->au.uq ks)
def au.uq:List au->Prop
 | []=>True
 | x::l=>x.Ns/\au.uq l
end
theorem Kh:∀ (l:List au),(au.dP l).any fA=false->∀ b∈l,jc b.nX=false/\(au.dP b.kids).any fA=false:=by intro l h b hb;have h1:=(Kg l).1 h b hb;obtain ⟨k,lv,i,t,d,ti,a,li,ks⟩:=b;rw [au.bC,List.any_append,Bool.or_eq_false_iff] at h1;exact h1
mutual
theorem au.OI (cl:ByteArray->Bool):∀ (b:au) (par:Int) (dp:Nat),par≠10->par≠11->gV b.Xf par=true->b.err cl par dp=0->(b.bC).any fA=false->b.Ns
 | .mk k lv i t d ti a li ks,par,dp,hp0,hp1,hpl,h,hu=>by
  have hh:=au.Ke cl _ par dp h hu;obtain ⟨h2,hbf,h3⟩:=lq cl h;rw [au.hok] at hh;obtain ⟨g1,g2,g3,g4,g5,g6⟩:=hh;rw [au.bC,List.any_append,Bool.or_eq_false_iff] at hu;have hk:k≠11/\k≠12:=by
   have hpl':gV k par=true:=hpl;unfold gV at hpl';split at hpl'
   ·have:=of_decide_eq_true hpl';omega
   ·(try rw [if_neg hp0,if_neg hp1] at hpl')
    simp at hpl';omega
  rw [au.Ns];refine ⟨g1,g2,fun h10=>?_,g4,g5,hk.1,hk.2,fun h10=>au.oQ cl ks k (dp+1) h10 hk.1 h3 hu.2⟩;obtain ⟨q1,q2⟩:=g3 h10;refine ⟨q1,fun r hr=>⟨q2 r hr,fun c hc=>?_⟩⟩;have r1:=(xY cl k (dp+1) ks).1 h3 r hr;have r2:=Kh ks hu.2 r hr;obtain ⟨k',lv',i',t',d',ti',a',li',ks'⟩:=r;obtain ⟨-,-,s3⟩:=lq cl r1;have c1:=(xY cl k' (dp+1+1) ks').1 s3 c hc;have c2:=Kh ks' r2.2 c hc;obtain ⟨k9,lv9,i9,t9,d9,ti9,a9,li9,ks9⟩:=c;obtain ⟨u1,u2,-⟩:=lq cl c1;exact CZ li9 (OH cl u1 u2) c2.1
theorem au.oQ (cl:ByteArray->Bool):∀ (l:List au) (par:Int) (dp:Nat),par≠10->par≠11->au.aS cl par dp l=0->(au.dP l).any fA=false->au.uq l
 | [],_,_,_,_,_,_=>by rw [au.uq];trivial
 | x::l,par,dp,hp0,hp1,h,hu=>by
  have hpl:=(AZ cl (x::l) par dp h x (jj3 ..)).1;rw [au.aS] at h;rw [au.dP,List.any_append,Bool.or_eq_false_iff] at hu;rw [au.uq];split at h
  ·rename_i h1;exact absurd h h1
  ·rename_i h1
   exact ⟨au.OI cl x par dp hp0 hp1 hpl (Classical.not_not.1 h1) hu.1,au.oQ cl l par dp hp0 hp1 h hu.2⟩
end
def kU (more:ByteArray) (l:List ByteArray):ByteArray:=l.foldl (fun c x=>(if aT c=true then c else c++GR)++x) more
theorem OJ (a b c:ByteArray):a++b++c=a++(b++c):=by apply ByteArray.ext;simp [ByteArray.data_append,Array.append_assoc]
theorem Wu (a:ByteArray):(⟨#[]⟩:ByteArray)++a=a:=by apply ByteArray.ext;simp [ByteArray.data_append]
theorem Iq (m x:ByteArray) (l:List ByteArray):y9 ((m++GR++x)::l)=m++GR++y9 (x::l):=by
 cases l with
 | nil=>rfl
 | cons y l=>rw [y9,y9];simp only [OJ]
theorem tF:∀ (l:List ByteArray) (m:ByteArray),aT m=false->kU m l=y9 (m::l)
 | [],m,_=>rfl
 | x::l,m,h=>by
  unfold kU;rw [List.foldl_cons,if_neg (by rw [h];simp)];have h2:aT (m++GR++x)=false:=by rw [oO,oO,h];rfl
  have:=tF l (m++GR++x) h2;unfold kU at this;rw [this,Iq];rfl
theorem Ki:∀ (l:List ByteArray) (m:ByteArray),aT m=false->aT (y9 (m::l))=false
 | [],m,h=>h
 | x::l,m,h=>by rw [y9,oO,oO,h];rfl
theorem RX (l:List ByteArray) (h:∀ c∈l,aT c=false) (m:ByteArray):dF dh (kU m l)=EA ((if aT m=true then [] else [m])++l):=by
 by_cases hm:aT m=true
 ·rw [if_pos hm,List.nil_append,Fp hm];cases l with
  | nil=>rfl
  | cons x l=>
   have hx:=h x (jj3 ..);have e:kU ⟨#[]⟩ (x::l)=kU x l:=by unfold kU;rw [List.foldl_cons,if_pos (by decide),Wu]
   rw [e,tF l x hx];unfold dF EA;rw [if_neg (by rw [Ki l x hx];simp),if_neg (by simp)]
 ·have hm2:aT m=false:=by simpa using hm
  rw [if_neg hm,tF l m hm2];unfold dF EA;rw [if_neg (by rw [Ki l m hm2];simp),if_neg (by simp)];rfl
theorem Nb (a:At) (m:ByteArray) (h:∀ c∈a.cls,aT c=false):dF jQ a.id++dF dh (kU m a.cls)=q0z a (if aT m=true then [] else [m]):=by unfold q0z;rw [RX a.cls h m]
open Go.RowKit
theorem RY:(Tryz.prog.info? 51).map (fun i=>(i.zero,i.size,i.bytes))=some (some (.agg #[.int .i64 0,.string ByteArray.empty,.string ByteArray.empty,.string ByteArray.empty,.string ByteArray.empty,.slice none 0 0,.slice none 0 0,.slice none 0 0,.slice none 0 0,.slice none 0 0]),10,192):=by kernel_rfl
mutual
theorem Rd.tH {ok:Nat->Prop} {w:jk3}:∀ (d:D) (cs:List jk5),Rd ok w d cs->∀ u∈cs,u.oneCell'=true
 | .int _ _,_,h,u,hu=>by rw [h.rO] at hu;simp at hu;subst hu;rfl
 | .bool _,_,h,u,hu=>by rw [h.A8] at hu;simp at hu;subst hu;rfl
 | .str _,_,h,u,hu=>by rw [h.bJ] at hu;simp at hu;subst hu;rfl
 | .st fs,_,h,u,hu=>by
  obtain ⟨rows,hr,rfl⟩:=h.mq;exact aP.tH fs rows hr u hu
 | .sl k l,_,h,u,hu=>by
  obtain ⟨a,cap,rfl,_⟩:=h.aB;simp at hu;subst hu;rfl
theorem aP.tH {ok:Nat->Prop} {w:jk3}:∀ (l:List D) (rows:List (List jk5)),aP ok w l rows->∀ u∈rows.flatten,u.oneCell'=true
 | [],_,h,u,hu=>by rw [h.dX] at hu;simp at hu
 | d::ds,_,h,u,hu=>by
  obtain ⟨r,rs,rfl,h1,h2⟩:=h.aJ;rw [List.flatten_cons] at hu;rcases List.mem_append.1 hu with hu | hu
  ·exact Rd.tH d r h1 u hu
  ·exact aP.tH ds rs h2 u hu
end
structure Row (T:TypeId) (k B:Nat) (w0:jk3) (ds:List D) (rows:List (List jk5)) (v:jk5) (w:jk3):Prop where
 own:w.ownsRow w0.heap.size T k v ds.length rows.flatten
 red:aP (·<B) w ds rows
 len:∀ r∈rows,r.length=k
 aL:Below w0.heap.size w0 w
section
variable {T:TypeId} {k B:Nat} {w0 w w1 w2:jk3} {ds es:List D} {rows bq:List (List jk5)} {v v':jk5}
theorem Row.nil (T:TypeId) (k B:Nat) (w0:jk3):Row T k B w0 [] [] (.slice none 0 0) w0:=⟨⟨by simp,.inl ⟨rfl,rfl⟩⟩,aP.none,by simp,Below.refl _ _⟩
theorem Row.up (h:Row T k B w0 ds rows v w) (hB:B<=w.heap.size) (hb:Below w.heap.size w w1):Row T k B w0 ds rows v w1:=
 ⟨q22 h.own hb,aP.keep (fun b h1 h2=>⟨h1,hb.block b h2⟩) _ _ h.red,h.len,aM h.aL hb⟩
theorem Row.app (h:Row T k B w0 ds rows v w1) (hB:B<=w0.heap.size) (hes:aP (·<B) w1 es bq) (hl2:∀ r∈bq,r.length=k) (hown:w2.ownsRow w0.heap.size T k v' (ds.length+es.length) (rows.flatten++bq.flatten)) (hg:w1.grownBy w2 v.ownBlock):Row T k B w0 (ds++es) (rows++bq) v' w2:=by
 have hne:∀ b,b<w0.heap.size->some b≠v.ownBlock:=fun b hb e=>by have:=(h.own.lt b e.symm).1;omega
 have hst:wM (·<B) (·<B) w1 w2:=fun b h1 h2=>⟨h1,hg.block b h2 (hne b (by omega))⟩
 refine ⟨by rw [jh6,List.flatten_append];exact hown,aP.app (aP.keep hst _ _ h.red) (aP.keep hst _ _ hes),?_,?_⟩
 ·intro r hr;rcases List.mem_append.1 hr with hr | hr
  ·exact h.len r hr
  ·exact hl2 r hr
 ·have hb:=h.aL;exact ⟨hg.os.trans hb.os,hg.tape.trans hb.tape,hg.output.trans hb.output,Nat.le_trans hb.size hg.size,fun b hlt=>(hg.block b (Nat.lt_of_lt_of_le hlt hb.size) (hne b hlt)).trans (hb.block b hlt)⟩
end
mutual
theorem aj.RZ:∀ (x:aj),x.deep.length=x.sz
 | .mk _ _ _ _ _ _ _ ks=>by rw [aj.deep,aj.sz,List.length_cons,aj.om ks];omega
theorem aj.om:∀ (l:List aj),(aj.aU l).length=aj.aZ l
 | []=>by rw [aj.aU,aj.aZ];rfl
 | x::l=>by rw [aj.aU,aj.aZ,jh6,aj.RZ x,aj.om l]
end
theorem aj.Ir {l:List aj} {k:Nat} {x:aj} (hx:l[k]?=some x):aj.aU (l.take (k+1))=aj.aU (l.take k)++x.deep:=by rw [List.take_add_one,hx,aj.tC];simp [aj.aU]
theorem aj.Fv (l:List aj) (k:Nat):aj.aZ (l.take k)<=aj.aZ l:=by have:=aj.Df (l.take k) (l.drop k);rw [List.take_append_drop] at this;omega
def Uh (B:Nat) (w:jk3) (l:List aj) (v vi:jk5) (wr:jk3):Prop:=∃ (k:Nat) (rows:List (List jk5)),k<=l.length/\vi=.int .i64 k/\Row 51 10 B w ((aj.aU (l.take k)).map aj.d) rows v wr
theorem NG (n:Nat):∀ (l:List aj) (B:Nat) (v:jk5) (w:jk3),aj.aZ l<=n->n<=1000000->Rd (·<B) w (bC l) [v]->B<=w.heap.size -> Calls Tryz.prog 25 #[v] w fun e w'=>∃ v' rows,e=.returned v'/\Row 51 10 B w ((aj.aU l).map aj.d) rows v' w':=by
 induction n using Nat.strongRecOn with
 | _ n ih=>
  intro l B v w hn hnm hrd hB;obtain ⟨iI,hiI,Rk,Rl,Rm⟩:=info_parts RY;obtain ⟨a,cap,hv,hs⟩:=Rd.aB hrd;obtain rfl:v=.slice a l.length cap:=by simpa using hv
  have hcap:l.length<=cap:=by simpa using hs.le
  have hmx:=hs.max;unfold maxLen at hmx;have HS:=hid hs;have IH:=hid ih;have R0:Hid (Uh B w l (.slice none 0 0) (.int .i64 0) w):=⟨0,[],Nat.zero_le _,rfl,by rw [List.take_zero,aj.aU];exact Row.nil _ _ _ _⟩;clear hs hv hrd ih;go_enter Tryz.func25,Tryz.ntmps25;go_wp2
  go_loopw [3,4] (fun v vi wr=>Uh B w l v vi wr) (fun _ i _=>l.length-(intOf i).toNat)
  case atStart=>exact R0.out
  case round=>
   clear R0;obtain ⟨k,rows,hk,rfl,hrow⟩:=hrel;obtain ⟨av,cv,Wv⟩:=qV hrow.own;subst Wv;by_cases hlt:k<l.length
   ·obtain ⟨x,hx⟩:∃ x,l[k]?=some x:=⟨_,jh0 hlt⟩;obtain ⟨kd,t,d,ti,at_,ar,ci,ks⟩:=x;obtain ⟨g,off,vc,vp,va,vi,vk,rfl,hok,hbl,hc,hR⟩:=Jp HS.out hx;have hsz:=aj.bE l k _ hx;rw [aj.sz] at hsz;obtain ⟨aa,na,ca,rfl⟩:=Rd.DN hR.args;obtain ⟨ai,ni,gF,rfl⟩:=Rd.DN hR.bg;obtain ⟨ac,nc,cc,rfl⟩:=Rd.DN hR.at_.cls
    obtain ⟨ap,np,cp,rfl⟩:=Rd.DN hR.at_.aF
    obtain ⟨ak,nk,ck,rfl⟩:=Rd.DN hR.kids;have hgw:wr.heap[g]?=w.heap[g]?:=hrow.aL.block g (by omega);obtain ⟨p0,p1,p2,p3,p4,p5,p6,p7,p8,p9⟩:=hc.at2 (w':=wr) hgw;have hrx:=aj.fJ (ok:=(·<B)) (w:=w) kd t d ti hR;have Zx:((aj.aU (l.take k)).map aj.d).length<=1000000:=by rw [List.length_map,aj.om];have:=aj.Fv l k;omega
    have hsn:=aj.Fv l (k+1);rw [aj.rP hx,aj.sz] at hsn;have hlk:((aj.aU (l.take k)).map aj.d).length=aj.aZ (l.take k):=by rw [List.length_map,aj.om]
    obtain ⟨L,hL⟩:∃ L,L=((aj.aU (l.take k)).map aj.d).length:=⟨_,rfl⟩;obtain ⟨ds,hds⟩:∃ ds,ds=(aj.aU (l.take k)).map aj.d:=⟨_,rfl⟩;rw [<- hds] at hrow Zx hlk hL ⊢;rw [<- hL];rw [<- hL] at hrow;have ow0:=hrow.own;rw [<- hL] at ow0;have jc8:=hid ow0;clear ow0;have vG:=hid hds;have aV:=hid hrow;have HR:=hid hR;have HRX:=hid hrx;have HX:=hid hx;have HC:=hid hc;have hwz:=hrow.aL.size;have hLl:L<=1000000:=by omega
    have HL:=hid hL;clear hc hR hx hrx hds hrow hL;go_wp2_with (at_builtin;refine Qh _ rfl (.tmp 11) (.tmp 16) 22 rfl w.heap.size 51 iI _ 10 192 Tryz.underlying22 hiI Rk Rl Rm rfl (by decide) (.slice av L cv) L rows.flatten rfl (jc8.out.alloc _) (wr.heap.size+1) (some ⟨wr.heap.size,0,none⟩) 1 1 [.int .i64 kd,.string t,.string d,.string ti,.string at_.id,.slice ac nc cc,.slice ap np cp,.slice aa na ca,.slice ai ni gF,.slice ak nk ck] rfl ?g1 ?g2 ?g3 ?g4 ?g5 ?_)
    case g1=>exact ⟨rfl,fun _=>⟨_,rfl,by simp,GN wr [.int .i64 kd,.string t,.string d,.string ti,.string at_.id,.slice ac nc cc,.slice ap np cp,.slice aa na ca,.slice ai ni gF,.slice ak nk ck] _⟩⟩
    case g2=>exact Rd.tH _ _ HRX.out
    case g3=>unfold maxLen;omega
    case g4=>omega
    case g5=>simp;omega
    intro v1 w1 hown1 hg1 _;obtain ⟨a1,c1,rfl⟩:=qV hown1;have hua:Below wr.heap.size wr (wr.alloc (.cells #[.int .i64 kd,.string t,.string d,.string ti,.string at_.id,.slice ac nc cc,.slice ap np cp,.slice aa na ca,.slice ai ni gF,.slice ak nk ck] 51)):=(Below.refl _ _).alloc (Nat.le_refl _) _;have Ww:Row 51 10 B w (ds++[aj.d (.mk kd t d ti at_ ar ci ks)]) (rows++[[.int .i64 kd,.string t,.string d,.string ti,.string at_.id,.slice ac nc cc,.slice ap np cp,.slice aa na ca,.slice ai ni gF,.slice ak nk ck]]) (.slice a1 (L+1) c1) w1:=by
     refine (aV.out.up (by omega) hua).app hB (aP.one (Rd.keep (fun b h1 h2=>⟨h1,?_⟩) _ _ HRX.out)) (by simp) ?_ hg1
     ·exact (hua.block b (by omega)).trans (aV.out.aL.block b h2)
     ·rw [List.length_singleton,List.flatten_singleton,<- HL.out];exact hown1
    have hb1:=Ww.aL;have k9:w1.cell? ⟨g,off+k*10+9,none⟩=some (.slice ak nk ck):=(HC.out.at2 (w':=w1) (hb1.block g (by omega))).c9;have hz1:=hb1.size;have DC:=hid (IH.out (aj.aZ ks) (by omega) ks B (.slice ak nk ck) w1 (Nat.le_refl _) (by omega) (Rd.keep (fun b h1 h2=>⟨h1,hb1.block b h2⟩) _ _ HR.out.kids) (by omega));have Zy:=hid Ww;clear hown1 hg1 hua Ww hb1 aV p0 p1 p2 p3 p4 p5 p6 p7 p8 p9 hgw;go_wp2_with fail
    refine DC.out.mono ?_;rintro e w2 ⟨v2,bq,rfl,hrow2⟩;obtain ⟨a2,c2,rfl⟩:=qV hrow2.own;have hb2:=hrow2.aL;have hz2:=hb2.size;have Wx:=hid (Zy.out.up (by omega) hb2);have OM:=hid hrow2;have hks:((aj.aU ks).map aj.d).length=aj.aZ ks:=by rw [List.length_map,aj.om]
    have RD2:=hid (Reads.BG hrow2.own);have ON2:=hid (aP.tH _ _ hrow2.red);have hl1:(ds++[aj.d (.mk kd t d ti at_ ar ci ks)]).length=L+1:=by rw [jh6,List.length_singleton,<- HL.out]
    have OW2:=Wx.out.own;rw [hl1] at OW2;obtain ⟨F,hF⟩:∃ F:List jk5,F=(rows++[([.int .i64 kd,.string t,.string d,.string ti,.string at_.id,.slice ac nc cc,.slice ap np cp,.slice aa na ca,.slice ai ni gF,.slice ak nk ck]:List jk5)]).flatten:=⟨_,rfl⟩;rw [<- hF] at OW2;have HF:=hid hF;clear hF;obtain ⟨M,hM⟩:∃ M,M=((aj.aU ks).map aj.d).length:=⟨_,rfl⟩;rw [<- hM] at RD2 hks ⊢;have jc9:=hid OW2;have HM:=hid hM;have HL1:=hid hl1;have Tk:=hid hks;clear OW2 hM hl1 hrow2 hb2 DC Zy hks;go_wp2_with (at_builtin;refine Qh _ rfl (.tmp 18) (.tmp 24) 22 rfl w.heap.size 51 iI _ 10 192 Tryz.underlying22 hiI Rk Rl Rm rfl (by decide) (.slice a1 (L+1) c1) (L+1) F rfl jc9.out w2.heap.size a2 M c2 bq.flatten rfl RD2.out ON2.out ?k3 ?k4 ?k5 ?_)
    case k3=>have:=Tk.out;unfold maxLen;omega
    case k4=>have:=Tk.out;have:=HL.out;omega
    case k5=>omega
    intro v3 w3 hown3 hg3 _;obtain ⟨a3,c3,rfl⟩:=qV hown3;have jcj:=hid (Wx.out.app hB OM.out.red OM.out.len (by rw [HL1.out,<- HM.out,<- HF.out];exact hown3) hg3);clear hown3 hg3 Wx OM RD2 ON2;go_wp2;go_roundw;case rel=>
     refine ⟨k+1,rows++[[.int .i64 kd,.string t,.string d,.string ti,.string at_.id,.slice ac nc cc,.slice ap np cp,.slice aa na ca,.slice ai ni gF,.slice ak nk ck]]++bq,by omega,by go_num,?_⟩;have h3:=jcj.out;rw [vG.out] at h3;rw [aj.Ir HX.out,aj.deep,List.map_append,List.map_cons];simpa using h3
    case measure=>simp [intOf];omega
   ·have hkl:k=l.length:=by omega
    subst hkl;rw [List.take_length] at hrow ⊢;have aV:=hid hrow;clear hrow HS IH;go_wp2;go_ret;exact ⟨.slice av _ cv,rows,rfl,aV.out⟩
open Go.RowKit
open Go.RowKit
mutual
theorem au.OP:∀ (b:au),b.bC=b.inls
 | .mk k lv i t d ti a li ks=>by rw [au.bC,au.inls,au.oV ks]
theorem au.oV:∀ (l:List au),au.dP l=au.bD l
 | []=>by rw [au.dP,au.bD]
 | x::l=>by rw [au.dP,au.bD,au.OP x,au.oV l]
end
structure gP (ok:Nat->Prop) (w:jk3) (a:List Pr) (ks:List Nd) (va vk:jk5):Prop where
 at_:Rd ok w (cZ a) [va]
 ks:Rd ok w (bS ks) [vk]
theorem Nd.open_ {ok:Nat->Prop} {w:jk3} {n t:ByteArray} {a:List Pr} {ks:List Nd} {cs:List jk5} (h:Rd ok w (Nd.mk n t a ks).d cs) : ∃ va vk,cs=[.string n,.string t,va,vk]/\gP ok w a ks va vk:=by
 unfold Nd.d at h;rw [Nd.jN] at h;obtain ⟨_,g0,rfl⟩:=h.mq;obtain ⟨r0,rs,rfl,h0,g0⟩:=g0.aJ;obtain ⟨r1,rs,rfl,h1,g0⟩:=g0.aJ;obtain ⟨r2,rs,rfl,h2,g0⟩:=g0.aJ;obtain ⟨r3,rs,rfl,h3,g0⟩:=g0.aJ;obtain rfl:=g0.dX;obtain rfl:=h0.bJ;obtain rfl:=h1.bJ;obtain ⟨v2,rfl⟩:∃ v,r2=[v]:=by obtain ⟨a,c,e,-⟩:=h2.aB;exact ⟨_,e⟩
 obtain ⟨v3,rfl⟩:∃ v,r3=[v]:=by obtain ⟨a,c,e,-⟩:=h3.aB;exact ⟨_,e⟩
 exact ⟨v2,v3,rfl,h2,h3⟩
theorem Nd.fJ {ok:Nat->Prop} {w:jk3} (n t:ByteArray) {a:List Pr} {ks:List Nd} {va vk:jk5} (h:gP ok w a ks va vk):Rd ok w (Nd.mk n t a ks).d [.string n,.string t,va,vk]:=by unfold Nd.d;rw [Nd.jN];exact Rd.A9 (rows:=[[.string n],[.string t],[va],[vk]]) (aP.cons (Rd.eu _ _ _) (aP.cons (Rd.eu _ _ _) (aP.cons h.at_ (aP.cons h.ks aP.none))))
theorem nQ {ok:Nat->Prop} {w:jk3} {l:List Nd} {a:Option Addr} {cap:Nat} (h:qI ok w 4 (l.map Nd.d) a cap) {k:Nat} {n t:ByteArray} {at_:List Pr} {ks:List Nd} (hk:l[k]?=some (.mk n t at_ ks)) : ∃ b off va vk,a=some ⟨b,off,none⟩/\ok b/\b<w.heap.size/\w.cell? ⟨b,off+k*4,none⟩=some (.string n)/\w.cell? ⟨b,off+k*4+1,none⟩=some (.string t)/\w.cell? ⟨b,off+k*4+2,none⟩=some va/\w.cell? ⟨b,off+k*4+3,none⟩=some vk/\gP ok w at_ ks va vk:=by
 have hlt:k<l.length:=(List.getElem?_eq_some_iff.1 hk).1;obtain ⟨b,off,ha,hok,hb,hc⟩:=h.at_ (by simpa using Nat.lt_of_le_of_lt (Nat.zero_le _) hlt)
 obtain ⟨r,hr,hl,hcell⟩:=hc k _ (by rw [List.getElem?_map,hk];rfl);obtain ⟨va,vk,rfl,hR⟩:=Nd.open_ hr;exact ⟨b,off,va,vk,ha,hok,hb,hcell 0 _ rfl,hcell 1 _ rfl,hcell 2 _ rfl,hcell 3 _ rfl,hR⟩
theorem Nd.bE:∀ (l:List Nd) (k:Nat) (x:Nd),l[k]?=some x->x.sz<=Nd.aZ l
 | [],_,_,h=>by simp at h
 | y::l,0,x,h=>by simp at h;subst h;rw [Nd.aZ];omega
 | y::l,k+1,x,h=>by rw [Nd.aZ];have:=Nd.bE l k x (by simpa using h);omega
theorem gP.keep {ok ok':Nat->Prop} {w w':jk3} {a:List Pr} {ks:List Nd} {va vk:jk5} (h:gP ok w a ks va vk) (hs:wM ok ok' w w'):gP ok' w' a ks va vk:=⟨Rd.keep hs _ _ h.at_,Rd.keep hs _ _ h.ks⟩
theorem Ev {n t:ByteArray} {a1 a2:Option Addr} {n1 n2 c1 c2:Nat}:∀ u∈([.string n,.string t,.slice a1 n1 c1,.slice a2 n2 c2]:List jk5),u.oneCell'=true:=by intro u hu;simp at hu;rcases hu with rfl | rfl | rfl | rfl<;>rfl
theorem oN (l:List Nd) (rs:List (List jk5)) (ok:Nat->Prop) (w:jk3) (h:aP ok w (l.map Nd.d) rs):∀ u∈rs.flatten,u.oneCell'=true:=by
 intro u hu;obtain ⟨r,hr,hu⟩:=List.mem_flatten.1 hu;obtain ⟨j,hj,rfl⟩:=List.mem_iff_getElem.1 hr;have hj2:j<(l.map Nd.d).length:=by rw [<- h.len];exact hj
 obtain ⟨r',hr',hd⟩:=h.get j _ (jh0 hj2);rw [jh0 hj] at hr';obtain rfl:=Option.some.inj hr';rw [List.getElem_map] at hd;generalize l[j]'(by simpa using hj2)=x at hd;obtain ⟨n,t,a,ks⟩:=x;obtain ⟨va,vk,he,hR⟩:=Nd.open_ hd;obtain ⟨a1,n1,c1,rfl⟩:=Rd.ah hR.at_
 obtain ⟨a2,n2,c2,rfl⟩:=Rd.ah hR.ks;rw [he] at hu;exact Ev u hu
theorem kV (l:List Pr) (rs:List (List jk5)) (ok:Nat->Prop) (w:jk3) (h:aP ok w (l.map Pr.d) rs):∀ u∈rs.flatten,u.oneCell'=true:=by
 intro u hu;obtain ⟨r,hr,hu⟩:=List.mem_flatten.1 hu;obtain ⟨j,hj,rfl⟩:=List.mem_iff_getElem.1 hr;have hj2:j<(l.map Pr.d).length:=by rw [<- h.len];exact hj
 obtain ⟨r',hr',hd⟩:=h.get j _ (jh0 hj2);rw [jh0 hj] at hr';obtain rfl:=Option.some.inj hr';rw [List.getElem_map] at hd;rw [Pr.open_ hd] at hu;simp at hu;rcases hu with rfl | rfl<;>rfl
end Go.Proofs.YtclikfjalmcoaaaGreatDoor

