/- Plain part: the numbers of a document: sections, figures, tables, equations, notes. Plain part: nodes of markup, and the nodes of inlines and blocks, as the chapter says. Plain part: entries, and the list of entries, as the program and as the reference make it. Plain part: the entries of numbers. Plain part: blocks with their tables of contents filled. tree.Each: what the function that it returns does with a loop's body. Plain part: what a small document's parts are bounded by. Plain part: what the entries of a well-formed document have. Plain part: the lists of entries of a well-formed document have no error but for the depth. Words for nodes in memory. -/
import Derived.Test.YtkfnkeflalcphaaGreatDoorKRwC
import Derived.Test.YtkfnkeflalcphaaGreatDoorKSmall
import Derived.Test.YtkfnkeflalcphaaGreatDoorKPlParse
set_option maxHeartbeats 4000000
set_option maxRecDepth 100000
open Go.Lib (hid)
namespace Go.Proofs.YtkfnkeflalcphaaGreatDoor
open List renaming getElem?_eq_getElem->jj7
set_option linter.unusedVariables false
set_option linter.unusedSimpArgs false
def gu (n:Nat):ByteArray:=⟨(Lib.decDigits n).toArray⟩
def ah.mE:ah->List aj
 | .mk _ _ _ _ _ _ _ li _=>li
inductive Nd where
 | mk (nm tx:ByteArray) (at_:List Pr) (ks:List Nd)
def Nd.nm:Nd->ByteArray
 | .mk n _ _ _=>n
def Nd.tx:Nd->ByteArray
 | .mk _ t _ _=>t
def Nd.at_:Nd->List Pr
 | .mk _ _ a _=>a
def Nd.ks:Nd->List Nd
 | .mk _ _ _ k=>k
mutual
def Nd.d:Nd->D
 | .mk n t a ks=>.st [.str n,.str t,.sl 2 (a.map Pr.d),.sl 4 (Nd.dl ks)]
def Nd.dl:List Nd->List D
 | []=>[]
 | x::l=>x.d::Nd.dl l
end
theorem Nd.jo:∀ (l:List Nd),Nd.dl l=l.map Nd.d
 | []=>by unfold Nd.dl;rfl
 | x::l=>by rw [Nd.dl,Nd.jo l];rfl
def cZ (l:List Nd):D:=.sl 4 (l.map Nd.d)
mutual
def Nd.sz:Nd->Nat
 | .mk _ _ _ ks=>1+Nd.aV ks
def Nd.aV:List Nd->Nat
 | []=>0
 | x::l=>x.sz+Nd.aV l
end
def bsS (l:List UInt8):ByteArray:=⟨l.toArray⟩
def oh:ByteArray:=⟨#[105,100]⟩
def iw:ByteArray:=⟨#[99,108,97,115,115]⟩
def zu:ByteArray:=⟨#[109,97,116,104]⟩
def dM:ByteArray:=⟨#[116,105,116,108,101]⟩
def iA:ByteArray:=⟨#[104,114,101,102]⟩
def DZ:ByteArray:=⟨#[115,114,99]⟩
def D5:ByteArray:=⟨#[97,108,116]⟩
def mJ:ByteArray:=⟨#[110,111,116,101,114,101,102]⟩
def vC:ByteArray:=⟨#[35,110,111,116,101,45]⟩
def dJ:ByteArray:=⟨#[110,111,116,101,45]⟩
def gG:ByteArray:=⟨#[110,111,116,101]⟩
def oN:ByteArray:=⟨#[110,111,116,101,115]⟩
def DJ:ByteArray:=⟨#[108,97,110,103,117,97,103,101,45]⟩
def sStart:ByteArray:=⟨#[115,116,97,114,116]⟩
def yj:ByteArray:=⟨#[97,108,105,103,110]⟩
def nBr:ByteArray:=⟨#[98,114]⟩
def iR:ByteArray:=⟨#[99,111,100,101]⟩
def Iz:ByteArray:=⟨#[115,112,97,110]⟩
def nEm:ByteArray:=⟨#[101,109]⟩
def Iy:ByteArray:=⟨#[115,116,114,111,110,103]⟩
def nS:ByteArray:=⟨#[115]⟩
def nA:ByteArray:=⟨#[97]⟩
def YR:ByteArray:=⟨#[105,109,103]⟩
def nP:ByteArray:=⟨#[112]⟩
def nH:ByteArray:=⟨#[104]⟩
def JO:ByteArray:=⟨#[112,114,101]⟩
def pK:ByteArray:=⟨#[100,105,118]⟩
def nHr:ByteArray:=⟨#[104,114]⟩
def L8:ByteArray:=⟨#[98,108,111,99,107,113,117,111,116,101]⟩
def nUl:ByteArray:=⟨#[117,108]⟩
def Xp:ByteArray:=⟨#[111,108]⟩
def nLi:ByteArray:=⟨#[108,105]⟩
def vU:ByteArray:=⟨#[116,97,98,108,101]⟩
def iL:ByteArray:=⟨#[116,104,101,97,100]⟩
def vV:ByteArray:=⟨#[116,98,111,100,121]⟩
def xJ:ByteArray:=⟨#[116,114]⟩
def J9:ByteArray:=⟨#[116,104]⟩
def Ec:ByteArray:=⟨#[116,100]⟩
def eH:ByteArray:=⟨#[115,101,99,116,105,111,110]⟩
def iU:ByteArray:=⟨#[104,101,97,100]⟩
def jl:ByteArray:=⟨#[109,101,116,97]⟩
def fQ:ByteArray:=⟨#[116,105,116,108,101]⟩
def kN:ByteArray:=⟨#[104,116,109,108]⟩
def gH:ByteArray:=⟨#[98,111,100,121]⟩
def Cz:ByteArray:=⟨#[99,104,97,114,115,101,116]⟩
def gI:ByteArray:=⟨#[117,116,102,45,56]⟩
def iK:ByteArray:=⟨#[108,97,110,103]⟩
def ZG:ByteArray:=⟨#[108,101,102,116]⟩
def QV:ByteArray:=⟨#[99,101,110,116,101,114]⟩
def V6:ByteArray:=⟨#[114,105,103,104,116]⟩
def U6:ByteArray:=⟨#[32]⟩
def aQ (name:ByteArray) (a:List Pr) (ks:List Nd):Nd:=.mk name ⟨#[]⟩ a ks
def LX (s:ByteArray):Nd:=.mk ⟨#[]⟩ s [] []
def bT (s:ByteArray):List Nd:=if bg s=true then [] else [LX s]
def jG (k v:ByteArray):List Pr:=if bg v=true then [] else [⟨k,v⟩]
def eT:List ByteArray->ByteArray
 | []=>⟨#[]⟩
 | [x]=>x
 | x::y::l=>x++U6++eT (y::l)
def Qh (l:List ByteArray):List Pr:=if l.isEmpty=true then [] else [⟨iw,eT l⟩]
def lC (a:At) (more:List ByteArray):List Pr:=jG oh a.id++Qh (more++a.cls)
def zF (out:List Nd) (x:Nd):List Nd:=if bg x.nm=true then match out.getLast? with
  | some y=>if bg y.nm=true then out.dropLast++[.mk y.nm (y.tx++x.tx) y.at_ y.ks] else out++[x]
  | none=>out++[x]
 else out++[x]
def lI (l:List Nd):List Nd:=l.foldl zF []
def mK (l:List aj):ByteArray:=bsS (aj.aO l)
mutual
def aj.nd:aj->Nd
 | .mk k t d ti a ar ci ks=>
  if k=2 then LX U6
  else if k=3 then aQ nBr [] []
  else if k=4 then aQ iR [] (bT t)
  else if k=5 then aQ Iz [⟨iw,zu⟩] (bT t)
  else if k=6 then aQ nEm [] (lI (aj.Ir ks))
  else if k=7 then aQ Iy [] (lI (aj.Ir ks))
  else if k=8 then aQ nS [] (lI (aj.Ir ks))
  else if k=9 then aQ nA (⟨iA,d⟩::jG dM ti) (lI (aj.Ir ks))
  else if k=10 then aQ YR (⟨DZ,d⟩::⟨D5,mK ks⟩::jG dM ti++lC a []) []
  else if k=11 then aQ Iz (lC a []) (lI (aj.Ir ks))
  else if k=12 then aQ nA [⟨iA,vC++t⟩,⟨iw,mJ⟩] (bT t)
  else if k=16 then aQ nA [⟨iA,d⟩] (bT d)
  else LX t
def aj.Ir:List aj->List Nd
 | []=>[]
 | x::l=>x.nd::aj.Ir l
end
def jZ (l:List aj):List Nd:=lI (aj.Ir l)
theorem pU:∀ (l:List aj),aj.Ir l=l.map aj.nd
 | []=>by rw [aj.Ir];rfl
 | x::l=>by rw [aj.Ir,pU l];rfl
def fO (c:UInt8):ByteArray:=if c=108 then ZG else if c=99 then QV else if c=114 then V6 else ⟨#[]⟩
def SV (name:ByteArray) (c:UInt8) (b:ah):Nd:=aQ name (jG yj (fO c)) (jZ b.mE)
def ah.kids:ah->List ah
 | .mk _ _ _ _ _ _ _ _ ks=>ks
def oL (name:ByteArray):List UInt8->List ah->List Nd
 | c::cs,b::l=>SV name c b::oL name cs l
 | _,_=>[]
def pY (name i:ByteArray) (b:ah):Nd:=aQ xJ [] (oL name i.data.toList b.kids)
def eP (i:ByteArray):List ah->Nd
 | []=>aQ vU [] [aQ iL [] []]
 | h::rows=>aQ vU [] (aQ iL [] [pY J9 i h]::if rows.isEmpty=true then [] else [aQ vV [] (rows.map (pY Ec i))])
mutual
def ah.xE:ah->List Nd
 | .mk k lv i t d ti a li ks=>
  if k=1 then [aQ nP [] (jZ li)]
  else if k=2 then [aQ (nH++gu lv.toNat) (lC a []) (jZ li)]
  else if k=3 then [aQ JO [] [aQ iR (jG iw (if bg i=true then ⟨#[]⟩ else DJ++i)) (bT t)]]
  else if k=4 then [aQ pK (lC a [zu]) (bT t)]
  else if k=5 then [aQ nHr [] []]
  else if k=6 then [aQ L8 [] (ah.aX ks)]
  else if k=7 then [aQ nUl [] (ah.aX ks)]
  else if k=8 then [aQ Xp (if lv=1 then [] else [⟨sStart,gu lv.toNat⟩]) (ah.aX ks)]
  else if k=9 then [aQ nLi [] (ah.aX ks)]
  else if k=10 then [eP i ks]
  else if k=13 then [aQ pK (lC a [i]) (ah.aX ks)]
  else []
def ah.aX:List ah->List Nd
 | []=>[]
 | x::l=>x.xE++ah.aX l
end
theorem ze:∀ (l:List ah) (k:Nat) (x:ah),l[k]?=some x->ah.aX (l.take (k+1))=ah.aX (l.take k)++x.xE
 | [],_,_,h=>by simp at h
 | y::l,0,x,h=>by
  simp at h;subst h;simp [ah.aX]
 | y::l,k+1,x,h=>by
  rw [List.take_succ_cons,List.take_succ_cons,ah.aX,ah.aX,ze l k x (by simpa using h),List.append_assoc]
def iQ (x:aj):Bool:=match x with
 | .mk k t _ _ _ _ _ _=>decide (k=15)||decide (k=13)||decide (k=14)||((decide (k=9)||decide (k=10))&&!bg t)
def Nk (l:List aj):Bool:=(aj.bI l).any iQ
def iT (b:ah):List Nd:=match b with
 | .mk k _ i _ _ _ _ _ ks=>if k=14 then [aQ pK [⟨oh,dJ++i⟩,⟨iw,gG⟩] (ah.aX ks)] else []
def mQ (l:List ah):List Nd:=(ah.aW l).flatMap iT
def eG (l:List ah):List Nd:=ah.aX l++if (mQ l).isEmpty=true then [] else [aQ eH [⟨iw,oN⟩] (mQ l)]
def eU (title lang:ByteArray) (body:List Nd):Nd:=
 aQ kN [⟨iK,lang⟩] [aQ iU [] [aQ jl [⟨Cz,gI⟩] [],aQ fQ [] (bT title)],aQ gH [] body]
def dV (p:List Nd × ByteArray) (x:Nd):List Nd × ByteArray:=if bg x.nm=true then (p.1,p.2++x.tx) else (p.1++bT p.2++[x],⟨#[]⟩)
def gF (l:List Nd):List Nd × ByteArray:=l.foldl dV ([],⟨#[]⟩)
def Nl (l:List Nd):Prop:=∀ y,l.getLast?=some y->bg y.nm=false
def Nd.full (x:Nd):Prop:=bg x.nm=true->x=LX x.tx/\bg x.tx=false
theorem Nn {s:ByteArray} (h:bg s=true):s=⟨#[]⟩:=by unfold bg at h;have:=of_decide_eq_true h;exact ByteArray.ext (Array.toList_inj.1 (by simpa using this))
theorem Ig (a b:ByteArray):bg (a++b)=(bg a&&bg b):=by unfold bg;rw [show (a++b).data.toList=a.data.toList++b.data.toList by simp [ByteArray.data_append]];simp [Bool.decide_and]
theorem vX:∀ (l:List Nd) (out:List Nd) (acc:ByteArray),(∀ x∈l,x.full)->Nl out->Nl (l.foldl dV (out,acc)).1/\l.foldl zF (out++bT acc)=(l.foldl dV (out,acc)).1++bT (l.foldl dV (out,acc)).2
 | [],out,acc,_,ho=>⟨ho,rfl⟩
 | x::l,out,acc,h,ho=>by
  have hl:=fun y hy=>h y (List.mem_cons_of_mem _ hy)
  have hx:=h x (List.mem_cons_self ..);rw [List.foldl_cons,List.foldl_cons];by_cases hn:bg x.nm=true
  ·obtain ⟨e1,e2⟩:=hx hn;have e3:dV (out,acc) x=(out,acc++x.tx):=by unfold dV;rw [if_pos hn]
   have e4:zF (out++bT acc) x=out++bT (acc++x.tx):=by
    unfold zF;rw [if_pos hn];have e5:bg (acc++x.tx)=false:=by rw [Ig,e2,Bool.and_false]
    have e6:bT (acc++x.tx)=[LX (acc++x.tx)]:=by unfold bT;rw [if_neg (by rw [e5];simp)]
    rw [e6];by_cases ha:bg acc=true
    ·have e7:bT acc=[]:=by unfold bT;rw [if_pos ha]
     rw [e7,List.append_nil];have e8:acc++x.tx=x.tx:=by rw [Nn ha];apply ByteArray.ext;simp [ByteArray.data_append]
     rw [e8];cases hg:out.getLast? with
     | none=>simp only;rw [e1];rfl
     | some y=>simp only;rw [if_neg (by rw [ho y hg];simp),e1];rfl
    ·have e7:bT acc=[LX acc]:=by unfold bT;rw [if_neg ha]
     rw [e7,List.getLast?_append];simp only [List.getLast?_singleton,Option.some_or];have e9:bg (LX acc).nm=true:=rfl;rw [if_pos e9,List.dropLast_concat];rfl
   rw [e3,e4];exact vX l out _ hl ho
  ·have e3:dV (out,acc) x=(out++bT acc++[x],⟨#[]⟩):=by unfold dV;rw [if_neg hn]
   have e4:zF (out++bT acc) x=(out++bT acc++[x])++bT ⟨#[]⟩:=by unfold zF;rw [if_neg hn];have:bT ⟨#[]⟩=[]:=rfl;rw [this,List.append_nil]
   rw [e3,e4];refine vX l _ _ hl ?_;intro y hy;rw [List.getLast?_append] at hy;simp at hy;subst hy;simpa using hn
theorem Kc (l:List Nd) (h:∀ x∈l,x.full):lI l=(gF l).1++bT (gF l).2:=
 (vX l [] ⟨#[]⟩ h (fun y hy=>by simp at hy)).2
theorem F4 (l:List Nd) (x:Nd):gF (l++[x])=dV (gF l) x:=by unfold gF;rw [List.foldl_append];rfl
open Go.RowKit Go.Shelf
attribute [local go_sem] Oper.semAt_some
theorem Ke (W:World):W.grownBy W.drew none:=⟨rfl,rfl,rfl,Nat.le_refl _,fun _ _ _=>rfl⟩
theorem Np (n l Bl B0:Nat) (P:ah->Prop) (bs:List ah) (v:Value) (w0:World) (Kp:World->World->Prop) (hK:MQ B0 Kp) (J Jx:List (BW B0 w0 P)->World->Prop) (W:World) (hJ:AbidesFrom W.heap.size J) (hY:∀ (m:Nat) (pre:List (BW B0 w0 P)) (x:BW B0 w0 P) (W1:World),J pre W1->pre.length<(ah.aW bs).length->YieldAt Fence.wide m Tryz.prog l #[x.1.enc] W1 fun e W'=> (e=.returned (.bool true)/\J (pre++[x]) W'/\Kp W1 W')\/(e=.returned (.bool false)/\Jx (pre++[x]) W')) (hPb:∀ b∈ah.aW bs,P b) (hrd:Rd (·<B0) w0 (iO bs) [v]) (hbel:Below B0 w0 W) (hB0:B0<=W.heap.size) (hBl:aH Bl v 22 W) (h0:J [] W) : CallsIn Fence.wide n Tryz.prog 87 #[.func (.yield l) #[] #[],.pointer (some ⟨Bl,0,none⟩)] W fun e W'=>(∃ v,e=.returned v) /\ ((∃ xs,tV xs=ah.aW bs/\J xs W')\/(∃ pre,tV pre <+: ah.aW bs/\Jx pre W')):=by
 obtain ⟨va,vn,vc,rfl⟩:=Rd.ay hrd;have hdd:∀ k:Nat,(Fence.wide.depth.isSome=true->1<=k):=fun k h=>by cases h
 have HC:Hid (∀ (m:Nat) (w2:World),Below B0 w0 w2->EB l W.heap.size (W.heap.size+1) w2->J [] w2->_):=fun m w2 h1 h2 h3=>
  Kg l B0 W.heap.size (W.heap.size+1) (ah.aW bs).length P w0 Kp hK J Jx (fun pre W1 h=>hJ pre W1 W1.drew none h (Ke W1) (fun r e=>by cases e)) hY (ah.aV bs) m bs (.slice va vn vc) [] w2 (Nat.le_refl _) hPb hrd h1 h2 h3 (by simp)
 have HJ:=hid hJ;have HB:=hid hBl;have dB:=hid hbel;have H0:=hid h0;obtain ⟨p,hp⟩:∃ p,p=W.heap.size:=⟨_,rfl⟩;rw [<- hp] at HC;clear hK hY hrd hbel hBl h0 hJ;refine callsIn_of_wp Tryz.func87 rfl trivial ?_ rfl;simp only [Tryz.ntmps87,List.size_toArray,List.length_cons,List.length_nil,Nat.reduceAdd,Nat.reduceSub,Array.replicate_succ,Array.replicate_zero,List.push_toArray,List.append_toArray,List.nil_append,List.cons_append]
 gi_upto_region 2 with (fail)
 obtain ⟨wA,iF⟩:∃ wA,wA=(W.alloc (.cells #[.func (.yield l) #[] #[]] 98)).alloc (.cells #[.nilFunc] 33):=⟨_,rfl⟩;have b0:aH p (.func (.yield l) #[] #[]) 98 wA:=by rw [iF,hp];exact (aH.new W _ _).alloc _
 have b1:aH (p+1) .nilFunc 33 wA:=by
  rw [iF,hp];have:=aH.new (W.alloc (.cells #[.func (.yield l) #[] #[]] 98)) .nilFunc 33
  rwa [World.size_alloc] at this
 have gA:Below p W wA:=by rw [iF,hp];exact ((Below.refl _ _).alloc (Nat.le_refl _) _).alloc (by simp) _
 rw [<- iF,<- hp];rw [<- hp] at hB0;have HP:=hid hp;clear iF hp;have c1:=b1.cell;have f1:=b1.free
 gi_upto_region 3 with (fail)
 obtain ⟨wB,D7⟩:∃ wB,wB=wA.setCell ⟨p+1,0,none⟩ (zG p (p+1)):=⟨_,rfl⟩;have d0:aH p (.func (.yield l) #[] #[]) 98 wB:=by rw [D7];exact b0.far (by omega) _
 have d1:aH (p+1) (zG p (p+1)) 33 wB:=by rw [D7];exact b1.set _
 have gB:Below p W wB:=by rw [D7];exact gA.setCell (p:=⟨p+1,0,none⟩) (by show p<=p+1;omega) _
 have cl:wB.cell? ⟨Bl,0,none⟩=some (.slice va vn vc):=(HB.out.below (by have:=HB.out.lt;rw [HP.out];exact this) gB).cell;have c2:=d1.cell;have HD:=hid (HC.out (n-1) wB (dB.out.trans (gB.mono hB0)) ⟨d0,d1⟩ (HJ.out [] W wB none H0.out ⟨gB.os,gB.tape,gB.output,gB.size,fun k hk _=>gB.block k (by rw [HP.out];exact hk)⟩ (fun r e=>by cases e)));unfold zG at D7 c2;rw [<- D7];clear D7 b0 b1 gA c1 f1 d0 d1 gB
 gi_wp2_with (first
  | (refine ⟨trivial,hdd _,?_⟩;refine HD.out.mono ?_;clear HD;rintro e W1 (⟨rfl,q,hq,QW,hb1,hE1⟩ | ⟨rfl,q,hq,hx1⟩))
  | (refine HD.out.mono ?_;clear HD;rintro e W1 (⟨rfl,q,hq,QW,hb1,hE1⟩ | ⟨rfl,q,hq,hx1⟩)))
 ·go_end0
  exact ⟨⟨_,rfl⟩,.inl ⟨q,hq,by simpa using QW⟩⟩
 ·go_end0
  exact ⟨⟨_,rfl⟩,.inr ⟨q,hq,by simpa using hx1⟩⟩
theorem Gg (n Bl B0:Nat) (P:ah->Prop) (bs:List ah) (v:Value) (w0 w:World) (Kp:World->World->Prop) (hK:MQ B0 Kp) (hPb:∀ b∈ah.aW bs,P b) (hrd:Rd (·<B0) w0 (iO bs) [v]) (hbel:Below B0 w0 w) (hB0:B0<=w.heap.size) (hBl:aH Bl v 22 w) : SeqStopsK Fence.wide n Tryz.prog 87 #[.pointer (some ⟨Bl,0,none⟩)] (fun x:BW B0 w0 P=>#[x.1.enc]) Kp (fun xs=>tV xs=ah.aW bs) (fun pre=>tV pre <+: ah.aW bs) (ah.aW bs).length w:=fun l J Jx W hW hJ hJx hY h0=>
 Np n l Bl B0 P bs v w0 Kp hK J Jx W hJ (fun m pre x W1 hj hl=>Nq rfl m (hY pre x W1 hj hl)) hPb hrd (hbel.trans (hW.mono hB0)) (Nat.le_trans hB0 hW.size) (hBl.below hBl.lt hW) h0
theorem MV (va:Option Addr) (vn vc:Nat) (w:World):Calls Tryz.prog 42 #[.slice va vn vc] w fun e w'=>e=.returned (.func (.func 87) #[] #[.pointer (some ⟨w.heap.size,0,none⟩)])/\w'=w.alloc (.cells #[.slice va vn vc] 22):=by go_enter Tryz.func42,Tryz.ntmps42;go_wp2;go_ret;exact ⟨rfl,rfl⟩
mutual
theorem aj.Nr:∀ (x:aj),x.small->x.plain.length<=300*x.sz
 | .mk k t d ti a ar ci ks,h=>by
  unfold aj.small at h;obtain ⟨h1,h2,h3,h4,h5,h6,h7,h8,h9⟩:=h;have hk:=aj.qO ks h9;have e1:t.data.toList.length=t.size:=by rw [Array.length_toList];rfl
  have e2:d.data.toList.length=d.size:=by rw [Array.length_toList];rfl
  rw [aj.plain,aj.sz];split
  ·omega
  ·split
   ·simp;omega
   ·split
    ·omega
    ·split
     ·omega
     ·simp
theorem aj.qO:∀ (l:List aj),aj.aG l->(aj.aO l).length<=300*aj.aV l
 | [],_=>by rw [aj.aO];simp
 | x::l,h=>by
  unfold aj.aG at h;rw [aj.aO,aj.aV,List.length_append];have:=aj.Nr x h.1;have:=aj.qO l h.2;omega
end
mutual
theorem aj.Ns:∀ (x:aj),x.small->x.bd
 | .mk k t d ti a ar ci ks,h=>by
  unfold aj.small at h;obtain ⟨h1,h2,h3,h4,h5,h6,h7,h8,h9⟩:=h;unfold At.short at h4;have hk:=aj.lJ ks h9;unfold aj.bd;exact ⟨by omega,by omega,by omega,by omega,hk⟩
theorem aj.lJ:∀ (l:List aj),aj.aG l->aj.kV l
 | [],_=>by unfold aj.kV;trivial
 | x::l,h=>by
  unfold aj.aG at h;unfold aj.kV;exact ⟨aj.Ns x h.1,aj.lJ l h.2⟩
end
mutual
theorem ah.Ns:∀ (x:ah),x.small->x.bd
 | .mk k lv i t d ti a li ks,h=>by
  unfold ah.small at h;obtain ⟨h1,h2,h3,h4,h5,h6,h7,h8⟩:=h;unfold At.short at h5;have hk:=ah.lJ ks h8;unfold ah.bd;exact ⟨by omega,by omega,aj.lJ li h6,by omega,hk⟩
theorem ah.lJ:∀ (l:List ah),ah.aG l->ah.kV l
 | [],_=>by unfold ah.kV;trivial
 | x::l,h=>by
  unfold ah.aG at h;unfold ah.kV;exact ⟨ah.Ns x h.1,ah.lJ l h.2⟩
end
mutual
theorem ah.V7:∀ (x:ah),x.sz+x.inls.length=x.all
 | .mk k lv i t d ti a li ks=>by
  have:=ah.Bn ks;have h2:=aj.je li;rw [ah.sz,ah.inls,ah.all,List.length_append,h2];omega
theorem ah.Bn:∀ (l:List ah),ah.aV l+(ah.aU l).length=ah.bV l
 | []=>by rw [ah.aV,ah.aU,ah.bV];rfl
 | x::l=>by
  have:=ah.V7 x;have:=ah.Bn l;rw [ah.aV,ah.aU,ah.bV,List.length_append];omega
end
mutual
theorem ah.Gn:∀ (x:ah),x.small->∀ b∈x.each,b.small
 | .mk k lv i t d ti a li ks,h,b,hb=>by
  rw [ah.each] at hb;rcases List.mem_cons.1 hb with rfl | hb
  ·exact h
  ·unfold ah.small at h;exact ah.jM ks h.2.2.2.2.2.2.2 b hb
theorem ah.jM:∀ (l:List ah),ah.aG l->∀ b∈ah.aW l,b.small
 | [],_,b,hb=>by rw [ah.aW] at hb;simp at hb
 | x::l,h,b,hb=>by
  unfold ah.aG at h;rw [ah.aW] at hb;rcases List.mem_append.1 hb with hb | hb
  ·exact ah.Gn x h.1 b hb
  ·exact ah.jM l h.2 b hb
end
section
variable {P:Int->ByteArray->Prop}
end
mutual
def aj.ok:aj->Prop
 | .mk k t d ti a ar ci ks=>sZ 0 false false k t d ti a ar ci ks=0/\k≠2/\k≠3/\aj.okL 0 ks
def aj.okL (b:Int):List aj->Prop
 | []=>True
 | x::l=>x.ok/\¬ (b=x.kd/\(b=1\/b=4))/\aj.okL x.kd l
end
mutual
def aj.src:aj->Prop
 | .mk k t d ti a ar ci ks=>sZ 0 false false k t d ti a ar ci ks=0/\aj.Gp ks
def aj.Gp:List aj->Prop
 | []=>True
 | x::l=>x.src/\aj.Gp l
end
theorem QX {before k:Int} {first last:Bool} {t d ti:ByteArray} {a:At} {ar:List ByteArray} {ci:List Ci} {ks:List aj} (h:sZ before first last k t d ti a ar ci ks=0) : sZ 0 false false k t d ti a ar ci ks=0:=by
 unfold sZ at h ⊢;by_cases h0:E9 k t d ti a ar ci ks=false
 ·rw [if_pos h0] at h;cases h
 rw [if_neg h0] at h ⊢;by_cases h1:k=1\/k=4\/k=5
 ·rw [if_pos h1] at h ⊢;by_cases h4:bg t=true\/iE t=false
  ·rw [if_pos h4] at h;cases h
  ·rw [if_neg h4,if_neg (by omega)]
 rw [if_neg h1] at h ⊢;by_cases h2:k=2
 ·rw [if_pos h2,if_neg (by simp)]
 rw [if_neg h2] at h ⊢;by_cases h3:k=3
 ·rw [if_pos h3,if_neg (by simp)]
 rw [if_neg h3] at h ⊢;exact h
mutual
theorem aj.QY:∀ (x:aj) (before:Int) (first last:Bool) (dp:Nat),x.err before first last dp=0->x.src
 | .mk k t d ti a ar ci ks,before,first,last,dp,h=>by
  rw [aj.err] at h;rw [aj.src];by_cases h1:sZ before first last k t d ti a ar ci ks=0
  ·rw [if_neg (by simp [h1])] at h;exact ⟨QX h1,aj.vY ks _ _ _ h⟩
  ·rw [if_pos h1] at h;exact absurd h h1
theorem aj.vY:∀ (l:List aj) (before:Int) (st:Bool) (dp:Nat),aj.aT before st dp l=0->aj.Gp l
 | [],_,_,_,_=>by rw [aj.Gp];trivial
 | x::l,before,st,dp,h=>by
  rw [aj.aT] at h;rw [aj.Gp];split at h
  ·cases h
  ·split at h
   ·rename_i h2;exact absurd h h2
   ·rename_i h2
    exact ⟨aj.QY x _ _ _ dp (Classical.not_not.1 h2),aj.vY l _ _ dp h⟩
end
structure kU (ok:Nat->Prop) (w:World) (a:List Pr) (ks:List Nd) (va vk:Value):Prop where
 at_:Rd ok w (bS a) [va]
 ks:Rd ok w (cZ ks) [vk]
theorem Nd.open_ {ok:Nat->Prop} {w:World} {n t:ByteArray} {a:List Pr} {ks:List Nd} {cs:List Value} (h:Rd ok w (Nd.mk n t a ks).d cs) : ∃ va vk,cs=[.string n,.string t,va,vk]/\kU ok w a ks va vk:=by
 unfold Nd.d at h;rw [Nd.jo] at h;obtain ⟨_,g0,rfl⟩:=h.jL;obtain ⟨r0,rs,rfl,h0,g0⟩:=g0.aD;obtain ⟨r1,rs,rfl,h1,g0⟩:=g0.aD;obtain ⟨r2,rs,rfl,h2,g0⟩:=g0.aD;obtain ⟨r3,rs,rfl,h3,g0⟩:=g0.aD;obtain rfl:=g0.bZ;obtain rfl:=h0.bG;obtain rfl:=h1.bG;obtain ⟨v2,rfl⟩:∃ v,r2=[v]:=by obtain ⟨a,c,e,-⟩:=h2.aB;exact ⟨_,e⟩
 obtain ⟨v3,rfl⟩:∃ v,r3=[v]:=by obtain ⟨a,c,e,-⟩:=h3.aB;exact ⟨_,e⟩
 exact ⟨v2,v3,rfl,h2,h3⟩
theorem Nd.eu {ok:Nat->Prop} {w:World} (n t:ByteArray) {a:List Pr} {ks:List Nd} {va vk:Value} (h:kU ok w a ks va vk):Rd ok w (Nd.mk n t a ks).d [.string n,.string t,va,vk]:=by unfold Nd.d;rw [Nd.jo];exact Rd.sF (rows:=[[.string n],[.string t],[va],[vk]]) (aI.cons (Rd.dP _ _ _) (aI.cons (Rd.dP _ _ _) (aI.cons h.at_ (aI.cons h.ks aI.none))))
theorem FW {ok:Nat->Prop} {w:World} {l:List Nd} {a:Option Addr} {cap:Nat} (h:l7 ok w 4 (l.map Nd.d) a cap) {k:Nat} {n t:ByteArray} {at_:List Pr} {ks:List Nd} (hk:l[k]?=some (.mk n t at_ ks)) : ∃ b off va vk,a=some ⟨b,off,none⟩/\ok b/\b<w.heap.size/\w.cell? ⟨b,off+k*4,none⟩=some (.string n)/\w.cell? ⟨b,off+k*4+1,none⟩=some (.string t)/\w.cell? ⟨b,off+k*4+2,none⟩=some va/\w.cell? ⟨b,off+k*4+3,none⟩=some vk/\kU ok w at_ ks va vk:=by
 have hlt:k<l.length:=(List.getElem?_eq_some_iff.1 hk).1;obtain ⟨b,off,ha,hok,hb,hc⟩:=h.at_ (by simpa using Nat.lt_of_le_of_lt (Nat.zero_le _) hlt)
 obtain ⟨r,hr,hl,hcell⟩:=hc k _ (by rw [List.getElem?_map,hk];rfl);obtain ⟨va,vk,rfl,hR⟩:=Nd.open_ hr;exact ⟨b,off,va,vk,ha,hok,hb,hcell 0 _ rfl,hcell 1 _ rfl,hcell 2 _ rfl,hcell 3 _ rfl,hR⟩
theorem Nd.bq:∀ (l:List Nd) (k:Nat) (x:Nd),l[k]?=some x->x.sz<=Nd.aV l
 | [],_,_,h=>by simp at h
 | y::l,0,x,h=>by simp at h;subst h;rw [Nd.aV];omega
 | y::l,k+1,x,h=>by rw [Nd.aV];have:=Nd.bq l k x (by simpa using h);omega
theorem kU.keep {ok ok':Nat->Prop} {w w':World} {a:List Pr} {ks:List Nd} {va vk:Value} (h:kU ok w a ks va vk) (hs:zm ok ok' w w'):kU ok' w' a ks va vk:=⟨Rd.keep hs _ _ h.at_,Rd.keep hs _ _ h.ks⟩
theorem jJ {n t:ByteArray} {a1 a2:Option Addr} {n1 n2 c1 c2:Nat}:∀ u∈([.string n,.string t,.slice a1 n1 c1,.slice a2 n2 c2]:List Value),u.oneCell'=true:=by intro u hu;simp at hu;rcases hu with rfl | rfl | rfl | rfl<;>rfl
theorem Io (l:List Nd) (rs:List (List Value)) (ok:Nat->Prop) (w:World) (h:aI ok w (l.map Nd.d) rs):∀ u∈rs.flatten,u.oneCell'=true:=by
 intro u hu;obtain ⟨r,hr,hu⟩:=List.mem_flatten.1 hu;obtain ⟨j,hj,rfl⟩:=List.mem_iff_getElem.1 hr;have hj2:j<(l.map Nd.d).length:=by rw [<- h.len];exact hj
 obtain ⟨r',hr',hd⟩:=h.get j _ (jj7 hj2);rw [jj7 hj] at hr';obtain rfl:=Option.some.inj hr';rw [List.getElem_map] at hd;generalize l[j]'(by simpa using hj2)=x at hd;obtain ⟨n,t,a,ks⟩:=x;obtain ⟨va,vk,he,hR⟩:=Nd.open_ hd;obtain ⟨a1,n1,c1,rfl⟩:=Rd.ay hR.at_
 obtain ⟨a2,n2,c2,rfl⟩:=Rd.ay hR.ks;rw [he] at hu;exact jJ u hu
theorem ME (l:List Pr) (rs:List (List Value)) (ok:Nat->Prop) (w:World) (h:aI ok w (l.map Pr.d) rs):∀ u∈rs.flatten,u.oneCell'=true:=by
 intro u hu;obtain ⟨r,hr,hu⟩:=List.mem_flatten.1 hu;obtain ⟨j,hj,rfl⟩:=List.mem_iff_getElem.1 hr;have hj2:j<(l.map Pr.d).length:=by rw [<- h.len];exact hj
 obtain ⟨r',hr',hd⟩:=h.get j _ (jj7 hj2);rw [jj7 hj] at hr';obtain rfl:=Option.some.inj hr';rw [List.getElem_map] at hd;rw [Pr.open_ hd] at hu;simp at hu;rcases hu with rfl | rfl<;>rfl
end Go.Proofs.YtkfnkeflalcphaaGreatDoor

