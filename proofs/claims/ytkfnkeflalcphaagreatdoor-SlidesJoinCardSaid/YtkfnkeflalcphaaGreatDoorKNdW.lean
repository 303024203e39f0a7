/- Plain part: the numbers of a document: sections, figures, tables, equations, notes. Plain part: nodes of markup, and the nodes of inlines and blocks, as the chapter says. Plain part: entries, and the list of entries, as the program and as the reference make it. Plain part: the entries of numbers. Plain part: blocks with their tables of contents filled. tree.Each: what the function that it returns does with a loop's body. Plain part: what a small document's parts are bounded by. Plain part: what the entries of a well-formed document have. Plain part: the lists of entries of a well-formed document have no error but for the depth. Words for nodes in memory. -/
import Derived.Test.YtkfnkeflalcphaaGreatDoorKRwC
import Derived.Test.YtkfnkeflalcphaaGreatDoorKRfD
set_option maxHeartbeats 4000000
set_option maxRecDepth 100000
open Go.Lib (hid)
namespace Go.Proofs.YtkfnkeflalcphaaGreatDoor
open List renaming getElem?_eq_getElem->jlz
set_option linter.unusedVariables false
set_option linter.unusedSimpArgs false
def gD (n:Nat):ByteArray:=⟨(Lib.decDigits n).toArray⟩
def ah.mI:ah->List aj
 | .mk _ _ _ _ _ _ _ li _=>li
inductive Nd where
 | mk (nm tx:ByteArray) (at_:List Pr) (ks:List Nd)
def Nd.nm:Nd->ByteArray
 | .mk n _ _ _=>n
def Nd.tx:Nd->ByteArray
 | .mk _ t _ _=>t
def Nd.at_:Nd->List Pr
 | .mk _ _ a _=>a
def Nd.ks:Nd->List Nd
 | .mk _ _ _ k=>k
mutual
def Nd.d:Nd->D
 | .mk n t a ks=>.st [.str n,.str t,.sl 2 (a.map Pr.d),.sl 4 (Nd.dl ks)]
def Nd.dl:List Nd->List D
 | []=>[]
 | x::l=>x.d::Nd.dl l
end
theorem Nd.gL:∀ (l:List Nd),Nd.dl l=l.map Nd.d
 | []=>by unfold Nd.dl;rfl
 | x::l=>by rw [Nd.dl,Nd.gL l];rfl
def cO (l:List Nd):D:=.sl 4 (l.map Nd.d)
mutual
def Nd.sz:Nd->Nat
 | .mk _ _ _ ks=>1+Nd.aR ks
def Nd.aR:List Nd->Nat
 | []=>0
 | x::l=>x.sz+Nd.aR l
end
def bsS (l:List UInt8):ByteArray:=⟨l.toArray⟩
def oC:ByteArray:=⟨#[105,100]⟩
def iF:ByteArray:=⟨#[99,108,97,115,115]⟩
def zM:ByteArray:=⟨#[109,97,116,104]⟩
def dQ:ByteArray:=⟨#[116,105,116,108,101]⟩
def iH:ByteArray:=⟨#[104,114,101,102]⟩
def Eh:ByteArray:=⟨#[115,114,99]⟩
def Ei:ByteArray:=⟨#[97,108,116]⟩
def mP:ByteArray:=⟨#[110,111,116,101,114,101,102]⟩
def vX:ByteArray:=⟨#[35,110,111,116,101,45]⟩
def dK:ByteArray:=⟨#[110,111,116,101,45]⟩
def gH:ByteArray:=⟨#[110,111,116,101]⟩
def o9:ByteArray:=⟨#[110,111,116,101,115]⟩
def D6:ByteArray:=⟨#[108,97,110,103,117,97,103,101,45]⟩
def sStart:ByteArray:=⟨#[115,116,97,114,116]⟩
def yK:ByteArray:=⟨#[97,108,105,103,110]⟩
def nBr:ByteArray:=⟨#[98,114]⟩
def iV:ByteArray:=⟨#[99,111,100,101]⟩
def Ji:ByteArray:=⟨#[115,112,97,110]⟩
def nEm:ByteArray:=⟨#[101,109]⟩
def Jh:ByteArray:=⟨#[115,116,114,111,110,103]⟩
def nS:ByteArray:=⟨#[115]⟩
def nA:ByteArray:=⟨#[97]⟩
def Zx:ByteArray:=⟨#[105,109,103]⟩
def nP:ByteArray:=⟨#[112]⟩
def nH:ByteArray:=⟨#[104]⟩
def Kj:ByteArray:=⟨#[112,114,101]⟩
def qc:ByteArray:=⟨#[100,105,118]⟩
def nHr:ByteArray:=⟨#[104,114]⟩
def MN:ByteArray:=⟨#[98,108,111,99,107,113,117,111,116,101]⟩
def nUl:ByteArray:=⟨#[117,108]⟩
def Ya:ByteArray:=⟨#[111,108]⟩
def nLi:ByteArray:=⟨#[108,105]⟩
def wP:ByteArray:=⟨#[116,97,98,108,101]⟩
def iR:ByteArray:=⟨#[116,104,101,97,100]⟩
def wR:ByteArray:=⟨#[116,98,111,100,121]⟩
def xU:ByteArray:=⟨#[116,114]⟩
def KW:ByteArray:=⟨#[116,104]⟩
def Et:ByteArray:=⟨#[116,100]⟩
def eT:ByteArray:=⟨#[115,101,99,116,105,111,110]⟩
def iX:ByteArray:=⟨#[104,101,97,100]⟩
def jw:ByteArray:=⟨#[109,101,116,97]⟩
def fV:ByteArray:=⟨#[116,105,116,108,101]⟩
def kW:ByteArray:=⟨#[104,116,109,108]⟩
def gI:ByteArray:=⟨#[98,111,100,121]⟩
def Dc:ByteArray:=⟨#[99,104,97,114,115,101,116]⟩
def gJ:ByteArray:=⟨#[117,116,102,45,56]⟩
def iQ:ByteArray:=⟨#[108,97,110,103]⟩
def jak:ByteArray:=⟨#[108,101,102,116]⟩
def RH:ByteArray:=⟨#[99,101,110,116,101,114]⟩
def WO:ByteArray:=⟨#[114,105,103,104,116]⟩
def VG:ByteArray:=⟨#[32]⟩
def aQ (name:ByteArray) (a:List Pr) (ks:List Nd):Nd:=.mk name ⟨#[]⟩ a ks
def MI (s:ByteArray):Nd:=.mk ⟨#[]⟩ s [] []
def bS (s:ByteArray):List Nd:=if aZ s=true then [] else [MI s]
def jL (k v:ByteArray):List Pr:=if aZ v=true then [] else [⟨k,v⟩]
def eZ:List ByteArray->ByteArray
 | []=>⟨#[]⟩
 | [x]=>x
 | x::y::l=>x++VG++eZ (y::l)
def QN (l:List ByteArray):List Pr:=if l.isEmpty=true then [] else [⟨iF,eZ l⟩]
def lG (a:At) (more:List ByteArray):List Pr:=jL oC a.id++QN (more++a.cls)
def zT (out:List Nd) (x:Nd):List Nd:=if aZ x.nm=true then match out.getLast? with
  | some y=>if aZ y.nm=true then out.dropLast++[.mk y.nm (y.tx++x.tx) y.at_ y.ks] else out++[x]
  | none=>out++[x]
 else out++[x]
def lM (l:List Nd):List Nd:=l.foldl zT []
def mQ (l:List aj):ByteArray:=bsS (aj.aO l)
mutual
def aj.nd:aj->Nd
 | .mk k t d ti a ar ci ks=>
  if k=2 then MI VG
  else if k=3 then aQ nBr [] []
  else if k=4 then aQ iV [] (bS t)
  else if k=5 then aQ Ji [⟨iF,zM⟩] (bS t)
  else if k=6 then aQ nEm [] (lM (aj.Jd ks))
  else if k=7 then aQ Jh [] (lM (aj.Jd ks))
  else if k=8 then aQ nS [] (lM (aj.Jd ks))
  else if k=9 then aQ nA (⟨iH,d⟩::jL dQ ti) (lM (aj.Jd ks))
  else if k=10 then aQ Zx (⟨Eh,d⟩::⟨Ei,mQ ks⟩::jL dQ ti++lG a []) []
  else if k=11 then aQ Ji (lG a []) (lM (aj.Jd ks))
  else if k=12 then aQ nA [⟨iH,vX++t⟩,⟨iF,mP⟩] (bS t)
  else if k=16 then aQ nA [⟨iH,d⟩] (bS d)
  else MI t
def aj.Jd:List aj->List Nd
 | []=>[]
 | x::l=>x.nd::aj.Jd l
end
def kG (l:List aj):List Nd:=lM (aj.Jd l)
theorem qj:∀ (l:List aj),aj.Jd l=l.map aj.nd
 | []=>by rw [aj.Jd];rfl
 | x::l=>by rw [aj.Jd,qj l];rfl
def fT (c:UInt8):ByteArray:=if c=108 then jak else if c=99 then RH else if c=114 then WO else ⟨#[]⟩
def TS (name:ByteArray) (c:UInt8) (b:ah):Nd:=aQ name (jL yK (fT c)) (kG b.mI)
def ah.kids:ah->List ah
 | .mk _ _ _ _ _ _ _ _ ks=>ks
def oZ (name:ByteArray):List UInt8->List ah->List Nd
 | c::cs,b::l=>TS name c b::oZ name cs l
 | _,_=>[]
def qw (name i:ByteArray) (b:ah):Nd:=aQ xU [] (oZ name i.data.toList b.kids)
def eY (i:ByteArray):List ah->Nd
 | []=>aQ wP [] [aQ iR [] []]
 | h::rows=>aQ wP [] (aQ iR [] [qw KW i h]::if rows.isEmpty=true then [] else [aQ wR [] (rows.map (qw Et i))])
mutual
def ah.xO:ah->List Nd
 | .mk k lv i t d ti a li ks=>
  if k=1 then [aQ nP [] (kG li)]
  else if k=2 then [aQ (nH++gD lv.toNat) (lG a []) (kG li)]
  else if k=3 then [aQ Kj [] [aQ iV (jL iF (if aZ i=true then ⟨#[]⟩ else D6++i)) (bS t)]]
  else if k=4 then [aQ qc (lG a [zM]) (bS t)]
  else if k=5 then [aQ nHr [] []]
  else if k=6 then [aQ MN [] (ah.aW ks)]
  else if k=7 then [aQ nUl [] (ah.aW ks)]
  else if k=8 then [aQ Ya (if lv=1 then [] else [⟨sStart,gD lv.toNat⟩]) (ah.aW ks)]
  else if k=9 then [aQ nLi [] (ah.aW ks)]
  else if k=10 then [eY i ks]
  else if k=13 then [aQ qc (lG a [i]) (ah.aW ks)]
  else []
def ah.aW:List ah->List Nd
 | []=>[]
 | x::l=>x.xO++ah.aW l
end
theorem zB:∀ (l:List ah) (k:Nat) (x:ah),l[k]?=some x->ah.aW (l.take (k+1))=ah.aW (l.take k)++x.xO
 | [],_,_,h=>by simp at h
 | y::l,0,x,h=>by
  simp at h;subst h;simp [ah.aW]
 | y::l,k+1,x,h=>by
  rw [List.take_succ_cons,List.take_succ_cons,ah.aW,ah.aW,zB l k x (by simpa using h),List.append_assoc]
def iU (x:aj):Bool:=match x with
 | .mk k t _ _ _ _ _ _=>decide (k=15)||decide (k=13)||decide (k=14)||((decide (k=9)||decide (k=10))&&!aZ t)
def Ob (l:List aj):Bool:=(aj.bG l).any iU
def iW (b:ah):List Nd:=match b with
 | .mk k _ i _ _ _ _ _ ks=>if k=14 then [aQ qc [⟨oC,dK++i⟩,⟨iF,gH⟩] (ah.aW ks)] else []
def mW (l:List ah):List Nd:=(ah.aV l).flatMap iW
def eP (l:List ah):List Nd:=ah.aW l++if (mW l).isEmpty=true then [] else [aQ eT [⟨iF,o9⟩] (mW l)]
def fq (title lang:ByteArray) (body:List Nd):Nd:=
 aQ kW [⟨iQ,lang⟩] [aQ iX [] [aQ jw [⟨Dc,gJ⟩] [],aQ fV [] (bS title)],aQ gI [] body]
def dY (p:List Nd × ByteArray) (x:Nd):List Nd × ByteArray:=if aZ x.nm=true then (p.1,p.2++x.tx) else (p.1++bS p.2++[x],⟨#[]⟩)
def gG (l:List Nd):List Nd × ByteArray:=l.foldl dY ([],⟨#[]⟩)
def Oc (l:List Nd):Prop:=∀ y,l.getLast?=some y->aZ y.nm=false
def Nd.full (x:Nd):Prop:=aZ x.nm=true->x=MI x.tx/\aZ x.tx=false
theorem Od {s:ByteArray} (h:aZ s=true):s=⟨#[]⟩:=by unfold aZ at h;have:=of_decide_eq_true h;exact ByteArray.ext (Array.toList_inj.1 (by simpa using this))
theorem IW (a b:ByteArray):aZ (a++b)=(aZ a&&aZ b):=by unfold aZ;rw [show (a++b).data.toList=a.data.toList++b.data.toList by simp [ByteArray.data_append]];simp [Bool.decide_and]
theorem wT:∀ (l:List Nd) (out:List Nd) (acc:ByteArray),(∀ x∈l,x.full)->Oc out->Oc (l.foldl dY (out,acc)).1/\l.foldl zT (out++bS acc)=(l.foldl dY (out,acc)).1++bS (l.foldl dY (out,acc)).2
 | [],out,acc,_,ho=>⟨ho,rfl⟩
 | x::l,out,acc,h,ho=>by
  have hl:=fun y hy=>h y (List.mem_cons_of_mem _ hy)
  have hx:=h x (List.mem_cons_self ..);rw [List.foldl_cons,List.foldl_cons];by_cases hn:aZ x.nm=true
  ·obtain ⟨e1,e2⟩:=hx hn;have e3:dY (out,acc) x=(out,acc++x.tx):=by unfold dY;rw [if_pos hn]
   have e4:zT (out++bS acc) x=out++bS (acc++x.tx):=by
    unfold zT;rw [if_pos hn];have e5:aZ (acc++x.tx)=false:=by rw [IW,e2,Bool.and_false]
    have e6:bS (acc++x.tx)=[MI (acc++x.tx)]:=by unfold bS;rw [if_neg (by rw [e5];simp)]
    rw [e6];by_cases ha:aZ acc=true
    ·have e7:bS acc=[]:=by unfold bS;rw [if_pos ha]
     rw [e7,List.append_nil];have e8:acc++x.tx=x.tx:=by rw [Od ha];apply ByteArray.ext;simp [ByteArray.data_append]
     rw [e8];cases hg:out.getLast? with
     | none=>simp only;rw [e1];rfl
     | some y=>simp only;rw [if_neg (by rw [ho y hg];simp),e1];rfl
    ·have e7:bS acc=[MI acc]:=by unfold bS;rw [if_neg ha]
     rw [e7,List.getLast?_append];simp only [List.getLast?_singleton,Option.some_or];have e9:aZ (MI acc).nm=true:=rfl;rw [if_pos e9,List.dropLast_concat];rfl
   rw [e3,e4];exact wT l out _ hl ho
  ·have e3:dY (out,acc) x=(out++bS acc++[x],⟨#[]⟩):=by unfold dY;rw [if_neg hn]
   have e4:zT (out++bS acc) x=(out++bS acc++[x])++bS ⟨#[]⟩:=by unfold zT;rw [if_neg hn];have:bS ⟨#[]⟩=[]:=rfl;rw [this,List.append_nil]
   rw [e3,e4];refine wT l _ _ hl ?_;intro y hy;rw [List.getLast?_append] at hy;simp at hy;subst hy;simpa using hn
theorem KY (l:List Nd) (h:∀ x∈l,x.full):lM l=(gG l).1++bS (gG l).2:=
 (wT l [] ⟨#[]⟩ h (fun y hy=>by simp at hy)).2
theorem Gl (l:List Nd) (x:Nd):gG (l++[x])=dY (gG l) x:=by unfold gG;rw [List.foldl_append];rfl
open Go.RowKit Go.Shelf
attribute [local go_sem] Oper.semAt_some
theorem KZ (W:World):W.grownBy W.drew none:=⟨rfl,rfl,rfl,Nat.le_refl _,fun _ _ _=>rfl⟩
theorem Oe (n l Bl B0:Nat) (P:ah->Prop) (bs:List ah) (v:Value) (w0:World) (Kp:World->World->Prop) (hK:NG B0 Kp) (J Jx:List (BW B0 w0 P)->World->Prop) (W:World) (hJ:AbidesFrom W.heap.size J) (hY:∀ (m:Nat) (pre:List (BW B0 w0 P)) (x:BW B0 w0 P) (W1:World),J pre W1->pre.length<(ah.aV bs).length->YieldAt Fence.wide m Tryz.prog l #[x.1.enc] W1 fun e W'=> (e=.returned (.bool true)/\J (pre++[x]) W'/\Kp W1 W')\/(e=.returned (.bool false)/\Jx (pre++[x]) W')) (hPb:∀ b∈ah.aV bs,P b) (hrd:Rd (·<B0) w0 (fC bs) [v]) (hbel:Below B0 w0 W) (hB0:B0<=W.heap.size) (hBl:aG Bl v 22 W) (h0:J [] W) : CallsIn Fence.wide n Tryz.prog 87 #[.func (.yield l) #[] #[],.pointer (some ⟨Bl,0,none⟩)] W fun e W'=>(∃ v,e=.returned v) /\ ((∃ xs,uq xs=ah.aV bs/\J xs W')\/(∃ pre,uq pre <+: ah.aV bs/\Jx pre W')):=by
 obtain ⟨va,vn,vc,rfl⟩:=Rd.au hrd;have hdd:∀ k:Nat,(Fence.wide.depth.isSome=true->1<=k):=fun k h=>by cases h
 have HC:Hid (∀ (m:Nat) (w2:World),Below B0 w0 w2->EB l W.heap.size (W.heap.size+1) w2->J [] w2->_):=fun m w2 h1 h2 h3=>
  K9 l B0 W.heap.size (W.heap.size+1) (ah.aV bs).length P w0 Kp hK J Jx (fun pre W1 h=>hJ pre W1 W1.drew none h (KZ W1) (fun r e=>by cases e)) hY (ah.aR bs) m bs (.slice va vn vc) [] w2 (Nat.le_refl _) hPb hrd h1 h2 h3 (by simp)
 have HJ:=hid hJ;have HB:=hid hBl;have dD:=hid hbel;have H0:=hid h0;obtain ⟨p,hp⟩:∃ p,p=W.heap.size:=⟨_,rfl⟩;rw [<- hp] at HC;clear hK hY hrd hbel hBl h0 hJ;refine callsIn_of_wp Tryz.func87 rfl trivial ?_ rfl;simp only [Tryz.ntmps87,List.size_toArray,List.length_cons,List.length_nil,Nat.reduceAdd,Nat.reduceSub,Array.replicate_succ,Array.replicate_zero,List.push_toArray,List.append_toArray,List.nil_append,List.cons_append]
 gi_upto_region 2 with (fail)
 obtain ⟨wA,iL⟩:∃ wA,wA=(W.alloc (.cells #[.func (.yield l) #[] #[]] 98)).alloc (.cells #[.nilFunc] 33):=⟨_,rfl⟩;have b0:aG p (.func (.yield l) #[] #[]) 98 wA:=by rw [iL,hp];exact (aG.new W _ _).alloc _
 have b1:aG (p+1) .nilFunc 33 wA:=by
  rw [iL,hp];have:=aG.new (W.alloc (.cells #[.func (.yield l) #[] #[]] 98)) .nilFunc 33
  rwa [World.size_alloc] at this
 have gA:Below p W wA:=by rw [iL,hp];exact ((Below.refl _ _).alloc (Nat.le_refl _) _).alloc (by simp) _
 rw [<- iL,<- hp];rw [<- hp] at hB0;have HP:=hid hp;clear iL hp;have c1:=b1.cell;have f1:=b1.free
 gi_upto_region 3 with (fail)
 obtain ⟨wB,Em⟩:∃ wB,wB=wA.setCell ⟨p+1,0,none⟩ (zU p (p+1)):=⟨_,rfl⟩;have d0:aG p (.func (.yield l) #[] #[]) 98 wB:=by rw [Em];exact b0.far (by omega) _
 have d1:aG (p+1) (zU p (p+1)) 33 wB:=by rw [Em];exact b1.set _
 have gB:Below p W wB:=by rw [Em];exact gA.setCell (p:=⟨p+1,0,none⟩) (by show p<=p+1;omega) _
 have cl:wB.cell? ⟨Bl,0,none⟩=some (.slice va vn vc):=(HB.out.below (by have:=HB.out.lt;rw [HP.out];exact this) gB).cell;have c2:=d1.cell;have HD:=hid (HC.out (n-1) wB (dD.out.trans (gB.mono hB0)) ⟨d0,d1⟩ (HJ.out [] W wB none H0.out ⟨gB.os,gB.tape,gB.output,gB.size,fun k hk _=>gB.block k (by rw [HP.out];exact hk)⟩ (fun r e=>by cases e)));unfold zU at Em c2;rw [<- Em];clear Em b0 b1 gA c1 f1 d0 d1 gB
 gi_wp2_with (first
  | (refine ⟨trivial,hdd _,?_⟩;refine HD.out.mono ?_;clear HD;rintro e W1 (⟨rfl,q,hq,RJ,hb1,hE1⟩ | ⟨rfl,q,hq,hx1⟩))
  | (refine HD.out.mono ?_;clear HD;rintro e W1 (⟨rfl,q,hq,RJ,hb1,hE1⟩ | ⟨rfl,q,hq,hx1⟩)))
 ·go_end0
  exact ⟨⟨_,rfl⟩,.inl ⟨q,hq,by simpa using RJ⟩⟩
 ·go_end0
  exact ⟨⟨_,rfl⟩,.inr ⟨q,hq,by simpa using hx1⟩⟩
theorem Gz (n Bl B0:Nat) (P:ah->Prop) (bs:List ah) (v:Value) (w0 w:World) (Kp:World->World->Prop) (hK:NG B0 Kp) (hPb:∀ b∈ah.aV bs,P b) (hrd:Rd (·<B0) w0 (fC bs) [v]) (hbel:Below B0 w0 w) (hB0:B0<=w.heap.size) (hBl:aG Bl v 22 w) : SeqStopsK Fence.wide n Tryz.prog 87 #[.pointer (some ⟨Bl,0,none⟩)] (fun x:BW B0 w0 P=>#[x.1.enc]) Kp (fun xs=>uq xs=ah.aV bs) (fun pre=>uq pre <+: ah.aV bs) (ah.aV bs).length w:=fun l J Jx W hW hJ hJx hY h0=>
 Oe n l Bl B0 P bs v w0 Kp hK J Jx W hJ (fun m pre x W1 hj hl=>Og rfl m (hY pre x W1 hj hl)) hPb hrd (hbel.trans (hW.mono hB0)) (Nat.le_trans hB0 hW.size) (hBl.below hBl.lt hW) h0
theorem NK (va:Option Addr) (vn vc:Nat) (w:World):Calls Tryz.prog 42 #[.slice va vn vc] w fun e w'=>e=.returned (.func (.func 87) #[] #[.pointer (some ⟨w.heap.size,0,none⟩)])/\w'=w.alloc (.cells #[.slice va vn vc] 22):=by go_enter Tryz.func42,Tryz.ntmps42;go_wp2;go_ret;exact ⟨rfl,rfl⟩
mutual
theorem aj.Oh:∀ (x:aj),x.small->x.plain.length<=300*x.sz
 | .mk k t d ti a ar ci ks,h=>by
  unfold aj.small at h;obtain ⟨h1,h2,h3,h4,h5,h6,h7,h8,h9⟩:=h;have hk:=aj.rG ks h9;have e1:t.data.toList.length=t.size:=by rw [Array.length_toList];rfl
  have e2:d.data.toList.length=d.size:=by rw [Array.length_toList];rfl
  rw [aj.plain,aj.sz];split
  ·omega
  ·split
   ·simp;omega
   ·split
    ·omega
    ·split
     ·omega
     ·simp
theorem aj.rG:∀ (l:List aj),aj.aF l->(aj.aO l).length<=300*aj.aR l
 | [],_=>by rw [aj.aO];simp
 | x::l,h=>by
  unfold aj.aF at h;rw [aj.aO,aj.aR,List.length_append];have:=aj.Oh x h.1;have:=aj.rG l h.2;omega
end
mutual
theorem aj.Oi:∀ (x:aj),x.small->x.bd
 | .mk k t d ti a ar ci ks,h=>by
  unfold aj.small at h;obtain ⟨h1,h2,h3,h4,h5,h6,h7,h8,h9⟩:=h;unfold At.short at h4;have hk:=aj.j6 ks h9;unfold aj.bd;exact ⟨by omega,by omega,by omega,by omega,hk⟩
theorem aj.j6:∀ (l:List aj),aj.aF l->aj.jS l
 | [],_=>by unfold aj.jS;trivial
 | x::l,h=>by
  unfold aj.aF at h;unfold aj.jS;exact ⟨aj.Oi x h.1,aj.j6 l h.2⟩
end
mutual
theorem ah.Oi:∀ (x:ah),x.small->x.bd
 | .mk k lv i t d ti a li ks,h=>by
  unfold ah.small at h;obtain ⟨h1,h2,h3,h4,h5,h6,h7,h8⟩:=h;unfold At.short at h5;have hk:=ah.j6 ks h8;unfold ah.bd;exact ⟨by omega,by omega,aj.j6 li h6,by omega,hk⟩
theorem ah.j6:∀ (l:List ah),ah.aF l->ah.jS l
 | [],_=>by unfold ah.jS;trivial
 | x::l,h=>by
  unfold ah.aF at h;unfold ah.jS;exact ⟨ah.Oi x h.1,ah.j6 l h.2⟩
end
mutual
theorem ah.WQ:∀ (x:ah),x.sz+x.inls.length=x.all
 | .mk k lv i t d ti a li ks=>by
  have:=ah.BQ ks;have h2:=aj.jh li;rw [ah.sz,ah.inls,ah.all,List.length_append,h2];omega
theorem ah.BQ:∀ (l:List ah),ah.aR l+(ah.aU l).length=ah.bU l
 | []=>by rw [ah.aR,ah.aU,ah.bU];rfl
 | x::l=>by
  have:=ah.WQ x;have:=ah.BQ l;rw [ah.aR,ah.aU,ah.bU,List.length_append];omega
end
mutual
theorem ah.GK:∀ (x:ah),x.small->∀ b∈x.each,b.small
 | .mk k lv i t d ti a li ks,h,b,hb=>by
  rw [ah.each] at hb;rcases List.mem_cons.1 hb with rfl | hb
  ·exact h
  ·unfold ah.small at h;exact ah.jR ks h.2.2.2.2.2.2.2 b hb
theorem ah.jR:∀ (l:List ah),ah.aF l->∀ b∈ah.aV l,b.small
 | [],_,b,hb=>by rw [ah.aV] at hb;simp at hb
 | x::l,h,b,hb=>by
  unfold ah.aF at h;rw [ah.aV] at hb;rcases List.mem_append.1 hb with hb | hb
  ·exact ah.GK x h.1 b hb
  ·exact ah.jR l h.2 b hb
end
section
variable {P:Int->ByteArray->Prop}
end
mutual
def aj.ok:aj->Prop
 | .mk k t d ti a ar ci ks=>tL 0 false false k t d ti a ar ci ks=0/\k≠2/\k≠3/\aj.okL 0 ks
def aj.okL (b:Int):List aj->Prop
 | []=>True
 | x::l=>x.ok/\¬ (b=x.kd/\(b=1\/b=4))/\aj.okL x.kd l
end
mutual
def aj.src:aj->Prop
 | .mk k t d ti a ar ci ks=>tL 0 false false k t d ti a ar ci ks=0/\aj.GL ks
def aj.GL:List aj->Prop
 | []=>True
 | x::l=>x.src/\aj.GL l
end
theorem RO {before k:Int} {first last:Bool} {t d ti:ByteArray} {a:At} {ar:List ByteArray} {ci:List Ci} {ks:List aj} (h:tL before first last k t d ti a ar ci ks=0) : tL 0 false false k t d ti a ar ci ks=0:=by
 unfold tL at h ⊢;by_cases h0:Fz k t d ti a ar ci ks=false
 ·rw [if_pos h0] at h;cases h
 rw [if_neg h0] at h ⊢;by_cases h1:k=1\/k=4\/k=5
 ·rw [if_pos h1] at h ⊢;by_cases h4:aZ t=true\/iK t=false
  ·rw [if_pos h4] at h;cases h
  ·rw [if_neg h4,if_neg (by omega)]
 rw [if_neg h1] at h ⊢;by_cases h2:k=2
 ·rw [if_pos h2,if_neg (by simp)]
 rw [if_neg h2] at h ⊢;by_cases h3:k=3
 ·rw [if_pos h3,if_neg (by simp)]
 rw [if_neg h3] at h ⊢;exact h
mutual
theorem aj.RP:∀ (x:aj) (before:Int) (first last:Bool) (dp:Nat),x.err before first last dp=0->x.src
 | .mk k t d ti a ar ci ks,before,first,last,dp,h=>by
  rw [aj.err] at h;rw [aj.src];by_cases h1:tL before first last k t d ti a ar ci ks=0
  ·rw [if_neg (by simp [h1])] at h;exact ⟨RO h1,aj.wU ks _ _ _ h⟩
  ·rw [if_pos h1] at h;exact absurd h h1
theorem aj.wU:∀ (l:List aj) (before:Int) (st:Bool) (dp:Nat),aj.aT before st dp l=0->aj.GL l
 | [],_,_,_,_=>by rw [aj.GL];trivial
 | x::l,before,st,dp,h=>by
  rw [aj.aT] at h;rw [aj.GL];split at h
  ·cases h
  ·split at h
   ·rename_i h2;exact absurd h h2
   ·rename_i h2
    exact ⟨aj.RP x _ _ _ dp (Classical.not_not.1 h2),aj.wU l _ _ dp h⟩
end
structure kZ (ok:Nat->Prop) (w:World) (a:List Pr) (ks:List Nd) (va vk:Value):Prop where
 at_:Rd ok w (bP a) [va]
 ks:Rd ok w (cO ks) [vk]
theorem Nd.open_ {ok:Nat->Prop} {w:World} {n t:ByteArray} {a:List Pr} {ks:List Nd} {cs:List Value} (h:Rd ok w (Nd.mk n t a ks).d cs) : ∃ va vk,cs=[.string n,.string t,va,vk]/\kZ ok w a ks va vk:=by
 unfold Nd.d at h;rw [Nd.gL] at h;obtain ⟨_,g0,rfl⟩:=h.jQ;obtain ⟨r0,rs,rfl,h0,g0⟩:=g0.aC;obtain ⟨r1,rs,rfl,h1,g0⟩:=g0.aC;obtain ⟨r2,rs,rfl,h2,g0⟩:=g0.aC;obtain ⟨r3,rs,rfl,h3,g0⟩:=g0.aC;obtain rfl:=g0.bZ;obtain rfl:=h0.bq;obtain rfl:=h1.bq;obtain ⟨v2,rfl⟩:∃ v,r2=[v]:=by obtain ⟨a,c,e,-⟩:=h2.aB;exact ⟨_,e⟩
 obtain ⟨v3,rfl⟩:∃ v,r3=[v]:=by obtain ⟨a,c,e,-⟩:=h3.aB;exact ⟨_,e⟩
 exact ⟨v2,v3,rfl,h2,h3⟩
theorem Nd.eH {ok:Nat->Prop} {w:World} (n t:ByteArray) {a:List Pr} {ks:List Nd} {va vk:Value} (h:kZ ok w a ks va vk):Rd ok w (Nd.mk n t a ks).d [.string n,.string t,va,vk]:=by unfold Nd.d;rw [Nd.gL];exact Rd.sS (rows:=[[.string n],[.string t],[va],[vk]]) (aH.cons (Rd.dP _ _ _) (aH.cons (Rd.dP _ _ _) (aH.cons h.at_ (aH.cons h.ks aH.none))))
theorem Gg {ok:Nat->Prop} {w:World} {l:List Nd} {a:Option Addr} {cap:Nat} (h:mh ok w 4 (l.map Nd.d) a cap) {k:Nat} {n t:ByteArray} {at_:List Pr} {ks:List Nd} (hk:l[k]?=some (.mk n t at_ ks)) : ∃ b off va vk,a=some ⟨b,off,none⟩/\ok b/\b<w.heap.size/\w.cell? ⟨b,off+k*4,none⟩=some (.string n)/\w.cell? ⟨b,off+k*4+1,none⟩=some (.string t)/\w.cell? ⟨b,off+k*4+2,none⟩=some va/\w.cell? ⟨b,off+k*4+3,none⟩=some vk/\kZ ok w at_ ks va vk:=by
 have hlt:k<l.length:=(List.getElem?_eq_some_iff.1 hk).1;obtain ⟨b,off,ha,hok,hb,hc⟩:=h.at_ (by simpa using Nat.lt_of_le_of_lt (Nat.zero_le _) hlt)
 obtain ⟨r,hr,hl,hcell⟩:=hc k _ (by rw [List.getElem?_map,hk];rfl);obtain ⟨va,vk,rfl,hR⟩:=Nd.open_ hr;exact ⟨b,off,va,vk,ha,hok,hb,hcell 0 _ rfl,hcell 1 _ rfl,hcell 2 _ rfl,hcell 3 _ rfl,hR⟩
theorem Nd.bg:∀ (l:List Nd) (k:Nat) (x:Nd),l[k]?=some x->x.sz<=Nd.aR l
 | [],_,_,h=>by simp at h
 | y::l,0,x,h=>by simp at h;subst h;rw [Nd.aR];omega
 | y::l,k+1,x,h=>by rw [Nd.aR];have:=Nd.bg l k x (by simpa using h);omega
theorem kZ.keep {ok ok':Nat->Prop} {w w':World} {a:List Pr} {ks:List Nd} {va vk:Value} (h:kZ ok w a ks va vk) (hs:zG ok ok' w w'):kZ ok' w' a ks va vk:=⟨Rd.keep hs _ _ h.at_,Rd.keep hs _ _ h.ks⟩
theorem jO {n t:ByteArray} {a1 a2:Option Addr} {n1 n2 c1 c2:Nat}:∀ u∈([.string n,.string t,.slice a1 n1 c1,.slice a2 n2 c2]:List Value),u.oneCell'=true:=by intro u hu;simp at hu;rcases hu with rfl | rfl | rfl | rfl<;>rfl
theorem Ja (l:List Nd) (rs:List (List Value)) (ok:Nat->Prop) (w:World) (h:aH ok w (l.map Nd.d) rs):∀ u∈rs.flatten,u.oneCell'=true:=by
 intro u hu;obtain ⟨r,hr,hu⟩:=List.mem_flatten.1 hu;obtain ⟨j,hj,rfl⟩:=List.mem_iff_getElem.1 hr;have hj2:j<(l.map Nd.d).length:=by rw [<- h.len];exact hj
 obtain ⟨r',hr',hd⟩:=h.get j _ (jlz hj2);rw [jlz hj] at hr';obtain rfl:=Option.some.inj hr';rw [List.getElem_map] at hd;generalize l[j]'(by simpa using hj2)=x at hd;obtain ⟨n,t,a,ks⟩:=x;obtain ⟨va,vk,he,hR⟩:=Nd.open_ hd;obtain ⟨a1,n1,c1,rfl⟩:=Rd.au hR.at_
 obtain ⟨a2,n2,c2,rfl⟩:=Rd.au hR.ks;rw [he] at hu;exact jO u hu
theorem Np (l:List Pr) (rs:List (List Value)) (ok:Nat->Prop) (w:World) (h:aH ok w (l.map Pr.d) rs):∀ u∈rs.flatten,u.oneCell'=true:=by
 intro u hu;obtain ⟨r,hr,hu⟩:=List.mem_flatten.1 hu;obtain ⟨j,hj,rfl⟩:=List.mem_iff_getElem.1 hr;have hj2:j<(l.map Pr.d).length:=by rw [<- h.len];exact hj
 obtain ⟨r',hr',hd⟩:=h.get j _ (jlz hj2);rw [jlz hj] at hr';obtain rfl:=Option.some.inj hr';rw [List.getElem_map] at hd;rw [Pr.open_ hd] at hu;simp at hu;rcases hu with rfl | rfl<;>rfl
end Go.Proofs.YtkfnkeflalcphaaGreatDoor

