/- Plain part: the numbers of a document: sections, figures, tables, equations, notes. Plain part: entries, and the list of entries, as the program and as the reference make it. Plain part: the entries of numbers. Plain part: blocks with their tables of contents filled. tree.Each: what the function that it returns does with a loop's body. Plain part: what a small document's parts are bounded by. Plain part: what the entries of a well-formed document have. Plain part: the lists of entries of a well-formed document have no error but for the depth. -/
import Derived.Test.YtclikfjalmcoaaaGreatDoorKRwC
import Derived.Test.YtclikfjalmcoaaaGreatDoorKSmall
import Derived.Test.YtclikfjalmcoaaaGreatDoorKPlParse
set_option maxHeartbeats 4000000
set_option maxRecDepth 100000
open Go.Lib (hid)
namespace Go.Proofs.YtclikfjalmcoaaaGreatDoor
set_option linter.unusedVariables false
set_option linter.unusedSimpArgs false
def fQ (n:Nat):ByteArray:=⟨(Lib.decDigits n).toArray⟩
def ah.mh:ah->List aj
 | .mk _ _ _ _ _ _ _ li _=>li
open Go.RowKit Go.Shelf
attribute [local go_sem] Oper.semAt_some
theorem Kq (W:World):W.grownBy W.drew none:=⟨rfl,rfl,rfl,Nat.le_refl _,fun _ _ _=>rfl⟩
theorem NR (n l Bl B0:Nat) (P:ah->Prop) (bs:List ah) (v:Value) (w0:World) (Kp:World->World->Prop) (hK:MQ B0 Kp) (J Jx:List (BW B0 w0 P)->World->Prop) (W:World) (hJ:AbidesFrom W.heap.size J) (hY:∀ (m:Nat) (pre:List (BW B0 w0 P)) (x:BW B0 w0 P) (W1:World),J pre W1->pre.length<(ah.aO bs).length->YieldAt Fence.wide m Tryz.prog l #[x.1.enc] W1 fun e W'=> (e=.returned (.bool true)/\J (pre++[x]) W'/\Kp W1 W')\/(e=.returned (.bool false)/\Jx (pre++[x]) W')) (hPb:∀ b∈ah.aO bs,P b) (hrd:Rd (·<B0) w0 (jg bs) [v]) (hbel:Below B0 w0 W) (hB0:B0<=W.heap.size) (hBl:aI Bl v 28 W) (h0:J [] W) : CallsIn Fence.wide n Tryz.prog 107 #[.func (.yield l) #[] #[],.pointer (some ⟨Bl,0,none⟩)] W fun e W'=>(∃ v,e=.returned v) /\ ((∃ xs,tZ xs=ah.aO bs/\J xs W')\/(∃ pre,tZ pre <+: ah.aO bs/\Jx pre W')):=by
 obtain ⟨va,vn,vc,rfl⟩:=Rd.au hrd;have hdd:∀ k:Nat,(Fence.wide.depth.isSome=true->1<=k):=fun k h=>by cases h
 have HC:Hid (∀ (m:Nat) (w2:World),Below B0 w0 w2->EB l W.heap.size (W.heap.size+1) w2->J [] w2->_):=fun m w2 h1 h2 h3=>
  Kt l B0 W.heap.size (W.heap.size+1) (ah.aO bs).length P w0 Kp hK J Jx (fun pre W1 h=>hJ pre W1 W1.drew none h (Kq W1) (fun r e=>by cases e)) hY (ah.aY bs) m bs (.slice va vn vc) [] w2 (Nat.le_refl _) hPb hrd h1 h2 h3 (by simp)
 have HJ:=hid hJ;have HB:=hid hBl;have gD:=hid hbel;have H0:=hid h0;obtain ⟨p,hp⟩:∃ p,p=W.heap.size:=⟨_,rfl⟩;rw [<- hp] at HC;clear hK hY hrd hbel hBl h0 hJ;refine callsIn_of_wp Tryz.func107 rfl trivial ?_ rfl;simp only [Tryz.ntmps107,List.size_toArray,List.length_cons,List.length_nil,Nat.reduceAdd,Nat.reduceSub,Array.replicate_succ,Array.replicate_zero,List.push_toArray,List.append_toArray,List.nil_append,List.cons_append]
 gi_upto_region 2 with (fail)
 obtain ⟨wA,iJ⟩:∃ wA,wA=(W.alloc (.cells #[.func (.yield l) #[] #[]] 104)).alloc (.cells #[.nilFunc] 41):=⟨_,rfl⟩;have b0:aI p (.func (.yield l) #[] #[]) 104 wA:=by rw [iJ,hp];exact (aI.new W _ _).alloc _
 have b1:aI (p+1) .nilFunc 41 wA:=by
  rw [iJ,hp];have:=aI.new (W.alloc (.cells #[.func (.yield l) #[] #[]] 104)) .nilFunc 41
  rwa [World.size_alloc] at this
 have gA:Below p W wA:=by rw [iJ,hp];exact ((Below.refl _ _).alloc (Nat.le_refl _) _).alloc (by simp) _
 rw [<- iJ,<- hp];rw [<- hp] at hB0;have HP:=hid hp;clear iJ hp;have c1:=b1.cell;have f1:=b1.free
 gi_upto_region 3 with (fail)
 obtain ⟨wB,D8⟩:∃ wB,wB=wA.setCell ⟨p+1,0,none⟩ (zT p (p+1)):=⟨_,rfl⟩;have d0:aI p (.func (.yield l) #[] #[]) 104 wB:=by rw [D8];exact b0.far (by omega) _
 have d1:aI (p+1) (zT p (p+1)) 41 wB:=by rw [D8];exact b1.set _
 have gB:Below p W wB:=by rw [D8];exact gA.setCell (p:=⟨p+1,0,none⟩) (by show p<=p+1;omega) _
 have cl:wB.cell? ⟨Bl,0,none⟩=some (.slice va vn vc):=(HB.out.below (by have:=HB.out.lt;rw [HP.out];exact this) gB).cell;have c2:=d1.cell;have HD:=hid (HC.out (n-1) wB (gD.out.trans (gB.mono hB0)) ⟨d0,d1⟩ (HJ.out [] W wB none H0.out ⟨gB.os,gB.tape,gB.output,gB.size,fun k hk _=>gB.block k (by rw [HP.out];exact hk)⟩ (fun r e=>by cases e)));unfold zT at D8 c2;rw [<- D8];clear D8 b0 b1 gA c1 f1 d0 d1 gB
 gi_wp2_with (first
  | (refine ⟨trivial,hdd _,?_⟩;refine HD.out.mono ?_;clear HD;rintro e W1 (⟨rfl,q,hq,Rb,hb1,hE1⟩ | ⟨rfl,q,hq,hx1⟩))
  | (refine HD.out.mono ?_;clear HD;rintro e W1 (⟨rfl,q,hq,Rb,hb1,hE1⟩ | ⟨rfl,q,hq,hx1⟩)))
 ·go_end0
  exact ⟨⟨_,rfl⟩,.inl ⟨q,hq,by simpa using Rb⟩⟩
 ·go_end0
  exact ⟨⟨_,rfl⟩,.inr ⟨q,hq,by simpa using hx1⟩⟩
theorem Gf (n Bl B0:Nat) (P:ah->Prop) (bs:List ah) (v:Value) (w0 w:World) (Kp:World->World->Prop) (hK:MQ B0 Kp) (hPb:∀ b∈ah.aO bs,P b) (hrd:Rd (·<B0) w0 (jg bs) [v]) (hbel:Below B0 w0 w) (hB0:B0<=w.heap.size) (hBl:aI Bl v 28 w) : SeqStopsK Fence.wide n Tryz.prog 107 #[.pointer (some ⟨Bl,0,none⟩)] (fun x:BW B0 w0 P=>#[x.1.enc]) Kp (fun xs=>tZ xs=ah.aO bs) (fun pre=>tZ pre <+: ah.aO bs) (ah.aO bs).length w:=fun l J Jx W hW hJ hJx hY h0=>
 NR n l Bl B0 P bs v w0 Kp hK J Jx W hJ (fun m pre x W1 hj hl=>NS rfl m (hY pre x W1 hj hl)) hPb hrd (hbel.trans (hW.mono hB0)) (Nat.le_trans hB0 hW.size) (hBl.below hBl.lt hW) h0
theorem MV (va:Option Addr) (vn vc:Nat) (w:World):Calls Tryz.prog 59 #[.slice va vn vc] w fun e w'=>e=.returned (.func (.func 107) #[] #[.pointer (some ⟨w.heap.size,0,none⟩)])/\w'=w.alloc (.cells #[.slice va vn vc] 28):=by go_enter Tryz.func59,Tryz.ntmps59;go_wp2;go_ret;exact ⟨rfl,rfl⟩
mutual
theorem aj.NU:∀ (x:aj),x.small->x.plain.length<=300*x.sz
 | .mk k t d ti a ar ci ks,h=>by
  unfold aj.small at h;obtain ⟨h1,h2,h3,h4,h5,h6,h7,h8,h9⟩:=h;have hk:=aj.qO ks h9;have e1:t.data.toList.length=t.size:=by rw [Array.length_toList];rfl
  have e2:d.data.toList.length=d.size:=by rw [Array.length_toList];rfl
  rw [aj.plain,aj.sz];split
  ·omega
  ·split
   ·simp;omega
   ·split
    ·omega
    ·split
     ·omega
     ·simp
theorem aj.qO:∀ (l:List aj),aj.aD l->(aj.aU l).length<=300*aj.aY l
 | [],_=>by rw [aj.aU];simp
 | x::l,h=>by
  unfold aj.aD at h;rw [aj.aU,aj.aY,List.length_append];have:=aj.NU x h.1;have:=aj.qO l h.2;omega
end
mutual
theorem aj.NV:∀ (x:aj),x.small->x.bd
 | .mk k t d ti a ar ci ks,h=>by
  unfold aj.small at h;obtain ⟨h1,h2,h3,h4,h5,h6,h7,h8,h9⟩:=h;unfold At.short at h4;have hk:=aj.jW ks h9;unfold aj.bd;exact ⟨by omega,by omega,by omega,by omega,hk⟩
theorem aj.jW:∀ (l:List aj),aj.aD l->aj.kK l
 | [],_=>by unfold aj.kK;trivial
 | x::l,h=>by
  unfold aj.aD at h;unfold aj.kK;exact ⟨aj.NV x h.1,aj.jW l h.2⟩
end
mutual
theorem ah.NV:∀ (x:ah),x.small->x.bd
 | .mk k lv i t d ti a li ks,h=>by
  unfold ah.small at h;obtain ⟨h1,h2,h3,h4,h5,h6,h7,h8⟩:=h;unfold At.short at h5;have hk:=ah.jW ks h8;unfold ah.bd;exact ⟨by omega,by omega,aj.jW li h6,by omega,hk⟩
theorem ah.jW:∀ (l:List ah),ah.aD l->ah.kK l
 | [],_=>by unfold ah.kK;trivial
 | x::l,h=>by
  unfold ah.aD at h;unfold ah.kK;exact ⟨ah.NV x h.1,ah.jW l h.2⟩
end
mutual
theorem ah.Wj:∀ (x:ah),x.sz+x.inls.length=x.all
 | .mk k lv i t d ti a li ks=>by
  have:=ah.Bt ks;have h2:=aj.fE li;rw [ah.sz,ah.inls,ah.all,List.length_append,h2];omega
theorem ah.Bt:∀ (l:List ah),ah.aY l+(ah.aQ l).length=ah.bY l
 | []=>by rw [ah.aY,ah.aQ,ah.bY];rfl
 | x::l=>by
  have:=ah.Wj x;have:=ah.Bt l;rw [ah.aY,ah.aQ,ah.bY,List.length_append];omega
end
mutual
theorem ah.GH:∀ (x:ah),x.small->∀ b∈x.each,b.small
 | .mk k lv i t d ti a li ks,h,b,hb=>by
  rw [ah.each] at hb;rcases List.mem_cons.1 hb with rfl | hb
  ·exact h
  ·unfold ah.small at h;exact ah.jM ks h.2.2.2.2.2.2.2 b hb
theorem ah.jM:∀ (l:List ah),ah.aD l->∀ b∈ah.aO l,b.small
 | [],_,b,hb=>by rw [ah.aO] at hb;simp at hb
 | x::l,h,b,hb=>by
  unfold ah.aD at h;rw [ah.aO] at hb;rcases List.mem_append.1 hb with hb | hb
  ·exact ah.GH x h.1 b hb
  ·exact ah.jM l h.2 b hb
end
section
variable {P:Int->ByteArray->Prop}
end
mutual
def aj.ok:aj->Prop
 | .mk k t d ti a ar ci ks=>tu 0 false false k t d ti a ar ci ks=0/\k≠2/\k≠3/\aj.okL 0 ks
def aj.okL (b:Int):List aj->Prop
 | []=>True
 | x::l=>x.ok/\¬ (b=x.kd/\(b=1\/b=4))/\aj.okL x.kd l
end
mutual
def aj.src:aj->Prop
 | .mk k t d ti a ar ci ks=>tu 0 false false k t d ti a ar ci ks=0/\aj.Gs ks
def aj.Gs:List aj->Prop
 | []=>True
 | x::l=>x.src/\aj.Gs l
end
theorem Rc {before k:Int} {first last:Bool} {t d ti:ByteArray} {a:At} {ar:List ByteArray} {ci:List Ci} {ks:List aj} (h:tu before first last k t d ti a ar ci ks=0) : tu 0 false false k t d ti a ar ci ks=0:=by
 unfold tu at h ⊢;by_cases h0:Fb k t d ti a ar ci ks=false
 ·rw [if_pos h0] at h;cases h
 rw [if_neg h0] at h ⊢;by_cases h1:k=1\/k=4\/k=5
 ·rw [if_pos h1] at h ⊢;by_cases h4:bI t=true\/iH t=false
  ·rw [if_pos h4] at h;cases h
  ·rw [if_neg h4,if_neg (by omega)]
 rw [if_neg h1] at h ⊢;by_cases h2:k=2
 ·rw [if_pos h2,if_neg (by simp)]
 rw [if_neg h2] at h ⊢;by_cases h3:k=3
 ·rw [if_pos h3,if_neg (by simp)]
 rw [if_neg h3] at h ⊢;exact h
mutual
theorem aj.Rf:∀ (x:aj) (before:Int) (first last:Bool) (dp:Nat),x.err before first last dp=0->x.src
 | .mk k t d ti a ar ci ks,before,first,last,dp,h=>by
  rw [aj.err] at h;rw [aj.src];by_cases h1:tu before first last k t d ti a ar ci ks=0
  ·rw [if_neg (by simp [h1])] at h;exact ⟨Rc h1,aj.wM ks _ _ _ h⟩
  ·rw [if_pos h1] at h;exact absurd h h1
theorem aj.wM:∀ (l:List aj) (before:Int) (st:Bool) (dp:Nat),aj.aX before st dp l=0->aj.Gs l
 | [],_,_,_,_=>by rw [aj.Gs];trivial
 | x::l,before,st,dp,h=>by
  rw [aj.aX] at h;rw [aj.Gs];split at h
  ·cases h
  ·split at h
   ·rename_i h2;exact absurd h h2
   ·rename_i h2
    exact ⟨aj.Rf x _ _ _ dp (Classical.not_not.1 h2),aj.wM l _ _ dp h⟩
end
end Go.Proofs.YtclikfjalmcoaaaGreatDoor

