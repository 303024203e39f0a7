/- tree.Each: what the function that it returns does with a loop's body. Plain part: what a small document's parts are bounded by. -/
import Derived.Test.YtdneicipdlofiaaGreatDoorKRwC
import Derived.Test.YtdneicipdlofiaaGreatDoorKSmall
set_option maxHeartbeats 4000000
set_option maxRecDepth 100000
open Go.Lib (hid)
namespace Go.Proofs.YtdneicipdlofiaaGreatDoor
open Go.RowKit Go.Shelf
set_option linter.unusedVariables false
set_option linter.unusedSimpArgs false
attribute [local go_sem] Oper.semAt_some
theorem MP (W:World):W.grownBy W.drew none:=⟨rfl,rfl,rfl,Nat.le_refl _,fun _ _ _=>rfl⟩
theorem QM (n l Bl:Nat) (ok:Nat->Prop) (P:ah->Prop) (bs:List ah) (v:Value) (w0:World) (Kp:World->World->Prop) (hK:EO ok Kp) (J Jx:List (zl ok w0 P)->World->Prop) (W:World) (hJ:AbidesFrom W.heap.size J) (hY:∀ (m:Nat) (pre:List (zl ok w0 P)) (x:zl ok w0 P) (W1:World),J pre W1->pre.length<(ah.aS bs).length->YieldAt Fence.wide m Tryz.prog l #[x.1.enc] W1 fun e W'=> (e=.returned (.bool true)/\J (pre++[x]) W'/\Kp W1 W')\/(e=.returned (.bool false)/\Jx (pre++[x]) W')) (hPb:∀ b∈ah.aS bs,P b) (hrd:Rd ok w0 (om bs) [v]) (hbel:Gt ok w0 W) (hB0:∀ b,ok b->b<W.heap.size) (hBl:aH Bl v 23 W) (h0:J [] W) : CallsIn Fence.wide n Tryz.prog 107 #[.func (.yield l) #[] #[],.pointer (some ⟨Bl,0,none⟩)] W fun e W'=>(∃ v,e=.returned v) /\ ((∃ xs,iQ xs=ah.aS bs/\J xs W')\/(∃ pre,iQ pre <+: ah.aS bs/\Jx pre W')):=by
 obtain ⟨va,vn,vc,rfl⟩:=Rd.au hrd;have hdd:∀ k:Nat,(Fence.wide.depth.isSome=true->1<=k):=fun k h=>by cases h
 have HC:Hid (∀ (m:Nat) (w2:World),Gt ok w0 w2->EB l W.heap.size (W.heap.size+1) w2->J [] w2->_):=fun m w2 h1 h2 h3=>
  MK l W.heap.size (W.heap.size+1) (ah.aS bs).length ok P w0 Kp hK J Jx (fun pre W1 h=>hJ pre W1 W1.drew none h (MP W1) (fun r e=>by cases e)) hY (ah.aX bs) m bs (.slice va vn vc) [] w2 (Nat.le_refl _) hPb hrd h1 h2 h3 (by simp)
 have HJ:=hid hJ;have HB:=hid hBl;have kW:=hid hbel;have H0:=hid h0;obtain ⟨p,hp⟩:∃ p,p=W.heap.size:=⟨_,rfl⟩;rw [<- hp] at HC;clear hK hY hrd hbel hBl h0 hJ;refine callsIn_of_wp Tryz.func107 rfl trivial ?_ rfl;simp only [Tryz.ntmps107,List.size_toArray,List.length_cons,List.length_nil,Nat.reduceAdd,Nat.reduceSub,Array.replicate_succ,Array.replicate_zero,List.push_toArray,List.append_toArray,List.nil_append,List.cons_append]
 gi_upto_region 2 with (fail)
 obtain ⟨wA,dX⟩:∃ wA,wA=(W.alloc (.cells #[.func (.yield l) #[] #[]] 69)).alloc (.cells #[.nilFunc] 133):=⟨_,rfl⟩;have b0:aH p (.func (.yield l) #[] #[]) 69 wA:=by rw [dX,hp];exact (aH.new W _ _).alloc _
 have b1:aH (p+1) .nilFunc 133 wA:=by
  rw [dX,hp];have:=aH.new (W.alloc (.cells #[.func (.yield l) #[] #[]] 69)) .nilFunc 133
  rwa [World.size_alloc] at this
 have gA:Below p W wA:=by rw [dX,hp];exact ((Below.refl _ _).alloc (Nat.le_refl _) _).alloc (by simp) _
 rw [<- dX,<- hp];rw [<- hp] at hB0;have HP:=hid hp;clear dX hp;have c1:=b1.cell;have f1:=b1.free
 gi_upto_region 3 with (fail)
 obtain ⟨wB,Ah⟩:∃ wB,wB=wA.setCell ⟨p+1,0,none⟩ (Bu p (p+1)):=⟨_,rfl⟩;have d0:aH p (.func (.yield l) #[] #[]) 69 wB:=by rw [Ah];exact b0.far (by omega) _
 have d1:aH (p+1) (Bu p (p+1)) 133 wB:=by rw [Ah];exact b1.set _
 have gB:Below p W wB:=by rw [Ah];exact gA.setCell (p:=⟨p+1,0,none⟩) (by show p<=p+1;omega) _
 have cl:wB.cell? ⟨Bl,0,none⟩=some (.slice va vn vc):=(HB.out.below (by have:=HB.out.lt;rw [HP.out];exact this) gB).cell;have c2:=d1.cell;have HD:=hid (HC.out (n-1) wB (kW.out.trans (Gt.of gB hB0)) ⟨d0,d1⟩ (HJ.out [] W wB none H0.out ⟨gB.os,gB.tape,gB.output,gB.size,fun k hk _=>gB.block k (by rw [HP.out];exact hk)⟩ (fun r e=>by cases e)));unfold Bu at Ah c2;rw [<- Ah];clear Ah b0 b1 gA c1 f1 d0 d1 gB
 gi_wp2_with (first
  | (refine ⟨trivial,hdd _,?_⟩;refine HD.out.mono ?_;clear HD;rintro e W1 (⟨rfl,q,hq,TU,hb1,hE1⟩ | ⟨rfl,q,hq,hx1⟩))
  | (refine HD.out.mono ?_;clear HD;rintro e W1 (⟨rfl,q,hq,TU,hb1,hE1⟩ | ⟨rfl,q,hq,hx1⟩)))
 ·go_end0
  exact ⟨⟨_,rfl⟩,.inl ⟨q,hq,by simpa using TU⟩⟩
 ·go_end0
  exact ⟨⟨_,rfl⟩,.inr ⟨q,hq,by simpa using hx1⟩⟩
theorem Em (n Bl:Nat) (ok:Nat->Prop) (P:ah->Prop) (bs:List ah) (v:Value) (w0 w:World) (Kp:World->World->Prop) (hK:EO ok Kp) (hPb:∀ b∈ah.aS bs,P b) (hrd:Rd ok w0 (om bs) [v]) (hbel:Gt ok w0 w) (hB0:∀ b,ok b->b<w.heap.size) (hBl:aH Bl v 23 w) : SeqStopsK Fence.wide n Tryz.prog 107 #[.pointer (some ⟨Bl,0,none⟩)] (fun x:zl ok w0 P=>#[x.1.enc]) Kp (fun xs=>iQ xs=ah.aS bs) (fun pre=>iQ pre <+: ah.aS bs) (ah.aS bs).length w:=fun l J Jx W hW hJ hJx hY h0=>
 QM n l Bl ok P bs v w0 Kp hK J Jx W hJ (fun m pre x W1 hj hl=>QG rfl m (hY pre x W1 hj hl)) hPb hrd (hbel.trans (Gt.of hW hB0)) (fun b hb=>Nat.lt_of_lt_of_le (hB0 b hb) hW.size) (hBl.below hBl.lt hW) h0
theorem NW (va:Option Addr) (vn vc:Nat) (w:World):Calls Tryz.prog 61 #[.slice va vn vc] w fun e w'=>e=.returned (.func (.func 107) #[] #[.pointer (some ⟨w.heap.size,0,none⟩)])/\w'=w.alloc (.cells #[.slice va vn vc] 23):=by go_enter Tryz.func61,Tryz.ntmps61;go_wp2;go_ret;exact ⟨rfl,rfl⟩
mutual
theorem aj.QN:∀ (x:aj),x.small->x.bd
 | .mk k t d ti a ar ci ks,h=>by
  unfold aj.small at h;obtain ⟨h1,h2,h3,h4,h5,h6,h7,h8,h9⟩:=h;unfold At.short at h4;have hk:=aj.pq ks h9;unfold aj.bd;exact ⟨by omega,by omega,by omega,by omega,hk⟩
theorem aj.pq:∀ (l:List aj),aj.aG l->aj.l9 l
 | [],_=>by unfold aj.l9;trivial
 | x::l,h=>by
  unfold aj.aG at h;unfold aj.l9;exact ⟨aj.QN x h.1,aj.pq l h.2⟩
end
mutual
theorem ah.QN:∀ (x:ah),x.small->x.bd
 | .mk k lv i t d ti a li ks,h=>by
  unfold ah.small at h;obtain ⟨h1,h2,h3,h4,h5,h6,h7,h8⟩:=h;unfold At.short at h5;have hk:=ah.pq ks h8;unfold ah.bd;exact ⟨by omega,by omega,aj.pq li h6,by omega,hk⟩
theorem ah.pq:∀ (l:List ah),ah.aG l->ah.l9 l
 | [],_=>by unfold ah.l9;trivial
 | x::l,h=>by
  unfold ah.aG at h;unfold ah.l9;exact ⟨ah.QN x h.1,ah.pq l h.2⟩
end
mutual
theorem ah.Yv:∀ (x:ah),x.sz+x.inls.length=x.all
 | .mk k lv i t d ti a li ks=>by
  have:=ah.u7 ks;have h2:=aj.dJ li;rw [ah.sz,ah.inls,ah.all,List.length_append,h2];omega
theorem ah.u7:∀ (l:List ah),ah.aX l+(ah.aQ l).length=ah.aZ l
 | []=>by rw [ah.aX,ah.aQ,ah.aZ];rfl
 | x::l=>by
  have:=ah.Yv x;have:=ah.u7 l;rw [ah.aX,ah.aQ,ah.aZ,List.length_append];omega
end
end Go.Proofs.YtdneicipdlofiaaGreatDoor

