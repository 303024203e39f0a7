/- tree.Each: what the function that it returns does with a loop's body. Plain part: what a small document's parts are bounded by. Plain part: what the entries of a well-formed document have. Plain part: the lists of entries of a well-formed document have no error but for the depth. Maps of the call's own from texts to truth values; what the loops of count.Notes keep. Plain part: how many bytes of text inlines give to an entry line. -/
import Derived.Test.YtlbioncagkkkoaaGreatDoorKEach
import Derived.Laws.EntriesVeiled
import Derived.Test.YtlbioncagkkkoaaGreatDoorKSmall
import Derived.Test.YtlbioncagkkkoaaGreatDoorKEnW
import Derived.Test.YtlbioncagkkkoaaGreatDoorKPlToc
import Derived.Test.YtlbioncagkkkoaaGreatDoorKInlines
import Derived.Maps.AppendAt
import Derived.Test.YtlbioncagkkkoaaGreatDoorKTcE
set_option maxHeartbeats 4000000
set_option maxRecDepth 100000
open Go.Lib (hid)
namespace Go.Proofs.YtlbioncagkkkoaaGreatDoor
open Go.RowKit Go.Shelf
set_option linter.unusedVariables false
set_option linter.unusedSimpArgs false
attribute [local go_sem] Oper.semAt_some
theorem grownDrew (W:World):W.grownBy W.drew none:=⟨rfl,rfl,rfl,Nat.le_refl _,fun _ _ _=>rfl⟩
theorem each1_in (n l Bl B0:Nat) (P:Blk->Prop) (bs:List Blk) (v:Value) (w0:World) (Kp:World->World->Prop) (hK:KpOk B0 Kp) (J Jx:List (BW B0 w0 P)->World->Prop) (W:World)
  (hJ:AbidesFrom W.heap.size J)
  (hY:∀ (m:Nat) (pre:List (BW B0 w0 P)) (x:BW B0 w0 P) (W1:World),J pre W1->pre.length<(Blk.eachL bs).length->YieldAt Fence.wide m Tryz.prog l #[x.1.enc] W1 fun e W'=>
   (e=.returned (.bool true)/\J (pre++[x]) W'/\Kp W1 W')\/(e=.returned (.bool false)/\Jx (pre++[x]) W'))
  (hPb:∀ b∈Blk.eachL bs,P b) (hrd:Rd (·<B0) w0 (q0x bs) [v]) (hbel:Below B0 w0 W) (hB0:B0<=W.heap.size) (hBl:Box1 Bl v 23 W) (h0:J [] W) :
  CallsIn Fence.wide n Tryz.prog 111 #[.func (.yield l) #[] #[],.pointer (some ⟨Bl,0,none⟩)] W fun e W'=>(∃ v,e=.returned v) /\
   ((∃ xs,q1y xs=Blk.eachL bs/\J xs W')\/(∃ pre,q1y pre <+: Blk.eachL bs/\Jx pre W')):=by
 obtain ⟨va,vn,vc,rfl⟩:=Rd.sl_form hrd
 have hdd:∀ k:Nat,(Fence.wide.depth.isSome=true->1<=k):=fun k h=>by cases h
 have HC:Hid (∀ (m:Nat) (w2:World),Below B0 w0 w2->EB l W.heap.size (W.heap.size+1) w2->J [] w2->_):=fun m w2 h1 h2 h3=>
  each11_in l B0 W.heap.size (W.heap.size+1) (Blk.eachL bs).length P w0 Kp hK J Jx (fun pre W1 h=>hJ pre W1 W1.drew none h (grownDrew W1) (fun r e=>by cases e)) hY (Blk.szL bs) m bs (.slice va vn vc) [] w2 (Nat.le_refl _) hPb hrd h1 h2 h3 (by simp)
 have HJ:=hid hJ
 have HB:=hid hBl
 have HBEL:=hid hbel
 have H0:=hid h0
 obtain ⟨p,hp⟩:∃ p,p=W.heap.size:=⟨_,rfl⟩
 rw [<- hp] at HC
 clear hK hY hrd hbel hBl h0 hJ
 refine callsIn_of_wp Tryz.func111 rfl trivial ?_ rfl
 simp only [Tryz.ntmps111,List.size_toArray,List.length_cons,List.length_nil,Nat.reduceAdd,Nat.reduceSub,Array.replicate_succ,Array.replicate_zero,List.push_toArray,List.append_toArray,List.nil_append,List.cons_append]
 gi_upto_region 2 with (fail)
 obtain ⟨wA,hwA⟩:∃ wA,wA=(W.alloc (.cells #[.func (.yield l) #[] #[]] 106)).alloc (.cells #[.nilFunc] 145):=⟨_,rfl⟩
 have b0:Box1 p (.func (.yield l) #[] #[]) 106 wA:=by rw [hwA,hp];exact (Box1.new W _ _).alloc _
 have b1:Box1 (p+1) .nilFunc 145 wA:=by
  rw [hwA,hp]
  have:=Box1.new (W.alloc (.cells #[.func (.yield l) #[] #[]] 106)) .nilFunc 145
  rwa [World.size_alloc] at this
 have gA:Below p W wA:=by rw [hwA,hp];exact ((Below.refl _ _).alloc (Nat.le_refl _) _).alloc (by simp) _
 rw [<- hwA,<- hp]
 rw [<- hp] at hB0
 have HP:=hid hp
 clear hwA hp
 have c1:=b1.cell
 have f1:=b1.free
 gi_upto_region 3 with (fail)
 obtain ⟨wB,hwB⟩:∃ wB,wB=wA.setCell ⟨p+1,0,none⟩ (eachF p (p+1)):=⟨_,rfl⟩
 have d0:Box1 p (.func (.yield l) #[] #[]) 106 wB:=by rw [hwB];exact b0.far (by omega) _
 have d1:Box1 (p+1) (eachF p (p+1)) 145 wB:=by rw [hwB];exact b1.set _
 have gB:Below p W wB:=by rw [hwB];exact gA.setCell (p:=⟨p+1,0,none⟩) (by show p<=p+1;omega) _
 have cl:wB.cell? ⟨Bl,0,none⟩=some (.slice va vn vc):=(HB.out.below (by have:=HB.out.lt;rw [HP.out];exact this) gB).cell
 have c2:=d1.cell
 have HD:=hid (HC.out (n-1) wB (HBEL.out.trans (gB.mono hB0)) ⟨d0,d1⟩ (HJ.out [] W wB none H0.out ⟨gB.os,gB.tape,gB.output,gB.size,fun k hk _=>gB.block k (by rw [HP.out];exact hk)⟩ (fun r e=>by cases e)))
 unfold eachF at hwB c2
 rw [<- hwB]
 clear hwB b0 b1 gA c1 f1 d0 d1 gB
 gi_wp2_with (first
  | (refine ⟨trivial,hdd _,?_⟩;refine HD.out.mono ?_;clear HD;rintro e W1 (⟨rfl,q,hq,hJ1,hb1,hE1⟩ | ⟨rfl,q,hq,hx1⟩))
  | (refine HD.out.mono ?_;clear HD;rintro e W1 (⟨rfl,q,hq,hJ1,hb1,hE1⟩ | ⟨rfl,q,hq,hx1⟩)))
 ·go_end0
  exact ⟨⟨_,rfl⟩,.inl ⟨q,hq,by simpa using hJ1⟩⟩
 ·go_end0
  exact ⟨⟨_,rfl⟩,.inr ⟨q,hq,by simpa using hx1⟩⟩
theorem each_stops (n Bl B0:Nat) (P:Blk->Prop) (bs:List Blk) (v:Value) (w0 w:World) (Kp:World->World->Prop) (hK:KpOk B0 Kp) (hPb:∀ b∈Blk.eachL bs,P b) (hrd:Rd (·<B0) w0 (q0x bs) [v]) (hbel:Below B0 w0 w) (hB0:B0<=w.heap.size) (hBl:Box1 Bl v 23 w) :
  SeqStopsK Fence.wide n Tryz.prog 111 #[.pointer (some ⟨Bl,0,none⟩)] (fun x:BW B0 w0 P=>#[x.1.enc]) Kp (fun xs=>q1y xs=Blk.eachL bs) (fun pre=>q1y pre <+: Blk.eachL bs) (Blk.eachL bs).length w:=fun l J Jx W hW hJ hJx hY h0=>
 each1_in n l Bl B0 P bs v w0 Kp hK J Jx W hJ (fun m pre x W1 hj hl=>yieldAny rfl m (hY pre x W1 hj hl)) hPb hrd (hbel.trans (hW.mono hB0)) (Nat.le_trans hB0 hW.size) (hBl.below hBl.lt hW) h0
theorem each_any (va:Option Addr) (vn vc:Nat) (w:World):Calls Tryz.prog 82 #[.slice va vn vc] w fun e w'=>e=.returned (.func (.func 111) #[] #[.pointer (some ⟨w.heap.size,0,none⟩)])/\w'=w.alloc (.cells #[.slice va vn vc] 23):=by
 go_enter Tryz.func82,Tryz.ntmps82
 go_wp2
 go_ret
 exact ⟨rfl,rfl⟩
mutual
theorem Inl.bd_sm:∀ (x:Inl),x.small->x.bd
 | .mk k t d ti a ar ci ks,h=>by
  unfold Inl.small at h
  obtain ⟨h1,h2,h3,h4,h5,h6,h7,h8,h9⟩:=h
  unfold At.short at h4
  have hk:=Inl.bdL_sm ks h9
  unfold Inl.bd
  exact ⟨by omega,by omega,by omega,by omega,hk⟩
theorem Inl.bdL_sm:∀ (l:List Inl),Inl.smallL l->Inl.bdL l
 | [],_=>by unfold Inl.bdL;trivial
 | x::l,h=>by
  unfold Inl.smallL at h
  unfold Inl.bdL
  exact ⟨Inl.bd_sm x h.1,Inl.bdL_sm l h.2⟩
end
mutual
theorem Blk.bd_sm:∀ (x:Blk),x.small->x.bd
 | .mk k lv i t d ti a li ks,h=>by
  unfold Blk.small at h
  obtain ⟨h1,h2,h3,h4,h5,h6,h7,h8⟩:=h
  unfold At.short at h5
  have hk:=Blk.bdL_sm ks h8
  unfold Blk.bd
  exact ⟨by omega,by omega,Inl.bdL_sm li h6,by omega,hk⟩
theorem Blk.bdL_sm:∀ (l:List Blk),Blk.smallL l->Blk.bdL l
 | [],_=>by unfold Blk.bdL;trivial
 | x::l,h=>by
  unfold Blk.smallL at h
  unfold Blk.bdL
  exact ⟨Blk.bd_sm x h.1,Blk.bdL_sm l h.2⟩
end
mutual
theorem Blk.all_sz:∀ (x:Blk),x.sz+x.inls.length=x.all
 | .mk k lv i t d ti a li ks=>by
  have:=Blk.allL_sz ks
  have h2:=Inl.deepL_len li
  rw [Blk.sz,Blk.inls,Blk.all,List.length_append,h2];omega
theorem Blk.allL_sz:∀ (l:List Blk),Blk.szL l+(Blk.inlsL l).length=Blk.allL l
 | []=>by rw [Blk.szL,Blk.inlsL,Blk.allL];rfl
 | x::l=>by
  have:=Blk.all_sz x
  have:=Blk.allL_sz l
  rw [Blk.szL,Blk.inlsL,Blk.allL,List.length_append];omega
end
mutual
theorem Blk.each_small:∀ (x:Blk),x.small->∀ b∈x.each,b.small
 | .mk k lv i t d ti a li ks,h,b,hb=>by
  rw [Blk.each] at hb
  rcases List.mem_cons.1 hb with rfl | hb
  ·exact h
  ·unfold Blk.small at h
   exact Blk.eachL_small ks h.2.2.2.2.2.2.2 b hb
theorem Blk.eachL_small:∀ (l:List Blk),Blk.smallL l->∀ b∈Blk.eachL l,b.small
 | [],_,b,hb=>by rw [Blk.eachL] at hb;simp at hb
 | x::l,h,b,hb=>by
  unfold Blk.smallL at h
  rw [Blk.eachL] at hb
  rcases List.mem_append.1 hb with hb | hb
  ·exact Blk.each_small x h.1 b hb
  ·exact Blk.eachL_small l h.2 b hb
end
mutual
theorem Inl.deep_small:∀ (x:Inl),x.small->∀ b∈x.deep,b.small
 | .mk k t d ti a ar ci ks,h,b,hb=>by
  rw [Inl.deep] at hb
  rcases List.mem_cons.1 hb with rfl | hb
  ·exact h
  ·unfold Inl.small at h
   exact Inl.deepL_small ks h.2.2.2.2.2.2.2.2 b hb
theorem Inl.deepL_small:∀ (l:List Inl),Inl.smallL l->∀ b∈Inl.deepL l,b.small
 | [],_,b,hb=>by rw [Inl.deepL] at hb;simp at hb
 | x::l,h,b,hb=>by
  unfold Inl.smallL at h
  rw [Inl.deepL] at hb
  rcases List.mem_append.1 hb with hb | hb
  ·exact Inl.deep_small x h.1 b hb
  ·exact Inl.deepL_small l h.2 b hb
end
mutual
theorem Blk.inls_small:∀ (x:Blk),x.small->∀ b∈x.inls,b.small
 | .mk k lv i t d ti a li ks,h,b,hb=>by
  unfold Blk.small at h
  rw [Blk.inls] at hb
  rcases List.mem_append.1 hb with hb | hb
  ·exact Inl.deepL_small li h.2.2.2.2.2.1 b hb
  ·exact Blk.inlsL_small ks h.2.2.2.2.2.2.2 b hb
theorem Blk.inlsL_small:∀ (l:List Blk),Blk.smallL l->∀ b∈Blk.inlsL l,b.small
 | [],_,b,hb=>by rw [Blk.inlsL] at hb;simp at hb
 | x::l,h,b,hb=>by
  unfold Blk.smallL at h
  rw [Blk.inlsL] at hb
  rcases List.mem_append.1 hb with hb | hb
  ·exact Blk.inls_small x h.1 b hb
  ·exact Blk.inlsL_small l h.2 b hb
end
mutual
def Inl.sig (P:Int->ByteArray->Prop):Inl->Prop
 | .mk k _ _ _ a _ _ ks=>P k a.id/\Inl.sigL P ks
def Inl.sigL (P:Int->ByteArray->Prop):List Inl->Prop
 | []=>True
 | x::l=>x.sig P/\Inl.sigL P l
end
section
variable {P:Int->ByteArray->Prop}
theorem sig_app:∀ (l m:List Inl),Inl.sigL P l->Inl.sigL P m->Inl.sigL P (l++m)
 | [],m,_,h=>h
 | x::l,m,h,h2=>by rw [Inl.sigL] at h;rw [List.cons_append,Inl.sigL];exact ⟨h.1,sig_app l m h.2 h2⟩
theorem sig_one {x:Inl} (h:x.sig P):Inl.sigL P [x]:=by rw [Inl.sigL,Inl.sigL];exact ⟨h,trivial⟩
theorem sig_mem:∀ (l:List Inl),Inl.sigL P l->∀ x∈l,x.sig P
 | x::l,h,y,hy=>by
  rw [Inl.sigL] at h
  rcases List.mem_cons.1 hy with rfl | hy
  ·exact h.1
  ·exact sig_mem l h.2 y hy
theorem sig_of:∀ (l:List Inl),(∀ x∈l,x.sig P)->Inl.sigL P l
 | [],_=>by rw [Inl.sigL];trivial
 | x::l,h=>by rw [Inl.sigL];exact ⟨h x (List.mem_cons_self ..),sig_of l (fun y hy=>h y (List.mem_cons_of_mem _ hy))⟩
theorem sig_setTx (x:Inl) (t:ByteArray) (h:x.sig P):(x.setTx t).sig P:=by
 obtain ⟨k,t0,d,ti,a,ar,ci,ks⟩:=x
 rw [Inl.sig] at h
 show Inl.sig P (.mk k t d ti a ar ci ks)
 rw [Inl.sig];exact h
theorem sig_addK (q:Int) (out:List Inl) (x:Inl) (ho:Inl.sigL P out) (hx:x.sig P):Inl.sigL P (addK q out x):=by
 unfold addK
 split
 ·split
  ·rename_i y hg
   split
   ·refine sig_app _ _ (sig_of _ fun z hz=>sig_mem out ho z (List.dropLast_subset _ hz)) (sig_one (sig_setTx y _ ?_))
    exact sig_mem out ho y (by rw [q1s hg];simp)
   ·exact sig_app _ _ ho (sig_one hx)
  ·exact sig_app _ _ ho (sig_one hx)
 ·exact sig_app _ _ ho (sig_one hx)
theorem sig_addM (out:List Inl) (x:Inl) (ho:Inl.sigL P out) (hx:x.sig P):Inl.sigL P (addM out x):=by
 rw [addM_addK]
 split
 ·exact sig_addK 1 out x ho hx
 ·exact ho
theorem sig_foldK (q:Int):∀ (l out:List Inl),Inl.sigL P out->Inl.sigL P l->Inl.sigL P (l.foldl (addK q) out)
 | [],out,ho,_=>ho
 | x::l,out,ho,h=>by
  rw [Inl.sigL] at h
  rw [List.foldl_cons]
  exact sig_foldK q l _ (sig_addK q out x ho h.1) h.2
mutual
theorem Inl.sig_mergeX:∀ (x:Inl),x.sig P->x.mergeX.sig P
 | .mk k t d ti a ar ci ks,h=>by
  rw [Inl.sig] at h
  rw [Inl.mergeX,Inl.sig]
  exact ⟨h.1,Inl.sig_mergeA ks [] (by rw [Inl.sigL];trivial) h.2⟩
theorem Inl.sig_mergeA:∀ (l out:List Inl),Inl.sigL P out->Inl.sigL P l->Inl.sigL P (Inl.mergeA out l)
 | [],out,ho,_=>by rw [Inl.mergeA];exact ho
 | x::l,out,ho,h=>by
  rw [Inl.sigL] at h
  rw [Inl.mergeA]
  exact Inl.sig_mergeA l _ (sig_addM out _ ho (Inl.sig_mergeX x h.1)) h.2
end
theorem sig_join (l:List Inl) (h:Inl.sigL P l):Inl.sigL P (q1k 4 (Inl.mergeL l)):=by
 have h0:Inl.sigL P ([]:List Inl):=by rw [Inl.sigL];trivial
 exact sig_foldK 4 _ [] h0 (Inl.sig_mergeA l [] h0 h)
end
mutual
def Inl.kid:Inl->Prop
 | .mk k _ _ _ _ _ _ ks=>(¬ (k=6\/k=7\/k=8\/k=9\/k=10\/k=11)->ks=[])/\Inl.kidL ks
def Inl.kidL:List Inl->Prop
 | []=>True
 | x::l=>x.kid/\Inl.kidL l
end
def entP (k:Int) (id:ByteArray):Prop:=k≠9/\k≠11/\k≠16/\k≠12/\k≠14/\k≠13/\k≠2/\k≠3/\(k=10->id=⟨#[]⟩)
theorem entP_tx (t:ByteArray):Inl.sig entP (txI t):=by
 unfold txI
 rw [Inl.sig,Inl.sigL]
 unfold entP
 exact ⟨by decide,trivial⟩
mutual
theorem Inl.ent_sig:∀ (x:Inl),x.kid->Inl.sigL entP x.entX
 | .mk k t d ti a ar ci ks,h=>by
  rw [Inl.kid] at h
  have hk:=sig_join _ (Inl.entR_sig ks h.2)
  rw [Inl.entX]
  by_cases h1:k=9\/k=11
  ·rw [if_pos h1];exact hk
  rw [if_neg h1]
  by_cases h2:k=12\/k=14\/k=13
  ·rw [if_pos h2,Inl.sigL];trivial
  rw [if_neg h2]
  by_cases h3:k=16
  ·rw [if_pos h3];exact sig_one (entP_tx _)
  rw [if_neg h3]
  by_cases h4:k=2\/k=3
  ·rw [if_pos h4];exact sig_one (entP_tx _)
  rw [if_neg h4]
  by_cases h5:k=10
  ·rw [if_pos h5]
   refine sig_one ?_
   rw [Inl.sig]
   exact ⟨by unfold entP;exact ⟨by omega,by omega,by omega,by omega,by omega,by omega,by omega,by omega,fun _=>rfl⟩,hk⟩
  rw [if_neg h5]
  have hp:entP k a.id:=by
   unfold entP
   exact ⟨by omega,by omega,by omega,by omega,by omega,by omega,by omega,by omega,fun e=>absurd e h5⟩
  by_cases h6:k=6\/k=7\/k=8
  ·rw [if_pos h6]
   split
   ·rw [Inl.sigL];trivial
   ·refine sig_one ?_
    rw [Inl.sig];exact ⟨hp,hk⟩
  ·rw [if_neg h6]
   refine sig_one ?_
   rw [Inl.sig,h.1 (by omega),Inl.sigL]
   exact ⟨hp,trivial⟩
theorem Inl.entR_sig:∀ (l:List Inl),Inl.kidL l->Inl.sigL entP (Inl.entR l)
 | [],_=>by rw [Inl.entR,Inl.sigL];trivial
 | x::l,h=>by
  rw [Inl.kidL] at h
  rw [Inl.entR]
  exact sig_app _ _ (Inl.ent_sig x h.1) (Inl.entR_sig l h.2)
end
theorem entL_sig (l:List Inl) (h:Inl.kidL l):Inl.sigL entP (entL l):=sig_join _ (Inl.entR_sig l h)
mutual
theorem Inl.err_kid:∀ (x:Inl) (before:Int) (first last:Bool) (dp:Nat),x.err before first last dp=0->x.kid
 | .mk k t d ti a ar ci ks,before,first,last,dp,h=>by
  rw [Inl.err] at h
  rw [Inl.kid]
  split at h
  ·rename_i h1;exact absurd h h1
  ·rename_i h1
   refine ⟨fun hk=>?_,Inl.errL_kid ks 0 true (dp+1) h⟩
   have h2:q0l before first last k t d ti a ar ci ks=0:=by simpa using h1
   unfold q0l at h2
   split at h2
   ·cases h2
   ·rename_i h3
    have h4:q0b k t d ti a ar ci ks=true:=by simpa using h3
    unfold q0b at h4
    simp only [Bool.and_eq_true,Bool.or_eq_true,List.isEmpty_iff] at h4
    rcases h4.1.1.2 with h5 | h5
    ·exfalso
     apply hk
     simpa using h5
    ·exact h5
theorem Inl.errL_kid:∀ (l:List Inl) (before:Int) (st:Bool) (dp:Nat),Inl.errL before st dp l=0->Inl.kidL l
 | [],_,_,_,_=>by rw [Inl.kidL];trivial
 | x::l,before,st,dp,h=>by
  rw [Inl.errL] at h
  rw [Inl.kidL]
  split at h
  ·cases h
  ·split at h
   ·rename_i h1;exact absurd h h1
   ·rename_i h1
    exact ⟨Inl.err_kid x _ _ _ _ (by simpa using h1),Inl.errL_kid l _ _ _ h⟩
end
mutual
theorem Blk.err_kid (cl:ByteArray->Bool):∀ (x:Blk) (par:Int) (dp:Nat),x.err cl par dp=0->∀ b∈x.each,Inl.kidL b.lineOf
 | .mk k lv i t d ti a li ks,par,dp,h,b,hb=>by
  rw [Blk.err] at h
  split at h
  ·cases h
  ·split at h
   ·cases h
   ·rename_i h1
    split at h
    ·rename_i h2;exact absurd h h2
    ·rename_i h2
     rw [Blk.each] at hb
     rcases List.mem_cons.1 hb with rfl | hb
     ·show Inl.kidL li
      have h3:q0q k lv i t d ti a li ks=true:=by
       cases hq:q0q k lv i t d ti a li ks with
       | true=>rfl
       | false=>exact absurd (.inl hq) h1
      have h4:q1z cl k lv i t d ti a li ks=0:=by simpa using h2
      unfold q0q at h3
      simp only [Bool.and_eq_true,Bool.or_eq_true,List.isEmpty_iff] at h3
      rcases h3.1.2 with h5 | h5
      ·have h6:k=1\/k=2\/k=12:=by simpa using h5
       have h7:q18 li=0:=by
        unfold q1z at h4
        rcases h6 with rfl | rfl | rfl
        ·rw [if_pos rfl] at h4
         split at h4
         ·cases h4
         ·exact h4
        ·rw [if_neg (by decide),if_pos rfl] at h4
         split at h4
         ·cases h4
         ·split at h4
          ·rename_i h8;exact absurd h4 h8
          ·split at h4
           ·cases h4
           ·exact h4
        ·rw [if_neg (by decide),if_neg (by decide),if_pos rfl] at h4
         split at h4
         ·cases h4
         ·exact h4
       exact Inl.errL_kid li 0 true 0 h7
      ·rw [h5,Inl.kidL];trivial
     ·exact Blk.errL_kid cl ks k (dp+1) h b hb
theorem Blk.errL_kid (cl:ByteArray->Bool):∀ (l:List Blk) (par:Int) (dp:Nat),Blk.errL cl par dp l=0->∀ b∈Blk.eachL l,Inl.kidL b.lineOf
 | [],_,_,_,b,hb=>by rw [Blk.eachL] at hb;cases hb
 | x::l,par,dp,h,b,hb=>by
  rw [Blk.errL] at h
  rw [Blk.eachL] at hb
  split at h
  ·rename_i h1;exact absurd h h1
  ·rename_i h1
   rcases List.mem_append.1 hb with hb | hb
   ·exact Blk.err_kid cl x par dp (by simpa using h1) b hb
   ·exact Blk.errL_kid cl l par dp h b hb
end
theorem szL_app2:∀ (l m:List Inl),Inl.szL (l++m)=Inl.szL l+Inl.szL m
 | [],m=>by rw [List.nil_append];show _=Inl.szL []+_;rw [Inl.szL];omega
 | x::l,m=>by rw [List.cons_append,Inl.szL,Inl.szL,szL_app2 l m];omega
theorem szL_one (x:Inl):Inl.szL [x]=x.sz:=by rw [Inl.szL,Inl.szL];omega
theorem sz_setTx (x:Inl) (t:ByteArray):(x.setTx t).sz=x.sz:=by
 obtain ⟨k,t0,d,ti,a,ar,ci,ks⟩:=x
 show Inl.sz (.mk k t d ti a ar ci ks)=_
 rw [Inl.sz,Inl.sz]
theorem addK_sz (q:Int) (out:List Inl) (x:Inl):Inl.szL (addK q out x)<=Inl.szL out+x.sz:=by
 unfold addK
 split
 ·split
  ·rename_i y hg
   split
   ·have h1:Inl.szL out=Inl.szL out.dropLast+y.sz:=by
     conv=>lhs;rw [q1s hg]
     rw [szL_app2,szL_one]
    rw [szL_app2,szL_one,sz_setTx,h1];omega
   ·rw [szL_app2,szL_one];omega
  ·rw [szL_app2,szL_one];omega
 ·rw [szL_app2,szL_one];omega
theorem addM_sz (out:List Inl) (x:Inl):Inl.szL (addM out x)<=Inl.szL out+x.sz:=by
 rw [addM_addK]
 split
 ·exact addK_sz 1 out x
 ·omega
theorem foldK_sz (q:Int):∀ (l out:List Inl),Inl.szL (l.foldl (addK q) out)<=Inl.szL out+Inl.szL l
 | [],out=>by rw [List.foldl_nil];omega
 | x::l,out=>by
  have h1:=addK_sz q out x
  have h2:=foldK_sz q l (addK q out x)
  rw [List.foldl_cons,Inl.szL];omega
mutual
theorem Inl.mergeX_szle:∀ (x:Inl),x.mergeX.sz<=x.sz
 | .mk k t d ti a ar ci ks=>by
  have:=Inl.mergeA_szle ks []
  rw [Inl.mergeX,Inl.sz,Inl.sz]
  rw [show Inl.szL []=0 by rw [Inl.szL]] at this
  omega
theorem Inl.mergeA_szle:∀ (l out:List Inl),Inl.szL (Inl.mergeA out l)<=Inl.szL out+Inl.szL l
 | [],out=>by rw [Inl.mergeA];omega
 | x::l,out=>by
  have h1:=Inl.mergeA_szle l (addM out x.mergeX)
  have h2:=addM_sz out x.mergeX
  have h3:=Inl.mergeX_szle x
  rw [Inl.mergeA,Inl.szL];omega
end
theorem join_szle (l:List Inl):Inl.szL (q1k 4 (Inl.mergeL l))<=Inl.szL l:=by
 have h1:=foldK_sz 4 (Inl.mergeL l) []
 have h2:=Inl.mergeA_szle l []
 rw [show Inl.szL []=0 by rw [Inl.szL]] at h1 h2
 unfold q1k
 show _<=_
 unfold Inl.mergeL at h1 ⊢
 omega
mutual
theorem Inl.entX_szle:∀ (x:Inl),Inl.szL x.entX<=x.sz
 | .mk k t d ti a ar ci ks=>by
  have h0:Inl.szL (q1k 4 (Inl.mergeL (Inl.entR ks)))<=Inl.szL ks:=Nat.le_trans (join_szle _) (Inl.entR_szle ks)
  have ht:∀ t,(txI t).sz=1:=fun t=>by unfold txI;rw [Inl.sz,Inl.szL]
  have hn:Inl.szL ([]:List Inl)=0:=by rw [Inl.szL]
  rw [Inl.entX]
  split
  ·rw [Inl.sz];omega
  ·split
   ·rw [hn];omega
   ·split
    ·rw [szL_one,ht,Inl.sz];omega
    ·split
     ·rw [szL_one,ht,Inl.sz];omega
     ·split
      ·rw [szL_one,Inl.sz,Inl.sz];omega
      ·split
       ·split
        ·rw [hn];omega
        ·rw [szL_one,Inl.sz,Inl.sz];omega
       ·rw [szL_one];omega
theorem Inl.entR_szle:∀ (l:List Inl),Inl.szL (Inl.entR l)<=Inl.szL l
 | []=>by rw [Inl.entR];omega
 | x::l=>by
  have h1:=Inl.entX_szle x
  have h2:=Inl.entR_szle l
  rw [Inl.entR,szL_app2,Inl.szL];omega
end
theorem entL_szle (l:List Inl):Inl.szL (entL l)<=Inl.szL l:=Nat.le_trans (join_szle _) (Inl.entR_szle l)
theorem tocL_from (l:List Nm) (a:Int) (e:En) (h:e∈tocL l a):∃ n∈l,n.kind=secS/\n.id=e.id/\n.val=e.tx/\e.line=entL n.line/\e.lv<=a/\e.lv=(levB n.val:Int)/\q06 n.id=false:=by
 unfold tocL at h
 obtain ⟨n,hn,rfl⟩:=List.mem_map.1 h
 obtain ⟨hn,hs⟩:=List.mem_filter.1 hn
 unfold shownB at hs
 simp only [Bool.and_eq_true,decide_eq_true_eq] at hs
 refine ⟨n,hn,hs.1.1,rfl,rfl,rfl,hs.2,rfl,?_⟩
 have:=hs.1.2
 simpa using this
def E01 (n:Nat):Prop:=n=0\/n=11
theorem e01_seq {a b:Nat} (ha:E01 a) (hb:E01 b):E01 (if a≠0 then a else b):=by
 split
 ·exact ha
 ·exact hb
mutual
def Inl.ok:Inl->Prop
 | .mk k t d ti a ar ci ks=>q0l 0 false false k t d ti a ar ci ks=0/\k≠2/\k≠3/\Inl.okL 0 ks
def Inl.okL (b:Int):List Inl->Prop
 | []=>True
 | x::l=>x.ok/\¬ (b=x.kd/\(b=1\/b=4))/\Inl.okL x.kd l
end
theorem one_bef {before k:Int} {t d ti:ByteArray} {a:At} {ar:List ByteArray} {ci:List Ci} {ks:List Inl} (h:q0l 0 false false k t d ti a ar ci ks=0) (h2:k≠2) (h3:k≠3) (hb:¬ (before=k/\(before=1\/before=4))) :
  q0l before false false k t d ti a ar ci ks=0:=by
 unfold q0l at h ⊢
 by_cases h0:q0b k t d ti a ar ci ks=false
 ·rw [if_pos h0] at h;cases h
 rw [if_neg h0] at h ⊢
 by_cases h1:k=1\/k=4\/k=5
 ·rw [if_pos h1] at h ⊢
  by_cases h4:q06 t=true\/q0d t=false
  ·rw [if_pos h4] at h;cases h
  ·rw [if_neg h4,if_neg]
   rintro ⟨h5,h6⟩
   exact hb ⟨h6,by omega⟩
 ·rw [if_neg h1,if_neg h2,if_neg h3] at h ⊢
  exact h
mutual
theorem Inl.ok_err:∀ (x:Inl) (before:Int) (dp:Nat),x.ok->¬ (before=x.kd/\(before=1\/before=4))->E01 (x.err before false false dp)
 | .mk k t d ti a ar ci ks,before,dp,h,hb=>by
  rw [Inl.ok] at h
  obtain ⟨h1,h2,h3,h4⟩:=h
  rw [Inl.err,one_bef h1 h2 h3 hb]
  exact Inl.okL_err ks 0 true (dp+1) (by omega) h4
theorem Inl.okL_err:∀ (l:List Inl) (before:Int) (st:Bool) (dp:Nat),1<=dp->Inl.okL before l->E01 (Inl.errL before st dp l)
 | [],_,_,_,_,_=>by rw [Inl.errL];exact .inl rfl
 | x::l,before,st,dp,hd,h=>by
  rw [Inl.okL] at h
  obtain ⟨h1,h2,h3⟩:=h
  rw [Inl.errL]
  split
  ·exact .inr rfl
  ·have e:decide (dp=0)=false:=decide_eq_false (by omega)
   rw [e,Bool.false_and,Bool.false_and]
   exact e01_seq (Inl.ok_err x before dp h1 h2) (Inl.okL_err l x.kd false dp hd h3)
end
mutual
def Inl.src:Inl->Prop
 | .mk k t d ti a ar ci ks=>q0l 0 false false k t d ti a ar ci ks=0/\Inl.srcL ks
def Inl.srcL:List Inl->Prop
 | []=>True
 | x::l=>x.src/\Inl.srcL l
end
theorem one_src {before k:Int} {first last:Bool} {t d ti:ByteArray} {a:At} {ar:List ByteArray} {ci:List Ci} {ks:List Inl} (h:q0l before first last k t d ti a ar ci ks=0) :
  q0l 0 false false k t d ti a ar ci ks=0:=by
 unfold q0l at h ⊢
 by_cases h0:q0b k t d ti a ar ci ks=false
 ·rw [if_pos h0] at h;cases h
 rw [if_neg h0] at h ⊢
 by_cases h1:k=1\/k=4\/k=5
 ·rw [if_pos h1] at h ⊢
  by_cases h4:q06 t=true\/q0d t=false
  ·rw [if_pos h4] at h;cases h
  ·rw [if_neg h4,if_neg (by omega)]
 rw [if_neg h1] at h ⊢
 by_cases h2:k=2
 ·rw [if_pos h2,if_neg (by simp)]
 rw [if_neg h2] at h ⊢
 by_cases h3:k=3
 ·rw [if_pos h3,if_neg (by simp)]
 rw [if_neg h3] at h ⊢
 exact h
mutual
theorem Inl.err_src:∀ (x:Inl) (before:Int) (first last:Bool) (dp:Nat),x.err before first last dp=0->x.src
 | .mk k t d ti a ar ci ks,before,first,last,dp,h=>by
  rw [Inl.err] at h
  rw [Inl.src]
  by_cases h1:q0l before first last k t d ti a ar ci ks=0
  ·rw [if_neg (by simp [h1])] at h
   exact ⟨one_src h1,Inl.errL_src ks _ _ _ h⟩
  ·rw [if_pos h1] at h;exact absurd h h1
theorem Inl.errL_src:∀ (l:List Inl) (before:Int) (st:Bool) (dp:Nat),Inl.errL before st dp l=0->Inl.srcL l
 | [],_,_,_,_=>by rw [Inl.srcL];trivial
 | x::l,before,st,dp,h=>by
  rw [Inl.errL] at h
  rw [Inl.srcL]
  split at h
  ·cases h
  ·split at h
   ·rename_i h2;exact absurd h h2
   ·rename_i h2
    exact ⟨Inl.err_src x _ _ _ dp (Classical.not_not.1 h2),Inl.errL_src l _ _ dp h⟩
end
theorem ok_text {y:Inl} (h:y.ok) (hk:y.kd=1\/y.kd=4):q06 y.tx=false/\q0d y.tx=true:=by
 obtain ⟨k,t,d,ti,a,ar,ci,ks⟩:=y
 have hk':k=1\/k=4:=hk
 rw [Inl.ok] at h
 have h1:=h.1
 unfold q0l at h1
 split at h1
 ·cases h1
 ·rw [if_pos (by omega)] at h1
  split at h1
  ·cases h1
  ·rename_i h2
   show q06 t=false/\q0d t=true
   constructor
   ·cases h3:q06 t
    ·rfl
    ·exact absurd (.inl h3) h2
   ·cases h3:q0d t
    ·exact absurd (.inr h3) h2
    ·rfl
theorem ok_set {y:Inl} (h:y.ok) (hk:y.kd=1\/y.kd=4) {t':ByteArray} (h1:q06 t'=false) (h2:q0d t'=true):(y.setTx t').ok:=by
 obtain ⟨k,t,d,ti,a,ar,ci,ks⟩:=y
 have hk':k=1\/k=4:=hk
 rw [Inl.ok] at h
 obtain ⟨g1,g2,g3,g4⟩:=h
 show Inl.ok (.mk k t' d ti a ar ci ks)
 rw [Inl.ok]
 refine ⟨?_,g2,g3,g4⟩
 have hf:q0b k t' d ti a ar ci ks=q0b k t d ti a ar ci ks:=by
  rcases hk' with rfl | rfl<;>(unfold q0b;simp)
 unfold q0l at g1 ⊢
 rw [hf]
 split at g1
 ·cases g1
 ·rename_i h0
  rw [if_neg h0,if_pos (by omega),if_neg (by rw [h1,h2];simp),if_neg (by omega)]
theorem emp_app {a b:ByteArray} (h:q06 a=false):q06 (a++b)=false:=empty_app a b h
theorem ok_addK {q:Int} (hq:q=1\/q=4) (out:List Inl) (x:Inl) (ho:∀ y∈out,y.ok) (hx:x.ok):∀ y∈addK q out x,y.ok:=by
 have hap:∀ y∈out++[x],y.ok:=by
  intro y hy
  rcases List.mem_append.1 hy with hy | hy
  ·exact ho y hy
  ·simp at hy;subst hy;exact hx
 unfold addK
 split
 ·rename_i hxq
  split
  ·rename_i y hg
   split
   ·rename_i hyq
    intro z hz
    rcases List.mem_append.1 hz with hz | hz
    ·exact ho z (List.dropLast_subset _ hz)
    ·simp at hz;subst hz
     have hy:=ho y (by rw [q1s hg];simp)
     have h1:=ok_text hy (by omega)
     have h2:=ok_text hx (by omega)
     exact ok_set hy (by omega) (emp_app h1.1) (line_app _ _ h1.2 h2.2)
   ·exact hap
  ·exact hap
 ·exact hap
theorem ok_addM (out:List Inl) (x:Inl) (ho:∀ y∈out,y.ok) (hx:x.ok):∀ y∈addM out x,y.ok:=by
 rw [addM_addK]
 split
 ·exact ok_addK (.inl rfl) out x ho hx
 ·exact ho
mutual
theorem Inl.ok_nf:∀ (x:Inl),x.ok->x.nf
 | .mk k t d ti a ar ci ks,h=>by
  rw [Inl.ok] at h
  rw [Inl.nf]
  exact Inl.okL_nf ks 0 false h.2.2.2 (fun e=>by cases e)
theorem Inl.okL_nf:∀ (l:List Inl) (b:Int) (p:Bool),Inl.okL b l->(p=true->b=1)->Inl.nfL p l
 | [],_,_,_,_=>by rw [Inl.nfL];trivial
 | x::l,b,p,h,hp=>by
  rw [Inl.okL] at h
  obtain ⟨h1,h2,h3⟩:=h
  rw [Inl.nfL]
  refine ⟨Inl.ok_nf x h1,fun e=>⟨(ok_text h1 (.inl e)).1,?_⟩,Inl.okL_nf l x.kd _ h3 (fun e=>of_decide_eq_true e)⟩
  cases hpp:p
  ·rfl
  ·exact absurd ⟨(hp hpp).trans e.symm,.inl (hp hpp)⟩ h2
end
theorem ok_mergeA:∀ (l out:List Inl),(∀ y∈out,y.ok)->(∀ y∈l,y.ok)->∀ y∈Inl.mergeA out l,y.ok
 | [],out,ho,_=>by rw [Inl.mergeA];exact ho
 | x::l,out,ho,h=>by
  have hx:=h x (List.mem_cons_self ..)
  rw [Inl.mergeA,Inl.mergeX_nf x (Inl.ok_nf x hx)]
  exact ok_mergeA l _ (ok_addM out x ho hx) (fun y hy=>h y (List.mem_cons_of_mem _ hy))
theorem ok_foldK {q:Int} (hq:q=1\/q=4):∀ (l out:List Inl),(∀ y∈out,y.ok)->(∀ y∈l,y.ok)->∀ y∈l.foldl (addK q) out,y.ok
 | [],out,ho,_=>ho
 | x::l,out,ho,h=>by
  rw [List.foldl_cons]
  exact ok_foldK hq l _ (ok_addK hq out x ho (h x (List.mem_cons_self ..))) (fun y hy=>h y (List.mem_cons_of_mem _ hy))
def ch4 (q:Bool):List Inl->Prop
 | []=>True
 | x::l=>(x.kd=4->q=false)/\ch4 (decide (x.kd=4)) l
def last4 (q:Bool) (l:List Inl):Bool:=match l.getLast? with | some x=>decide (x.kd=4) | none=>q
theorem last4_cons (p:Bool) (x:Inl) (l:List Inl):last4 p (x::l)=last4 (decide (x.kd=4)) l:=by
 unfold last4
 cases l with
 | nil=>rfl
 | cons y l=>rw [List.getLast?_cons_cons];cases h:(y::l).getLast? with
  | none=>simp at h
  | some z=>rfl
theorem ch4_snoc:∀ (l:List Inl) (p:Bool) (x:Inl),ch4 p (l++[x])↔ch4 p l/\(x.kd=4->last4 p l=false)
 | [],p,x=>by simp [ch4,last4]
 | y::l,p,x=>by
  rw [List.cons_append,ch4,ch4,ch4_snoc l,last4_cons,and_assoc]
theorem ch4_fold:∀ (l out:List Inl),ch4 false out->ch4 false (l.foldl (addK 4) out)
 | [],out,h=>h
 | x::l,out,h=>by
  rw [List.foldl_cons]
  refine ch4_fold l _ ?_
  unfold addK
  by_cases hx:x.kd=4
  ·rw [if_pos hx]
   cases hg:out.getLast? with
   | none=>exact (ch4_snoc out false x).2 ⟨h,fun _=>by unfold last4;rw [hg]⟩
   | some y=>
    simp only
    by_cases hy:y.kd=4
    ·rw [if_pos hy]
     rw [q1s hg] at h
     obtain ⟨g1,g2⟩:=(ch4_snoc _ _ _).1 h
     exact (ch4_snoc _ _ _).2 ⟨g1,fun _=>g2 hy⟩
    ·rw [if_neg hy]
     exact (ch4_snoc out false x).2 ⟨h,fun _=>by unfold last4;rw [hg];exact decide_eq_false hy⟩
  ·rw [if_neg hx]
   exact (ch4_snoc out false x).2 ⟨h,fun e=>absurd e hx⟩
theorem okL_of:∀ (l:List Inl) (b:Int) (p q:Bool),(∀ y∈l,y.ok)->Inl.nfL p l->ch4 q l->(b=1->p=true)->(b=4->q=true)->Inl.okL b l
 | [],_,_,_,_,_,_,_,_=>by rw [Inl.okL];trivial
 | x::l,b,p,q,h,hn,hc,h1,h4=>by
  rw [Inl.nfL] at hn
  rw [ch4] at hc
  rw [Inl.okL]
  refine ⟨h x (List.mem_cons_self ..),?_,okL_of l x.kd _ _ (fun y hy=>h y (List.mem_cons_of_mem _ hy)) hn.2.2 hc.2 (fun e=>decide_eq_true e) (fun e=>decide_eq_true e)⟩
  rintro ⟨e,e1 | e4⟩
  ·have:=(hn.2.1 (e.symm.trans e1)).2
   rw [h1 e1] at this;cases this
  ·have:=hc.1 (e.symm.trans e4)
   rw [h4 e4] at this;cases this
theorem join_okL (l:List Inl) (h:∀ y∈l,y.ok):Inl.okL 0 (q1k 4 (Inl.mergeL l)):=by
 have hm:=ok_mergeA l [] (by simp) h
 refine okL_of _ 0 false false (ok_foldK (.inr rfl) _ [] (by simp) hm) ?_ (ch4_fold _ [] trivial) (fun e=>by cases e) (fun e=>by cases e)
 exact nf_join4 _ [] (Inl.nf_mergeA l [] (by unfold Inl.nfL;trivial)) (by unfold Inl.nfL;trivial)
theorem okL_mem:∀ (l:List Inl) (b:Int),Inl.okL b l->∀ y∈l,y.ok
 | [],_,_,y,hy=>by cases hy
 | x::l,b,h,y,hy=>by
  rw [Inl.okL] at h
  rcases List.mem_cons.1 hy with rfl | hy
  ·exact h.1
  ·exact okL_mem l _ h.2.2 y hy
theorem tx_ok (t:ByteArray) (h1:q06 t=false) (h2:q0d t=true):(txI t).ok:=by
 unfold txI
 rw [Inl.ok]
 refine ⟨?_,by decide,by decide,by rw [Inl.okL];trivial⟩
 unfold q0l
 rw [if_neg (by simp [q0b,At.none,at0,q06]),if_pos (.inl rfl),if_neg (by rw [h1,h2];simp),if_neg (by decide)]
mutual
theorem Inl.ent_ok:∀ (x:Inl),x.src->∀ y∈x.entX,y.ok
 | .mk k t d ti a ar ci ks,h=>by
  rw [Inl.src] at h
  obtain ⟨h1,h2⟩:=h
  have hk:Inl.okL 0 (entL ks):=join_okL _ (Inl.entR_ok ks h2)
  rw [entX_eq]
  have hf:q0b k t d ti a ar ci ks=true:=by
   cases hf:q0b k t d ti a ar ci ks
   ·unfold q0l at h1;rw [if_pos hf] at h1;cases h1
   ·rfl
  by_cases c1:k=9\/k=11
  ·rw [if_pos c1];exact okL_mem _ _ hk
  rw [if_neg c1]
  by_cases c2:k=12\/k=14\/k=13
  ·rw [if_pos c2];intro y hy;cases hy
  rw [if_neg c2]
  by_cases c3:k=16
  ·rw [if_pos c3]
   intro y hy
   simp at hy;subst hy
   subst c3
   unfold q0l at h1
   rw [if_neg (by rw [hf];simp)] at h1
   simp at h1
   have ha:autoS d=true:=h1
   unfold autoS at ha
   simp only [Bool.and_eq_true,decide_eq_true_eq] at ha
   refine tx_ok d ?_ ha.1.2
   unfold q06
   refine decide_eq_false fun e=>?_
   have h9:=ha.1.1.1.1
   unfold ltrRun at h9
   rw [e] at h9
   simp at h9
  rw [if_neg c3]
  by_cases c4:k=2\/k=3
  ·rw [if_pos c4]
   intro y hy
   simp at hy;subst hy
   exact tx_ok _ rfl (asc_line _ (by intro c hc;simp at hc;subst hc;decide))
  rw [if_neg c4]
  by_cases c5:k=10
  ·rw [if_pos c5]
   intro y hy
   simp at hy;subst hy
   subst c5
   rw [Inl.ok]
   refine ⟨?_,by decide,by decide,hk⟩
   have hf2:q0b 10 t d ti at0 ar ci (entL ks)=q0b 10 t d ti a ar ci ks:=by unfold q0b;simp
   unfold q0l at h1 ⊢
   rw [hf2]
   rw [if_neg (by rw [hf];simp)] at h1 ⊢
   simp at h1 ⊢
   unfold q1m at h1 ⊢
   split at h1
   ·cases h1
   ·rename_i g1
    rw [if_neg g1]
    split at h1
    ·cases h1
    ·rename_i g2
     rw [if_neg g2]
     split at h1
     ·cases h1
     ·rename_i g3
      rw [if_neg g3]
      simp;rfl
  rw [if_neg c5]
  by_cases c6:k=6\/k=7\/k=8
  ·rw [if_pos c6]
   split
   ·intro y hy;cases hy
   ·rename_i hne
    intro y hy
    simp at hy;subst hy
    rw [Inl.ok]
    refine ⟨?_,by omega,by omega,hk⟩
    have hf2:q0b k t d ti a ar ci (entL ks)=q0b k t d ti a ar ci ks:=by
     rcases c6 with rfl | rfl | rfl<;>(unfold q0b;simp)
    unfold q0l
    rw [hf2,if_neg (by rw [hf];simp),if_neg (by omega),if_neg (by omega),if_neg (by omega),if_pos c6,if_neg hne]
  rw [if_neg c6]
  intro y hy
  simp at hy;subst hy
  rw [Inl.ok]
  have hks:ks=[]:=by
   unfold q0b at hf
   simp only [Bool.and_eq_true] at hf
   have h9:=hf.1.1.2
   rw [Bool.or_eq_true] at h9
   rcases h9 with h9 | h9
   ·simp at h9;omega
   ·simpa using h9
  subst hks
  exact ⟨h1,by omega,by omega,by rw [Inl.okL];trivial⟩
theorem Inl.entR_ok:∀ (l:List Inl),Inl.srcL l->∀ y∈Inl.entR l,y.ok
 | [],_=>by rw [Inl.entR];intro y hy;cases hy
 | x::l,h=>by
  rw [Inl.srcL] at h
  rw [Inl.entR]
  intro y hy
  rcases List.mem_append.1 hy with hy | hy
  ·exact Inl.ent_ok x h.1 y hy
  ·exact Inl.entR_ok l h.2 y hy
end
theorem entL_ok (l:List Inl) (h:Inl.srcL l):Inl.okL 0 (entL l):=join_okL _ (Inl.entR_ok l h)
theorem sh_okL (v:ByteArray) (E:List Inl) (hv:AscS v) (hE:Inl.okL 0 E):Inl.okL 0 (Inl.mergeL ((if q06 v=true then [] else [txI (v++⟨#[32]⟩)])++E)):=by
 split
 ·rw [List.nil_append]
  have:=Inl.mergeA_nf E [] (Inl.okL_nf E 0 false hE (fun e=>by cases e))
  unfold Inl.mergeL
  rw [this];exact hE
 ·rename_i hne
  have hne2:q06 v=false:=by simpa using hne
  have h32:AscS (⟨#[32]⟩:ByteArray):=by intro c hc;simp at hc;subst hc;decide
  obtain ⟨w,hw⟩:∃ w,w=v++(⟨#[32]⟩:ByteArray):=⟨_,rfl⟩
  rw [<- hw]
  have e1:q06 w=false:=by rw [hw];exact emp_app hne2
  have e2:q0d w=true:=by rw [hw];exact asc_line _ (asc_app _ _ hv h32)
  have hok:=tx_ok w e1 e2
  have hfull:fullB (txI w)=true:=by
   show (!decide ((1:Int)=1)||!q06 w)=true
   rw [e1];rfl
  show Inl.okL 0 (Inl.mergeA [] (txI w::E))
  rw [Inl.mergeA,mergeX_tx0]
  have a0:addM [] (txI w)=[txI w]:=by rw [addM_addK,if_pos hfull];rfl
  rw [a0]
  cases E with
  | nil=>
   rw [Inl.mergeA,Inl.okL]
   exact ⟨hok,fun h=>by have:=h.2;omega,by rw [Inl.okL];trivial⟩
  | cons y E=>
   rw [Inl.okL] at hE
   obtain ⟨g1,g2,g3⟩:=hE
   have hnf:=Inl.okL_nf E y.kd (decide (y.kd=1)) g3 (fun e=>of_decide_eq_true e)
   rw [Inl.mergeA,Inl.mergeX_nf y (Inl.ok_nf y g1)]
   by_cases hy:y.kd=1
   ·have ht:=ok_text g1 (.inl hy)
    have a1:addM [txI w] y=[(txI w).setTx (w++y.tx)]:=by
     exact addM_join [] (txI w) y rfl hy ht.1
    rw [a1,Inl.mergeA_nf E _ (by
     have:last1 false [(txI w).setTx (w++y.tx)]=decide (y.kd=1):=by rw [hy];rfl
     rw [this];exact hnf)]
    show Inl.okL 0 (_::E)
    rw [Inl.okL]
    refine ⟨ok_set hok (.inl rfl) (emp_app e1) (line_app _ _ e2 ht.2),fun h=>by have:=h.2;omega,?_⟩
    have:((txI w).setTx (w++y.tx)).kd=y.kd:=by rw [hy];rfl
    rw [this];exact g3
   ·have a1:addM [txI w] y=[txI w,y]:=by rw [addM_not _ _ hy];rfl
    rw [a1,Inl.mergeA_nf E _ (by
     have:last1 false [txI w,y]=decide (y.kd=1):=rfl
     rw [this];exact hnf)]
    show Inl.okL 0 (txI w::y::E)
    rw [Inl.okL,Inl.okL]
    exact ⟨hok,fun h=>by have:=h.2;omega,g1,fun h=>hy (by have h1:(1:Int)=y.kd:=h.1;omega),g3⟩
mutual
theorem sig_any:∀ (x:Inl),x.sig entP->x.anyK refKinds=false
 | .mk k t d ti a ar ci ks,h=>by
  rw [Inl.sig] at h
  obtain ⟨h1,h2⟩:=h
  unfold entP at h1
  rw [Inl.anyK,sigL_any ks h2,Bool.or_false]
  unfold refKinds
  simp
  omega
theorem sigL_any:∀ (l:List Inl),Inl.sigL entP l->Inl.anyL refKinds l=false
 | [],_=>by rw [Inl.anyL]
 | x::l,h=>by
  rw [Inl.sigL] at h
  rw [Inl.anyL,sig_any x h.1,sigL_any l h.2];rfl
end
structure EnWf (e:En):Prop where
 id:AscS e.id
 ok:Inl.okL 0 e.line
 sg:Inl.sigL entP e.line
 tx:AscS e.tx
theorem sh_sig (e:En) (h:EnWf e):Inl.sigL entP (Inl.mergeL (q0z e)):=by
 have h0:Inl.sigL entP ([]:List Inl):=by rw [Inl.sigL];trivial
 refine Inl.sig_mergeA _ [] h0 ?_
 unfold q0z
 refine sig_app _ _ ?_ h.sg
 split
 ·exact h0
 ·exact sig_one (entP_tx _)
theorem shown_err (e:En) (h:EnWf e):E01 (q18 [q21 e]):=by
 have h1:AscS (hashB++e.id):=asc_app _ _ (by intro c hc;simp [hashB] at hc;subst hc;decide) h.id
 have h2:=sigL_any _ (sh_sig e h)
 have h3:Inl.okL 0 (Inl.mergeL (q0z e)):=sh_okL e.tx e.line h.tx h.ok
 have h4:q0d (⟨#[]⟩:ByteArray)=true:=asc_line _ (by intro c hc;simp at hc)
 have ho:q0l 0 true true 9 ⟨#[]⟩ (hashB++e.id) ⟨#[]⟩ at0 [] [] (Inl.mergeL (q0z e))=0:=by
  unfold q0l
  rw [if_neg (by simp [q0b,At.none,at0,q06]),if_neg (by decide),if_neg (by decide),if_neg (by decide),if_neg (by decide),if_pos (.inl rfl)]
  unfold q1m
  rw [if_neg (by simp [q06]),if_neg (by simp [q06]),if_neg (by rw [asc_line _ h1,h4];simp),if_neg (by rw [h2];simp),if_neg (by decide)]
 unfold q18
 rw [Inl.errL,if_neg (by decide)]
 refine e01_seq ?_ (by rw [Inl.errL];exact .inl rfl)
 unfold q21
 rw [Inl.err]
 refine e01_seq ?_ (Inl.okL_err _ 0 true 1 (Nat.le_refl _) h3)
 show E01 (q0l 0 true true 9 ⟨#[]⟩ (hashB++e.id) ⟨#[]⟩ at0 [] [] (Inl.mergeL (q0z e)))
 rw [ho];exact .inl rfl
theorem bl_para (e:En):q0q 1 0 ⟨#[]⟩ ⟨#[]⟩ ⟨#[]⟩ ⟨#[]⟩ at0 [q21 e] []=true:=by simp [q0q,At.none,at0,q06]
theorem bl_item (ks:List Blk):q0q 9 0 ⟨#[]⟩ ⟨#[]⟩ ⟨#[]⟩ ⟨#[]⟩ at0 [] ks=true:=by simp [q0q,At.none,at0,q06]
theorem bl_bul (ks:List Blk):q0q 7 0 ⟨#[]⟩ ⟨#[]⟩ ⟨#[]⟩ ⟨#[]⟩ at0 [] ks=true:=by simp [q0q,At.none,at0,q06]
theorem bul_err (cl:ByteArray->Bool) (par:Int) (hp:par=0\/par=9) (dp:Nat) (items:List Blk) (h:∀ dp',E01 (Blk.errL cl 7 dp' items)):E01 (Blk.errL cl par dp (bulB items)):=by
 unfold bulB
 split
 ·rw [Blk.errL];exact .inl rfl
 ·rename_i hne
  rw [Blk.errL]
  refine e01_seq ?_ (by rw [Blk.errL];exact .inl rfl)
  rw [Blk.err]
  split
  ·exact .inr rfl
  ·rw [if_neg (by rw [bl_bul];rcases hp with rfl | rfl<;>simp [placeB])]
   refine e01_seq ?_ (h _)
   unfold q1z
   rw [if_neg (by decide),if_neg (by decide),if_neg (by decide),if_neg (by decide),if_neg (by decide),if_pos (.inl rfl),if_neg hne,if_neg (by decide)]
   exact .inl rfl
theorem items_err (cl:ByteArray->Bool) (n:Nat):∀ (l:List En),l.length<=n->(∀ e∈l,EnWf e)->∀ dp,E01 (Blk.errL cl 7 dp (q1r l)):=by
 induction n with
 | zero=>
  intro l hl _ dp
  rw [List.eq_nil_of_length_eq_zero (Nat.le_zero.1 hl),q0f,Blk.errL];exact .inl rfl
 | succ n ih=>
  intro l hl h dp
  cases l with
  | nil=>rw [q0f,Blk.errL];exact .inl rfl
  | cons e l=>
   rw [List.length_cons] at hl
   have h1:=q26 e.over l
   have h2:=q2e e.over l
   have ht:=ih (l.takeWhile e.over) (by omega) (fun x hx=>h x (List.mem_cons_of_mem _ ((List.takeWhile_prefix e.over).subset hx)))
   have hd:=ih (l.dropWhile e.over) (by omega) (fun x hx=>h x (List.mem_cons_of_mem _ ((List.dropWhile_suffix e.over).subset hx)))
   rw [q14,Blk.errL]
   refine e01_seq ?_ (hd dp)
   unfold itemB
   rw [Blk.err]
   split
   ·exact .inr rfl
   ·rw [if_neg (by rw [bl_item];simp [placeB])]
    refine e01_seq (by simp [q1z];exact .inl rfl) ?_
    rw [Blk.errL]
    refine e01_seq ?_ (bul_err cl 9 (.inr rfl) _ _ ht)
    unfold paraB
    rw [Blk.err]
    split
    ·exact .inr rfl
    ·rw [if_neg (by rw [bl_para];simp [placeB])]
     refine e01_seq ?_ (by rw [Blk.errL];exact .inl rfl)
     unfold q1z
     rw [if_pos rfl,if_neg (by simp)]
     exact shown_err e (h e (List.mem_cons_self ..))
theorem list_err (cl:ByteArray->Bool) (l:List En) (h:∀ e∈l,EnWf e):E01 (Blk.errL cl 0 0 (q1v l)):=
 bul_err cl 0 (.inl rfl) 0 _ (items_err cl l.length l (Nat.le_refl _) h)
open Go.RowKit Go.Maps
def BolAt (w:World) (b n:Nat) (f:ByteArray->Bool):Prop:=
 ∃ D:DataW Unit,w.ownsMap Tryz.prog 9 (plainElem Tryz.prog 4) b n D/\∀ s:ByteArray,D.atKey (sKey s) (.lit (.bool false))=.lit (.bool (f s))
theorem BolAt.look {w:World} {b n:Nat} {f:ByteArray->Bool} (h:BolAt w b n f) (s:ByteArray) (hs:s.size<=maxLen) :
  (Instr.lookup 112 (.map (some b)) (.string s) false).run Tryz.prog w=.ok (.bool (f s)) w:=by
 obtain ⟨D,hD,hat⟩:=h
 obtain ⟨v,ps,hrun,hv⟩:=hD.lookup keyS Tryz.underlying112 (zeroB w) (plainElem_bool Tryz.underlying4 false) (sKey_of s hs)
 rw [hat s] at hv
 obtain ⟨x,rfl,hx⟩:=plainB_inv Tryz.underlying4 hv
 have:f s=x:=by
  have:=(Prod.mk.inj hx).1
  exact Lit.bool.inj (DataW.lit.inj this)
 subst this;exact hrun
theorem BolAt.put {w:World} {b n:Nat} {f:ByteArray->Bool} (h:BolAt w b n f) (s:ByteArray) (x:Bool) (hs:s.size<=maxLen) (hn:n<maxLen) :
  ∃ w',(Instr.mapUpdate 112 (.map (some b)) (.string s) (.bool x)).run Tryz.prog w=.ok () w'/\BolAt w' b (n+1) (fun t=>if t=s then x else f t)/\w.grownBy w' (some b):=by
 obtain ⟨D,hD,hat⟩:=h
 obtain ⟨w',hrun,hD',hg⟩:=hD.update keyS Tryz.underlying112 hn (sKey_of s hs) (plainElem_bool Tryz.underlying4 x)
 refine ⟨w',hrun,⟨_,hD',fun t=>?_⟩,hg⟩
 by_cases e:t=s
 ·subst e
  rw [atKey_put_same (owns_isMap hD) (sKey_lit t)]
  show _=DataW.lit (.bool (if t=t then x else f t))
  rw [if_pos rfl]
 ·rw [atKey_put_other (fun h=>e (sKey_inj _ _ h)),hat t]
  show _=DataW.lit (.bool (if t=s then x else f t))
  rw [if_neg e]
theorem BolAt.made (w:World):BolAt (w.alloc (.map #[] 0)) w.heap.size 0 (fun _=>false):=
 ⟨_,World.ownsMap_made w _ _ _,fun s=>rfl⟩
theorem BolAt.kept {w w':World} {b n:Nat} {f:ByteArray->Bool} {row:Option Nat} (h:BolAt w b n f) (hg:w.grownBy w' row) (hne:some b≠row):BolAt w' b n f:=by
 obtain ⟨D,hD,hat⟩:=h
 exact ⟨D,hD.kept hg hne,hat⟩
theorem BolAt.lt {w:World} {b n:Nat} {f:ByteArray->Bool} (h:BolAt w b n f):b<w.heap.size:=by
 obtain ⟨D,hD,_⟩:=h;exact hD.lt
theorem BolAt.obj {w:World} {b n:Nat} {f:ByteArray->Bool} (h:BolAt w b n f):∃ es c,w.heap[b]?=some (.map es c):=by
 obtain ⟨D,⟨es,c,h,_⟩,_⟩:=h;exact ⟨es,c,h⟩
theorem BolAt.below {w w':World} {b n:Nat} {f:ByteArray->Bool} (h:BolAt w b n f) (hb:Below w.heap.size w w'):BolAt w' b n f:=h.kept (q02 hb) (by simp)
theorem BolAt.same {w w':World} {b n:Nat} {f:ByteArray->Bool} (h:BolAt w b n f) (hb:w'.heap[b]?=w.heap[b]?):BolAt w' b n f:=by
 obtain ⟨D,⟨es,c,h1,h2,h3⟩,hat⟩:=h
 exact ⟨D,⟨es,c,hb.trans h1,h2,h3⟩,hat⟩
theorem BolAt.congr {w:World} {b n:Nat} {f g:ByteArray->Bool} (h:BolAt w b n f) (he:∀ x,f x=g x):BolAt w b n g:=by rw [<- funext he];exact h
open Go.RowKit Go.Shelf
attribute [local go_sem] Oper.semAt_some
mutual
theorem Blk.each_num:∀ (x:Blk),x.each.length=x.sz
 | .mk k lv i t d ti a li ks=>by rw [Blk.each,Blk.sz,List.length_cons,Blk.eachL_num ks];omega
theorem Blk.eachL_num:∀ (l:List Blk),(Blk.eachL l).length=Blk.szL l
 | []=>by rw [Blk.eachL,Blk.szL];rfl
 | x::l=>by rw [Blk.eachL,Blk.szL,List.length_append,Blk.each_num x,Blk.eachL_num l]
end
def Blk.infoOf:Blk->ByteArray
 | .mk _ _ i _ _ _ _ _ _=>i
structure Nt1 (mb pb Q:Nat) (W0:World) (bs:List Blk) (W:World):Prop where
 mp:∃ n,n<=bs.length/\BolAt W mb n (q1d (defN bs))
 bx:Box1 pb (.map (some mb)) 112 W
 os:W.os=W0.os
 tape:W.tape=W0.tape
 output:W.output=W0.output
 size:Q<=W.heap.size
 blk:∀ b,b<Q->b≠mb->W.heap[b]?=W0.heap[b]?
structure KpN (mb Q:Nat) (W W':World):Prop where
 os:W'.os=W.os
 tape:W'.tape=W.tape
 output:W'.output=W.output
 size:W.heap.size<=W'.heap.size
 blk:∀ b,b<Q->b≠mb->W'.heap[b]?=W.heap[b]?
 cel:∀ (b:Nat) (cs:Array Value) (t:TypeId) (g:Nat × Nat),W.heap[b]?=some (Obj.cells cs t g)->W'.heap[b]?=some (Obj.cells cs t g)
section
variable {mb pb Q:Nat} {W0 W W':World} {bs:List Blk}
theorem KpN.trans {A B C:World} (h:KpN mb Q A B) (k:KpN mb Q B C):KpN mb Q A C:=
 ⟨k.os.trans h.os,k.tape.trans h.tape,k.output.trans h.output,Nat.le_trans h.size k.size,fun b h1 h2=>(k.blk b h1 h2).trans (h.blk b h1 h2),fun b cs t g h1=>k.cel b cs t g (h.cel b cs t g h1)⟩
theorem KpN.refl (mb Q:Nat) (W:World):KpN mb Q W W:=⟨rfl,rfl,rfl,Nat.le_refl _,fun _ _ _=>rfl,fun _ _ _ _ h=>h⟩
theorem KpN.grown (h:W.grownBy W' none) (hS:Q<=W.heap.size):KpN mb Q W W':=
 ⟨h.os,h.tape,h.output,h.size,fun b h1 _=>h.block b (by omega) (by simp),fun b cs t g h1=>(h.block b (Array.getElem?_eq_some_iff.1 h1).1 (by simp)).trans h1⟩
theorem KpN.map (h:W.grownBy W' (some mb)) (hS:Q<=W.heap.size) (hm:∃ es c,W.heap[mb]?=some (.map es c)):KpN mb Q W W':=by
 refine ⟨h.os,h.tape,h.output,h.size,fun b h1 h2=>h.block b (by omega) (fun e=>h2 (Option.some.inj e)),fun b cs t g h1=>(h.block b (Array.getElem?_eq_some_iff.1 h1).1 (fun e=>?_)).trans h1⟩
 obtain ⟨es,c,hm⟩:=hm
 rw [<- Option.some.inj e,h1] at hm;cases hm
theorem KpN.obj (W:World) (l:Nat) (o o':Obj) (hl:Q<=l) (ho:W.heap[l]?=some o) (hc:o.isCells=false):KpN mb Q W (W.putObj l o'):=by
 refine ⟨rfl,rfl,rfl,by simp [World.putObj],fun b h1 _=>World.putObj_heap_other (by omega),fun b cs t g h1=>?_⟩
 refine (World.putObj_heap_other ?_).trans h1
 rintro rfl
 rw [ho] at h1
 cases h1
 cases hc
theorem KpN.ok {S:Nat} (h1:S<=mb) (h2:S<=Q):KpOk S (KpN mb Q) where
 below h:=⟨h.os,h.tape,h.output,h.size,fun b hb=>h.blk b (by omega) (by omega)⟩
 yld h hb:=h.cel _ _ _ _ hb
 wlk h hb:=h.cel _ _ _ _ hb
theorem Nt1.grown (h:Nt1 mb pb Q W0 bs W) {row:Option Nat} (hg:W.grownBy W' row) (hr:∀ r,row=some r->Q<=r) (hm:mb<Q) (hp:pb<Q):Nt1 mb pb Q W0 bs W':=by
 have hz:=h.size
 have hn:∀ b,b<Q->some b≠row:=fun b hb e=>by have:=hr b e.symm;omega
 obtain ⟨n,hn1,hn2⟩:=h.mp
 exact ⟨⟨n,hn1,hn2.kept hg (hn _ hm)⟩,(hg.block pb (by omega) (hn _ hp)).trans h.bx,hg.os.trans h.os,hg.tape.trans h.tape,hg.output.trans h.output,Nat.le_trans h.size hg.size,fun b h1 h2=>(hg.block b (by omega) (hn b h1)).trans (h.blk b h1 h2)⟩
theorem defN_snoc (bs:List Blk) (x:Blk):defN (bs++[x])=defN bs++defN [x]:=by unfold defN;rw [List.filterMap_append]
theorem hasB_app (l m:List ByteArray) (t:ByteArray):q1d (l++m) t=(q1d l t||q1d m t):=by unfold q1d;rw [List.any_append]
theorem Nt1.skip (h:Nt1 mb pb Q W0 bs W) (x:Blk) (hx:x.kindOf≠14):Nt1 mb pb Q W0 (bs++[x]) W:=by
 obtain ⟨n,hn1,hn2⟩:=h.mp
 have e:defN [x]=[]:=by
  obtain ⟨k,lv,i,t,d,ti,a,li,ks⟩:=x
  have hx:k≠14:=hx
  simp [defN,hx]
 exact { h with mp:=⟨n,by simp;omega,by rw [defN_snoc,e,List.append_nil];exact hn2⟩ }
theorem Nt1.put (h:Nt1 mb pb Q W0 bs W) (x:Blk) (hx:x.kindOf=14) (hp:pb≠mb) {n:Nat} (hn:n<=bs.length) (hg:W.grownBy W' (some mb)) (hb:BolAt W' mb (n+1) (fun t=>if t=x.infoOf then true else q1d (defN bs) t)) (hpq:pb<Q):Nt1 mb pb Q W0 (bs++[x]) W':=by
 have hz:=h.size
 have ne:∀ b,b≠mb->some b≠some mb:=fun b hb e=>hb (Option.some.inj e)
 refine ⟨⟨n+1,by simp;omega,hb.congr fun t=>?_⟩,(hg.block pb (by omega) (ne _ hp)).trans h.bx,hg.os.trans h.os,hg.tape.trans h.tape,hg.output.trans h.output,Nat.le_trans h.size hg.size,fun b h1 h2=>(hg.block b (by omega) (ne b h2)).trans (h.blk b h1 h2)⟩
 obtain ⟨k,lv,i,t',d,ti,a,li,ks⟩:=x
 have hx:k=14:=hx
 have e:defN [Blk.mk k lv i t' d ti a li ks]=[i]:=by simp [defN,hx]
 rw [defN_snoc,e,hasB_app]
 show (if t=i then true else q1d (defN bs) t)=_
 by_cases ht:t=i
 ·rw [if_pos ht,ht];simp [q1d]
 ·rw [if_neg ht]
  have:q1d [i] t=false:=by rw [hasB_no];simp [ht]
  rw [this,Bool.or_false]
end
theorem noteG_snoc (defs:List ByteArray):∀ (l:List Inl) (k:Nat) (x:Inl) (out:List ByteArray),l[k]?=some x ->
  noteG defs out (l.take (k+1))=(if x.kd=12/\q1d defs x.tx=true/\q1d (noteG defs out (l.take k)) x.tx=false then noteG defs out (l.take k)++[x.tx] else noteG defs out (l.take k))
 | [],_,_,_,h=>by simp at h
 | y::l,0,x,out,h=>by
  simp at h;subst h
  simp [noteG]
 | y::l,k+1,x,out,h=>by
  rw [List.take_succ_cons,List.take_succ_cons,noteG,noteG]
  exact noteG_snoc defs l k x _ (by simpa using h)
mutual
def Inl.mz:Inl->Nat
 | .mk k t d _ _ _ _ ks=>t.size+d.size+(if k=2\/k=3 then 1 else 0)+Inl.mzL ks
def Inl.mzL:List Inl->Nat
 | []=>0
 | x::l=>x.mz+Inl.mzL l
end
theorem mzL_nil:Inl.mzL []=0:=by rw [Inl.mzL]
theorem mzL_app:∀ (l m:List Inl),Inl.mzL (l++m)=Inl.mzL l+Inl.mzL m
 | [],m=>by rw [List.nil_append,mzL_nil];omega
 | x::l,m=>by rw [List.cons_append,Inl.mzL,Inl.mzL,mzL_app l m];omega
theorem mzL_one (x:Inl):Inl.mzL [x]=x.mz:=by rw [Inl.mzL,mzL_nil];omega
theorem tx_mz (x:Inl):x.tx.size<=x.mz:=by
 obtain ⟨k,t,d,ti,a,ar,ci,ks⟩:=x
 show t.size<=_
 rw [Inl.mz];omega
theorem mz_setTx (y:Inl) (t:ByteArray):(y.setTx (y.tx++t)).mz=y.mz+t.size:=by
 obtain ⟨k,t0,d,ti,a,ar,ci,ks⟩:=y
 show Inl.mz (.mk k (t0++t) d ti a ar ci ks)=_
 rw [Inl.mz,Inl.mz,ByteArray.size_append];omega
theorem addK_mz (q:Int) (out:List Inl) (x:Inl):Inl.mzL (addK q out x)<=Inl.mzL out+x.mz:=by
 unfold addK
 split
 ·split
  ·rename_i y hg
   split
   ·have h1:Inl.mzL out=Inl.mzL out.dropLast+y.mz:=by
     conv=>lhs;rw [q1s hg]
     rw [mzL_app,mzL_one]
    have h2:=tx_mz x
    rw [mzL_app,mzL_one,mz_setTx,h1];omega
   ·rw [mzL_app,mzL_one];omega
  ·rw [mzL_app,mzL_one];omega
 ·rw [mzL_app,mzL_one];omega
theorem addM_mz (out:List Inl) (x:Inl):Inl.mzL (addM out x)<=Inl.mzL out+x.mz:=by
 rw [addM_addK]
 split
 ·exact addK_mz 1 out x
 ·omega
theorem foldK_mz (q:Int):∀ (l out:List Inl),Inl.mzL (l.foldl (addK q) out)<=Inl.mzL out+Inl.mzL l
 | [],out=>by rw [List.foldl_nil];omega
 | x::l,out=>by
  have h1:=addK_mz q out x
  have h2:=foldK_mz q l (addK q out x)
  rw [List.foldl_cons,Inl.mzL];omega
mutual
theorem Inl.mergeX_mz:∀ (x:Inl),x.mergeX.mz<=x.mz
 | .mk k t d ti a ar ci ks=>by
  have:=Inl.mergeA_mz ks []
  rw [Inl.mergeX,Inl.mz,Inl.mz]
  rw [mzL_nil] at this
  omega
theorem Inl.mergeA_mz:∀ (l out:List Inl),Inl.mzL (Inl.mergeA out l)<=Inl.mzL out+Inl.mzL l
 | [],out=>by rw [Inl.mergeA];omega
 | x::l,out=>by
  have h1:=Inl.mergeA_mz l (addM out x.mergeX)
  have h2:=addM_mz out x.mergeX
  have h3:=Inl.mergeX_mz x
  rw [Inl.mergeA,Inl.mzL];omega
end
theorem merge_mz (l:List Inl):Inl.mzL (Inl.mergeL l)<=Inl.mzL l:=by
 have h2:=Inl.mergeA_mz l []
 rw [mzL_nil] at h2
 unfold Inl.mergeL;omega
theorem joinK_mz (q:Int) (l:List Inl):Inl.mzL (q1k q l)<=Inl.mzL l:=by
 have h1:=foldK_mz q l []
 rw [mzL_nil] at h1
 unfold q1k;omega
theorem join_mz (l:List Inl):Inl.mzL (q1k 4 (Inl.mergeL l))<=Inl.mzL l:=Nat.le_trans (joinK_mz 4 _) (merge_mz l)
mutual
theorem Inl.entX_mz:∀ (x:Inl),Inl.mzL x.entX<=x.mz
 | .mk k t d ti a ar ci ks=>by
  have h0:Inl.mzL (q1k 4 (Inl.mergeL (Inl.entR ks)))<=Inl.mzL ks:=Nat.le_trans (join_mz _) (Inl.entR_mz ks)
  have ht:∀ t,(txI t).mz=t.size:=fun t=>by
   unfold txI;rw [Inl.mz,mzL_nil,if_neg (by decide)]
   show t.size+0+0+0=t.size;omega
  rw [Inl.entX]
  split
  ·rw [Inl.mz];omega
  ·split
   ·rw [mzL_nil];omega
   ·split
    ·rw [mzL_one,ht,Inl.mz];omega
    ·split
     ·rename_i h4
      rw [mzL_one,ht,Inl.mz,if_pos h4]
      show 1<=_;omega
     ·split
      ·rw [mzL_one,Inl.mz,Inl.mz];omega
      ·split
       ·split
        ·rw [mzL_nil];omega
        ·rw [mzL_one,Inl.mz,Inl.mz];omega
       ·rw [mzL_one];omega
theorem Inl.entR_mz:∀ (l:List Inl),Inl.mzL (Inl.entR l)<=Inl.mzL l
 | []=>by rw [Inl.entR];omega
 | x::l=>by
  have h1:=Inl.entX_mz x
  have h2:=Inl.entR_mz l
  rw [Inl.entR,mzL_app,Inl.mzL];omega
end
theorem entL_mz (l:List Inl):Inl.mzL (entL l)<=Inl.mzL l:=Nat.le_trans (join_mz _) (Inl.entR_mz l)
end Go.Proofs.YtlbioncagkkkoaaGreatDoor
