/- Contract of toc.Of. A small document serves the entries. Plain part: the entries of a small document ask little. -/
import Derived.Test.YtlbioncagkkkoaaGreatDoorKCtR
import Derived.Test.YtlbioncagkkkoaaGreatDoorKTcE
import Derived.Test.YtlbioncagkkkoaaGreatDoorKRtO
import Derived.Deep.RegionHeld3
import Derived.Test.YtlbioncagkkkoaaGreatDoorKPlMz
import Derived.Test.YtlbioncagkkkoaaGreatDoorKWeight
import Derived.Test.YtlbioncagkkkoaaGreatDoorKEnW
import Derived.Test.YtlbioncagkkkoaaGreatDoorKPlVs
import Derived.Test.YtlbioncagkkkoaaGreatDoorKRtL
set_option maxHeartbeats 8000000
set_option maxRecDepth 100000
namespace Go.Proofs.YtlbioncagkkkoaaGreatDoor
open Go.RowKit
set_option linter.unusedVariables false
set_option linter.unusedSimpArgs false
structure LnOk (li:List Inl):Prop where
 sz:Inl.szL li<=1000000
 bd:Inl.bdL li
 tx:Inl.txBL li
 kd:Inl.kdwL li
 wt:Inl.wtL li<=100000000000
theorem LnOk.nil:LnOk []:=⟨by simp [Inl.szL],by simp [Inl.bdL],by simp [Inl.txBL],by simp [Inl.kdwL],by simp [Inl.wtL]⟩
structure DocW (l:List Blk):Prop where
 bd:Blk.bdL l
 sz:Blk.szL l<=800000
 ln:(Blk.inlsL l).length<=800000
 info:∀ b∈Blk.eachL l,infoOk b
 tx:∀ x∈Blk.inlsL l,x.tx.size<=1000000
 lines:∀ b∈Blk.eachL l,LnOk b.lineOf
def OfPost (w:World) (l:List En) (e:Ending) (w':World):Prop:=∃ v,e=.returned v/\Rd (w.heap.size<=·) w' (ensD l) [v]/\Below w.heap.size w w'
def OfRel (w2:World) (N:List Nm) (dep:Int) (v vi:Value) (wr:World):Prop:=
 ∃ (k:Nat) (rows:List (List Value)),k<=N.length/\vi=.int .i64 k/\RowU 42 5 (fun _=>False) wr.heap.size w2 ((tocL (N.take k) dep).map En.d) rows v wr
theorem tocL_len (l:List Nm) (dep:Int):(tocL l dep).length<=l.length:=by unfold tocL;rw [List.length_map];exact List.length_filter_le _ _
theorem of_any (l:List Blk) (vm vb:Value) (dep:Int) (w:World) (hm:∃ a n c,vm=.slice a n c) (hb:Rd (·<w.heap.size) w (q0x l) [vb]) (hd:DocW l) (hPT:PT w) :
  Calls Tryz.prog 10 #[.agg #[vm,vb],.int .i64 dep] w (OfPost w (tocL (q25 l) dep)):=by
 obtain ⟨am,nm,cm,rfl⟩:=hm
 obtain ⟨ab,nb,cb,rfl⟩:=Rd.slf hb
 obtain ⟨iE,hiE,hzE0,hzE1,hzE2⟩:=info_parts infoEn
 obtain ⟨S,hS⟩:∃ S,S=w.heap.size:=⟨_,rfl⟩
 obtain ⟨W0,hW0⟩:∃ W,W=(w.alloc (.cells #[.slice am nm cm,.slice ab nb cb] 25)).alloc (.cells #[.int .i64 dep] 3):=⟨_,rfl⟩
 have z0:W0.heap.size=S+2:=by rw [hW0,hS];simp
 have k0:CB 25 S [.slice am nm cm,.slice ab nb cb] W0:=by rw [hW0,hS];exact q04 (CB.new _ _ w) (World.grownBy_alloc _ _ none) (by simp)
 have k1:CB 3 (S+1) [.int .i64 dep] W0:=by
  have:=CB.new 3 [.int .i64 dep] (w.alloc (.cells #[.slice am nm cm,.slice ab nb cb] 25))
  rw [World.size_alloc] at this
  rw [hW0,hS];exact this
 have b0:Below w.heap.size w W0:=by rw [hW0];exact ((Below.refl _ _).alloc (Nat.le_refl _) _).alloc (by simp) _
 obtain ⟨mb,hmb⟩:∃ mb,mb=W0.heap.size:=⟨_,rfl⟩
 have TR:=Lib.hid (treatments_any W0)
 have HMB:Hid (mb=S+2):=by show _=_;rw [hmb,z0]
 rw [<- hmb] at TR
 have HB:=Lib.hid hb
 have HD:=Lib.hid hd
 have HPT:=Lib.hid hPT
 have HS:=Lib.hid hS
 have HW0:=Lib.hid hW0
 have K0:=Lib.hid k0
 have K1:=Lib.hid k1
 have B0:=Lib.hid b0
 have Z0:=Lib.hid z0
 have HLN:Hid (∀ x∈q25 l,NmOk LnOk x):=nums_ok LnOk LnOk.nil l hd.lines
 have hNl:(q25 l).length<=1600000:=by
  have h1:=nums_len l
  have h2:=hd.sz
  have h3:=hd.ln
  omega
 clear hb hd hPT hS hW0 k0 k1 b0 z0 hmb
 go_enter Tryz.func10,Tryz.ntmps10
 go_upto_region 1 with (fail)
 rw [<- HS.out,<- HW0.out]
 go_wp2_with fail
 (with_reducible refine TR.out.mono ?_)
 rintro e w1 ⟨rfl,hM1,b1⟩
 have b1w:Below W0.heap.size W0 w1:=b1.mono (by have:=HMB.out;have:=Z0.out;omega)
 have B1:=Lib.hid (q01 B0.out b1w)
 have KD1:=Lib.hid (K0.out.below b1w)
 have KI1:=Lib.hid (K1.out.below b1w)
 have hw1:=B1.out.size
 have NU:=Lib.hid (numbers_any l (.slice am nm cm) (.slice ab nb cb) w1 ⟨_,_,_,rfl⟩ ((HB.out.below B1.out).weaken (fun b hb=>Nat.lt_of_lt_of_le hb hw1)) HD.out.bd HD.out.sz HD.out.ln HD.out.info HD.out.tx (HPT.out.grown (q02 B1.out) (by simp)))
 have HM1:=Lib.hid hM1
 have x0:=KD1.out.cell 0 _ rfl
 have x1:=KD1.out.cell 1 _ rfl
 clear TR hM1 b1 b1w
 go_wp2_with fail
 (with_reducible refine NU.out.mono ?_)
 rintro e w2 ⟨v2,rfl,hN,b2⟩
 obtain ⟨N,hNe⟩:∃ N,N=q25 l:=⟨_,rfl⟩
 have HNE:=Lib.hid hNe
 rw [<- hNe] at hN hNl HLN
 rw [<- hNe]
 obtain ⟨a2,cap2,hv2,hs2⟩:=Rd.sl_open hN
 obtain rfl:v2=.slice a2 N.length cap2:=by simpa using hv2
 have hcap:N.length<=cap2:=by simpa using hs2.le
 have hmx:=hs2.max
 unfold maxLen at hmx
 have HS2:=Lib.hid hs2
 have KI2:=Lib.hid (KI1.out.below b2)
 have HM2:=Lib.hid (HM1.out.below b2)
 have HB2:=Lib.hid (q01 B1.out b2)
 have hw2:=b2.size
 have R0:=Lib.hid (show OfRel w2 N dep (.slice none 0 0) (.int .i64 0) w2 from ⟨0,[],Nat.zero_le _,rfl,RowU.nil _ _ _ _⟩)
 have hmlt:=HM2.out.lt
 clear NU hN hv2 hs2 b2 x0 x1 KD1 KI1 HM1 B1 B0 K0 K1 Z0 HB HD HPT HW0 hNe
 go_wp2
 go_loopw [7,16] (fun v vi wr=>OfRel w2 N dep v vi wr) (fun _ i _=>N.length-(intOf i).toNat)
 case atStart=>exact R0.out
 case round=>
  clear R0
  obtain ⟨k,rows,hk,rfl,hrow⟩:=hrel
  obtain ⟨ds,hds⟩:∃ ds,ds=(tocL (N.take k) dep).map En.d:=⟨_,rfl⟩
  rw [<- hds] at hrow
  obtain ⟨m,hm⟩:∃ m,m=ds.length:=⟨_,rfl⟩
  have hmk:m<=k:=by
   have:=tocL_len (N.take k) dep
   rw [List.length_take] at this
   rw [hm,hds,List.length_map];omega
  have HDN:=Lib.hid hm.symm
  have HDS:=Lib.hid hds
  obtain ⟨av,cv,rfl,-,-⟩:=hrow.cap hm.symm
  have HROW:=Lib.hid hrow
  have hbel:=hrow.bel
  clear hrow hm hds
  by_cases hlt:k<N.length
  ·obtain ⟨x,hx⟩:∃ x,N[k]?=some x:=⟨_,List.getElem?_eq_getElem hlt⟩
   have hok:=HLN.out x (List.mem_of_getElem? hx)
   have hsn:=tocL_snoc N dep k x hx
   obtain ⟨g,off,vl,rfl,hgo,hgl,c0,c1,c2,c3,hRl⟩:=nms_at (HS2.out.up0 hbel) hx
   obtain ⟨al,nl,cl,rfl⟩:=Rd.sl_form hRl
   have hent:entOf x=⟨levB x.val,x.id,x.val,entL x.line,[]⟩:=rfl
   have hshx:shownB dep x=shownB dep ⟨x.id,x.kind,x.val,x.line⟩:=rfl
   obtain ⟨id,kd,val,line⟩:=x
   dsimp only at c0 c1 c2 c3 hRl hok hent hshx
   obtain ⟨hlev,hln⟩:levB val<=6/\LnOk line:=hok
   obtain ⟨p,hp⟩:∃ p,p=wr.heap.size:=⟨_,rfl⟩
   obtain ⟨wA,hwA⟩:∃ wA,wA=wr.alloc (.cells #[.string id,.string kd,.string val,.slice al nl cl] 49):=⟨_,rfl⟩
   have PA:CB 49 p [.string id,.string kd,.string val,.slice al nl cl] wA:=by rw [hwA,hp];exact CB.new _ _ _
   have UA:=Lib.hid (show RowU 42 5 (fun _=>False) p w2 ds rows (.slice av m cv) wA by rw [hwA,hp];exact HROW.out.alloc _)
   have zA:wA.heap.size=p+1:=by rw [hwA,hp];simp
   have RL:=Lib.hid (show Rd (·<p) wA (q0w line) [.slice al nl cl] by
    rw [hp]
    exact Rd.keep (fun b hb hlt=>⟨hb.2,by rw [hwA];exact Below.heap_alloc _ _ b hlt⟩) _ _ hRl.inside)
   have hpw:w2.heap.size<=p:=by rw [hp];exact hbel.size
   have kiA:=KI2.out.below UA.out.bel
   have SH:=Lib.hid (shown_any ⟨id,kd,val,line⟩ (.slice al nl cl) dep (S+1) wA ⟨_,_,_,rfl⟩ (kiA.cell 0 _ rfl) (by show levB val<=1000;omega))
   have HPA:=Lib.hid PA
   have MA:=Lib.hid (HM2.out.below UA.out.bel)
   have HLNK:=Lib.hid hln
   have HSN:=Lib.hid (show (tocL (N.take (k+1)) dep).map En.d=ds++(if shownB dep ⟨id,kd,val,line⟩=true then [entOf ⟨id,kd,val,line⟩] else []).map En.d by rw [hsn,List.map_append,HDS.out])
   have HENT:=Lib.hid hent
   clear hRl hx hbel hgo hgl hsn kiA hln hent hshx HDS
   go_upto_region 7 with (fail)
   rw [<- hwA,<- hp]
   have e0:=PA.cell 0 _ rfl
   have e1:=PA.cell 1 _ rfl
   have e2:=PA.cell 2 _ rfl
   have e3:=PA.cell 3 _ rfl
   clear hwA hp HROW c0 c1 c2 c3 PA
   go_wp2_with fail
   (with_reducible refine SH.out.mono ?_)
   rintro e w3 ⟨rfl,b3⟩
   have U3:=Lib.hid (UA.out.below b3)
   have P3:=Lib.hid (HPA.out.below b3)
   have M3:=Lib.hid (MA.out.below b3)
   have RL3:=Lib.hid (RL.out.below (b3.mono (by omega)))
   have hw3:=b3.size
   have hpw3:p<=w3.heap.size:=by omega
   clear SH b3 e0 e1 e2 e3 UA HPA MA RL
   generalize shownB dep ⟨id,kd,val,line⟩=bb at *
   cases bb with
   | false=>
    have HX:Hid ((tocL (N.take (k+1)) dep).map En.d=ds):=by show _=_;rw [HSN.out];simp
    have HROW:=Lib.hid U3.out.top
    rw [<- HX.out] at HROW
    go_wp2
    go_roundw
    case rel=>exact ⟨k+1,_,by omega,by go_num,HROW.out⟩
    case measure=>simp [intOf];omega
   | true=>
    have HX:Hid ((tocL (N.take (k+1)) dep).map En.d=ds++[(entOf ⟨id,kd,val,line⟩).d]):=by show _=_;rw [HSN.out];simp
    have EL:=Lib.hid (entLine_any 1000000 line p (.slice al nl cl) mb 12 w3 HLNK.out.sz (Nat.le_refl _) RL3.out (by omega) HLNK.out.bd HLNK.out.tx HLNK.out.kd HLNK.out.wt M3.out)
    have e3:=P3.out.cell 3 _ rfl
    go_wp2_with fail
    (with_reducible refine EL.out.mono ?_)
    rintro e w4 ⟨vl4,rfl,hl4,b4⟩
    obtain ⟨al4,nl4,cl4,rfl⟩:=Rd.sl_form hl4
    have U4:=Lib.hid (U3.out.below b4).drew
    have P4:=P3.out.below b4
    have e0:=P4.cell 0 _ rfl
    have e2:=P4.cell 2 _ rfl
    have RD:=Lib.hid (show Rd (fun b=>False\/p<=b) w4.drew (entOf ⟨id,kd,val,line⟩).d [.int .i64 ((levB val:Nat):Int),.string id,.string val,.slice al4 nl4 cl4,.slice none 0 0] by
     rw [HENT.out]
     exact En.mk_ ⟨(levB val:Nat),id,val,entL line,[]⟩ ⟨Rd.keep (w:=w4) (w':=w4.drew) (ok:=(w3.heap.size<=·)) (fun b hb _=>⟨.inr (Nat.le_trans hpw3 hb),rfl⟩) _ _ hl4,Rd.nil_mk _ _ _⟩)
    have LV:=Lib.hid (fun (wz:World)=>levelOf_any val wz (by omega))
    have S0:w4.drew.cell? ⟨p,0,none⟩=some (.string id)/\w4.drew.cell? ⟨p,2,none⟩=some (.string val):=⟨e0,e2⟩
    have hp4:p<w4.heap.size:=P4.lt
    have hpv:(Value.slice av m cv).ownBlock≠some p:=U4.out.ne (Nat.le_refl _)
    clear e3 EL hl4 b4 U3 P3 M3 RL3 HSN HENT HLNK P4 e0 e2
    go_wp2_with fail
    go_region_held3 (fun w'=>w'.cell? ⟨p,0,none⟩=some (.string id)/\w'.cell? ⟨p,2,none⟩=some (.string val))
     (first | exact S0 | assumption | exact ⟨past S0.1 _,past S0.2 _⟩ | exact S7)
     (first
      | (go_simp;go_at_call 27;(with_reducible refine (LV.out _).mono ?_);rintro e w5 ⟨rfl,rfl⟩)
      | (refine step_put rfl (.tmp 27) (.tmp 37) 29 rfl iE _ 88 Tryz.underlying29 hiE hzE0 hzE1 hzE2 rfl (by decide) U4.out (fun _=>False.elim) (entOf ⟨id,kd,val,line⟩).d [.int .i64 ((levB val:Nat):Int),.string id,.string val,.slice al4 nl4 cl4,.slice none 0 0] RD.out rfl one_five HDN.out (by omega) (by decide) rfl rfl ?_;intro a' c' w7 hrow hg7;have S7:w7.cell? ⟨p,0,none⟩=some (.string id)/\w7.cell? ⟨p,2,none⟩=some (.string val):=⟨(World.grownBy.cell_far hg7 ⟨p,0,none⟩ (by simp;omega) (fun e=>hpv e.symm)).trans (past S0.1 _),(World.grownBy.cell_far hg7 ⟨p,2,none⟩ (by simp;omega) (fun e=>hpv e.symm)).trans (past S0.2 _)⟩))
    all_goals
     have HROW:=Lib.hid hrow
     rw [<- HX.out] at HROW
     clear hrow
     go_wp2
     go_roundw
     case rel=>exact ⟨k+1,_,by omega,by go_num,HROW.out⟩
     case measure=>simp [intOf];omega
  ·have hkl:k=N.length:=by omega
   subst hkl
   rw [List.take_length] at HDS
   go_wp2
   go_ret
   have h1:=HROW.out.rd0
   rw [HDS.out] at h1
   refine ⟨.slice av m cv,rfl,?_,q01 HB2.out HROW.out.bel⟩
   rw [<- HNE.out]
   exact h1.weaken (fun b hb=>Nat.le_trans hw1 (Nat.le_trans hw2 hb))
mutual
theorem Inl.txB_sm:∀ (x:Inl),x.small->x.txB
 | .mk k t d ti a ar ci ks,h=>by
  rw [Inl.small] at h
  rw [Inl.txB]
  exact ⟨by have:=h.1;omega,Inl.txBL_sm ks h.2.2.2.2.2.2.2.2⟩
theorem Inl.txBL_sm:∀ (l:List Inl),Inl.smallL l->Inl.txBL l
 | [],_=>by rw [Inl.txBL];trivial
 | x::l,h=>by
  rw [Inl.smallL] at h
  rw [Inl.txBL];exact ⟨Inl.txB_sm x h.1,Inl.txBL_sm l h.2⟩
end
mutual
theorem Inl.wt_sm:∀ (x:Inl),x.small->x.wt<=601*x.sz
 | .mk k t d ti a ar ci ks,h=>by
  rw [Inl.small] at h
  rw [Inl.wt,Inl.sz]
  have h1:=h.1
  have h2:=h.2.1
  have:=Inl.wtL_sm ks h.2.2.2.2.2.2.2.2
  omega
theorem Inl.wtL_sm:∀ (l:List Inl),Inl.smallL l->Inl.wtL l<=601*Inl.szL l
 | [],_=>by rw [Inl.wtL,Inl.szL];omega
 | x::l,h=>by
  rw [Inl.smallL] at h
  rw [Inl.wtL,Inl.szL]
  have:=Inl.wt_sm x h.1
  have:=Inl.wtL_sm l h.2
  omega
end
mutual
theorem Inl.kdw_wf:∀ (x:Inl),x.wf->x.kdw
 | .mk k t d ti a ar ci ks,h=>by
  rw [Inl.wf] at h
  rw [Inl.kdw]
  exact ⟨h.1,Inl.kdwL_wf ks h.2.2.2.2.2.2.2.2.2.1⟩
theorem Inl.kdwL_wf:∀ (l:List Inl),Inl.wfL l->Inl.kdwL l
 | [],_=>by rw [Inl.kdwL];trivial
 | x::l,h=>by
  rw [Inl.wfL] at h
  rw [Inl.kdwL];exact ⟨Inl.kdw_wf x h.1,Inl.kdwL_wf l h.2⟩
end
mutual
theorem Blk.each_kdw:∀ (x:Blk),x.wf->∀ b∈x.each,Inl.kdwL b.lineOf
 | .mk k lv i t d ti a li ks,h,b,hb=>by
  rw [Blk.wf] at h
  rw [Blk.each] at hb
  rcases List.mem_cons.1 hb with rfl | hb
  ·exact Inl.kdwL_wf li h.2.2.2.2.2.2.2.1
  ·exact Blk.eachL_kdw ks h.2.2.2.2.2.2.2.2.2.1 b hb
theorem Blk.eachL_kdw:∀ (l:List Blk),Blk.wfL l->∀ b∈Blk.eachL l,Inl.kdwL b.lineOf
 | [],_,b,hb=>by rw [Blk.eachL] at hb;cases hb
 | x::l,h,b,hb=>by
  rw [Blk.wfL] at h
  rw [Blk.eachL] at hb
  rcases List.mem_append.1 hb with hb | hb
  ·exact Blk.each_kdw x h.1 b hb
  ·exact Blk.eachL_kdw l h.2 b hb
end
theorem ln_small (li:List Inl) (h:Inl.smallL li) (hs:Inl.szL li<=120) (hk:Inl.kdwL li):LnOk li:=
 ⟨by omega,Inl.bdL_sm li h,Inl.txBL_sm li h,hk,by have:=Inl.wtL_sm li h;omega⟩
theorem docW_small (l:List Blk) (h:Blk.smallL l) (ha:Blk.allL l<=120) (hk:∀ b∈Blk.eachL l,Inl.kdwL b.lineOf):DocW l where
 bd:=Blk.bdL_sm l h
 sz:=by have:=Blk.allL_sz l;omega
 ln:=by have:=Blk.allL_sz l;omega
 info:=fun b hb=>by
  have h1:=Blk.eachL_small l h b hb
  obtain ⟨k,lv,i,t,d,ti,a,li,ks⟩:=b
  rw [Blk.small] at h1
  show i.size<=1000
  omega
 tx:=fun x hx=>by
  have h1:=Blk.inlsL_small l h x hx
  obtain ⟨k,t,d,ti,a,ar,ci,ks⟩:=x
  rw [Inl.small] at h1
  show t.size<=1000000
  omega
 lines:=fun b hb=>by
  have h1:=Blk.eachL_small l h b hb
  have h2:=hk b hb
  obtain ⟨k,lv,i,t,d,ti,a,li,ks⟩:=b
  rw [Blk.small] at h1
  exact ln_small li h1.2.2.2.2.2.1 h1.2.2.2.2.2.2.1 h2
mutual
theorem Blk.bare_small:∀ (b:Blk),b.small->(b.wk fun _=>[]).small
 | .mk k lv i t d ti a li ks,h=>by
  rw [Blk.small] at h
  obtain ⟨h1,h2,h3,h4,h5,h6,h7,h8⟩:=h
  rw [Blk.wk,Blk.small]
  refine ⟨h1,h2,h3,h4,h5,h6,h7,?_⟩
  split
  ·rw [Blk.smallL];trivial
  ·exact Blk.bareL_small ks h8
theorem Blk.bareL_small:∀ (l:List Blk),Blk.smallL l->Blk.smallL (Blk.wkL (fun _=>[]) l)
 | [],h=>by rw [Blk.wkL];exact h
 | x::l,h=>by
  rw [Blk.smallL] at h
  rw [Blk.wkL,Blk.smallL]
  exact ⟨Blk.bare_small x h.1,Blk.bareL_small l h.2⟩
end
mutual
theorem Blk.bare_all:∀ (b:Blk),(b.wk fun _=>[]).all<=b.all
 | .mk k lv i t d ti a li ks=>by
  rw [Blk.wk,Blk.all,Blk.all]
  split
  ·rw [Blk.allL];omega
  ·have:=Blk.bareL_all ks;omega
theorem Blk.bareL_all:∀ (l:List Blk),Blk.allL (Blk.wkL (fun _=>[]) l)<=Blk.allL l
 | []=>by rw [Blk.wkL];exact Nat.le_refl _
 | x::l=>by
  rw [Blk.wkL,Blk.allL,Blk.allL]
  have:=Blk.bare_all x
  have:=Blk.bareL_all l
  omega
end
def Blk.idOf:Blk->ByteArray
 | .mk _ _ _ _ _ _ a _ _=>a.id
mutual
theorem Blk.bare_each:∀ (b x:Blk),x∈(b.wk fun _=>[]).each->∃ y∈b.each,x.lineOf=y.lineOf
 | .mk k lv i t d ti a li ks,x,h=>by
  rw [Blk.wk,Blk.each] at h
  rw [Blk.each]
  rcases List.mem_cons.1 h with rfl | h
  ·exact ⟨_,List.mem_cons_self ..,rfl⟩
  ·split at h
   ·rw [Blk.eachL] at h;cases h
   ·obtain ⟨y,hy,e⟩:=Blk.bareL_each ks x h
    exact ⟨y,List.mem_cons_of_mem _ hy,e⟩
theorem Blk.bareL_each:∀ (l:List Blk) (x:Blk),x∈Blk.eachL (Blk.wkL (fun _=>[]) l)->∃ y∈Blk.eachL l,x.lineOf=y.lineOf
 | [],x,h=>by rw [Blk.wkL,Blk.eachL] at h;cases h
 | b::l,x,h=>by
  rw [Blk.wkL,Blk.eachL] at h
  rw [Blk.eachL]
  rcases List.mem_append.1 h with h | h
  ·obtain ⟨y,hy,e⟩:=Blk.bare_each b x h
   exact ⟨y,List.mem_append_left _ hy,e⟩
  ·obtain ⟨y,hy,e⟩:=Blk.bareL_each l x h
   exact ⟨y,List.mem_append_right _ hy,e⟩
end
def IdOk (V:Nat) (x:Nm):Prop:=x.id.size<=V
theorem one_ids {V:Nat} (free:Bool) (s:Ns) (k lv:Int) (i:ByteArray) (a:At) (li:List Inl) (ks:List Blk) (ha:a.id.size<=V) (hs:∀ x∈s.out,IdOk V x):∀ x∈(q2g free s k lv i a li ks).out,IdOk V x:=by
 have add:∀ (y:Nm),IdOk V y->∀ x∈s.out++[y],IdOk V x:=by
  intro y hy x hx
  rcases List.mem_append.1 hx with hx | hx
  ·exact hs x hx
  ·simp at hx;subst hx;exact hy
 unfold q2g
 split
 ·exact add _ ha
 ·split
  ·exact add _ ha
  ·split
   ·exact add _ ha
   ·split
    ·exact add _ ha
    ·exact hs
mutual
theorem Blk.num_ids (V:Nat):∀ (b:Blk) (free:Bool) (s:Ns),(∀ x∈b.each,x.idOf.size<=V)->(∀ x∈s.out,IdOk V x)->∀ x∈(b.num free s).out,IdOk V x
 | .mk k lv i t d ti a li ks,free,s,h,hs=>by
  rw [Blk.each] at h
  rw [Blk.num]
  exact Blk.numL_ids V ks _ _ (fun x hx=>h x (List.mem_cons_of_mem _ hx)) (one_ids free s k lv i a li ks (h _ (List.mem_cons_self ..)) hs)
theorem Blk.numL_ids (V:Nat):∀ (l:List Blk) (free:Bool) (s:Ns),(∀ x∈Blk.eachL l,x.idOf.size<=V)->(∀ x∈s.out,IdOk V x)->∀ x∈(Blk.numL free s l).out,IdOk V x
 | [],_,_,_,hs=>by rw [Blk.numL];exact hs
 | x::l,free,s,h,hs=>by
  rw [Blk.eachL] at h
  rw [Blk.numL]
  exact Blk.numL_ids V l _ _ (fun y hy=>h y (List.mem_append_right _ hy)) (Blk.num_ids V x free s (fun y hy=>h y (List.mem_append_left _ hy)) hs)
end
theorem note_kind:∀ (l:List ByteArray) (j:Nat),∀ x∈q1j j l,x.kind=notS
 | [],_,x,hx=>by simp [q1j] at hx
 | y::l,j,x,hx=>by
  rw [q1j] at hx
  rcases List.mem_cons.1 hx with rfl | hx
  ·rfl
  ·exact note_kind l (j+1) x hx
theorem sec_ids (l:List Blk) (V:Nat) (h:∀ x∈Blk.eachL l,x.idOf.size<=V):∀ x∈q25 l,x.kind=secS->IdOk V x:=by
 intro x hx hk
 unfold q25 at hx
 rcases List.mem_append.1 hx with hx | hx
 ·exact Blk.numL_ids V l true ns0 h (by simp [ns0]) x hx
 ·rw [note_kind _ _ x hx] at hk
  exact absurd hk (by decide)
theorem bd_app:∀ (l m:List Inl),Inl.bdL l->Inl.bdL m->Inl.bdL (l++m)
 | [],m,_,h=>h
 | x::l,m,h,h2=>by rw [Inl.bdL] at h;rw [List.cons_append,Inl.bdL];exact ⟨h.1,bd_app l m h.2 h2⟩
theorem bd_one {x:Inl} (h:x.bd):Inl.bdL [x]:=by rw [Inl.bdL,Inl.bdL];exact ⟨h,trivial⟩
theorem bd_nil:Inl.bdL []:=by rw [Inl.bdL];trivial
theorem bd_mem:∀ (l:List Inl),Inl.bdL l->∀ x∈l,x.bd
 | x::l,h,y,hy=>by
  rw [Inl.bdL] at h
  rcases List.mem_cons.1 hy with rfl | hy
  ·exact h.1
  ·exact bd_mem l h.2 y hy
theorem bd_of:∀ (l:List Inl),(∀ x∈l,x.bd)->Inl.bdL l
 | [],_=>bd_nil
 | x::l,h=>by rw [Inl.bdL];exact ⟨h x (List.mem_cons_self ..),bd_of l (fun y hy=>h y (List.mem_cons_of_mem _ hy))⟩
theorem bd_setTx (x:Inl) (t:ByteArray) (h:x.bd):(x.setTx t).bd:=by
 obtain ⟨k,t0,d,ti,a,ar,ci,ks⟩:=x
 rw [Inl.bd] at h
 show Inl.bd (.mk k t d ti a ar ci ks)
 rw [Inl.bd];exact h
theorem bd_addK (q:Int) (out:List Inl) (x:Inl) (ho:Inl.bdL out) (hx:x.bd):Inl.bdL (addK q out x):=by
 unfold addK
 split
 ·split
  ·rename_i y hg
   split
   ·refine bd_app _ _ (bd_of _ fun z hz=>bd_mem out ho z (List.dropLast_subset _ hz)) (bd_one (bd_setTx y _ ?_))
    exact bd_mem out ho y (by rw [q1s hg];simp)
   ·exact bd_app _ _ ho (bd_one hx)
  ·exact bd_app _ _ ho (bd_one hx)
 ·exact bd_app _ _ ho (bd_one hx)
theorem bd_addM (out:List Inl) (x:Inl) (ho:Inl.bdL out) (hx:x.bd):Inl.bdL (addM out x):=by
 rw [addM_addK]
 split
 ·exact bd_addK 1 out x ho hx
 ·exact ho
theorem bd_foldK (q:Int):∀ (l out:List Inl),Inl.bdL out->Inl.bdL l->Inl.bdL (l.foldl (addK q) out)
 | [],out,ho,_=>ho
 | x::l,out,ho,h=>by
  rw [Inl.bdL] at h
  rw [List.foldl_cons]
  exact bd_foldK q l _ (bd_addK q out x ho h.1) h.2
mutual
theorem Inl.bd_mergeX:∀ (x:Inl),x.bd->x.mergeX.bd
 | .mk k t d ti a ar ci ks,h=>by
  rw [Inl.bd] at h
  obtain ⟨h1,h2,h3,h4,h5⟩:=h
  rw [Inl.mergeX,Inl.bd]
  exact ⟨h1,h2,h3,h4,Inl.bd_mergeA ks [] bd_nil h5⟩
theorem Inl.bd_mergeA:∀ (l out:List Inl),Inl.bdL out->Inl.bdL l->Inl.bdL (Inl.mergeA out l)
 | [],out,ho,_=>by rw [Inl.mergeA];exact ho
 | x::l,out,ho,h=>by
  rw [Inl.bdL] at h
  rw [Inl.mergeA]
  exact Inl.bd_mergeA l _ (bd_addM out _ ho (Inl.bd_mergeX x h.1)) h.2
end
theorem bd_join (l:List Inl) (h:Inl.bdL l):Inl.bdL (q1k 4 (Inl.mergeL l)):=bd_foldK 4 _ [] bd_nil (Inl.bd_mergeA l [] bd_nil h)
theorem bd_tx (t:ByteArray):(txI t).bd:=by
 unfold txI
 rw [Inl.bd]
 exact ⟨by simp [at0],by simp [at0],by simp,by simp,bd_nil⟩
mutual
theorem Inl.ent_bd:∀ (x:Inl),x.bd->Inl.bdL x.entX
 | .mk k t d ti a ar ci ks,h=>by
  rw [Inl.bd] at h
  obtain ⟨h1',h2',h3',h4',h5'⟩:=h
  have hk:=bd_join _ (Inl.entR_bd ks h5')
  rw [Inl.entX]
  by_cases h1:k=9\/k=11
  ·rw [if_pos h1];exact hk
  rw [if_neg h1]
  by_cases h2:k=12\/k=14\/k=13
  ·rw [if_pos h2];exact bd_nil
  rw [if_neg h2]
  by_cases h3:k=16
  ·rw [if_pos h3];exact bd_one (bd_tx _)
  rw [if_neg h3]
  by_cases h4:k=2\/k=3
  ·rw [if_pos h4];exact bd_one (bd_tx _)
  rw [if_neg h4]
  by_cases h5:k=10
  ·rw [if_pos h5]
   refine bd_one ?_
   rw [Inl.bd]
   exact ⟨by simp [at0],by simp [at0],h3',h4',hk⟩
  rw [if_neg h5]
  by_cases h6:k=6\/k=7\/k=8
  ·rw [if_pos h6]
   split
   ·exact bd_nil
   ·refine bd_one ?_
    rw [Inl.bd];exact ⟨h1',h2',h3',h4',hk⟩
  ·rw [if_neg h6]
   refine bd_one ?_
   rw [Inl.bd]
   exact ⟨h1',h2',h3',h4',h5'⟩
theorem Inl.entR_bd:∀ (l:List Inl),Inl.bdL l->Inl.bdL (Inl.entR l)
 | [],_=>by rw [Inl.entR];exact bd_nil
 | x::l,h=>by
  rw [Inl.bdL] at h
  rw [Inl.entR]
  exact bd_app _ _ (Inl.ent_bd x h.1) (Inl.entR_bd l h.2)
end
theorem entL_bd (l:List Inl) (h:Inl.bdL l):Inl.bdL (entL l):=bd_join _ (Inl.entR_bd l h)
mutual
theorem Inl.txB_mz:∀ (x:Inl),x.mz<=100000->x.txB
 | .mk k t d ti a ar ci ks,h=>by
  rw [Inl.mz] at h
  rw [Inl.txB]
  exact ⟨by omega,Inl.txBL_mz ks (by omega)⟩
theorem Inl.txBL_mz:∀ (l:List Inl),Inl.mzL l<=100000->Inl.txBL l
 | [],_=>by rw [Inl.txBL];trivial
 | x::l,h=>by
  rw [Inl.mzL] at h
  rw [Inl.txBL];exact ⟨Inl.txB_mz x (by omega),Inl.txBL_mz l (by omega)⟩
end
mutual
theorem Inl.mz_small:∀ (x:Inl),x.small->x.mz<=601*x.sz
 | .mk k t d ti a ar ci ks,h=>by
  rw [Inl.small] at h
  rw [Inl.mz,Inl.sz]
  have h1:=h.1
  have h2:=h.2.1
  have:=Inl.mzL_small ks h.2.2.2.2.2.2.2.2
  split<;>omega
theorem Inl.mzL_small:∀ (l:List Inl),Inl.smallL l->Inl.mzL l<=601*Inl.szL l
 | [],_=>by rw [Inl.mzL,Inl.szL];omega
 | x::l,h=>by
  rw [Inl.smallL] at h
  rw [Inl.mzL,Inl.szL]
  have:=Inl.mz_small x h.1
  have:=Inl.mzL_small l h.2
  omega
end
structure EnMd (x:En):Prop where
 id:x.id.size<=1000
 tx:x.tx.size<=10000
 bd:Inl.bdL x.line
 txb:Inl.txBL x.line
 sz:Inl.szL x.line<=120
theorem md_sz (x:En) (h:EnMd x):Inl.szL (q0z x)<=121:=by
 unfold q0z
 rw [szL_app2]
 have:=h.sz
 split
 ·rw [Inl.szL];omega
 ·rw [szL_one];unfold txI;rw [Inl.sz,Inl.szL];omega
theorem md_bd (x:En) (h:EnMd x):Inl.bdL (q0z x):=by
 unfold q0z
 split
 ·exact h.bd
 ·exact bd_app _ _ (bd_one (bd_tx _)) h.bd
theorem md_tx (x:En) (h:EnMd x):Inl.txBL (q0z x):=by
 unfold q0z
 split
 ·exact h.txb
 ·show Inl.txBL (_::x.line)
  rw [Inl.txBL]
  refine ⟨?_,h.txb⟩
  unfold txI
  rw [Inl.txB,Inl.txBL]
  have:=h.tx
  refine ⟨?_,trivial⟩
  rw [ByteArray.size_append]
  show _+1<=_
  omega
theorem md_sh (x:En) (h:EnMd x):ShOk x where
 sz:=Nat.le_trans (md_sz x h) (by decide)
 bd:=md_bd x h
 tx:=md_tx x h
 id:=by have:=h.id;omega
 txs:=by have:=h.tx;omega
 lb:=h.bd
 ls:=by have:=h.sz;omega
theorem each_short (l:List Blk) (h:Blk.smallL l):∀ x∈Blk.eachL l,x.idOf.size<=1000:=by
 intro x hx
 have h1:=Blk.eachL_small l h x hx
 obtain ⟨k,lv,i,t,d,ti,a,li,ks⟩:=x
 rw [Blk.small] at h1
 have h2:=h1.2.2.2.2.1
 unfold At.short at h2
 show a.id.size<=1000
 omega
theorem line_md (l:List Blk) (h:Blk.smallL l):∀ x∈Blk.eachL l,Inl.smallL x.lineOf/\Inl.szL x.lineOf<=120:=by
 intro x hx
 have h1:=Blk.eachL_small l h x hx
 obtain ⟨k,lv,i,t,d,ti,a,li,ks⟩:=x
 rw [Blk.small] at h1
 exact ⟨h1.2.2.2.2.2.1,h1.2.2.2.2.2.2.1⟩
theorem toc_md (l:List Blk) (h:Blk.smallL l) (ha:Blk.allL l<=120) (h0:NsB ns0 0 0) (dep:Int):∀ x∈tocL (q25 l) dep,EnMd x:=by
 intro x hx
 obtain ⟨n,hn,hk,hid,hval,hln,-,-,-⟩:=tocL_from _ _ _ hx
 have h1:=sec_ids l 1000 (each_short l h) n hn hk
 have h2:=nums_vs l h0 n hn
 have h3:=nums_ok (fun li=>Inl.smallL li/\Inl.szL li<=120) ⟨by simp [Inl.smallL],by simp [Inl.szL]⟩ l (line_md l h) n hn
 have h4:=Blk.allL_sz l
 have h5:=Inl.mzL_small n.line h3.2.1
 have h6:=h3.2.2
 refine ⟨by rw [<- hid];exact h1,?_,?_,?_,?_⟩
 ·rw [<- hval];unfold VsOk at h2;omega
 ·rw [hln];exact entL_bd _ (Inl.bdL_sm _ h3.2.1)
 ·rw [hln];exact Inl.txBL_mz _ (Nat.le_trans (entL_mz _) (by omega))
 ·rw [hln];exact Nat.le_trans (entL_szle _) h6
theorem toc_cnt (l:List Blk) (ha:Blk.allL l<=120) (dep:Int):(tocL (q25 l) dep).length<=100000:=by
 have h1:=nums_len l
 have h2:=Blk.allL_sz l
 unfold tocL
 rw [List.length_map]
 exact Nat.le_trans (List.length_filter_le _ _) (by omega)
theorem fill_ens (l:List Blk) (h:Blk.smallL l) (ha:Blk.allL l<=120) (h0:NsB ns0 0 0):EnsOk (allE l):=
 ⟨toc_cnt (bareL l) (Nat.le_trans (Blk.bareL_all l) ha) 6,fun x hx=>md_sh x (toc_md (bareL l) (Blk.bareL_small l h) (Nat.le_trans (Blk.bareL_all l) ha) h0 6 x hx)⟩
theorem bare_docW (l:List Blk) (h:Blk.smallL l) (ha:Blk.allL l<=120) (hk:∀ b∈Blk.eachL l,Inl.kdwL b.lineOf):DocW (bareL l):=
 docW_small (bareL l) (Blk.bareL_small l h) (Nat.le_trans (Blk.bareL_all l) ha) (fun b hb=>by
  obtain ⟨y,hy,e⟩:=Blk.bareL_each l b hb
  rw [e];exact hk y hy)
end Go.Proofs.YtlbioncagkkkoaaGreatDoor
