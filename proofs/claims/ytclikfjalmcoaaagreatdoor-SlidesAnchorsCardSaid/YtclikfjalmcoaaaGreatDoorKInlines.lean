/- tree.Inlines$1: the inlines, and those in them, are added to what the box holds. tree.Inlines$2 and tree.Inlines: all inlines of blocks, in document order. tree.Inlines: all inlines of blocks, in document order. -/
import Derived.Test.YtclikfjalmcoaaaGreatDoorKRowE
import Derived.StillTailTactics
import Derived.Laws.EntriesVeiled
set_option maxHeartbeats 8000000
set_option maxRecDepth 100000
open Go.Lib (hid)
namespace Go.Proofs.YtclikfjalmcoaaaGreatDoor
open Nat renaming le_refl->ji8
open List renaming length_append->jiq
open Go.RowKit.Below renaming heap_alloc->jj2
open Go.World renaming cell?->jk0
open Go.RowKit
set_option linter.unusedVariables false
set_option linter.unusedSimpArgs false
theorem M8 (n:Nat):∀ (l:List aj) (B0 B bo bi:Nat) (acc:List aj) (wh:List (List Value)) (v vo:Value) (w:World),aj.aY l<=n->n<=1000000->Rd (·<B0) w (bG l) [v]->B0<=bo->B0<=bi->bo<B->bi<B->bo≠bi->aj.kK l->OL B0 B bo bi bo vo acc wh w->acc.length+aj.aY l<=1000000 -> Calls Tryz.prog 93 #[v,.pointer (some ⟨bo,0,none⟩),.pointer (some ⟨bi,0,none⟩)] w fun e w'=>e=.returned (.tuple #[])/\jl B0 B bo bi vo w (acc++aj.bK l) w':=by
 induction n using Nat.strongRecOn with
 | _ n ih=>
  intro l B0 B bo bi acc wh v vo w hn hnm hrd Ke h0i CG Ei hoi hbd wm hal;obtain ⟨a,cap,hv,hs⟩:=Rd.aG hrd;obtain rfl:v=.slice a l.length cap:=by simpa using hv
  have hcap:l.length<=cap:=by simpa using hs.le
  have hll:=aj.dB l;have hmx:=hs.max;have HS:=hid hs;have IH:=hid ih;have kV:=hid hbd;have R0:Hid (Tq B0 B bo bi vo w acc l (.int .i64 0) w):=⟨0,Nat.zero_le _,rfl,vo,wh,by rw [List.take_zero,aj.bK,List.append_nil];exact wm,⟨ji8 _,rfl,rfl,rfl,fun _ _ _ _=>rfl⟩,.inl rfl⟩;have CJ:∀ g,vo.ownBlock=some g->B<=g:=fun g hg=>(wm.own.lt g hg).1
  have VU:=hid CJ;have hBw:=wm.Tt;clear hs hv hrd ih hbd wm CJ;unfold maxLen at hmx;go_enter Tryz.func93,Tryz.ntmps93;go_wp2
  go_loopw [8] (fun vi wr=>Tq B0 B bo bi vo w acc l vi wr) (fun i _=>l.length-(intOf i).toNat)
  case atStart=>exact R0.out
  case round=>
   obtain ⟨k,hk,rfl,Gl,rows,wm,QD,hor⟩:=hrel;clear R0;by_cases hlt:k<l.length
   ·obtain ⟨x,hx⟩:∃ x,l[k]?=some x:=⟨_,List.getElem?_eq_getElem hlt⟩;obtain ⟨kd,t,d,ti,at_,ar,ci,ks⟩:=x;have hbel:Below B0 w wr:=QD.below Ke (by omega) VU.out (by omega);obtain ⟨g,off,vc,vp,va,vi,vk,rfl,hok,hbl,hc,hR⟩:=iQ (HS.out.below hbel) hx;obtain ⟨c0,c1,c2,c3,c4,c5,c6,c7,c8,c9⟩:=hc;have hb1:=aj.lC l k _ kV.out hx;rw [aj.bd] at hb1;obtain ⟨hn1,hn2,hn3,QE,Ti⟩:=hb1;have hsz:=aj.bM l k _ hx;rw [aj.sz] at hsz;obtain ⟨ac,nc,cc,rfl⟩:=Rd.au hR.at_.cls
    obtain ⟨ap,np,cp,rfl⟩:=Rd.au hR.at_.aR
    obtain ⟨Aa,na,ca,rfl⟩:=Rd.au hR.args;obtain ⟨Ai,ni,cci,rfl⟩:=Rd.au hR.dL;obtain ⟨ak,nk,ck,rfl⟩:=Rd.au hR.kids;have HR:=hid hR;have HX:=hid hx;have HOL:=hid wm;have HKO:=hid QD;have Y7:=hid hor;have Y8:=wm.Tt;clear hR hx wm QD hor hbel;go_upto_region 4 with (fail)
    obtain ⟨p,hp⟩:∃ p,p=wr.heap.size:=⟨_,rfl⟩;obtain ⟨wA,iJ⟩:∃ wA,wA=wr.alloc (.cells #[.int .i64 kd,.string t,.string d,.string ti,.string at_.id,.slice ac nc cc,.slice ap np cp,.slice Aa na ca,.slice Ai ni cci,.slice ak nk ck] 51):=⟨_,rfl⟩;have hpv:Gl.ownBlock≠some p:=by rw [hp];exact own_ne HOL.out.own (ji8 _)
    have wo:B<=p:=by rw [hp];exact Y8
    have OA:OL B0 B bo bi p Gl (acc++aj.bK (l.take k)) rows wA:=by
     rw [iJ];refine ⟨(jj2 _ _ _ (by omega)).trans HOL.out.bx,(jj2 _ _ _ (by omega)).trans HOL.out.fn,HOL.out.own.alloc _,aP.keep (fun b hb hlt'=>⟨?_,jj2 _ _ b hlt'⟩) _ _ HOL.out.red,HOL.out.len,by simp;omega⟩;rcases hb with hb | hb
     ·exact .inl hb
     ·exact .inr ⟨hb.1,hb.2.1,by omega⟩
    have PA:PB p [.int .i64 kd,.string t,.string d,.string ti,.string at_.id,.slice ac nc cc,.slice ap np cp,.slice Aa na ca,.slice Ai ni cci,.slice ak nk ck] wA:=by rw [iJ,hp];exact heap_alloc_new wr _
    have bA:Below B0 wr wA:=by rw [iJ];exact (Below.refl _ _).alloc (by omega) _
    have gA:wr.grownBy wA none:=by rw [iJ];exact World.grownBy_alloc _ _ none
    have hpA:wA.heap.size=p+1:=by rw [iJ,hp];simp
    have HPW:=hid hp;have HVP:Hid (∀ g,Gl.ownBlock=some g->g<p):=fun g hg=>by rw [hp];exact (HOL.out.own.lt g hg).2
    have HSA:=hid hpA;have hBA:B0<=wA.heap.size:=by omega
    rw [<- iJ,<- hp];clear hp hpA iJ c0 c1 c2 c3 c4 c5 c6 c7 c8 c9 hbl HOL Y8;have HIA:=hid (⟨OA,PA,by rw [HPW.out];exact (Below.refl _ _).grown gA (ji8 _) (by simp)⟩:IS B0 B bo bi p Gl (acc++aj.bK (l.take k)) rows [.int .i64 kd,.string t,.string d,.string ti,.string at_.id,.slice ac nc cc,.slice ap np cp,.slice Aa na ca,.slice Ai ni cci,.slice ak nk ck] wr wA);have d4:=PA.cell 4 _ rfl;have d5:=PA.cell 5 _ rfl;have d6:=PA.cell 6 _ rfl;have CT:=hid (yL at_ _ _ B0 wA (HR.out.at_.below bA) hBA hn1 hn2);clear OA PA;go_wp2_with fail
    refine CT.out.mono ?_;rintro e w1 ⟨vc1,vp1,rfl,QF,b1⟩;obtain ⟨Tv,Tw,Tx,rfl⟩:=Rd.au QF.cls;obtain ⟨Tz,TA,TD,rfl⟩:=Rd.au QF.aR;have I1:=HIA.out.grown (Fp b1);have HI1:=hid I1;have AT1:=hid (QF.weaken (ok':=(p<·)) (fun b hb=>by have:=HSA.out;omega));have d4:=I1.pb.cell 4 _ rfl;have d5:=I1.pb.cell 5 _ rfl;have d6:=I1.pb.cell 6 _ rfl;have f4:=I1.pb.free 4;have f5:=I1.pb.free 5;have f6:=I1.pb.free 6;have h0B:B0<=B:=by omega
    clear I1 CT HIA QF b1 gA bA hBA;go_upto_region 5 with (fail)
    obtain ⟨w2,hw2⟩:∃ w2,w2=((w1.setCell ⟨p,4,none⟩ (.string at_.id)).setCell ⟨p,5,none⟩ (.slice Tv Tw Tx)).setCell ⟨p,6,none⟩ (.slice Tz TA TD):=⟨_,rfl⟩;have I2:IS B0 B bo bi p Gl (acc++aj.bK (l.take k)) rows [.int .i64 kd,.string t,.string d,.string ti,.string at_.id,.slice Tv Tw Tx,.slice Tz TA TD,.slice Aa na ca,.slice Ai ni cci,.slice ak nk ck] wr w2:=by rw [hw2];exact ((HI1.out.set CG Ei h0B wo hpv 4 _).set CG Ei h0B wo hpv 5 _).set CG Ei h0B wo hpv 6 _
    have uY:Hid (AtR (p<·) w2 at_ (.slice Tv Tw Tx) (.slice Tz TA TD)):=by show AtR _ _ _ _ _;rw [hw2];exact ((AT1.out.above (dO.set 4 _)).above (dO.set 5 _)).above (dO.set 6 _)
    rw [<- hw2];clear hw2 d4 d5 d6 f4 f5 f6 HI1 AT1;have HI2:=hid I2;have d7:=I2.pb.cell 7 _ rfl;have hl2:=I2.pb.lt;have CS:=hid (lD ar B0 _ w2 (HR.out.args.below (I2.bl.mono (by omega))) (by omega) hn3);clear I2;go_wp2_with fail
    refine CS.out.mono ?_;rintro e w2b ⟨va1,rfl,hra,ba⟩;obtain ⟨Xu,Xv,Xw,rfl⟩:=Rd.au hra;have I2b:=HI2.out.grown (Fp ba);have Y9:=hid I2b;have Za:=hid (uY.out.above (dO.grown (Fp ba)));have Zb:=hid (hra.weaken (ok':=(p<·)) (fun b hb=>by omega));have d7:=I2b.pb.cell 7 _ rfl;have f7:=I2b.pb.free 7;clear I2b HI2 uY CS hra ba hl2;go_upto_region 6 with (fail)
    obtain ⟨w3,hw3⟩:∃ w3,w3=w2b.setCell ⟨p,7,none⟩ (.slice Xu Xv Xw):=⟨_,rfl⟩;have I3:IS B0 B bo bi p Gl (acc++aj.bK (l.take k)) rows [.int .i64 kd,.string t,.string d,.string ti,.string at_.id,.slice Tv Tw Tx,.slice Tz TA TD,.slice Xu Xv Xw,.slice Ai ni cci,.slice ak nk ck] wr w3:=by rw [hw3];exact Y9.out.set CG Ei h0B wo hpv 7 _
    have AL:Hid (AtR (p<·) w3 at_ (.slice Tv Tw Tx) (.slice Tz TA TD)):=by show AtR _ _ _ _ _;rw [hw3];exact Za.out.above (dO.set 7 _)
    have RA3:Hid (Rd (p<·) w3 (gF ar) [.slice Xu Xv Xw]):=by show Rd _ _ _ _;rw [hw3];exact Zb.out.above (dO.set 7 _)
    rw [<- hw3];clear hw3 d7 f7 Y9 Za Zb;have HI3:=hid I3;have d8:=I3.pb.cell 8 _ rfl;have hl3:=I3.pb.lt;have CC:=hid (wu ci B0 _ w3 (HR.out.dL.below (I3.bl.mono (by omega))) (by omega) QE);clear I3;go_wp2_with fail
    refine CC.out.mono ?_;rintro e w3b ⟨vi1,rfl,hri,bi3⟩;obtain ⟨ai1,ni1,ci1,rfl⟩:=Rd.au hri;have I3b:=HI3.out.grown (Fp bi3);have Zc:=hid I3b;have Zd:=hid (AL.out.above (dO.grown (Fp bi3)));have Ze:=hid (RA3.out.above (dO.grown (Fp bi3)));have Zf:=hid (hri.weaken (ok':=(p<·)) (fun b hb=>by omega));have d8:=I3b.pb.cell 8 _ rfl;have f8:=I3b.pb.free 8;clear I3b HI3 AL RA3 CC hri bi3 hl3;go_upto_region 7 with (fail)
    obtain ⟨w4,hw4⟩:∃ w4,w4=w3b.setCell ⟨p,8,none⟩ (.slice ai1 ni1 ci1):=⟨_,rfl⟩;have I4:IS B0 B bo bi p Gl (acc++aj.bK (l.take k)) rows [.int .i64 kd,.string t,.string d,.string ti,.string at_.id,.slice Tv Tw Tx,.slice Tz TA TD,.slice Xu Xv Xw,.slice ai1 ni1 ci1,.slice ak nk ck] wr w4:=by rw [hw4];exact Zc.out.set CG Ei h0B wo hpv 8 _
    have IN4:Hid (tX (fun b=>b<B0\/p<b) w4 at_ ar ci ks (.slice Tv Tw Tx) (.slice Tz TA TD) (.slice Xu Xv Xw) (.slice ai1 ni1 ci1) (.slice ak nk ck)):=by
     show tX _ _ _ _ _ _ _ _ _ _ _;refine ⟨?_,?_,?_,?_⟩
     ·rw [hw4];exact (Zd.out.above (dO.set 8 _)).weaken (fun b hb=>.inr hb)
     ·rw [hw4];exact (Ze.out.above (dO.set 8 _)).weaken (fun b hb=>.inr hb)
     ·rw [hw4];exact (Zf.out.above (dO.set 8 _)).weaken (fun b hb=>.inr hb)
     ·exact (HR.out.kids.below (I4.bl.mono (by omega))).weaken (fun b hb=>.inl hb)
    rw [<- hw4];clear hw4 d8 f8 Zc Zd Ze Zf;have HI4:=hid I4;obtain ⟨iI,hiI,jck,jcq,jcx⟩:=info_parts Na;obtain ⟨ao,co,rfl⟩:=sF I4.ol.own;obtain ⟨m,hm⟩:∃ m,m=(acc++aj.bK (l.take k)).length:=⟨_,rfl⟩;have hm1:m+(aj.aY ks+1)<=1000000:=by have h1:=aj.Bu l k _ HX.out;rw [aj.sz] at h1;rw [hm,jiq,aj.fE];omega
    have HM:=hid hm;have e0:=I4.pb.cell 0 _ rfl;have e1:=I4.pb.cell 1 _ rfl;have e2:=I4.pb.cell 2 _ rfl;have e3:=I4.pb.cell 3 _ rfl;have e4:=I4.pb.cell 4 _ rfl;have e5:=I4.pb.cell 5 _ rfl;have e6:=I4.pb.cell 6 _ rfl;have e7:=I4.pb.cell 7 _ rfl;have e8:=I4.pb.cell 8 _ rfl;have e9:=I4.pb.cell 9 _ rfl;have eb:w4.cell? ⟨bo,0,none⟩=some (.slice ao m co):=by have:=I4.ol.bx;rw [hm];simp [jk0,this]
    have fb:w4.frozen? ⟨bo,0,none⟩=false:=by have:=I4.ol.bx;simp [World.frozen?,this]
    have OW4:Hid (w4.ownsRow B 51 10 (.slice ao m co) m rows.flatten):=by show World.ownsRow _ _ _ _ _ _ _;rw [hm];exact I4.ol.own
    have hs4:B<=w4.heap.size:=I4.ol.Tt;have jY:=hid I4.ol.bx;rw [<- hm] at jY;have hp4:p<w4.heap.size:=I4.pb.lt;have hb4:bo<w4.heap.size:=by omega
    have Tg:=hid I4.pb;have jcz:(Value.slice ao m co).ownBlock≠some p:=by rw [hm];exact hpv
    have Nb:Hid (rows.flatten.length=m*10):=OW4.out.1;have HI5:Hid (IS B0 B bo bi p (.slice ao m co) (acc++aj.bK (l.take k)) rows [.int .i64 kd,.string t,.string d,.string ti,.string at_.id,.slice Tv Tw Tx,.slice Tz TA TD,.slice Xu Xv Xw,.slice ai1 ni1 ci1,.slice ak nk ck] wr w4):=by show IS _ _ _ _ _ _ _ _ _ _ _;rw [hm];exact HI4.out
    have HVQ:Hid (∀ g,(Value.slice ao m co).ownBlock=some g->g<p):=by show ∀ g,_;rw [hm];exact HVP.out
    rw [<- hm] at Y7;clear I4 hm HI4 HVP;have RX4:=hid (aj.eD kd t d ti IN4.out)
    go_cut [] (fun wx=>jl B0 B bo bi (.slice ao m co) w4 (acc++aj.bK (l.take k)++[aj.mk kd t d ti at_ ar ci ks]) wx)
    case first=>
     go_region_law (refine step_append_lies _ rfl (.tmp 27) (.tmp 30) 22 rfl B 51 iI _ 10 192 Tryz.underlying22 hiI jck jcq jcx rfl (by decide) (.slice ao m co) m rows.flatten rfl (OW4.out.alloc _) ⟨w4.heap.size,0,none⟩ 1 1 [.int .i64 0,.string ⟨#[]⟩,.string ⟨#[]⟩,.string ⟨#[]⟩,.string ⟨#[]⟩,.slice none 0 0,.slice none 0 0,.slice none 0 0,.slice none 0 0,.slice none 0 0] rfl rfl (Po w4 _ _) (by intro u hu;simp at hu;rcases hu with rfl | rfl | rfl<;>rfl) (by omega) (by unfold maxLen;omega) (by omega) (by show B<=(w4.alloc _).heap.size;rw [World.size_alloc];omega) _ rfl ?_;intro g cap w5 hown hgrow hat jh5;have hix:(m:Int)<(m:Int)+1:=(by omega);have hcp:=QG hown;have q0:=iw hown Nb.out 0 _ rfl (by omega);have z0:=hown.frozenAt (m*10+0);have q1:=iw hown Nb.out 1 _ rfl (by omega);have z1:=hown.frozenAt (m*10+1);have q2:=iw hown Nb.out 2 _ rfl (by omega);have z2:=hown.frozenAt (m*10+2);have q3:=iw hown Nb.out 3 _ rfl (by omega);have z3:=hown.frozenAt (m*10+3);have q4:=iw hown Nb.out 4 _ rfl (by omega);have z4:=hown.frozenAt (m*10+4);have q5:=iw hown Nb.out 5 _ rfl (by omega);have z5:=hown.frozenAt (m*10+5);have q6:=iw hown Nb.out 6 _ rfl (by omega);have z6:=hown.frozenAt (m*10+6);have q7:=iw hown Nb.out 7 _ rfl (by omega);have z7:=hown.frozenAt (m*10+7);have q8:=iw hown Nb.out 8 _ rfl (by omega);have z8:=hown.frozenAt (m*10+8);have q9:=iw hown Nb.out 9 _ rfl (by omega);have z9:=hown.frozenAt (m*10+9);obtain ⟨qb,zb,hgb⟩:=VW jY.out hown hgrow OW4.out CG hs4;simp only [Nat.add_zero] at q0 z0;have Nc:=Zg Tg.out hgrow jcz;have r0:=Nc.cell 0 _ rfl;have r1:=Nc.cell 1 _ rfl;have r2:=Nc.cell 2 _ rfl;have r3:=Nc.cell 3 _ rfl;have r4:=Nc.cell 4 _ rfl;have r5:=Nc.cell 5 _ rfl;have r6:=Nc.cell 6 _ rfl;have r7:=Nc.cell 7 _ rfl;have r8:=Nc.cell 8 _ rfl;have r9:=Nc.cell 9 _ rfl;have Qg:=hat.imp_right (fun e=>(Nat.le_trans (Nat.le_succ w4.heap.size) (Nat.le_of_eq ((World.size_alloc _ _).symm.trans e.symm))));have PT1:=Nf HI5.out HM.out CG Ei hoi Ke wo HVQ.out RX4.out hown rfl Nb.out hgrow Qg;simp only [ten] at PT1;have PT:=hid PT1;clear PT1 Nc hat Qg)
     all_goals
      go_wp2_with fail
      go_meet
      first
      | with_reducible exact PT.out.1
      | with_reducible exact PT.out.2
    case rest=>
     obtain ⟨w7,hw7⟩:∃ w7:World,w7=wc:=⟨_,rfl⟩;subst hw7;have Zh:fF bo vo w w4:=by have hb:=HI5.out.bl;have hk:=HKO.out;refine ⟨Nat.le_trans hk.1 hb.size,hb.os.trans hk.2.1,hb.tape.trans hk.2.2.1,hb.output.trans hk.2.2.2.1,fun b hb' hne CJ=>(hb.block b ?_).trans (hk.2.2.2.2 b hb' hne CJ)⟩;rw [HPW.out];exact Nat.lt_of_lt_of_le hb' hk.1
     have IO7:=jl.trans Zh Y7.out hcut;obtain ⟨vo7,Zi,OL7,KO7,OR7⟩:=IO7;obtain ⟨g7,o7,vc7,vp7,va7,vi7,vk7,hgo,_,_,Pv,VX⟩:=iQ (HS.out.below (KO7.below Ke (by omega) VU.out (by omega))) HX.out;cases hgo
     have k9:=Pv.c9;have kb:w7.cell? ⟨bi,0,none⟩=some (Pw bo bi):=by have:=OL7.fn;simp [jk0,this]
     unfold Pw at kb;have hsk:=aj.bM l k _ HX.out;rw [aj.sz] at hsk;have IK:=hid (IH.out (aj.aY ks) (by omega) ks B0 B bo bi (acc++aj.bK (l.take k)++[aj.mk kd t d ti at_ ar ci ks]) Zi vk7 vo7 w7.drew (ji8 _) (by omega) (VX.kids.below ⟨rfl,rfl,rfl,ji8 _,fun _ _=>rfl⟩) Ke h0i CG Ei hoi Ti OL7.drew (by rw [jiq,<- HM.out,List.length_singleton];omega));have Zj:=hid KO7.drew;have Zk:=hid OR7;obtain ⟨ak7,nk7,ck7,rfl⟩:=Rd.au VX.kids;clear hcut OL7 KO7 OR7 VX Pv Zh HI5 HVQ jY Tg OW4 RX4;go_upto_region 8 with (fail)
     go_still_tail 6,(by kernel_rfl)
     change wpList _ _ _ _ _ w7.drew;go_wp2_with fail
     refine IK.out.mono ?_;rintro e w8 ⟨rfl,Zl⟩;have IO9:=hid (jl.trans Zj.out Zk.out Zl);clear Zl IK Zj Zk k9 kb;go_wp2_with fail
     go_roundw;case rel=>
      refine ⟨k+1,by omega,by go_num,?_⟩;rw [aj.wF l k _ HX.out,aj.deep];have:=IO9.out;simp only [List.append_assoc,List.singleton_append] at this;exact this
     case measure=>simp [intOf];omega
   ·have hkl:k=l.length:=by omega
    subst hkl;rw [List.take_length] at wm;have HO:=hid wm;clear wm;go_wp2
    go_end0
    exact ⟨rfl,Gl,rows,HO.out,QD,hor⟩
open Go.RowKit
mutual
def ah.inls:ah->List aj
 | .mk _ _ _ _ _ _ _ li ks=>aj.bK li++ah.aQ ks
def ah.aQ:List ah->List aj
 | []=>[]
 | x::l=>x.inls++ah.aQ l
end
theorem ah.qQ (l m:List ah):ah.aQ (l++m)=ah.aQ l++ah.aQ m:=by
 induction l with
 | nil=>rw [ah.aQ];rfl
 | cons x l ih=>rw [List.cons_append,ah.aQ,ah.aQ,ih,List.append_assoc]
theorem ah.wG (l:List ah) (k:Nat) (x:ah) (h:l[k]?=some x):ah.aQ (l.take (k+1))=ah.aQ (l.take k)++x.inls:=by rw [List.take_add_one,h,ah.qQ];simp [ah.aQ]
theorem ah.Kg (l:List ah) (k:Nat) (x:ah) (h:l[k]?=some x):(ah.aQ (l.take k)).length+x.inls.length<=(ah.aQ l).length:=by
 have e:ah.aQ l=ah.aQ (l.take (k+1))++ah.aQ (l.drop (k+1)):=by rw [<- ah.qQ,List.take_append_drop]
 have e2:=congrArg List.length e;rw [ah.wG l k x h] at e2;simp only [jiq] at e2;omega
def Xx (bi bk:Nat):Value:=.func (.func 97) #[] #[.pointer (some ⟨bi,0,none⟩),.pointer (some ⟨bk,0,none⟩)]
def Ng (bi bk:Nat) (w:World):Prop:=w.heap[bk]?=some (.cells #[Xx bi bk] 126 (0,0))
theorem Ng.keep {bi bk bo B:Nat} {vo:Value} {w w':World} (h:Ng bi bk w) (hk:fF bo vo w w') (hne:bk≠bo) (hb:bk<B) (hv:∀ g,vo.ownBlock=some g->B<=g):Ng bi bk w':=
 (hk.2.2.2.2 bk (Array.getElem?_eq_some_iff.1 h).1 hne (fun e=>by have:=hv bk e;omega)).trans h
def TF (B0 B bo bi:Nat) (vo:Value) (w:World) (acc:List aj) (l:List ah) (vi:Value) (wr:World):Prop:=
 ∃ k:Nat,k<=l.length/\vi=.int .i64 k/\jl B0 B bo bi vo w (acc++ah.aQ (l.take k)) wr
theorem Nh (n:Nat):∀ (l:List ah) (B0 B bo bi bk:Nat) (acc:List aj) (wh:List (List Value)) (v vo:Value) (w:World),ah.aY l<=n->n<=1000000->Rd (·<B0) w (jg l) [v]->B0<=bo->B0<=bi->bo<B->bi<B->bo≠bi->bk<B->bk≠bo->ah.kK l->OL B0 B bo bi bo vo acc wh w->Ng bi bk w->acc.length+(ah.aQ l).length<=1000000 -> Calls Tryz.prog 97 #[v,.pointer (some ⟨bi,0,none⟩),.pointer (some ⟨bk,0,none⟩)] w fun e w'=>e=.returned (.tuple #[])/\jl B0 B bo bi vo w (acc++ah.aQ l) w':=by
 induction n using Nat.strongRecOn with
 | _ n ih=>
  intro l B0 B bo bi bk acc wh v vo w hn hnm hrd Ke h0i CG Ei hoi hkB hko hbd wm hKB hal;obtain ⟨a,cap,hv,hs⟩:=Rd.aG hrd;obtain rfl:v=.slice a l.length cap:=by simpa using hv
  have hcap:l.length<=cap:=by simpa using hs.le
  have hll:=ah.dB l;have hmx:=hs.max;have HS:=hid hs;have IH:=hid ih;have kV:=hid hbd;have HKB:=hid hKB;have R0:Hid (TF B0 B bo bi vo w acc l (.int .i64 0) w):=⟨0,Nat.zero_le _,rfl,vo,wh,by rw [List.take_zero,ah.aQ,List.append_nil];exact wm,⟨ji8 _,rfl,rfl,rfl,fun _ _ _ _=>rfl⟩,.inl rfl⟩;have CJ:∀ g,vo.ownBlock=some g->B<=g:=fun g hg=>(wm.own.lt g hg).1
  have VU:=hid CJ;have hBw:=wm.Tt;clear hs hv hrd ih hbd wm CJ hKB;unfold maxLen at hmx;go_enter Tryz.func97,Tryz.ntmps97;go_wp2
  go_loopw [7] (fun vi wr=>TF B0 B bo bi vo w acc l vi wr) (fun i _=>l.length-(intOf i).toNat)
  case atStart=>exact R0.out
  case round=>
   obtain ⟨k,hk,rfl,Gl,rows,wm,QD,hor⟩:=hrel;clear R0;by_cases hlt:k<l.length
   ·obtain ⟨x,hx⟩:∃ x,l[k]?=some x:=⟨_,List.getElem?_eq_getElem hlt⟩;obtain ⟨kd,lv,i,t,d,ti,at_,li,ks⟩:=x;have hbel:Below B0 w wr:=QD.below Ke (by omega) VU.out (by omega);obtain ⟨g,off,vc,vp,vl,vk,rfl,hok,hbl,hc,hR⟩:=eP (HS.out.below hbel) hx;have c9:=hc.c9;have hb1:=ah.lC l k _ kV.out hx;rw [ah.bd] at hb1;obtain ⟨hn1,hn2,hn3,QE,Ti⟩:=hb1;have hsz:=ah.bM l k _ hx;rw [ah.sz] at hsz;have hln:=ah.Kg l k _ hx;rw [ah.inls,jiq] at hln;have jh6:=aj.fE li;obtain ⟨al,nl,cl,rfl⟩:=Rd.au hR.line;have kb:wr.cell? ⟨bi,0,none⟩=some (Pw bo bi):=by
     have:=wm.fn;simp [jk0,this]
    unfold Pw at kb;have CI:=hid (M8 (aj.aY li) li B0 B bo bi (acc++ah.aQ (l.take k)) rows (.slice al nl cl) Gl wr.drew (ji8 _) QE (hR.line.below ⟨rfl,rfl,rfl,ji8 _,fun _ _=>rfl⟩) Ke h0i CG Ei hoi hn3 wm.drew (by rw [jiq];omega));have HX:=hid hx;have HKO:=hid QD.drew;have Y7:=hid hor;clear hR hx wm QD hor hbel hc hbl;go_upto_region 3 with (fail)
    go_still_tail 6,(by kernel_rfl)
    change wpList _ _ _ _ _ wr.drew;go_wp2_with fail
    refine CI.out.mono ?_;rintro e w1 ⟨rfl,IO1⟩;obtain ⟨vo2,bV,OL2,Zm,OR2⟩:=jl.trans HKO.out Y7.out IO1;obtain ⟨g7,o7,vc7,vp7,vl7,vk7,hgo,_,_,Pv,VX⟩:=eP (HS.out.below (Zm.below Ke (by omega) VU.out (by omega))) HX.out;cases hgo
    have k10:=Pv.c10;have kb2:w1.cell? ⟨bk,0,none⟩=some (Xx bi bk):=by have:=HKB.out.keep Zm hko hkB VU.out;unfold Ng at this;simp [jk0,this]
    unfold Xx at kb2;obtain ⟨ak7,nk7,ck7,rfl⟩:=Rd.au VX.kids;have IK:=hid (IH.out (ah.aY ks) (by omega) ks B0 B bo bi bk (acc++ah.aQ (l.take k)++aj.bK li) bV (.slice ak7 nk7 ck7) vo2 w1.drew (ji8 _) (by omega) (VX.kids.below ⟨rfl,rfl,rfl,ji8 _,fun _ _=>rfl⟩) Ke h0i CG Ei hoi hkB hko Ti OL2.drew (HKB.out.keep Zm.drew hko hkB VU.out) (by rw [jiq,jiq];omega));have Zn:=hid Zm.drew;have Zo:=hid OR2;clear CI IO1 OL2 Zm OR2 VX Pv kb c9 HKO Y7;go_upto_region 4 with (fail)
    go_still_tail 6,(by kernel_rfl)
    change wpList _ _ _ _ _ w1.drew;go_wp2_with fail
    refine IK.out.mono ?_;rintro e w8 ⟨rfl,Zl⟩;have IO9:=hid (jl.trans Zn.out Zo.out Zl);clear Zl IK Zn Zo k10 kb2;go_wp2_with fail
    go_roundw;case rel=>
     refine ⟨k+1,by omega,by go_num,?_⟩;rw [ah.wG l k _ HX.out,ah.inls];have:=IO9.out;simp only [List.append_assoc] at this ⊢;exact this
    case measure=>simp [intOf];omega
   ·have hkl:k=l.length:=by omega
    subst hkl;rw [List.take_length] at wm;have HO:=hid wm;clear wm;go_wp2
    go_end0
    exact ⟨rfl,Gl,rows,HO.out,QD,hor⟩
open Go.RowKit
def aI (b:Nat) (v:Value) (t:TypeId) (w:World):Prop:=w.heap[b]?=some (.cells #[v] t (0,0))
section
variable {b:Nat} {v:Value} {t:TypeId} {w w':World}
theorem aI.lt (h:aI b v t w):b<w.heap.size:=(Array.getElem?_eq_some_iff.1 h).1
theorem aI.cell (h:aI b v t w):w.cell? ⟨b,0,none⟩=some v:=by unfold aI at h;simp [jk0,h]
theorem aI.free (h:aI b v t w):w.frozen? ⟨b,0,none⟩=false:=by unfold aI at h;simp [World.frozen?,h]
theorem aI.set (h:aI b v t w) (u:Value):aI b u t (w.setCell ⟨b,0,none⟩ u):=Bv h
theorem aI.far (h:aI b v t w) {q j:Nat} (hq:b≠q) (u:Value):aI b v t (w.setCell ⟨q,j,none⟩ u):=(Below.heap_setCell w ⟨q,j,none⟩ u b hq).trans h
theorem aI.alloc (h:aI b v t w) (o:Obj):aI b v t (w.alloc o):=(jj2 w o b h.lt).trans h
theorem aI.new (w:World) (v:Value) (t:TypeId):aI w.heap.size v t (w.alloc (.cells #[v] t)):=heap_alloc_new w _
theorem aI.below (h:aI b v t w) {B:Nat} (hB:b<B) (hb:Below B w w'):aI b v t w':=(hb.block b hB).trans h
theorem aI.drew (h:aI b v t w):aI b v t w.drew:=h
end
theorem Kh {w:World} {B B':Nat} {e:TypeId} {k n:Nat} {v:Value} {xs:List Value} (h:w.ownsRow B e k v n xs) (hB:B'<=B):w.ownsRow B' e k v n xs:=
 ⟨h.1,h.2.imp id fun ⟨g,cap,cur,h1,h2,h3⟩=>⟨g,cap,cur,h1,Nat.le_trans hB h2,h3⟩⟩
theorem Ee (l:List ah) (v:Value) (w:World) (h:Rd (·<w.heap.size) w (jg l) [v]) (hbd:ah.kK l) (hsz:ah.aY l<=1000000) (hln:(ah.aQ l).length<=1000000) : Calls Tryz.prog 49 #[v] w fun e w'=>∃ v' rows,e=.returned v'/\w'.ownsRow w.heap.size 51 10 v' (ah.aQ l).length rows.flatten/\aP (fun _=>True) w' ((ah.aQ l).map aj.d) rows/\(∀ r∈rows,r.length=10)/\Below w.heap.size w w':=by
 obtain ⟨va,vn,vc,rfl⟩:=Rd.au h;have HR:=hid h;have kV:=hid hbd;clear h hbd;obtain ⟨N,hN⟩:∃ N,N=w.heap.size:=⟨_,rfl⟩;go_enter Tryz.func49,Tryz.ntmps49;go_upto_region 3 with (fail)
 obtain ⟨wA,iJ⟩:∃ wA,wA=(w.alloc (.cells #[.slice none 0 0] 22)).alloc (.cells #[.nilFunc] 120):=⟨_,rfl⟩;have b0:aI N (.slice none 0 0) 22 wA:=by rw [iJ,hN];exact (aI.new w _ _).alloc _
 have b1:aI (N+1) .nilFunc 120 wA:=by
  rw [iJ,hN];have:=aI.new (w.alloc (.cells #[.slice none 0 0] 22)) .nilFunc 120
  rwa [World.size_alloc] at this
 have bl:Below N w wA:=by rw [iJ,hN];exact ((Below.refl _ _).alloc (ji8 _) _).alloc (by simp) _
 have sz:wA.heap.size=N+2:=by rw [iJ,hN];simp
 rw [<- iJ,<- hN];rw [<- hN] at HR;have HN:=hid hN;clear iJ hN;have c1:=b1.cell;have f1:=b1.free;go_upto_region 4 with (fail)
 obtain ⟨wB,D8⟩:∃ wB,wB=wA.setCell ⟨N+1,0,none⟩ (Pw N (N+1)):=⟨_,rfl⟩;have d0:aI N (.slice none 0 0) 22 wB:=by rw [D8];exact b0.far (by omega) _
 have d1:aI (N+1) (Pw N (N+1)) 120 wB:=by rw [D8];exact b1.set _
 have dl:Below N w wB:=by rw [D8];exact bl.setCell (p:=⟨N+1,0,none⟩) (by show N<=N+1;omega) _
 have dz:wB.heap.size=N+2:=by rw [D8];simpa [World.setCell] using sz
 unfold Pw at D8;rw [<- D8];clear D8 b0 b1 bl sz c1 f1;go_upto_region 5 with (fail)
 obtain ⟨wC,Lj⟩:∃ wC,wC=wB.alloc (.cells #[.nilFunc] 126):=⟨_,rfl⟩;have b0:aI N (.slice none 0 0) 22 wC:=by rw [Lj];exact d0.alloc _
 have b1:aI (N+1) (Pw N (N+1)) 120 wC:=by rw [Lj];exact d1.alloc _
 have b2:aI (N+2) .nilFunc 126 wC:=by rw [Lj,<- dz];exact aI.new _ _ _
 have bl:Below N w wC:=by rw [Lj];exact dl.alloc (by omega) _
 have sz:wC.heap.size=N+3:=by rw [Lj];simp [dz]
 rw [<- Lj];clear Lj d0 d1 dl dz;have c2:=b2.cell;have f2:=b2.free;go_upto_region 6 with (fail)
 obtain ⟨wD,Ki⟩:∃ wD,wD=wC.setCell ⟨N+2,0,none⟩ (Xx (N+1) (N+2)):=⟨_,rfl⟩;have d0:aI N (.slice none 0 0) 22 wD:=by rw [Ki];exact b0.far (by omega) _
 have d1:aI (N+1) (Pw N (N+1)) 120 wD:=by rw [Ki];exact b1.far (by omega) _
 have d2:aI (N+2) (Xx (N+1) (N+2)) 126 wD:=by rw [Ki];exact b2.set _
 have dl:Below N w wD:=by rw [Ki];exact bl.setCell (p:=⟨N+2,0,none⟩) (by show N<=N+2;omega) _
 have dz:wD.heap.size=N+3:=by rw [Ki];simpa [World.setCell] using sz
 have c2:=d2.cell;unfold Xx at Ki c2;rw [<- Ki];clear Ki b0 b1 b2 bl sz f2;have OLD:OL N (N+3) N (N+1) N (.slice none 0 0) [] [] wD:=⟨d0,d1,⟨rfl,.inl ⟨rfl,rfl⟩⟩,aP.none,by simp,by omega⟩;have CB:=hid (Nh (ah.aY l) l N (N+3) N (N+1) (N+2) [] [] (.slice va vn vc) (.slice none 0 0) wD (ji8 _) hsz (HR.out.below dl) (ji8 _) (by omega) (by omega) (by omega) (by omega) (by omega) (by omega) kV.out OLD d2 (by simpa using hln));have HDL:=hid dl;clear OLD d0 d1 d2 dl;go_wp2_with fail
 refine CB.out.mono ?_;rintro e w1 ⟨rfl,vo,rows,OL1,KO1,OR1⟩;have kb:w1.cell? ⟨N,0,none⟩=some vo:=by have:=OL1.bx;simp [jk0,this]
 obtain ⟨ao,co,rfl⟩:=sF OL1.own;have HO:=hid OL1;have HK:Hid (Below N w w1):=HDL.out.trans (KO1.below (B:=N+3) (ji8 _) (by omega) (by simp [Value.ownBlock]) (by omega));clear OL1 KO1 OR1 CB HDL c2;go_wp2_with fail
 go_ret;refine ⟨_,rows,rfl,?_,aP.keep (fun _ _ _=>⟨trivial,rfl⟩) _ _ HO.out.red,HO.out.len,HN.out ▸ HK.out⟩;have:=Kh HO.out.own (B':=w.heap.size) (by have:=HN.out;omega);simpa using this
end Go.Proofs.YtclikfjalmcoaaaGreatDoor

