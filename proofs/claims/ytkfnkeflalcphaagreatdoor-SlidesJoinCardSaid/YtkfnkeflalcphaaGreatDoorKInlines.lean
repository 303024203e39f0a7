/- tree.Inlines$1: the inlines, and those in them, are added to what the box holds. tree.Inlines$2 and tree.Inlines: all inlines of blocks, in document order. tree.Inlines: all inlines of blocks, in document order. -/
import Derived.Test.YtkfnkeflalcphaaGreatDoorKRowE
import Derived.StillTailTactics
import Derived.Laws.EntriesVeiled
set_option maxHeartbeats 8000000
set_option maxRecDepth 100000
open Go.Lib (hid)
namespace Go.Proofs.YtkfnkeflalcphaaGreatDoor
open Nat renaming le_refl->jm1
open List renaming length_append->jm5
open Go.RowKit.Below renaming heap_alloc->jmj
open Go.World renaming cell?->jn8
open Go.RowKit
set_option linter.unusedVariables false
set_option linter.unusedSimpArgs false
theorem NP (n:Nat):∀ (l:List aj) (B0 B bo bi:Nat) (acc:List aj) (wI:List (List Value)) (v vo:Value) (w:World),aj.aR l<=n->n<=1000000->Rd (·<B0) w (aX l) [v]->B0<=bo->B0<=bi->bo<B->bi<B->bo≠bi->aj.jS l->OL B0 B bo bi bo vo acc wI w->acc.length+aj.aR l<=1000000 -> Calls Tryz.prog 81 #[v,.pointer (some ⟨bo,0,none⟩),.pointer (some ⟨bi,0,none⟩)] w fun e w'=>e=.returned (.tuple #[])/\jy B0 B bo bi vo w (acc++aj.bG l) w':=by
 induction n using Nat.strongRecOn with
 | _ n ih=>
  intro l B0 B bo bi acc wI v vo w hn hnm hrd KR h0i Df xS hoi hbd wJ hal;obtain ⟨a,cap,hv,hs⟩:=Rd.aB hrd;obtain rfl:v=.slice a l.length cap:=by simpa using hv
  have hcap:l.length<=cap:=by simpa using hs.le
  have hll:=aj.cZ l;have hmx:=hs.max;have HS:=hid hs;have IH:=hid ih;have kE:=hid hbd;have R0:Hid (Um B0 B bo bi vo w acc l (.int .i64 0) w):=⟨0,Nat.zero_le _,rfl,vo,wI,by rw [List.take_zero,aj.bG,List.append_nil];exact wJ,⟨jm1 _,rfl,rfl,rfl,fun _ _ _ _=>rfl⟩,.inl rfl⟩;have C8:∀ g,vo.ownBlock=some g->B<=g:=fun g hg=>(wJ.own.lt g hg).1
  have WC:=hid C8;have hBw:=wJ.Un;clear hs hv hrd ih hbd wJ C8;unfold maxLen at hmx;go_enter Tryz.func81,Tryz.ntmps81;go_wp2
  go_loopw [8] (fun vi wr=>Um B0 B bo bi vo w acc l vi wr) (fun i _=>l.length-(intOf i).toNat)
  case atStart=>exact R0.out
  case round=>
   obtain ⟨k,hk,rfl,GD,rows,wJ,Ro,hor⟩:=hrel;clear R0;by_cases hlt:k<l.length
   ·obtain ⟨x,hx⟩:∃ x,l[k]?=some x:=⟨_,List.getElem?_eq_getElem hlt⟩;obtain ⟨kd,t,d,ti,at_,ar,ci,ks⟩:=x;have hbel:Below B0 w wr:=Ro.below KR (by omega) WC.out (by omega);obtain ⟨g,off,vc,vp,va,vi,vk,rfl,hok,hbl,hc,hR⟩:=fJ (HS.out.below hbel) hx;obtain ⟨c0,c1,c2,c3,c4,c5,c6,c7,c8,c9⟩:=hc;have hb1:=aj.lJ l k _ kE.out hx;rw [aj.bd] at hb1;obtain ⟨hn1,hn2,hn3,Rp,Uf⟩:=hb1;have hsz:=aj.bg l k _ hx;rw [aj.sz] at hsz;obtain ⟨ac,nc,cc,rfl⟩:=Rd.au hR.at_.cls
    obtain ⟨ap,np,cp,rfl⟩:=Rd.au hR.at_.aJ
    obtain ⟨Aa,na,ca,rfl⟩:=Rd.au hR.args;obtain ⟨Ai,ni,cci,rfl⟩:=Rd.au hR.dG;obtain ⟨ak,nk,ck,rfl⟩:=Rd.au hR.kids;have HR:=hid hR;have HX:=hid hx;have HOL:=hid wJ;have HKO:=hid Ro;have ZV:=hid hor;have ZW:=wJ.Un;clear hR hx wJ Ro hor hbel;go_upto_region 4 with (fail)
    obtain ⟨p,hp⟩:∃ p,p=wr.heap.size:=⟨_,rfl⟩;obtain ⟨wA,iL⟩:∃ wA,wA=wr.alloc (.cells #[.int .i64 kd,.string t,.string d,.string ti,.string at_.id,.slice ac nc cc,.slice ap np cp,.slice Aa na ca,.slice Ai ni cci,.slice ak nk ck] 66):=⟨_,rfl⟩;have hpv:GD.ownBlock≠some p:=by rw [hp];exact own_ne HOL.out.own (jm1 _)
    have BK:B<=p:=by rw [hp];exact ZW
    have OA:OL B0 B bo bi p GD (acc++aj.bG (l.take k)) rows wA:=by
     rw [iL];refine ⟨(jmj _ _ _ (by omega)).trans HOL.out.bx,(jmj _ _ _ (by omega)).trans HOL.out.fn,HOL.out.own.alloc _,aH.keep (fun b hb hlt'=>⟨?_,jmj _ _ b hlt'⟩) _ _ HOL.out.red,HOL.out.len,by simp;omega⟩;rcases hb with hb | hb
     ·exact .inl hb
     ·exact .inr ⟨hb.1,hb.2.1,by omega⟩
    have PA:PB p [.int .i64 kd,.string t,.string d,.string ti,.string at_.id,.slice ac nc cc,.slice ap np cp,.slice Aa na ca,.slice Ai ni cci,.slice ak nk ck] wA:=by rw [iL,hp];exact heap_alloc_new wr _
    have bA:Below B0 wr wA:=by rw [iL];exact (Below.refl _ _).alloc (by omega) _
    have gA:wr.grownBy wA none:=by rw [iL];exact World.grownBy_alloc _ _ none
    have hpA:wA.heap.size=p+1:=by rw [iL,hp];simp
    have HPW:=hid hp;have HVP:Hid (∀ g,GD.ownBlock=some g->g<p):=fun g hg=>by rw [hp];exact (HOL.out.own.lt g hg).2
    have HSA:=hid hpA;have hBA:B0<=wA.heap.size:=by omega
    rw [<- iL,<- hp];clear hp hpA iL c0 c1 c2 c3 c4 c5 c6 c7 c8 c9 hbl HOL ZW;have HIA:=hid (⟨OA,PA,by rw [HPW.out];exact (Below.refl _ _).grown gA (jm1 _) (by simp)⟩:IS B0 B bo bi p GD (acc++aj.bG (l.take k)) rows [.int .i64 kd,.string t,.string d,.string ti,.string at_.id,.slice ac nc cc,.slice ap np cp,.slice Aa na ca,.slice Ai ni cci,.slice ak nk ck] wr wA);have d4:=PA.cell 4 _ rfl;have d5:=PA.cell 5 _ rfl;have d6:=PA.cell 6 _ rfl;have CT:=hid (yL at_ _ _ B0 wA (HR.out.at_.below bA) hBA hn1 hn2);clear OA PA;go_wp2_with fail
    refine CT.out.mono ?_;rintro e w1 ⟨vc1,vp1,rfl,Rq,b1⟩;obtain ⟨Uo,Uq,Ur,rfl⟩:=Rd.au Rq.cls;obtain ⟨Us,Ut,Uu,rfl⟩:=Rd.au Rq.aJ;have I1:=HIA.out.grown (FM b1);have HI1:=hid I1;have AT1:=hid (Rq.weaken (ok':=(p<·)) (fun b hb=>by have:=HSA.out;omega));have d4:=I1.pb.cell 4 _ rfl;have d5:=I1.pb.cell 5 _ rfl;have d6:=I1.pb.cell 6 _ rfl;have f4:=I1.pb.free 4;have f5:=I1.pb.free 5;have f6:=I1.pb.free 6;have h0B:B0<=B:=by omega
    clear I1 CT HIA Rq b1 gA bA hBA;go_upto_region 5 with (fail)
    obtain ⟨w2,hw2⟩:∃ w2,w2=((w1.setCell ⟨p,4,none⟩ (.string at_.id)).setCell ⟨p,5,none⟩ (.slice Uo Uq Ur)).setCell ⟨p,6,none⟩ (.slice Us Ut Uu):=⟨_,rfl⟩;have I2:IS B0 B bo bi p GD (acc++aj.bG (l.take k)) rows [.int .i64 kd,.string t,.string d,.string ti,.string at_.id,.slice Uo Uq Ur,.slice Us Ut Uu,.slice Aa na ca,.slice Ai ni cci,.slice ak nk ck] wr w2:=by rw [hw2];exact ((HI1.out.set Df xS h0B BK hpv 4 _).set Df xS h0B BK hpv 5 _).set Df xS h0B BK hpv 6 _
    have vF:Hid (AtR (p<·) w2 at_ (.slice Uo Uq Ur) (.slice Us Ut Uu)):=by show AtR _ _ _ _ _;rw [hw2];exact ((AT1.out.above (dS.set 4 _)).above (dS.set 5 _)).above (dS.set 6 _)
    rw [<- hw2];clear hw2 d4 d5 d6 f4 f5 f6 HI1 AT1;have HI2:=hid I2;have d7:=I2.pb.cell 7 _ rfl;have hl2:=I2.pb.lt;have CS:=hid (lK ar B0 _ w2 (HR.out.args.below (I2.bl.mono (by omega))) (by omega) hn3);clear I2;go_wp2_with fail
    refine CS.out.mono ?_;rintro e w2b ⟨va1,rfl,hra,ba⟩;obtain ⟨Yp,Yq,Yr,rfl⟩:=Rd.au hra;have I2b:=HI2.out.grown (FM ba);have ZX:=hid I2b;have ZY:=hid (vF.out.above (dS.grown (FM ba)));have Z5:=hid (hra.weaken (ok':=(p<·)) (fun b hb=>by omega));have d7:=I2b.pb.cell 7 _ rfl;have f7:=I2b.pb.free 7;clear I2b HI2 vF CS hra ba hl2;go_upto_region 6 with (fail)
    obtain ⟨w3,hw3⟩:∃ w3,w3=w2b.setCell ⟨p,7,none⟩ (.slice Yp Yq Yr):=⟨_,rfl⟩;have I3:IS B0 B bo bi p GD (acc++aj.bG (l.take k)) rows [.int .i64 kd,.string t,.string d,.string ti,.string at_.id,.slice Uo Uq Ur,.slice Us Ut Uu,.slice Yp Yq Yr,.slice Ai ni cci,.slice ak nk ck] wr w3:=by rw [hw3];exact ZX.out.set Df xS h0B BK hpv 7 _
    have Bg:Hid (AtR (p<·) w3 at_ (.slice Uo Uq Ur) (.slice Us Ut Uu)):=by show AtR _ _ _ _ _;rw [hw3];exact ZY.out.above (dS.set 7 _)
    have RA3:Hid (Rd (p<·) w3 (dW ar) [.slice Yp Yq Yr]):=by show Rd _ _ _ _;rw [hw3];exact Z5.out.above (dS.set 7 _)
    rw [<- hw3];clear hw3 d7 f7 ZX ZY Z5;have HI3:=hid I3;have d8:=I3.pb.cell 8 _ rfl;have hl3:=I3.pb.lt;have CC:=hid (wK ci B0 _ w3 (HR.out.dG.below (I3.bl.mono (by omega))) (by omega) Rp);clear I3;go_wp2_with fail
    refine CC.out.mono ?_;rintro e w3b ⟨vi1,rfl,hri,bi3⟩;obtain ⟨ai1,ni1,ci1,rfl⟩:=Rd.au hri;have I3b:=HI3.out.grown (FM bi3);have Z6:=hid I3b;have Z7:=hid (Bg.out.above (dS.grown (FM bi3)));have Z8:=hid (RA3.out.above (dS.grown (FM bi3)));have Z9:=hid (hri.weaken (ok':=(p<·)) (fun b hb=>by omega));have d8:=I3b.pb.cell 8 _ rfl;have f8:=I3b.pb.free 8;clear I3b HI3 Bg RA3 CC hri bi3 hl3;go_upto_region 7 with (fail)
    obtain ⟨w4,hw4⟩:∃ w4,w4=w3b.setCell ⟨p,8,none⟩ (.slice ai1 ni1 ci1):=⟨_,rfl⟩;have I4:IS B0 B bo bi p GD (acc++aj.bG (l.take k)) rows [.int .i64 kd,.string t,.string d,.string ti,.string at_.id,.slice Uo Uq Ur,.slice Us Ut Uu,.slice Yp Yq Yr,.slice ai1 ni1 ci1,.slice ak nk ck] wr w4:=by rw [hw4];exact Z6.out.set Df xS h0B BK hpv 8 _
    have IN4:Hid (uo (fun b=>b<B0\/p<b) w4 at_ ar ci ks (.slice Uo Uq Ur) (.slice Us Ut Uu) (.slice Yp Yq Yr) (.slice ai1 ni1 ci1) (.slice ak nk ck)):=by
     show uo _ _ _ _ _ _ _ _ _ _ _;refine ⟨?_,?_,?_,?_⟩
     ·rw [hw4];exact (Z7.out.above (dS.set 8 _)).weaken (fun b hb=>.inr hb)
     ·rw [hw4];exact (Z8.out.above (dS.set 8 _)).weaken (fun b hb=>.inr hb)
     ·rw [hw4];exact (Z9.out.above (dS.set 8 _)).weaken (fun b hb=>.inr hb)
     ·exact (HR.out.kids.below (I4.bl.mono (by omega))).weaken (fun b hb=>.inl hb)
    rw [<- hw4];clear hw4 d8 f8 Z6 Z7 Z8 Z9;have HI4:=hid I4;obtain ⟨iI,hiI,jg7,jg8,jg9⟩:=info_parts NQ;obtain ⟨ao,co,rfl⟩:=sN I4.ol.own;obtain ⟨m,hm⟩:∃ m,m=(acc++aj.bG (l.take k)).length:=⟨_,rfl⟩;have hm1:m+(aj.aR ks+1)<=1000000:=by have h1:=aj.BM l k _ HX.out;rw [aj.sz] at h1;rw [hm,jm5,aj.jh];omega
    have HM:=hid hm;have e0:=I4.pb.cell 0 _ rfl;have e1:=I4.pb.cell 1 _ rfl;have e2:=I4.pb.cell 2 _ rfl;have e3:=I4.pb.cell 3 _ rfl;have e4:=I4.pb.cell 4 _ rfl;have e5:=I4.pb.cell 5 _ rfl;have e6:=I4.pb.cell 6 _ rfl;have e7:=I4.pb.cell 7 _ rfl;have e8:=I4.pb.cell 8 _ rfl;have e9:=I4.pb.cell 9 _ rfl;have eb:w4.cell? ⟨bo,0,none⟩=some (.slice ao m co):=by have:=I4.ol.bx;rw [hm];simp [jn8,this]
    have fb:w4.frozen? ⟨bo,0,none⟩=false:=by have:=I4.ol.bx;simp [World.frozen?,this]
    have OW4:Hid (w4.ownsRow B 66 10 (.slice ao m co) m rows.flatten):=by show World.ownsRow _ _ _ _ _ _ _;rw [hm];exact I4.ol.own
    have hs4:B<=w4.heap.size:=I4.ol.Un;have kF:=hid I4.ol.bx;rw [<- hm] at kF;have hp4:p<w4.heap.size:=I4.pb.lt;have hb4:bo<w4.heap.size:=by omega
    have Ue:=hid I4.pb;have jgj:(Value.slice ao m co).ownBlock≠some p:=by rw [hm];exact hpv
    have NR:Hid (rows.flatten.length=m*10):=OW4.out.1;have HI5:Hid (IS B0 B bo bi p (.slice ao m co) (acc++aj.bG (l.take k)) rows [.int .i64 kd,.string t,.string d,.string ti,.string at_.id,.slice Uo Uq Ur,.slice Us Ut Uu,.slice Yp Yq Yr,.slice ai1 ni1 ci1,.slice ak nk ck] wr w4):=by show IS _ _ _ _ _ _ _ _ _ _ _;rw [hm];exact HI4.out
    have HVQ:Hid (∀ g,(Value.slice ao m co).ownBlock=some g->g<p):=by show ∀ g,_;rw [hm];exact HVP.out
    rw [<- hm] at ZV;clear I4 hm HI4 HVP;have RX4:=hid (aj.eH kd t d ti IN4.out)
    go_cut [] (fun wx=>jy B0 B bo bi (.slice ao m co) w4 (acc++aj.bG (l.take k)++[aj.mk kd t d ti at_ ar ci ks]) wx)
    case first=>
     go_region_law (refine step_append_lies _ rfl (.tmp 27) (.tmp 30) 46 rfl B 66 iI _ 10 192 Tryz.underlying46 hiI jg7 jg8 jg9 rfl (by decide) (.slice ao m co) m rows.flatten rfl (OW4.out.alloc _) ⟨w4.heap.size,0,none⟩ 1 1 [.int .i64 0,.string ⟨#[]⟩,.string ⟨#[]⟩,.string ⟨#[]⟩,.string ⟨#[]⟩,.slice none 0 0,.slice none 0 0,.slice none 0 0,.slice none 0 0,.slice none 0 0] rfl rfl (Qd w4 _ _) (by intro u hu;simp at hu;rcases hu with rfl | rfl | rfl<;>rfl) (by omega) (by unfold maxLen;omega) (by omega) (by show B<=(w4.alloc _).heap.size;rw [World.size_alloc];omega) _ rfl ?_;intro g cap w5 hown hgrow hat jkz;have hix:(m:Int)<(m:Int)+1:=(by omega);have hcp:=Rs hown;have q0:=iq hown NR.out 0 _ rfl (by omega);have z0:=hown.frozenAt (m*10+0);have q1:=iq hown NR.out 1 _ rfl (by omega);have z1:=hown.frozenAt (m*10+1);have q2:=iq hown NR.out 2 _ rfl (by omega);have z2:=hown.frozenAt (m*10+2);have q3:=iq hown NR.out 3 _ rfl (by omega);have z3:=hown.frozenAt (m*10+3);have q4:=iq hown NR.out 4 _ rfl (by omega);have z4:=hown.frozenAt (m*10+4);have q5:=iq hown NR.out 5 _ rfl (by omega);have z5:=hown.frozenAt (m*10+5);have q6:=iq hown NR.out 6 _ rfl (by omega);have z6:=hown.frozenAt (m*10+6);have q7:=iq hown NR.out 7 _ rfl (by omega);have z7:=hown.frozenAt (m*10+7);have q8:=iq hown NR.out 8 _ rfl (by omega);have z8:=hown.frozenAt (m*10+8);have q9:=iq hown NR.out 9 _ rfl (by omega);have z9:=hown.frozenAt (m*10+9);obtain ⟨qb,zb,hgb⟩:=WG kF.out hown hgrow OW4.out Df hs4;simp only [Nat.add_zero] at q0 z0;have NS:=ja0 Ue.out hgrow jgj;have r0:=NS.cell 0 _ rfl;have r1:=NS.cell 1 _ rfl;have r2:=NS.cell 2 _ rfl;have r3:=NS.cell 3 _ rfl;have r4:=NS.cell 4 _ rfl;have r5:=NS.cell 5 _ rfl;have r6:=NS.cell 6 _ rfl;have r7:=NS.cell 7 _ rfl;have r8:=NS.cell 8 _ rfl;have r9:=NS.cell 9 _ rfl;have QT:=hat.imp_right (fun e=>(Nat.le_trans (Nat.le_succ w4.heap.size) (Nat.le_of_eq ((World.size_alloc _ _).symm.trans e.symm))));have PT1:=NU HI5.out HM.out Df xS hoi KR BK HVQ.out RX4.out hown rfl NR.out hgrow QT;simp only [ten] at PT1;have PT:=hid PT1;clear PT1 NS hat QT)
     all_goals
      go_wp2_with fail
      go_meet
      first
      | with_reducible exact PT.out.1
      | with_reducible exact PT.out.2
    case rest=>
     obtain ⟨w7,hw7⟩:∃ w7:World,w7=wc:=⟨_,rfl⟩;subst hw7;have ja1:fF bo vo w w4:=by have hb:=HI5.out.bl;have hk:=HKO.out;refine ⟨Nat.le_trans hk.1 hb.size,hb.os.trans hk.2.1,hb.tape.trans hk.2.2.1,hb.output.trans hk.2.2.2.1,fun b hb' hne C8=>(hb.block b ?_).trans (hk.2.2.2.2 b hb' hne C8)⟩;rw [HPW.out];exact Nat.lt_of_lt_of_le hb' hk.1
     have IO7:=jy.trans ja1 ZV.out hcut;obtain ⟨vo7,ja2,OL7,KO7,OR7⟩:=IO7;obtain ⟨g7,o7,vc7,vp7,va7,vi7,vk7,hgo,_,_,Qf,WH⟩:=fJ (HS.out.below (KO7.below KR (by omega) WC.out (by omega))) HX.out;cases hgo
     have k9:=Qf.c9;have kb:w7.cell? ⟨bi,0,none⟩=some (Qh bo bi):=by have:=OL7.fn;simp [jn8,this]
     unfold Qh at kb;have hsk:=aj.bg l k _ HX.out;rw [aj.sz] at hsk;have IK:=hid (IH.out (aj.aR ks) (by omega) ks B0 B bo bi (acc++aj.bG (l.take k)++[aj.mk kd t d ti at_ ar ci ks]) ja2 vk7 vo7 w7.drew (jm1 _) (by omega) (WH.kids.below ⟨rfl,rfl,rfl,jm1 _,fun _ _=>rfl⟩) KR h0i Df xS hoi Uf OL7.drew (by rw [jm5,<- HM.out,List.length_singleton];omega));have ja3:=hid KO7.drew;have ja4:=hid OR7;obtain ⟨ak7,nk7,ck7,rfl⟩:=Rd.au WH.kids;clear hcut OL7 KO7 OR7 WH Qf ja1 HI5 HVQ kF Ue OW4 RX4;go_upto_region 8 with (fail)
     go_still_tail 6,(by kernel_rfl)
     change wpList _ _ _ _ _ w7.drew;go_wp2_with fail
     refine IK.out.mono ?_;rintro e w8 ⟨rfl,IO8⟩;have IO9:=hid (jy.trans ja3.out ja4.out IO8);clear IO8 IK ja3 ja4 k9 kb;go_wp2_with fail
     go_roundw;case rel=>
      refine ⟨k+1,by omega,by go_num,?_⟩;rw [aj.wL l k _ HX.out,aj.deep];have:=IO9.out;simp only [List.append_assoc,List.singleton_append] at this;exact this
     case measure=>simp [intOf];omega
   ·have hkl:k=l.length:=by omega
    subst hkl;rw [List.take_length] at wJ;have HO:=hid wJ;clear wJ;go_wp2
    go_end0
    exact ⟨rfl,GD,rows,HO.out,Ro,hor⟩
open Go.RowKit
mutual
def ah.inls:ah->List aj
 | .mk _ _ _ _ _ _ _ li ks=>aj.bG li++ah.aU ks
def ah.aU:List ah->List aj
 | []=>[]
 | x::l=>x.inls++ah.aU l
end
theorem ah.rJ (l m:List ah):ah.aU (l++m)=ah.aU l++ah.aU m:=by
 induction l with
 | nil=>rw [ah.aU];rfl
 | cons x l ih=>rw [List.cons_append,ah.aU,ah.aU,ih,List.append_assoc]
theorem ah.wM (l:List ah) (k:Nat) (x:ah) (h:l[k]?=some x):ah.aU (l.take (k+1))=ah.aU (l.take k)++x.inls:=by rw [List.take_add_one,h,ah.rJ];simp [ah.aU]
theorem ah.KS (l:List ah) (k:Nat) (x:ah) (h:l[k]?=some x):(ah.aU (l.take k)).length+x.inls.length<=(ah.aU l).length:=by
 have e:ah.aU l=ah.aU (l.take (k+1))++ah.aU (l.drop (k+1)):=by rw [<- ah.rJ,List.take_append_drop]
 have e2:=congrArg List.length e;rw [ah.wM l k x h] at e2;simp only [jm5] at e2;omega
def Yt (bi bk:Nat):Value:=.func (.func 85) #[] #[.pointer (some ⟨bi,0,none⟩),.pointer (some ⟨bk,0,none⟩)]
def NV (bi bk:Nat) (w:World):Prop:=w.heap[bk]?=some (.cells #[Yt bi bk] 122 (0,0))
theorem NV.keep {bi bk bo B:Nat} {vo:Value} {w w':World} (h:NV bi bk w) (hk:fF bo vo w w') (hne:bk≠bo) (hb:bk<B) (hv:∀ g,vo.ownBlock=some g->B<=g):NV bi bk w':=
 (hk.2.2.2.2 bk (Array.getElem?_eq_some_iff.1 h).1 hne (fun e=>by have:=hv bk e;omega)).trans h
def Uv (B0 B bo bi:Nat) (vo:Value) (w:World) (acc:List aj) (l:List ah) (vi:Value) (wr:World):Prop:=
 ∃ k:Nat,k<=l.length/\vi=.int .i64 k/\jy B0 B bo bi vo w (acc++ah.aU (l.take k)) wr
theorem NW (n:Nat):∀ (l:List ah) (B0 B bo bi bk:Nat) (acc:List aj) (wI:List (List Value)) (v vo:Value) (w:World),ah.aR l<=n->n<=1000000->Rd (·<B0) w (fC l) [v]->B0<=bo->B0<=bi->bo<B->bi<B->bo≠bi->bk<B->bk≠bo->ah.jS l->OL B0 B bo bi bo vo acc wI w->NV bi bk w->acc.length+(ah.aU l).length<=1000000 -> Calls Tryz.prog 85 #[v,.pointer (some ⟨bi,0,none⟩),.pointer (some ⟨bk,0,none⟩)] w fun e w'=>e=.returned (.tuple #[])/\jy B0 B bo bi vo w (acc++ah.aU l) w':=by
 induction n using Nat.strongRecOn with
 | _ n ih=>
  intro l B0 B bo bi bk acc wI v vo w hn hnm hrd KR h0i Df xS hoi hkB hko hbd wJ hKB hal;obtain ⟨a,cap,hv,hs⟩:=Rd.aB hrd;obtain rfl:v=.slice a l.length cap:=by simpa using hv
  have hcap:l.length<=cap:=by simpa using hs.le
  have hll:=ah.cZ l;have hmx:=hs.max;have HS:=hid hs;have IH:=hid ih;have kE:=hid hbd;have HKB:=hid hKB;have R0:Hid (Uv B0 B bo bi vo w acc l (.int .i64 0) w):=⟨0,Nat.zero_le _,rfl,vo,wI,by rw [List.take_zero,ah.aU,List.append_nil];exact wJ,⟨jm1 _,rfl,rfl,rfl,fun _ _ _ _=>rfl⟩,.inl rfl⟩;have C8:∀ g,vo.ownBlock=some g->B<=g:=fun g hg=>(wJ.own.lt g hg).1
  have WC:=hid C8;have hBw:=wJ.Un;clear hs hv hrd ih hbd wJ C8 hKB;unfold maxLen at hmx;go_enter Tryz.func85,Tryz.ntmps85;go_wp2
  go_loopw [7] (fun vi wr=>Uv B0 B bo bi vo w acc l vi wr) (fun i _=>l.length-(intOf i).toNat)
  case atStart=>exact R0.out
  case round=>
   obtain ⟨k,hk,rfl,GD,rows,wJ,Ro,hor⟩:=hrel;clear R0;by_cases hlt:k<l.length
   ·obtain ⟨x,hx⟩:∃ x,l[k]?=some x:=⟨_,List.getElem?_eq_getElem hlt⟩;obtain ⟨kd,lv,i,t,d,ti,at_,li,ks⟩:=x;have hbel:Below B0 w wr:=Ro.below KR (by omega) WC.out (by omega);obtain ⟨g,off,vc,vp,vl,vk,rfl,hok,hbl,hc,hR⟩:=I7 (HS.out.below hbel) hx;have c9:=hc.c9;have hb1:=ah.lJ l k _ kE.out hx;rw [ah.bd] at hb1;obtain ⟨hn1,hn2,hn3,Rp,Uf⟩:=hb1;have hsz:=ah.bg l k _ hx;rw [ah.sz] at hsz;have hln:=ah.KS l k _ hx;rw [ah.inls,jm5] at hln;have jl0:=aj.jh li;obtain ⟨al,nl,cl,rfl⟩:=Rd.au hR.line;have kb:wr.cell? ⟨bi,0,none⟩=some (Qh bo bi):=by
     have:=wJ.fn;simp [jn8,this]
    unfold Qh at kb;have CI:=hid (NP (aj.aR li) li B0 B bo bi (acc++ah.aU (l.take k)) rows (.slice al nl cl) GD wr.drew (jm1 _) Rp (hR.line.below ⟨rfl,rfl,rfl,jm1 _,fun _ _=>rfl⟩) KR h0i Df xS hoi hn3 wJ.drew (by rw [jm5];omega));have HX:=hid hx;have HKO:=hid Ro.drew;have ZV:=hid hor;clear hR hx wJ Ro hor hbel hc hbl;go_upto_region 3 with (fail)
    go_still_tail 6,(by kernel_rfl)
    change wpList _ _ _ _ _ wr.drew;go_wp2_with fail
    refine CI.out.mono ?_;rintro e w1 ⟨rfl,IO1⟩;obtain ⟨vo2,bR,OL2,KO2,OR2⟩:=jy.trans HKO.out ZV.out IO1;obtain ⟨g7,o7,vc7,vp7,vl7,vk7,hgo,_,_,Qf,WH⟩:=I7 (HS.out.below (KO2.below KR (by omega) WC.out (by omega))) HX.out;cases hgo
    have k10:=Qf.c10;have kb2:w1.cell? ⟨bk,0,none⟩=some (Yt bi bk):=by have:=HKB.out.keep KO2 hko hkB WC.out;unfold NV at this;simp [jn8,this]
    unfold Yt at kb2;obtain ⟨ak7,nk7,ck7,rfl⟩:=Rd.au WH.kids;have IK:=hid (IH.out (ah.aR ks) (by omega) ks B0 B bo bi bk (acc++ah.aU (l.take k)++aj.bG li) bR (.slice ak7 nk7 ck7) vo2 w1.drew (jm1 _) (by omega) (WH.kids.below ⟨rfl,rfl,rfl,jm1 _,fun _ _=>rfl⟩) KR h0i Df xS hoi hkB hko Uf OL2.drew (HKB.out.keep KO2.drew hko hkB WC.out) (by rw [jm5,jm5];omega));have ja5:=hid KO2.drew;have ja6:=hid OR2;clear CI IO1 OL2 KO2 OR2 WH Qf kb c9 HKO ZV;go_upto_region 4 with (fail)
    go_still_tail 6,(by kernel_rfl)
    change wpList _ _ _ _ _ w1.drew;go_wp2_with fail
    refine IK.out.mono ?_;rintro e w8 ⟨rfl,IO8⟩;have IO9:=hid (jy.trans ja5.out ja6.out IO8);clear IO8 IK ja5 ja6 k10 kb2;go_wp2_with fail
    go_roundw;case rel=>
     refine ⟨k+1,by omega,by go_num,?_⟩;rw [ah.wM l k _ HX.out,ah.inls];have:=IO9.out;simp only [List.append_assoc] at this ⊢;exact this
    case measure=>simp [intOf];omega
   ·have hkl:k=l.length:=by omega
    subst hkl;rw [List.take_length] at wJ;have HO:=hid wJ;clear wJ;go_wp2
    go_end0
    exact ⟨rfl,GD,rows,HO.out,Ro,hor⟩
open Go.RowKit
def aG (b:Nat) (v:Value) (t:TypeId) (w:World):Prop:=w.heap[b]?=some (.cells #[v] t (0,0))
section
variable {b:Nat} {v:Value} {t:TypeId} {w w':World}
theorem aG.lt (h:aG b v t w):b<w.heap.size:=(Array.getElem?_eq_some_iff.1 h).1
theorem aG.cell (h:aG b v t w):w.cell? ⟨b,0,none⟩=some v:=by unfold aG at h;simp [jn8,h]
theorem aG.free (h:aG b v t w):w.frozen? ⟨b,0,none⟩=false:=by unfold aG at h;simp [World.frozen?,h]
theorem aG.set (h:aG b v t w) (u:Value):aG b u t (w.setCell ⟨b,0,none⟩ u):=BO h
theorem aG.far (h:aG b v t w) {q j:Nat} (hq:b≠q) (u:Value):aG b v t (w.setCell ⟨q,j,none⟩ u):=(Below.heap_setCell w ⟨q,j,none⟩ u b hq).trans h
theorem aG.alloc (h:aG b v t w) (o:Obj):aG b v t (w.alloc o):=(jmj w o b h.lt).trans h
theorem aG.new (w:World) (v:Value) (t:TypeId):aG w.heap.size v t (w.alloc (.cells #[v] t)):=heap_alloc_new w _
theorem aG.below (h:aG b v t w) {B:Nat} (hB:b<B) (hb:Below B w w'):aG b v t w':=(hb.block b hB).trans h
theorem aG.drew (h:aG b v t w):aG b v t w.drew:=h
end
theorem KT {w:World} {B B':Nat} {e:TypeId} {k n:Nat} {v:Value} {xs:List Value} (h:w.ownsRow B e k v n xs) (hB:B'<=B):w.ownsRow B' e k v n xs:=
 ⟨h.1,h.2.imp id fun ⟨g,cap,cur,h1,h2,h3⟩=>⟨g,cap,cur,h1,Nat.le_trans hB h2,h3⟩⟩
theorem Er (l:List ah) (v:Value) (w:World) (h:Rd (·<w.heap.size) w (fC l) [v]) (hbd:ah.jS l) (hsz:ah.aR l<=1000000) (hln:(ah.aU l).length<=1000000) : Calls Tryz.prog 37 #[v] w fun e w'=>∃ v' rows,e=.returned v'/\w'.ownsRow w.heap.size 66 10 v' (ah.aU l).length rows.flatten/\aH (fun _=>True) w' ((ah.aU l).map aj.d) rows/\(∀ r∈rows,r.length=10)/\Below w.heap.size w w':=by
 obtain ⟨va,vn,vc,rfl⟩:=Rd.au h;have HR:=hid h;have kE:=hid hbd;clear h hbd;obtain ⟨N,hN⟩:∃ N,N=w.heap.size:=⟨_,rfl⟩;go_enter Tryz.func37,Tryz.ntmps37;go_upto_region 3 with (fail)
 obtain ⟨wA,iL⟩:∃ wA,wA=(w.alloc (.cells #[.slice none 0 0] 46)).alloc (.cells #[.nilFunc] 116):=⟨_,rfl⟩;have b0:aG N (.slice none 0 0) 46 wA:=by rw [iL,hN];exact (aG.new w _ _).alloc _
 have b1:aG (N+1) .nilFunc 116 wA:=by
  rw [iL,hN];have:=aG.new (w.alloc (.cells #[.slice none 0 0] 46)) .nilFunc 116
  rwa [World.size_alloc] at this
 have bl:Below N w wA:=by rw [iL,hN];exact ((Below.refl _ _).alloc (jm1 _) _).alloc (by simp) _
 have sz:wA.heap.size=N+2:=by rw [iL,hN];simp
 rw [<- iL,<- hN];rw [<- hN] at HR;have HN:=hid hN;clear iL hN;have c1:=b1.cell;have f1:=b1.free;go_upto_region 4 with (fail)
 obtain ⟨wB,Em⟩:∃ wB,wB=wA.setCell ⟨N+1,0,none⟩ (Qh N (N+1)):=⟨_,rfl⟩;have d0:aG N (.slice none 0 0) 46 wB:=by rw [Em];exact b0.far (by omega) _
 have d1:aG (N+1) (Qh N (N+1)) 116 wB:=by rw [Em];exact b1.set _
 have dl:Below N w wB:=by rw [Em];exact bl.setCell (p:=⟨N+1,0,none⟩) (by show N<=N+1;omega) _
 have dz:wB.heap.size=N+2:=by rw [Em];simpa [World.setCell] using sz
 unfold Qh at Em;rw [<- Em];clear Em b0 b1 bl sz c1 f1;go_upto_region 5 with (fail)
 obtain ⟨wC,Mc⟩:∃ wC,wC=wB.alloc (.cells #[.nilFunc] 122):=⟨_,rfl⟩;have b0:aG N (.slice none 0 0) 46 wC:=by rw [Mc];exact d0.alloc _
 have b1:aG (N+1) (Qh N (N+1)) 116 wC:=by rw [Mc];exact d1.alloc _
 have b2:aG (N+2) .nilFunc 122 wC:=by rw [Mc,<- dz];exact aG.new _ _ _
 have bl:Below N w wC:=by rw [Mc];exact dl.alloc (by omega) _
 have sz:wC.heap.size=N+3:=by rw [Mc];simp [dz]
 rw [<- Mc];clear Mc d0 d1 dl dz;have c2:=b2.cell;have f2:=b2.free;go_upto_region 6 with (fail)
 obtain ⟨wD,KU⟩:∃ wD,wD=wC.setCell ⟨N+2,0,none⟩ (Yt (N+1) (N+2)):=⟨_,rfl⟩;have d0:aG N (.slice none 0 0) 46 wD:=by rw [KU];exact b0.far (by omega) _
 have d1:aG (N+1) (Qh N (N+1)) 116 wD:=by rw [KU];exact b1.far (by omega) _
 have d2:aG (N+2) (Yt (N+1) (N+2)) 122 wD:=by rw [KU];exact b2.set _
 have dl:Below N w wD:=by rw [KU];exact bl.setCell (p:=⟨N+2,0,none⟩) (by show N<=N+2;omega) _
 have dz:wD.heap.size=N+3:=by rw [KU];simpa [World.setCell] using sz
 have c2:=d2.cell;unfold Yt at KU c2;rw [<- KU];clear KU b0 b1 b2 bl sz f2;have OLD:OL N (N+3) N (N+1) N (.slice none 0 0) [] [] wD:=⟨d0,d1,⟨rfl,.inl ⟨rfl,rfl⟩⟩,aH.none,by simp,by omega⟩;have CB:=hid (NW (ah.aR l) l N (N+3) N (N+1) (N+2) [] [] (.slice va vn vc) (.slice none 0 0) wD (jm1 _) hsz (HR.out.below dl) (jm1 _) (by omega) (by omega) (by omega) (by omega) (by omega) (by omega) kE.out OLD d2 (by simpa using hln));have HDL:=hid dl;clear OLD d0 d1 d2 dl;go_wp2_with fail
 refine CB.out.mono ?_;rintro e w1 ⟨rfl,vo,rows,OL1,KO1,OR1⟩;have kb:w1.cell? ⟨N,0,none⟩=some vo:=by have:=OL1.bx;simp [jn8,this]
 obtain ⟨ao,co,rfl⟩:=sN OL1.own;have HO:=hid OL1;have HK:Hid (Below N w w1):=HDL.out.trans (KO1.below (B:=N+3) (jm1 _) (by omega) (by simp [Value.ownBlock]) (by omega));clear OL1 KO1 OR1 CB HDL c2;go_wp2_with fail
 go_ret;refine ⟨_,rows,rfl,?_,aH.keep (fun _ _ _=>⟨trivial,rfl⟩) _ _ HO.out.red,HO.out.len,HN.out ▸ HK.out⟩;have:=KT HO.out.own (B':=w.heap.size) (by have:=HN.out;omega);simpa using this
end Go.Proofs.YtkfnkeflalcphaaGreatDoor

