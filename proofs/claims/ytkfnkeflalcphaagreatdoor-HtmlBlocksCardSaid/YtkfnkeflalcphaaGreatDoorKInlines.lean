/- tree.Inlines$1: the inlines, and those in them, are added to what the box holds. tree.Inlines$2 and tree.Inlines: all inlines of blocks, in document order. tree.Inlines: all inlines of blocks, in document order. -/
import Derived.Test.YtkfnkeflalcphaaGreatDoorKCtC
import Derived.StillTailTactics
import Derived.Laws.EntriesVeiled
set_option maxHeartbeats 8000000
set_option maxRecDepth 100000
open Go.Lib (hid)
namespace Go.Proofs.YtkfnkeflalcphaaGreatDoor
open Nat renaming le_refl->jD8
open List renaming length_append->jDq
open Go.RowKit.Below renaming heap_alloc->jE2
open Go.World renaming cell?->jF0
open Go.RowKit
set_option linter.unusedVariables false
set_option linter.unusedSimpArgs false
theorem TD (n:Nat):∀ (l:List aj) (B0 B bo bi:Nat) (acc:List aj) (zF:List (List Value)) (v vo:Value) (w:World),aj.aY l<=n->n<=1000000->Rd (·<B0) w (bG l) [v]->B0<=bo->B0<=bi->bo<B->bi<B->bo≠bi->aj.uw l->OL B0 B bo bi bo vo acc zF w->acc.length+aj.aY l<=1000000 -> Calls Tryz.prog 81 #[v,.pointer (some ⟨bo,0,none⟩),.pointer (some ⟨bi,0,none⟩)] w fun e w'=>e=.returned (.tuple #[])/\jy B0 B bo bi vo w (acc++aj.aP l) w':=by
 induction n using Nat.strongRecOn with
 | _ n ih=>
  intro l B0 B bo bi acc zF v vo w hn hnm hrd Og h0i Fx JF hoi hbd zG hal;obtain ⟨a,cap,hv,hs⟩:=Rd.ay hrd;obtain rfl:v=.slice a l.length cap:=by simpa using hv
  have hcap:l.length<=cap:=by simpa using hs.le
  have hll:=aj.fF l;have hmx:=hs.max;have HS:=hid hs;have IH:=hid ih;have nC:=hid hbd;have R0:Hid (Zh B0 B bo bi vo w acc l (.int .i64 0) w):=⟨0,Nat.zero_le _,rfl,vo,zF,by rw [List.take_zero,aj.aP,List.append_nil];exact zG,⟨jD8 _,rfl,rfl,rfl,fun _ _ _ _=>rfl⟩,.inl rfl⟩;have JG:∀ g,vo.ownBlock=some g->B<=g:=fun g hg=>(zG.own.lt g hg).1
  have HVO:=hid JG;have hBw:=zG.Zg;clear hs hv hrd ih hbd zG JG;unfold maxLen at hmx;go_enter Tryz.func81,Tryz.ntmps81;go_wp2
  go_loopw [8] (fun vi wr=>Zh B0 B bo bi vo w acc l vi wr) (fun i _=>l.length-(intOf i).toNat)
  case atStart=>exact R0.out
  case round=>
   obtain ⟨k,hk,rfl,JH,rows,zG,XJ,hor⟩:=hrel;clear R0;by_cases hlt:k<l.length
   ·refine iX ?_;intro x hx;obtain ⟨kd,t,d,ti,at_,ar,ci,ks⟩:=x;have hbel:Below B0 w wr:=XJ.below Og (by omega) HVO.out (by omega);obtain ⟨g,off,vc,vp,va,vi,vk,rfl,hok,hbl,hc,hR⟩:=L9 (HS.out.below hbel) hx;obtain ⟨c0,c1,c2,c3,c4,c5,c6,c7,c8,c9⟩:=hc;have hb1:=aj.sD l k _ nC.out hx;rw [aj.bd] at hb1;obtain ⟨hn1,hn2,hn3,hn4,hn5⟩:=hb1;have hsz:=aj.bE l k _ hx;rw [aj.sz] at hsz;obtain ⟨ac,nc,cc,rfl⟩:=Rd.au hR.at_.cls
    obtain ⟨ap,np,cp,rfl⟩:=Rd.au hR.at_.aD
    obtain ⟨Aa,na,ca,rfl⟩:=Rd.au hR.args;obtain ⟨Ai,ni,cci,rfl⟩:=Rd.au hR.fu;obtain ⟨ak,nk,ck,rfl⟩:=Rd.au hR.kids;have HR:=hid hR;have HX:=hid hx;have HOL:=hid zG;have HKO:=hid XJ;have HOR:=hid hor;have jsz:=zG.Zg;clear hR hx zG XJ hor hbel;go_upto_region 4 with (fail)
    obtain ⟨p,hp⟩:∃ p,p=wr.heap.size:=⟨_,rfl⟩;obtain ⟨wA,iw⟩:∃ wA,wA=wr.alloc (.cells #[.int .i64 kd,.string t,.string d,.string ti,.string at_.id,.slice ac nc cc,.slice ap np cp,.slice Aa na ca,.slice Ai ni cci,.slice ak nk ck] 66):=⟨_,rfl⟩;have hpv:JH.ownBlock≠some p:=by rw [hp];exact own_ne HOL.out.own (jD8 _)
    have Mk:B<=p:=by rw [hp];exact jsz
    have OA:OL B0 B bo bi p JH (acc++aj.aP (l.take k)) rows wA:=by
     rw [iw];refine ⟨(jE2 _ _ _ (by omega)).trans HOL.out.bx,(jE2 _ _ _ (by omega)).trans HOL.out.fn,HOL.out.own.alloc _,aR.keep (fun b hb hlt'=>⟨?_,jE2 _ _ b hlt'⟩) _ _ HOL.out.red,HOL.out.len,by simp;omega⟩;rcases hb with hb | hb
     ·exact .inl hb
     ·exact .inr ⟨hb.1,hb.2.1,by omega⟩
    have PA:PB p [.int .i64 kd,.string t,.string d,.string ti,.string at_.id,.slice ac nc cc,.slice ap np cp,.slice Aa na ca,.slice Ai ni cci,.slice ak nk ck] wA:=by rw [iw,hp];exact heap_alloc_new wr _
    have bA:Below B0 wr wA:=by rw [iw];exact (Below.refl _ _).alloc (by omega) _
    have gA:wr.grownBy wA none:=by rw [iw];exact World.grownBy_alloc _ _ none
    have hpA:wA.heap.size=p+1:=by rw [iw,hp];simp
    have HPW:=hid hp;have HVP:Hid (∀ g,JH.ownBlock=some g->g<p):=fun g hg=>by rw [hp];exact (HOL.out.own.lt g hg).2
    have HSA:=hid hpA;have hBA:B0<=wA.heap.size:=by omega
    rw [<- iw,<- hp];clear hp hpA iw c0 c1 c2 c3 c4 c5 c6 c7 c8 c9 hbl HOL jsz;have HIA:=hid (⟨OA,PA,by rw [HPW.out];exact (Below.refl _ _).grown gA (jD8 _) (by simp)⟩:IS B0 B bo bi p JH (acc++aj.aP (l.take k)) rows [.int .i64 kd,.string t,.string d,.string ti,.string at_.id,.slice ac nc cc,.slice ap np cp,.slice Aa na ca,.slice Ai ni cci,.slice ak nk ck] wr wA);have d4:=PA.cell 4 _ rfl;have d5:=PA.cell 5 _ rfl;have d6:=PA.cell 6 _ rfl;have CT:=hid (Bn at_ _ _ B0 wA (HR.out.at_.below bA) hBA hn1 hn2);clear OA PA;go_wp2_with fail
    refine CT.out.mono ?_;rintro e w1 ⟨vc1,vp1,rfl,XM,b1⟩;obtain ⟨ac1,nc1,cc1,rfl⟩:=Rd.au XM.cls;obtain ⟨ap1,np1,cp1,rfl⟩:=Rd.au XM.aD;have I1:=HIA.out.grown (Qd b1);have HI1:=hid I1;have AT1:=hid (XM.weaken (ok':=(p<·)) (fun b hb=>by have:=HSA.out;omega));have d4:=I1.pb.cell 4 _ rfl;have d5:=I1.pb.cell 5 _ rfl;have d6:=I1.pb.cell 6 _ rfl;have f4:=I1.pb.free 4;have f5:=I1.pb.free 5;have f6:=I1.pb.free 6;have h0B:B0<=B:=by omega
    clear I1 CT HIA XM b1 gA bA hBA;go_upto_region 5 with (fail)
    obtain ⟨w2,hw2⟩:∃ w2,w2=((w1.setCell ⟨p,4,none⟩ (.string at_.id)).setCell ⟨p,5,none⟩ (.slice ac1 nc1 cc1)).setCell ⟨p,6,none⟩ (.slice ap1 np1 cp1):=⟨_,rfl⟩;have I2:IS B0 B bo bi p JH (acc++aj.aP (l.take k)) rows [.int .i64 kd,.string t,.string d,.string ti,.string at_.id,.slice ac1 nc1 cc1,.slice ap1 np1 cp1,.slice Aa na ca,.slice Ai ni cci,.slice ak nk ck] wr w2:=by rw [hw2];exact ((HI1.out.set Fx JF h0B Mk hpv 4 _).set Fx JF h0B Mk hpv 5 _).set Fx JF h0B Mk hpv 6 _
    have wR:Hid (AtR (p<·) w2 at_ (.slice ac1 nc1 cc1) (.slice ap1 np1 cp1)):=by show AtR _ _ _ _ _;rw [hw2];exact ((AT1.out.above (fK.set 4 _)).above (fK.set 5 _)).above (fK.set 6 _)
    rw [<- hw2];clear hw2 d4 d5 d6 f4 f5 f6 HI1 AT1;have HI2:=hid I2;have d7:=I2.pb.cell 7 _ rfl;have hl2:=I2.pb.lt;have CS:=hid (yh ar B0 _ w2 (HR.out.args.below (I2.bl.mono (by omega))) (by omega) hn3);clear I2;go_wp2_with fail
    refine CS.out.mono ?_;rintro e w2b ⟨va1,rfl,hra,ba⟩;obtain ⟨aa1,na1,ca1,rfl⟩:=Rd.au hra;have I2b:=HI2.out.grown (Qd ba);have jt0:=hid I2b;have jt1:=hid (wR.out.above (fK.grown (Qd ba)));have jt2:=hid (hra.weaken (ok':=(p<·)) (fun b hb=>by omega));have d7:=I2b.pb.cell 7 _ rfl;have f7:=I2b.pb.free 7;clear I2b HI2 wR CS hra ba hl2;go_upto_region 6 with (fail)
    obtain ⟨w3,hw3⟩:∃ w3,w3=w2b.setCell ⟨p,7,none⟩ (.slice aa1 na1 ca1):=⟨_,rfl⟩;have I3:IS B0 B bo bi p JH (acc++aj.aP (l.take k)) rows [.int .i64 kd,.string t,.string d,.string ti,.string at_.id,.slice ac1 nc1 cc1,.slice ap1 np1 cp1,.slice aa1 na1 ca1,.slice Ai ni cci,.slice ak nk ck] wr w3:=by rw [hw3];exact jt0.out.set Fx JF h0B Mk hpv 7 _
    have xg:Hid (AtR (p<·) w3 at_ (.slice ac1 nc1 cc1) (.slice ap1 np1 cp1)):=by show AtR _ _ _ _ _;rw [hw3];exact jt1.out.above (fK.set 7 _)
    have RA3:Hid (Rd (p<·) w3 (jZ ar) [.slice aa1 na1 ca1]):=by show Rd _ _ _ _;rw [hw3];exact jt2.out.above (fK.set 7 _)
    rw [<- hw3];clear hw3 d7 f7 jt0 jt1 jt2;have HI3:=hid I3;have d8:=I3.pb.cell 8 _ rfl;have hl3:=I3.pb.lt;have CC:=hid (JD ci B0 _ w3 (HR.out.fu.below (I3.bl.mono (by omega))) (by omega) hn4);clear I3;go_wp2_with fail
    refine CC.out.mono ?_;rintro e w3b ⟨vi1,rfl,hri,bi3⟩;obtain ⟨ai1,ni1,ci1,rfl⟩:=Rd.au hri;have I3b:=HI3.out.grown (Qd bi3);have jt3:=hid I3b;have jt4:=hid (xg.out.above (fK.grown (Qd bi3)));have jt5:=hid (RA3.out.above (fK.grown (Qd bi3)));have jt6:=hid (hri.weaken (ok':=(p<·)) (fun b hb=>by omega));have d8:=I3b.pb.cell 8 _ rfl;have f8:=I3b.pb.free 8;clear I3b HI3 xg RA3 CC hri bi3 hl3;go_upto_region 7 with (fail)
    obtain ⟨w4,hw4⟩:∃ w4,w4=w3b.setCell ⟨p,8,none⟩ (.slice ai1 ni1 ci1):=⟨_,rfl⟩;have I4:IS B0 B bo bi p JH (acc++aj.aP (l.take k)) rows [.int .i64 kd,.string t,.string d,.string ti,.string at_.id,.slice ac1 nc1 cc1,.slice ap1 np1 cp1,.slice aa1 na1 ca1,.slice ai1 ni1 ci1,.slice ak nk ck] wr w4:=by rw [hw4];exact jt3.out.set Fx JF h0B Mk hpv 8 _
    have IN4:Hid (qV (fun b=>b<B0\/p<b) w4 at_ ar ci ks (.slice ac1 nc1 cc1) (.slice ap1 np1 cp1) (.slice aa1 na1 ca1) (.slice ai1 ni1 ci1) (.slice ak nk ck)):=by
     show qV _ _ _ _ _ _ _ _ _ _ _;refine ⟨?_,?_,?_,?_⟩
     ·rw [hw4];exact (jt4.out.above (fK.set 8 _)).weaken (fun b hb=>.inr hb)
     ·rw [hw4];exact (jt5.out.above (fK.set 8 _)).weaken (fun b hb=>.inr hb)
     ·rw [hw4];exact (jt6.out.above (fK.set 8 _)).weaken (fun b hb=>.inr hb)
     ·exact (HR.out.kids.below (I4.bl.mono (by omega))).weaken (fun b hb=>.inl hb)
    rw [<- hw4];clear hw4 d8 f8 jt3 jt4 jt5 jt6;have HI4:=hid I4;obtain ⟨iI,XO,EP,ER,ES⟩:=info_parts QW;obtain ⟨ao,co,rfl⟩:=kW I4.ol.own;obtain ⟨m,hm⟩:∃ m,m=(acc++aj.aP (l.take k)).length:=⟨_,rfl⟩;have hm1:m+(aj.aY ks+1)<=1000000:=by have h1:=aj.Ei l k _ HX.out;rw [aj.sz] at h1;rw [hm,jDq,aj.fM];omega
    have HM:=hid hm;have e0:=I4.pb.cell 0 _ rfl;have e1:=I4.pb.cell 1 _ rfl;have e2:=I4.pb.cell 2 _ rfl;have e3:=I4.pb.cell 3 _ rfl;have e4:=I4.pb.cell 4 _ rfl;have e5:=I4.pb.cell 5 _ rfl;have e6:=I4.pb.cell 6 _ rfl;have e7:=I4.pb.cell 7 _ rfl;have e8:=I4.pb.cell 8 _ rfl;have e9:=I4.pb.cell 9 _ rfl;have eb:w4.cell? ⟨bo,0,none⟩=some (.slice ao m co):=by have:=I4.ol.bx;rw [hm];simp [jF0,this]
    have fb:w4.frozen? ⟨bo,0,none⟩=false:=by have:=I4.ol.bx;simp [World.frozen?,this]
    have OW4:Hid (w4.ownsRow B 66 10 (.slice ao m co) m rows.flatten):=by show World.ownsRow _ _ _ _ _ _ _;rw [hm];exact I4.ol.own
    have hs4:B<=w4.heap.size:=I4.ol.Zg;have pY:=hid I4.ol.bx;rw [<- hm] at pY;have hp4:p<w4.heap.size:=I4.pb.lt;have hb4:bo<w4.heap.size:=by omega
    have SV:=hid I4.pb;have jyj:(Value.slice ao m co).ownBlock≠some p:=by rw [hm];exact hpv
    have TG:Hid (rows.flatten.length=m*10):=OW4.out.1;have HI5:Hid (IS B0 B bo bi p (.slice ao m co) (acc++aj.aP (l.take k)) rows [.int .i64 kd,.string t,.string d,.string ti,.string at_.id,.slice ac1 nc1 cc1,.slice ap1 np1 cp1,.slice aa1 na1 ca1,.slice ai1 ni1 ci1,.slice ak nk ck] wr w4):=by show IS _ _ _ _ _ _ _ _ _ _ _;rw [hm];exact HI4.out
    have HVQ:Hid (∀ g,(Value.slice ao m co).ownBlock=some g->g<p):=by show ∀ g,_;rw [hm];exact HVP.out
    rw [<- hm] at HOR;clear I4 hm HI4 HVP;have RX4:=hid (aj.dJ kd t d ti IN4.out)
    go_cut [] (fun wx=>jy B0 B bo bi (.slice ao m co) w4 (acc++aj.aP (l.take k)++[aj.mk kd t d ti at_ ar ci ks]) wx)
    case first=>
     go_region_law (refine step_append_lies _ rfl (.tmp 27) (.tmp 30) 46 rfl B 66 iI _ 10 192 Tryz.underlying46 XO EP ER ES rfl (by decide) (.slice ao m co) m rows.flatten rfl (OW4.out.alloc _) ⟨w4.heap.size,0,none⟩ 1 1 [.int .i64 0,.string ⟨#[]⟩,.string ⟨#[]⟩,.string ⟨#[]⟩,.string ⟨#[]⟩,.slice none 0 0,.slice none 0 0,.slice none 0 0,.slice none 0 0,.slice none 0 0] rfl rfl (Gh w4 _ _) (by intro u hu;simp at hu;rcases hu with rfl | rfl | rfl<;>rfl) (by omega) (by unfold maxLen;omega) (by omega) (by show B<=(w4.alloc _).heap.size;rw [World.size_alloc];omega) _ rfl ?_;intro g cap w5 hown hgrow hat jC7;have hix:(m:Int)<(m:Int)+1:=(by omega);have hcp:=Wo hown;have q0:=iD hown TG.out 0 _ rfl (by omega);have z0:=hown.frozenAt (m*10+0);have q1:=iD hown TG.out 1 _ rfl (by omega);have z1:=hown.frozenAt (m*10+1);have q2:=iD hown TG.out 2 _ rfl (by omega);have z2:=hown.frozenAt (m*10+2);have q3:=iD hown TG.out 3 _ rfl (by omega);have z3:=hown.frozenAt (m*10+3);have q4:=iD hown TG.out 4 _ rfl (by omega);have z4:=hown.frozenAt (m*10+4);have q5:=iD hown TG.out 5 _ rfl (by omega);have z5:=hown.frozenAt (m*10+5);have q6:=iD hown TG.out 6 _ rfl (by omega);have z6:=hown.frozenAt (m*10+6);have q7:=iD hown TG.out 7 _ rfl (by omega);have z7:=hown.frozenAt (m*10+7);have q8:=iD hown TG.out 8 _ rfl (by omega);have z8:=hown.frozenAt (m*10+8);have q9:=iD hown TG.out 9 _ rfl (by omega);have z9:=hown.frozenAt (m*10+9);obtain ⟨qb,zb,hgb⟩:=jk4 pY.out hown hgrow OW4.out Fx hs4;simp only [Nat.add_zero] at q0 z0;have TH:=jq9 SV.out hgrow jyj;have r0:=TH.cell 0 _ rfl;have r1:=TH.cell 1 _ rfl;have r2:=TH.cell 2 _ rfl;have r3:=TH.cell 3 _ rfl;have r4:=TH.cell 4 _ rfl;have r5:=TH.cell 5 _ rfl;have r6:=TH.cell 6 _ rfl;have r7:=TH.cell 7 _ rfl;have r8:=TH.cell 8 _ rfl;have r9:=TH.cell 9 _ rfl;have WU:=hat.imp_right (fun e=>(Nat.le_trans (Nat.le_succ w4.heap.size) (Nat.le_of_eq ((World.size_alloc _ _).symm.trans e.symm))));have PT1:=Q5 HI5.out HM.out Fx JF hoi Og Mk HVQ.out RX4.out hown rfl TG.out hgrow WU;simp only [ten] at PT1;have PT:=hid PT1;clear PT1 TH hat WU)
     all_goals
      go_wp2_with fail
      go_meet
      first
      | with_reducible exact PT.out.1
      | with_reducible exact PT.out.2
    case rest=>
     obtain ⟨w7,hw7⟩:∃ w7:World,w7=wc:=⟨_,rfl⟩;subst hw7;have jt7:fO bo vo w w4:=by have hb:=HI5.out.bl;have hk:=HKO.out;refine ⟨Nat.le_trans hk.1 hb.size,hb.os.trans hk.2.1,hb.tape.trans hk.2.2.1,hb.output.trans hk.2.2.2.1,fun b hb' hne JG=>(hb.block b ?_).trans (hk.2.2.2.2 b hb' hne JG)⟩;rw [HPW.out];exact Nat.lt_of_lt_of_le hb' hk.1
     have IO7:=jy.trans jt7 HOR.out hcut;obtain ⟨vo7,jt8,OL7,KO7,OR7⟩:=IO7;obtain ⟨g7,o7,vc7,vp7,va7,vi7,vk7,hgo,_,_,hc7,hR7⟩:=L9 (HS.out.below (KO7.below Og (by omega) HVO.out (by omega))) HX.out;cases hgo
     have k9:=hc7.c9;have kb:w7.cell? ⟨bi,0,none⟩=some (VQ bo bi):=by have:=OL7.fn;simp [jF0,this]
     unfold VQ at kb;have hsk:=aj.bE l k _ HX.out;rw [aj.sz] at hsk;have IK:=hid (IH.out (aj.aY ks) (by omega) ks B0 B bo bi (acc++aj.aP (l.take k)++[aj.mk kd t d ti at_ ar ci ks]) jt8 vk7 vo7 w7.drew (jD8 _) (by omega) (hR7.kids.below ⟨rfl,rfl,rfl,jD8 _,fun _ _=>rfl⟩) Og h0i Fx JF hoi hn5 OL7.drew (by rw [jDq,<- HM.out,List.length_singleton];omega));have jt9:=hid KO7.drew;have jtj:=hid OR7;obtain ⟨ak7,nk7,ck7,rfl⟩:=Rd.au hR7.kids;clear hcut OL7 KO7 OR7 hR7 hc7 jt7 HI5 HVQ pY SV OW4 RX4;go_upto_region 8 with (fail)
     go_still_tail 6,(by kernel_rfl)
     change wpList _ _ _ _ _ w7.drew;go_wp2_with fail
     refine IK.out.mono ?_;rintro e w8 ⟨rfl,IO8⟩;have IO9:=hid (jy.trans jt9.out jtj.out IO8);clear IO8 IK jt9 jtj k9 kb;go_wp2_with fail
     go_roundw;case rel=>
      refine ⟨k+1,by omega,by go_num,?_⟩;rw [aj.yj l k _ HX.out,aj.deep];have:=IO9.out;simp only [List.append_assoc,List.singleton_append] at this;exact this
     case measure=>simp [intOf];omega
   ·have hkl:k=l.length:=by omega
    subst hkl;rw [List.take_length] at zG;have HO:=hid zG;clear zG;go_wp2
    go_end0
    exact ⟨rfl,JH,rows,HO.out,XJ,hor⟩
open Go.RowKit
mutual
def ah.inls:ah->List aj
 | .mk _ _ _ _ _ _ _ li ks=>aj.aP li++ah.aS ks
def ah.aS:List ah->List aj
 | []=>[]
 | x::l=>x.inls++ah.aS l
end
theorem ah.Dj (l m:List ah):ah.aS (l++m)=ah.aS l++ah.aS m:=by
 induction l with
 | nil=>rw [ah.aS];rfl
 | cons x l ih=>rw [List.cons_append,ah.aS,ah.aS,ih,List.append_assoc]
theorem ah.zH (l:List ah) (k:Nat) (x:ah) (h:l[k]?=some x):ah.aS (l.take (k+1))=ah.aS (l.take k)++x.inls:=by rw [List.take_add_one,h,ah.Dj];simp [ah.aS]
theorem ah.OU (l:List ah) (k:Nat) (x:ah) (h:l[k]?=some x):(ah.aS (l.take k)).length+x.inls.length<=(ah.aS l).length:=by
 have e:ah.aS l=ah.aS (l.take (k+1))++ah.aS (l.drop (k+1)):=by rw [<- ah.Dj,List.take_append_drop]
 have e2:=congrArg List.length e;rw [ah.zH l k x h] at e2;simp only [jDq] at e2;omega
def inG (bi bk:Nat):Value:=.func (.func 85) #[] #[.pointer (some ⟨bi,0,none⟩),.pointer (some ⟨bk,0,none⟩)]
def TI (bi bk:Nat) (w:World):Prop:=w.heap[bk]?=some (.cells #[inG bi bk] 122 (0,0))
theorem TI.keep {bi bk bo B:Nat} {vo:Value} {w w':World} (h:TI bi bk w) (hk:fO bo vo w w') (hne:bk≠bo) (hb:bk<B) (hv:∀ g,vo.ownBlock=some g->B<=g):TI bi bk w':=
 (hk.2.2.2.2 bk (Array.getElem?_eq_some_iff.1 h).1 hne (fun e=>by have:=hv bk e;omega)).trans h
def jc7 (B0 B bo bi:Nat) (vo:Value) (w:World) (acc:List aj) (l:List ah) (vi:Value) (wr:World):Prop:=
 ∃ k:Nat,k<=l.length/\vi=.int .i64 k/\jy B0 B bo bi vo w (acc++ah.aS (l.take k)) wr
theorem TJ (n:Nat):∀ (l:List ah) (B0 B bo bi bk:Nat) (acc:List aj) (zF:List (List Value)) (v vo:Value) (w:World),ah.aY l<=n->n<=1000000->Rd (·<B0) w (nN l) [v]->B0<=bo->B0<=bi->bo<B->bi<B->bo≠bi->bk<B->bk≠bo->ah.uw l->OL B0 B bo bi bo vo acc zF w->TI bi bk w->acc.length+(ah.aS l).length<=1000000 -> Calls Tryz.prog 85 #[v,.pointer (some ⟨bi,0,none⟩),.pointer (some ⟨bk,0,none⟩)] w fun e w'=>e=.returned (.tuple #[])/\jy B0 B bo bi vo w (acc++ah.aS l) w':=by
 induction n using Nat.strongRecOn with
 | _ n ih=>
  intro l B0 B bo bi bk acc zF v vo w hn hnm hrd Og h0i Fx JF hoi hkB hko hbd zG hKB hal;obtain ⟨a,cap,hv,hs⟩:=Rd.ay hrd;obtain rfl:v=.slice a l.length cap:=by simpa using hv
  have hcap:l.length<=cap:=by simpa using hs.le
  have hll:=ah.fF l;have hmx:=hs.max;have HS:=hid hs;have IH:=hid ih;have nC:=hid hbd;have HKB:=hid hKB;have R0:Hid (jc7 B0 B bo bi vo w acc l (.int .i64 0) w):=⟨0,Nat.zero_le _,rfl,vo,zF,by rw [List.take_zero,ah.aS,List.append_nil];exact zG,⟨jD8 _,rfl,rfl,rfl,fun _ _ _ _=>rfl⟩,.inl rfl⟩;have JG:∀ g,vo.ownBlock=some g->B<=g:=fun g hg=>(zG.own.lt g hg).1
  have HVO:=hid JG;have hBw:=zG.Zg;clear hs hv hrd ih hbd zG JG hKB;unfold maxLen at hmx;go_enter Tryz.func85,Tryz.ntmps85;go_wp2
  go_loopw [7] (fun vi wr=>jc7 B0 B bo bi vo w acc l vi wr) (fun i _=>l.length-(intOf i).toNat)
  case atStart=>exact R0.out
  case round=>
   obtain ⟨k,hk,rfl,JH,rows,zG,XJ,hor⟩:=hrel;clear R0;by_cases hlt:k<l.length
   ·refine iX ?_;intro x hx;obtain ⟨kd,lv,i,t,d,ti,at_,li,ks⟩:=x;have hbel:Below B0 w wr:=XJ.below Og (by omega) HVO.out (by omega);obtain ⟨g,off,vc,vp,vl,vk,rfl,hok,hbl,hc,hR⟩:=Gr (HS.out.below hbel) hx;have c9:=hc.c9;have hb1:=ah.sD l k _ nC.out hx;rw [ah.bd] at hb1;obtain ⟨hn1,hn2,hn3,hn4,hn5⟩:=hb1;have hsz:=ah.bE l k _ hx;rw [ah.sz] at hsz;have hln:=ah.OU l k _ hx;rw [ah.inls,jDq] at hln;have jC8:=aj.fM li;obtain ⟨al,nl,cl,rfl⟩:=Rd.au hR.line;have kb:wr.cell? ⟨bi,0,none⟩=some (VQ bo bi):=by
     have:=zG.fn;simp [jF0,this]
    unfold VQ at kb;have CI:=hid (TD (aj.aY li) li B0 B bo bi (acc++ah.aS (l.take k)) rows (.slice al nl cl) JH wr.drew (jD8 _) hn4 (hR.line.below ⟨rfl,rfl,rfl,jD8 _,fun _ _=>rfl⟩) Og h0i Fx JF hoi hn3 zG.drew (by rw [jDq];omega));have HX:=hid hx;have HKO:=hid XJ.drew;have HOR:=hid hor;clear hR hx zG XJ hor hbel hc hbl;go_upto_region 3 with (fail)
    go_still_tail 6,(by kernel_rfl)
    change wpList _ _ _ _ _ wr.drew;go_wp2_with fail
    refine CI.out.mono ?_;rintro e w1 ⟨rfl,IO1⟩;obtain ⟨vo2,aZ,OL2,KO2,OR2⟩:=jy.trans HKO.out HOR.out IO1;obtain ⟨g7,o7,vc7,vp7,vl7,vk7,hgo,_,_,hc7,hR7⟩:=Gr (HS.out.below (KO2.below Og (by omega) HVO.out (by omega))) HX.out;cases hgo
    have k10:=hc7.c10;have kb2:w1.cell? ⟨bk,0,none⟩=some (inG bi bk):=by have:=HKB.out.keep KO2 hko hkB HVO.out;unfold TI at this;simp [jF0,this]
    unfold inG at kb2;obtain ⟨ak7,nk7,ck7,rfl⟩:=Rd.au hR7.kids;have IK:=hid (IH.out (ah.aY ks) (by omega) ks B0 B bo bi bk (acc++ah.aS (l.take k)++aj.aP li) aZ (.slice ak7 nk7 ck7) vo2 w1.drew (jD8 _) (by omega) (hR7.kids.below ⟨rfl,rfl,rfl,jD8 _,fun _ _=>rfl⟩) Og h0i Fx JF hoi hkB hko hn5 OL2.drew (HKB.out.keep KO2.drew hko hkB HVO.out) (by rw [jDq,jDq];omega));have jtk:=hid KO2.drew;have jtq:=hid OR2;clear CI IO1 OL2 KO2 OR2 hR7 hc7 kb c9 HKO HOR;go_upto_region 4 with (fail)
    go_still_tail 6,(by kernel_rfl)
    change wpList _ _ _ _ _ w1.drew;go_wp2_with fail
    refine IK.out.mono ?_;rintro e w8 ⟨rfl,IO8⟩;have IO9:=hid (jy.trans jtk.out jtq.out IO8);clear IO8 IK jtk jtq k10 kb2;go_wp2_with fail
    go_roundw;case rel=>
     refine ⟨k+1,by omega,by go_num,?_⟩;rw [ah.zH l k _ HX.out,ah.inls];have:=IO9.out;simp only [List.append_assoc] at this ⊢;exact this
    case measure=>simp [intOf];omega
   ·have hkl:k=l.length:=by omega
    subst hkl;rw [List.take_length] at zG;have HO:=hid zG;clear zG;go_wp2
    go_end0
    exact ⟨rfl,JH,rows,HO.out,XJ,hor⟩
open Go.RowKit
def aH (b:Nat) (v:Value) (t:TypeId) (w:World):Prop:=w.heap[b]?=some (.cells #[v] t (0,0))
section
variable {b:Nat} {v:Value} {t:TypeId} {w w':World}
theorem aH.lt (h:aH b v t w):b<w.heap.size:=(Array.getElem?_eq_some_iff.1 h).1
theorem aH.cell (h:aH b v t w):w.cell? ⟨b,0,none⟩=some v:=by unfold aH at h;simp [jF0,h]
theorem aH.free (h:aH b v t w):w.frozen? ⟨b,0,none⟩=false:=by unfold aH at h;simp [World.frozen?,h]
theorem aH.set (h:aH b v t w) (u:Value):aH b u t (w.setCell ⟨b,0,none⟩ u):=Eh h
theorem aH.far (h:aH b v t w) {q j:Nat} (hq:b≠q) (u:Value):aH b v t (w.setCell ⟨q,j,none⟩ u):=(Below.heap_setCell w ⟨q,j,none⟩ u b hq).trans h
theorem aH.alloc (h:aH b v t w) (o:Obj):aH b v t (w.alloc o):=(jE2 w o b h.lt).trans h
theorem aH.new (w:World) (v:Value) (t:TypeId):aH w.heap.size v t (w.alloc (.cells #[v] t)):=heap_alloc_new w _
theorem aH.below (h:aH b v t w) {B:Nat} (hB:b<B) (hb:Below B w w'):aH b v t w':=(hb.block b hB).trans h
theorem aH.drew (h:aH b v t w):aH b v t w.drew:=h
end
theorem OV {w:World} {B B':Nat} {e:TypeId} {k n:Nat} {v:Value} {xs:List Value} (h:w.ownsRow B e k v n xs) (hB:B'<=B):w.ownsRow B' e k v n xs:=
 ⟨h.1,h.2.imp id fun ⟨g,cap,cur,h1,h2,h3⟩=>⟨g,cap,cur,h1,Nat.le_trans hB h2,h3⟩⟩
theorem vH (l:List ah) (v:Value) (w:World) (h:Rd (·<w.heap.size) w (nN l) [v]) (hbd:ah.uw l) (hsz:ah.aY l<=1000000) (hln:(ah.aS l).length<=1000000) : Calls Tryz.prog 37 #[v] w fun e w'=>∃ v' rows,e=.returned v'/\w'.ownsRow w.heap.size 66 10 v' (ah.aS l).length rows.flatten/\aR (fun _=>True) w' ((ah.aS l).map aj.d) rows/\(∀ r∈rows,r.length=10)/\Below w.heap.size w w':=by
 obtain ⟨va,vn,vc,rfl⟩:=Rd.au h;have HR:=hid h;have nC:=hid hbd;clear h hbd;obtain ⟨N,hN⟩:∃ N,N=w.heap.size:=⟨_,rfl⟩;go_enter Tryz.func37,Tryz.ntmps37;go_upto_region 3 with (fail)
 obtain ⟨wA,iw⟩:∃ wA,wA=(w.alloc (.cells #[.slice none 0 0] 46)).alloc (.cells #[.nilFunc] 116):=⟨_,rfl⟩;have b0:aH N (.slice none 0 0) 46 wA:=by rw [iw,hN];exact (aH.new w _ _).alloc _
 have b1:aH (N+1) .nilFunc 116 wA:=by
  rw [iw,hN];have:=aH.new (w.alloc (.cells #[.slice none 0 0] 46)) .nilFunc 116
  rwa [World.size_alloc] at this
 have bl:Below N w wA:=by rw [iw,hN];exact ((Below.refl _ _).alloc (jD8 _) _).alloc (by simp) _
 have sz:wA.heap.size=N+2:=by rw [iw,hN];simp
 rw [<- iw,<- hN];rw [<- hN] at HR;have HN:=hid hN;clear iw hN;have c1:=b1.cell;have f1:=b1.free;go_upto_region 4 with (fail)
 obtain ⟨wB,Hf⟩:∃ wB,wB=wA.setCell ⟨N+1,0,none⟩ (VQ N (N+1)):=⟨_,rfl⟩;have d0:aH N (.slice none 0 0) 46 wB:=by rw [Hf];exact b0.far (by omega) _
 have d1:aH (N+1) (VQ N (N+1)) 116 wB:=by rw [Hf];exact b1.set _
 have dl:Below N w wB:=by rw [Hf];exact bl.setCell (p:=⟨N+1,0,none⟩) (by show N<=N+1;omega) _
 have dz:wB.heap.size=N+2:=by rw [Hf];simpa [World.setCell] using sz
 unfold VQ at Hf;rw [<- Hf];clear Hf b0 b1 bl sz c1 f1;go_upto_region 5 with (fail)
 obtain ⟨wC,hwC⟩:∃ wC,wC=wB.alloc (.cells #[.nilFunc] 122):=⟨_,rfl⟩;have b0:aH N (.slice none 0 0) 46 wC:=by rw [hwC];exact d0.alloc _
 have b1:aH (N+1) (VQ N (N+1)) 116 wC:=by rw [hwC];exact d1.alloc _
 have b2:aH (N+2) .nilFunc 122 wC:=by rw [hwC,<- dz];exact aH.new _ _ _
 have bl:Below N w wC:=by rw [hwC];exact dl.alloc (by omega) _
 have sz:wC.heap.size=N+3:=by rw [hwC];simp [dz]
 rw [<- hwC];clear hwC d0 d1 dl dz;have c2:=b2.cell;have f2:=b2.free;go_upto_region 6 with (fail)
 obtain ⟨wD,hwD⟩:∃ wD,wD=wC.setCell ⟨N+2,0,none⟩ (inG (N+1) (N+2)):=⟨_,rfl⟩;have d0:aH N (.slice none 0 0) 46 wD:=by rw [hwD];exact b0.far (by omega) _
 have d1:aH (N+1) (VQ N (N+1)) 116 wD:=by rw [hwD];exact b1.far (by omega) _
 have d2:aH (N+2) (inG (N+1) (N+2)) 122 wD:=by rw [hwD];exact b2.set _
 have dl:Below N w wD:=by rw [hwD];exact bl.setCell (p:=⟨N+2,0,none⟩) (by show N<=N+2;omega) _
 have dz:wD.heap.size=N+3:=by rw [hwD];simpa [World.setCell] using sz
 have c2:=d2.cell;unfold inG at hwD c2;rw [<- hwD];clear hwD b0 b1 b2 bl sz f2;have OLD:OL N (N+3) N (N+1) N (.slice none 0 0) [] [] wD:=⟨d0,d1,⟨rfl,.inl ⟨rfl,rfl⟩⟩,aR.none,by simp,by omega⟩;have CB:=hid (TJ (ah.aY l) l N (N+3) N (N+1) (N+2) [] [] (.slice va vn vc) (.slice none 0 0) wD (jD8 _) hsz (HR.out.below dl) (jD8 _) (by omega) (by omega) (by omega) (by omega) (by omega) (by omega) nC.out OLD d2 (by simpa using hln));have HDL:=hid dl;clear OLD d0 d1 d2 dl;go_wp2_with fail
 refine CB.out.mono ?_;rintro e w1 ⟨rfl,vo,rows,OL1,KO1,OR1⟩;have kb:w1.cell? ⟨N,0,none⟩=some vo:=by have:=OL1.bx;simp [jF0,this]
 obtain ⟨ao,co,rfl⟩:=kW OL1.own;have HO:=hid OL1;have HK:Hid (Below N w w1):=HDL.out.trans (KO1.below (B:=N+3) (jD8 _) (by omega) (by simp [Value.ownBlock]) (by omega));clear OL1 KO1 OR1 CB HDL c2;go_wp2_with fail
 go_ret;refine ⟨_,rows,rfl,?_,aR.keep (fun _ _ _=>⟨trivial,rfl⟩) _ _ HO.out.red,HO.out.len,HN.out ▸ HK.out⟩;have:=OV HO.out.own (B':=w.heap.size) (by have:=HN.out;omega);simpa using this
end Go.Proofs.YtkfnkeflalcphaaGreatDoor

