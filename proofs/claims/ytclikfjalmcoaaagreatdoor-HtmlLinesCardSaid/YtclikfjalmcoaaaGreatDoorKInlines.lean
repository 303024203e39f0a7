/- tree.Inlines$1: the inlines, and those in them, are added to what the box holds. tree.Inlines$2 and tree.Inlines: all inlines of blocks, in document order. tree.Inlines: all inlines of blocks, in document order. -/
import Derived.Test.YtclikfjalmcoaaaGreatDoorKInlsW
import Derived.StillTailTactics
import Derived.Laws.EntriesVeiled
set_option maxHeartbeats 8000000
set_option maxRecDepth 100000
open Go.Lib (hid)
namespace Go.Proofs.YtclikfjalmcoaaaGreatDoor
open Nat renaming le_refl->jh2
open List renaming length_append->jh6
open Go.RowKit.Below renaming heap_alloc->jhk
open Go.World renaming cell?->ji9
open Go.RowKit
set_option linter.unusedVariables false
set_option linter.unusedSimpArgs false
theorem Oc (n:Nat):∀ (l:List aj) (B0 B bo bi:Nat) (acc:List aj) (xO:List (List Value)) (v vo:Value) (w:World),aj.aZ l<=n->n<=1000000->Rd (·<B0) w (bC l) [v]->B0<=bo->B0<=bi->bo<B->bi<B->bo≠bi->aj.sP l->OL B0 B bo bi bo vo acc xO w->acc.length+aj.aZ l<=1000000 -> Calls Tryz.prog 93 #[v,.pointer (some ⟨bo,0,none⟩),.pointer (some ⟨bi,0,none⟩)] w fun e w'=>e=.returned (.tuple #[])/\jM B0 B bo bi vo w (acc++aj.aU l) w':=by
 induction n using Nat.strongRecOn with
 | _ n ih=>
  intro l B0 B bo bi acc xO v vo w hn hnm hrd Le h0i DL Ib hoi hbd xP hal;obtain ⟨a,cap,hv,hs⟩:=Rd.aB hrd;obtain rfl:v=.slice a l.length cap:=by simpa using hv
  have hcap:l.length<=cap:=by simpa using hs.le
  have hll:=aj.gZ l;have hmx:=hs.max;have HS:=hid hs;have IH:=hid ih;have jD:=hid hbd;have R0:Hid (TW B0 B bo bi vo w acc l (.int .i64 0) w):=⟨0,Nat.zero_le _,rfl,vo,xO,by rw [List.take_zero,aj.aU,List.append_nil];exact xP,⟨jh2 _,rfl,rfl,rfl,fun _ _ _ _=>rfl⟩,.inl rfl⟩;have Ic:∀ g,vo.ownBlock=some g->B<=g:=fun g hg=>(xP.own.lt g hg).1
  have Wi:=hid Ic;have hBw:=xP.TY;clear hs hv hrd ih hbd xP Ic;unfold maxLen at hmx;go_enter Tryz.func93,Tryz.ntmps93;go_wp2
  go_loopw [8] (fun vi wr=>TW B0 B bo bi vo w acc l vi wr) (fun i _=>l.length-(intOf i).toNat)
  case atStart=>exact R0.out
  case round=>
   obtain ⟨k,hk,rfl,Ie,rows,xP,Ri,hor⟩:=hrel;clear R0;by_cases hlt:k<l.length
   ·obtain ⟨x,hx⟩:∃ x,l[k]?=some x:=⟨_,List.getElem?_eq_getElem hlt⟩;obtain ⟨kd,t,d,ti,at_,ar,ci,ks⟩:=x;have hbel:Below B0 w wr:=Ri.below Le (by omega) Wi.out (by omega);obtain ⟨g,off,vc,vp,va,vi,vk,rfl,hok,hbl,hc,hR⟩:=Jp (HS.out.below hbel) hx;obtain ⟨c0,c1,c2,c3,c4,c5,c6,c7,c8,c9⟩:=hc;have hb1:=aj.qU l k _ jD.out hx;rw [aj.bd] at hb1;obtain ⟨hn1,hn2,hn3,hn4,TM⟩:=hb1;have hsz:=aj.bE l k _ hx;rw [aj.sz] at hsz;obtain ⟨ac,nc,cc,rfl⟩:=Rd.ah hR.at_.cls
    obtain ⟨ap,np,cp,rfl⟩:=Rd.ah hR.at_.aF
    obtain ⟨Aa,na,ca,rfl⟩:=Rd.ah hR.args;obtain ⟨Ai,ni,cci,rfl⟩:=Rd.ah hR.bg;obtain ⟨ak,nk,ck,rfl⟩:=Rd.ah hR.kids;have HR:=hid hR;have HX:=hid hx;have HOL:=hid xP;have HKO:=hid Ri;have Y3:=hid hor;have Y4:=xP.TY;clear hR hx xP Ri hor hbel;go_upto_region 4 with (fail)
    obtain ⟨p,hp⟩:∃ p,p=wr.heap.size:=⟨_,rfl⟩;obtain ⟨wA,gN⟩:∃ wA,wA=wr.alloc (.cells #[.int .i64 kd,.string t,.string d,.string ti,.string at_.id,.slice ac nc cc,.slice ap np cp,.slice Aa na ca,.slice Ai ni cci,.slice ak nk ck] 51):=⟨_,rfl⟩;have hpv:Ie.ownBlock≠some p:=by rw [hp];exact own_ne HOL.out.own (jh2 _)
    have J7:B<=p:=by rw [hp];exact Y4
    have OA:OL B0 B bo bi p Ie (acc++aj.aU (l.take k)) rows wA:=by
     rw [gN];refine ⟨(jhk _ _ _ (by omega)).trans HOL.out.bx,(jhk _ _ _ (by omega)).trans HOL.out.fn,HOL.out.own.alloc _,aP.keep (fun b hb hlt'=>⟨?_,jhk _ _ b hlt'⟩) _ _ HOL.out.red,HOL.out.len,by simp;omega⟩;rcases hb with hb | hb
     ·exact .inl hb
     ·exact .inr ⟨hb.1,hb.2.1,by omega⟩
    have PA:PB p [.int .i64 kd,.string t,.string d,.string ti,.string at_.id,.slice ac nc cc,.slice ap np cp,.slice Aa na ca,.slice Ai ni cci,.slice ak nk ck] wA:=by rw [gN,hp];exact heap_alloc_new wr _
    have bA:Below B0 wr wA:=by rw [gN];exact (Below.refl _ _).alloc (by omega) _
    have gA:wr.grownBy wA none:=by rw [gN];exact World.grownBy_alloc _ _ none
    have hpA:wA.heap.size=p+1:=by rw [gN,hp];simp
    have HPW:=hid hp;have HVP:Hid (∀ g,Ie.ownBlock=some g->g<p):=fun g hg=>by rw [hp];exact (HOL.out.own.lt g hg).2
    have Ve:=hid hpA;have hBA:B0<=wA.heap.size:=by omega
    rw [<- gN,<- hp];clear hp hpA gN c0 c1 c2 c3 c4 c5 c6 c7 c8 c9 hbl HOL Y4;have HIA:=hid (⟨OA,PA,by rw [HPW.out];exact (Below.refl _ _).grown gA (jh2 _) (by simp)⟩:IS B0 B bo bi p Ie (acc++aj.aU (l.take k)) rows [.int .i64 kd,.string t,.string d,.string ti,.string at_.id,.slice ac nc cc,.slice ap np cp,.slice Aa na ca,.slice Ai ni cci,.slice ak nk ck] wr wA);have d4:=PA.cell 4 _ rfl;have d5:=PA.cell 5 _ rfl;have d6:=PA.cell 6 _ rfl;have CT:=hid (zJ at_ _ _ B0 wA (HR.out.at_.below bA) hBA hn1 hn2);clear OA PA;go_wp2_with fail
    refine CT.out.mono ?_;rintro e w1 ⟨vc1,vp1,rfl,Rj,b1⟩;obtain ⟨T9,Ua,Ub,rfl⟩:=Rd.ah Rj.cls;obtain ⟨Uc,Ud,Ue,rfl⟩:=Rd.ah Rj.aF;have I1:=HIA.out.grown (Ml b1);have HI1:=hid I1;have Xd:=hid (Rj.weaken (ok':=(p<·)) (fun b hb=>by have:=Ve.out;omega));have d4:=I1.pb.cell 4 _ rfl;have d5:=I1.pb.cell 5 _ rfl;have d6:=I1.pb.cell 6 _ rfl;have f4:=I1.pb.free 4;have f5:=I1.pb.free 5;have f6:=I1.pb.free 6;have h0B:B0<=B:=by omega
    clear I1 CT HIA Rj b1 gA bA hBA;go_upto_region 5 with (fail)
    obtain ⟨w2,hw2⟩:∃ w2,w2=((w1.setCell ⟨p,4,none⟩ (.string at_.id)).setCell ⟨p,5,none⟩ (.slice T9 Ua Ub)).setCell ⟨p,6,none⟩ (.slice Uc Ud Ue):=⟨_,rfl⟩;have I2:IS B0 B bo bi p Ie (acc++aj.aU (l.take k)) rows [.int .i64 kd,.string t,.string d,.string ti,.string at_.id,.slice T9 Ua Ub,.slice Uc Ud Ue,.slice Aa na ca,.slice Ai ni cci,.slice ak nk ck] wr w2:=by rw [hw2];exact ((HI1.out.set DL Ib h0B J7 hpv 4 _).set DL Ib h0B J7 hpv 5 _).set DL Ib h0B J7 hpv 6 _
    have uW:Hid (AtR (p<·) w2 at_ (.slice T9 Ua Ub) (.slice Uc Ud Ue)):=by show AtR _ _ _ _ _;rw [hw2];exact ((Xd.out.above (fQ.set 4 _)).above (fQ.set 5 _)).above (fQ.set 6 _)
    rw [<- hw2];clear hw2 d4 d5 d6 f4 f5 f6 HI1 Xd;have HI2:=hid I2;have d7:=I2.pb.cell 7 _ rfl;have hl2:=I2.pb.lt;have CS:=hid (xQ ar B0 _ w2 (HR.out.args.below (I2.bl.mono (by omega))) (by omega) hn3);clear I2;go_wp2_with fail
    refine CS.out.mono ?_;rintro e w2b ⟨va1,rfl,hra,ba⟩;obtain ⟨Xk,Xl,Xm,rfl⟩:=Rd.ah hra;have I2b:=HI2.out.grown (Ml ba);have Y5:=hid I2b;have Y6:=hid (uW.out.above (fQ.grown (Ml ba)));have Y7:=hid (hra.weaken (ok':=(p<·)) (fun b hb=>by omega));have d7:=I2b.pb.cell 7 _ rfl;have f7:=I2b.pb.free 7;clear I2b HI2 uW CS hra ba hl2;go_upto_region 6 with (fail)
    obtain ⟨w3,hw3⟩:∃ w3,w3=w2b.setCell ⟨p,7,none⟩ (.slice Xk Xl Xm):=⟨_,rfl⟩;have I3:IS B0 B bo bi p Ie (acc++aj.aU (l.take k)) rows [.int .i64 kd,.string t,.string d,.string ti,.string at_.id,.slice T9 Ua Ub,.slice Uc Ud Ue,.slice Xk Xl Xm,.slice Ai ni cci,.slice ak nk ck] wr w3:=by rw [hw3];exact Y5.out.set DL Ib h0B J7 hpv 7 _
    have vE:Hid (AtR (p<·) w3 at_ (.slice T9 Ua Ub) (.slice Uc Ud Ue)):=by show AtR _ _ _ _ _;rw [hw3];exact Y6.out.above (fQ.set 7 _)
    have YZ:Hid (Rd (p<·) w3 (ko ar) [.slice Xk Xl Xm]):=by show Rd _ _ _ _;rw [hw3];exact Y7.out.above (fQ.set 7 _)
    rw [<- hw3];clear hw3 d7 f7 Y5 Y6 Y7;have HI3:=hid I3;have d8:=I3.pb.cell 8 _ rfl;have hl3:=I3.pb.lt;have CC:=hid (Ig ci B0 _ w3 (HR.out.bg.below (I3.bl.mono (by omega))) (by omega) hn4);clear I3;go_wp2_with fail
    refine CC.out.mono ?_;rintro e w3b ⟨vi1,rfl,hri,bi3⟩;obtain ⟨ai1,ni1,ci1,rfl⟩:=Rd.ah hri;have I3b:=HI3.out.grown (Ml bi3);have Y8:=hid I3b;have Y9:=hid (vE.out.above (fQ.grown (Ml bi3)));have Za:=hid (YZ.out.above (fQ.grown (Ml bi3)));have Zb:=hid (hri.weaken (ok':=(p<·)) (fun b hb=>by omega));have d8:=I3b.pb.cell 8 _ rfl;have f8:=I3b.pb.free 8;clear I3b HI3 vE YZ CC hri bi3 hl3;go_upto_region 7 with (fail)
    obtain ⟨w4,hw4⟩:∃ w4,w4=w3b.setCell ⟨p,8,none⟩ (.slice ai1 ni1 ci1):=⟨_,rfl⟩;have I4:IS B0 B bo bi p Ie (acc++aj.aU (l.take k)) rows [.int .i64 kd,.string t,.string d,.string ti,.string at_.id,.slice T9 Ua Ub,.slice Uc Ud Ue,.slice Xk Xl Xm,.slice ai1 ni1 ci1,.slice ak nk ck] wr w4:=by rw [hw4];exact Y8.out.set DL Ib h0B J7 hpv 8 _
    have IN4:Hid (dQ (fun b=>b<B0\/p<b) w4 at_ ar ci ks (.slice T9 Ua Ub) (.slice Uc Ud Ue) (.slice Xk Xl Xm) (.slice ai1 ni1 ci1) (.slice ak nk ck)):=by
     show dQ _ _ _ _ _ _ _ _ _ _ _;refine ⟨?_,?_,?_,?_⟩
     ·rw [hw4];exact (Y9.out.above (fQ.set 8 _)).weaken (fun b hb=>.inr hb)
     ·rw [hw4];exact (Za.out.above (fQ.set 8 _)).weaken (fun b hb=>.inr hb)
     ·rw [hw4];exact (Zb.out.above (fQ.set 8 _)).weaken (fun b hb=>.inr hb)
     ·exact (HR.out.kids.below (I4.bl.mono (by omega))).weaken (fun b hb=>.inl hb)
    rw [<- hw4];clear hw4 d8 f8 Y8 Y9 Za Zb;have HI4:=hid I4;obtain ⟨iI,hiI,Rk,Rl,Rm⟩:=info_parts U7;obtain ⟨ao,co,rfl⟩:=qV I4.ol.own;obtain ⟨m,hm⟩:∃ m,m=(acc++aj.aU (l.take k)).length:=⟨_,rfl⟩;have hm1:m+(aj.aZ ks+1)<=1000000:=by have h1:=aj.C9 l k _ HX.out;rw [aj.sz] at h1;rw [hm,jh6,aj.jC];omega
    have HM:=hid hm;have e0:=I4.pb.cell 0 _ rfl;have e1:=I4.pb.cell 1 _ rfl;have e2:=I4.pb.cell 2 _ rfl;have e3:=I4.pb.cell 3 _ rfl;have e4:=I4.pb.cell 4 _ rfl;have e5:=I4.pb.cell 5 _ rfl;have e6:=I4.pb.cell 6 _ rfl;have e7:=I4.pb.cell 7 _ rfl;have e8:=I4.pb.cell 8 _ rfl;have e9:=I4.pb.cell 9 _ rfl;have eb:w4.cell? ⟨bo,0,none⟩=some (.slice ao m co):=by have:=I4.ol.bx;rw [hm];simp [ji9,this]
    have fb:w4.frozen? ⟨bo,0,none⟩=false:=by have:=I4.ol.bx;simp [World.frozen?,this]
    have OW4:Hid (w4.ownsRow B 51 10 (.slice ao m co) m rows.flatten):=by show World.ownsRow _ _ _ _ _ _ _;rw [hm];exact I4.ol.own
    have hs4:B<=w4.heap.size:=I4.ol.TY;have kK:=hid I4.ol.bx;rw [<- hm] at kK;have Y0:p<w4.heap.size:=I4.pb.lt;have hb4:bo<w4.heap.size:=by omega
    have TK:=hid I4.pb;have jc4:(Value.slice ao m co).ownBlock≠some p:=by rw [hm];exact hpv
    have Od:Hid (rows.flatten.length=m*10):=OW4.out.1;have HI5:Hid (IS B0 B bo bi p (.slice ao m co) (acc++aj.aU (l.take k)) rows [.int .i64 kd,.string t,.string d,.string ti,.string at_.id,.slice T9 Ua Ub,.slice Uc Ud Ue,.slice Xk Xl Xm,.slice ai1 ni1 ci1,.slice ak nk ck] wr w4):=by show IS _ _ _ _ _ _ _ _ _ _ _;rw [hm];exact HI4.out
    have HVQ:Hid (∀ g,(Value.slice ao m co).ownBlock=some g->g<p):=by show ∀ g,_;rw [hm];exact HVP.out
    rw [<- hm] at Y3;clear I4 hm HI4 HVP;have RX4:=hid (aj.fJ kd t d ti IN4.out)
    go_cut [] (fun wx=>jM B0 B bo bi (.slice ao m co) w4 (acc++aj.aU (l.take k)++[aj.mk kd t d ti at_ ar ci ks]) wx)
    case first=>
     go_region_law (refine step_append_lies _ rfl (.tmp 27) (.tmp 30) 22 rfl B 51 iI _ 10 192 Tryz.underlying22 hiI Rk Rl Rm rfl (by decide) (.slice ao m co) m rows.flatten rfl (OW4.out.alloc _) ⟨w4.heap.size,0,none⟩ 1 1 [.int .i64 0,.string ⟨#[]⟩,.string ⟨#[]⟩,.string ⟨#[]⟩,.string ⟨#[]⟩,.slice none 0 0,.slice none 0 0,.slice none 0 0,.slice none 0 0,.slice none 0 0] rfl rfl (GN w4 _ _) (by intro u hu;simp at hu;rcases hu with rfl | rfl | rfl<;>rfl) (by omega) (by unfold maxLen;omega) (by omega) (by show B<=(w4.alloc _).heap.size;rw [World.size_alloc];omega) _ rfl ?_;intro g cap w5 hown hgrow hat jfj;have hix:(m:Int)<(m:Int)+1:=(by omega);have hcp:=Rn hown;have q0:=iG hown Od.out 0 _ rfl (by omega);have z0:=hown.frozenAt (m*10+0);have q1:=iG hown Od.out 1 _ rfl (by omega);have z1:=hown.frozenAt (m*10+1);have q2:=iG hown Od.out 2 _ rfl (by omega);have z2:=hown.frozenAt (m*10+2);have q3:=iG hown Od.out 3 _ rfl (by omega);have z3:=hown.frozenAt (m*10+3);have q4:=iG hown Od.out 4 _ rfl (by omega);have z4:=hown.frozenAt (m*10+4);have q5:=iG hown Od.out 5 _ rfl (by omega);have z5:=hown.frozenAt (m*10+5);have q6:=iG hown Od.out 6 _ rfl (by omega);have z6:=hown.frozenAt (m*10+6);have q7:=iG hown Od.out 7 _ rfl (by omega);have z7:=hown.frozenAt (m*10+7);have q8:=iG hown Od.out 8 _ rfl (by omega);have z8:=hown.frozenAt (m*10+8);have q9:=iG hown Od.out 9 _ rfl (by omega);have z9:=hown.frozenAt (m*10+9);obtain ⟨qb,zb,hgb⟩:=Wj kK.out hown hgrow OW4.out DL hs4;simp only [Nat.add_zero] at q0 z0;have Oe:=Zc TK.out hgrow jc4;have r0:=Oe.cell 0 _ rfl;have r1:=Oe.cell 1 _ rfl;have r2:=Oe.cell 2 _ rfl;have r3:=Oe.cell 3 _ rfl;have r4:=Oe.cell 4 _ rfl;have r5:=Oe.cell 5 _ rfl;have r6:=Oe.cell 6 _ rfl;have r7:=Oe.cell 7 _ rfl;have r8:=Oe.cell 8 _ rfl;have r9:=Oe.cell 9 _ rfl;have Qu:=hat.imp_right (fun e=>(Nat.le_trans (Nat.le_succ w4.heap.size) (Nat.le_of_eq ((World.size_alloc _ _).symm.trans e.symm))));have PT1:=Og HI5.out HM.out DL Ib hoi Le J7 HVQ.out RX4.out hown rfl Od.out hgrow Qu;simp only [ten] at PT1;have PT:=hid PT1;clear PT1 Oe hat Qu)
     all_goals
      go_wp2_with fail
      go_meet
      first
      | with_reducible exact PT.out.1
      | with_reducible exact PT.out.2
    case rest=>
     obtain ⟨w7,hw7⟩:∃ w7:World,w7=wc:=⟨_,rfl⟩;subst hw7;have Zd:fU bo vo w w4:=by have hb:=HI5.out.bl;have hk:=HKO.out;refine ⟨Nat.le_trans hk.1 hb.size,hb.os.trans hk.2.1,hb.tape.trans hk.2.2.1,hb.output.trans hk.2.2.2.1,fun b hb' hne Ic=>(hb.block b ?_).trans (hk.2.2.2.2 b hb' hne Ic)⟩;rw [HPW.out];exact Nat.lt_of_lt_of_le hb' hk.1
     have IO7:=jM.trans Zd Y3.out hcut;obtain ⟨vo7,Ze,OL7,KO7,OR7⟩:=IO7;obtain ⟨g7,o7,vc7,vp7,va7,vi7,vk7,hgo,_,_,Zf,Wm⟩:=Jp (HS.out.below (KO7.below Le (by omega) Wi.out (by omega))) HX.out;cases hgo
     have k9:=Zf.c9;have kb:w7.cell? ⟨bi,0,none⟩=some (P9 bo bi):=by have:=OL7.fn;simp [ji9,this]
     unfold P9 at kb;have hsk:=aj.bE l k _ HX.out;rw [aj.sz] at hsk;have IK:=hid (IH.out (aj.aZ ks) (by omega) ks B0 B bo bi (acc++aj.aU (l.take k)++[aj.mk kd t d ti at_ ar ci ks]) Ze vk7 vo7 w7.drew (jh2 _) (by omega) (Wm.kids.below ⟨rfl,rfl,rfl,jh2 _,fun _ _=>rfl⟩) Le h0i DL Ib hoi TM OL7.drew (by rw [jh6,<- HM.out,List.length_singleton];omega));have Zg:=hid KO7.drew;have Zh:=hid OR7;obtain ⟨ak7,nk7,ck7,rfl⟩:=Rd.ah Wm.kids;clear hcut OL7 KO7 OR7 Wm Zf Zd HI5 HVQ kK TK OW4 RX4;go_upto_region 8 with (fail)
     go_still_tail 6,(by kernel_rfl)
     change wpList _ _ _ _ _ w7.drew;go_wp2_with fail
     refine IK.out.mono ?_;rintro e w8 ⟨rfl,Zi⟩;have IO9:=hid (jM.trans Zg.out Zh.out Zi);clear Zi IK Zg Zh k9 kb;go_wp2_with fail
     go_roundw;case rel=>
      refine ⟨k+1,by omega,by go_num,?_⟩;rw [aj.xR l k _ HX.out,aj.deep];have:=IO9.out;simp only [List.append_assoc,List.singleton_append] at this;exact this
     case measure=>simp [intOf];omega
   ·have hkl:k=l.length:=by omega
    subst hkl;rw [List.take_length] at xP;have HO:=hid xP;clear xP;go_wp2
    go_end0
    exact ⟨rfl,Ie,rows,HO.out,Ri,hor⟩
open Go.RowKit
mutual
def au.inls:au->List aj
 | .mk _ _ _ _ _ _ _ li ks=>aj.aU li++au.bD ks
def au.bD:List au->List aj
 | []=>[]
 | x::l=>x.inls++au.bD l
end
theorem au.AQ (l m:List au):au.bD (l++m)=au.bD l++au.bD m:=by
 induction l with
 | nil=>rw [au.bD];rfl
 | cons x l ih=>rw [List.cons_append,au.bD,au.bD,ih,List.append_assoc]
theorem au.xS (l:List au) (k:Nat) (x:au) (h:l[k]?=some x):au.bD (l.take (k+1))=au.bD (l.take k)++x.inls:=by rw [List.take_add_one,h,au.AQ];simp [au.bD]
theorem au.Lf (l:List au) (k:Nat) (x:au) (h:l[k]?=some x):(au.bD (l.take k)).length+x.inls.length<=(au.bD l).length:=by
 have e:au.bD l=au.bD (l.take (k+1))++au.bD (l.drop (k+1)):=by rw [<- au.AQ,List.take_append_drop]
 have e2:=congrArg List.length e;rw [au.xS l k x h] at e2;simp only [jh6] at e2;omega
def Xn (bi bk:Nat):Value:=.func (.func 97) #[] #[.pointer (some ⟨bi,0,none⟩),.pointer (some ⟨bk,0,none⟩)]
def Oh (bi bk:Nat) (w:World):Prop:=w.heap[bk]?=some (.cells #[Xn bi bk] 126 (0,0))
theorem Oh.keep {bi bk bo B:Nat} {vo:Value} {w w':World} (h:Oh bi bk w) (hk:fU bo vo w w') (hne:bk≠bo) (hb:bk<B) (hv:∀ g,vo.ownBlock=some g->B<=g):Oh bi bk w':=
 (hk.2.2.2.2 bk (Array.getElem?_eq_some_iff.1 h).1 hne (fun e=>by have:=hv bk e;omega)).trans h
def Uf (B0 B bo bi:Nat) (vo:Value) (w:World) (acc:List aj) (l:List au) (vi:Value) (wr:World):Prop:=
 ∃ k:Nat,k<=l.length/\vi=.int .i64 k/\jM B0 B bo bi vo w (acc++au.bD (l.take k)) wr
theorem Oi (n:Nat):∀ (l:List au) (B0 B bo bi bk:Nat) (acc:List aj) (xO:List (List Value)) (v vo:Value) (w:World),au.aZ l<=n->n<=1000000->Rd (·<B0) w (dS l) [v]->B0<=bo->B0<=bi->bo<B->bi<B->bo≠bi->bk<B->bk≠bo->au.sP l->OL B0 B bo bi bo vo acc xO w->Oh bi bk w->acc.length+(au.bD l).length<=1000000 -> Calls Tryz.prog 97 #[v,.pointer (some ⟨bi,0,none⟩),.pointer (some ⟨bk,0,none⟩)] w fun e w'=>e=.returned (.tuple #[])/\jM B0 B bo bi vo w (acc++au.bD l) w':=by
 induction n using Nat.strongRecOn with
 | _ n ih=>
  intro l B0 B bo bi bk acc xO v vo w hn hnm hrd Le h0i DL Ib hoi hkB hko hbd xP hKB hal;obtain ⟨a,cap,hv,hs⟩:=Rd.aB hrd;obtain rfl:v=.slice a l.length cap:=by simpa using hv
  have hcap:l.length<=cap:=by simpa using hs.le
  have hll:=au.gZ l;have hmx:=hs.max;have HS:=hid hs;have IH:=hid ih;have jD:=hid hbd;have HKB:=hid hKB;have R0:Hid (Uf B0 B bo bi vo w acc l (.int .i64 0) w):=⟨0,Nat.zero_le _,rfl,vo,xO,by rw [List.take_zero,au.bD,List.append_nil];exact xP,⟨jh2 _,rfl,rfl,rfl,fun _ _ _ _=>rfl⟩,.inl rfl⟩;have Ic:∀ g,vo.ownBlock=some g->B<=g:=fun g hg=>(xP.own.lt g hg).1
  have Wi:=hid Ic;have hBw:=xP.TY;clear hs hv hrd ih hbd xP Ic hKB;unfold maxLen at hmx;go_enter Tryz.func97,Tryz.ntmps97;go_wp2
  go_loopw [7] (fun vi wr=>Uf B0 B bo bi vo w acc l vi wr) (fun i _=>l.length-(intOf i).toNat)
  case atStart=>exact R0.out
  case round=>
   obtain ⟨k,hk,rfl,Ie,rows,xP,Ri,hor⟩:=hrel;clear R0;by_cases hlt:k<l.length
   ·obtain ⟨x,hx⟩:∃ x,l[k]?=some x:=⟨_,List.getElem?_eq_getElem hlt⟩;obtain ⟨kd,lv,i,t,d,ti,at_,li,ks⟩:=x;have hbel:Below B0 w wr:=Ri.below Le (by omega) Wi.out (by omega);obtain ⟨g,off,vc,vp,vl,vk,rfl,hok,hbl,hc,hR⟩:=iF (HS.out.below hbel) hx;have c9:=hc.c9;have hb1:=au.qU l k _ jD.out hx;rw [au.bd] at hb1;obtain ⟨hn1,hn2,hn3,hn4,TM⟩:=hb1;have hsz:=au.bE l k _ hx;rw [au.sz] at hsz;have hln:=au.Lf l k _ hx;rw [au.inls,jh6] at hln;have jfk:=aj.jC li;obtain ⟨al,nl,cl,rfl⟩:=Rd.ah hR.line;have kb:wr.cell? ⟨bi,0,none⟩=some (P9 bo bi):=by
     have:=xP.fn;simp [ji9,this]
    unfold P9 at kb;have CI:=hid (Oc (aj.aZ li) li B0 B bo bi (acc++au.bD (l.take k)) rows (.slice al nl cl) Ie wr.drew (jh2 _) hn4 (hR.line.below ⟨rfl,rfl,rfl,jh2 _,fun _ _=>rfl⟩) Le h0i DL Ib hoi hn3 xP.drew (by rw [jh6];omega));have HX:=hid hx;have HKO:=hid Ri.drew;have Y3:=hid hor;clear hR hx xP Ri hor hbel hc hbl;go_upto_region 3 with (fail)
    go_still_tail 6,(by kernel_rfl)
    change wpList _ _ _ _ _ wr.drew;go_wp2_with fail
    refine CI.out.mono ?_;rintro e w1 ⟨rfl,IO1⟩;obtain ⟨vo2,bq,OL2,Zj,OR2⟩:=jM.trans HKO.out Y3.out IO1;obtain ⟨g7,o7,vc7,vp7,vl7,vk7,hgo,_,_,Zf,Wm⟩:=iF (HS.out.below (Zj.below Le (by omega) Wi.out (by omega))) HX.out;cases hgo
    have k10:=Zf.c10;have kb2:w1.cell? ⟨bk,0,none⟩=some (Xn bi bk):=by have:=HKB.out.keep Zj hko hkB Wi.out;unfold Oh at this;simp [ji9,this]
    unfold Xn at kb2;obtain ⟨ak7,nk7,ck7,rfl⟩:=Rd.ah Wm.kids;have IK:=hid (IH.out (au.aZ ks) (by omega) ks B0 B bo bi bk (acc++au.bD (l.take k)++aj.aU li) bq (.slice ak7 nk7 ck7) vo2 w1.drew (jh2 _) (by omega) (Wm.kids.below ⟨rfl,rfl,rfl,jh2 _,fun _ _=>rfl⟩) Le h0i DL Ib hoi hkB hko TM OL2.drew (HKB.out.keep Zj.drew hko hkB Wi.out) (by rw [jh6,jh6];omega));have Zk:=hid Zj.drew;have Zl:=hid OR2;clear CI IO1 OL2 Zj OR2 Wm Zf kb c9 HKO Y3;go_upto_region 4 with (fail)
    go_still_tail 6,(by kernel_rfl)
    change wpList _ _ _ _ _ w1.drew;go_wp2_with fail
    refine IK.out.mono ?_;rintro e w8 ⟨rfl,Zi⟩;have IO9:=hid (jM.trans Zk.out Zl.out Zi);clear Zi IK Zk Zl k10 kb2;go_wp2_with fail
    go_roundw;case rel=>
     refine ⟨k+1,by omega,by go_num,?_⟩;rw [au.xS l k _ HX.out,au.inls];have:=IO9.out;simp only [List.append_assoc] at this ⊢;exact this
    case measure=>simp [intOf];omega
   ·have hkl:k=l.length:=by omega
    subst hkl;rw [List.take_length] at xP;have HO:=hid xP;clear xP;go_wp2
    go_end0
    exact ⟨rfl,Ie,rows,HO.out,Ri,hor⟩
open Go.RowKit
def aG (b:Nat) (v:Value) (t:TypeId) (w:World):Prop:=w.heap[b]?=some (.cells #[v] t (0,0))
section
variable {b:Nat} {v:Value} {t:TypeId} {w w':World}
theorem aG.lt (h:aG b v t w):b<w.heap.size:=(Array.getElem?_eq_some_iff.1 h).1
theorem aG.cell (h:aG b v t w):w.cell? ⟨b,0,none⟩=some v:=by unfold aG at h;simp [ji9,h]
theorem aG.free (h:aG b v t w):w.frozen? ⟨b,0,none⟩=false:=by unfold aG at h;simp [World.frozen?,h]
theorem aG.set (h:aG b v t w) (u:Value):aG b u t (w.setCell ⟨b,0,none⟩ u):=Da h
theorem aG.far (h:aG b v t w) {q j:Nat} (hq:b≠q) (u:Value):aG b v t (w.setCell ⟨q,j,none⟩ u):=(Below.heap_setCell w ⟨q,j,none⟩ u b hq).trans h
theorem aG.alloc (h:aG b v t w) (o:Obj):aG b v t (w.alloc o):=(jhk w o b h.lt).trans h
theorem aG.new (w:World) (v:Value) (t:TypeId):aG w.heap.size v t (w.alloc (.cells #[v] t)):=heap_alloc_new w _
theorem aG.below (h:aG b v t w) {B:Nat} (hB:b<B) (hb:Below B w w'):aG b v t w':=(hb.block b hB).trans h
theorem aG.drew (h:aG b v t w):aG b v t w.drew:=h
end
theorem Lg {w:World} {B B':Nat} {e:TypeId} {k n:Nat} {v:Value} {xs:List Value} (h:w.ownsRow B e k v n xs) (hB:B'<=B):w.ownsRow B' e k v n xs:=
 ⟨h.1,h.2.imp id fun ⟨g,cap,cur,h1,h2,h3⟩=>⟨g,cap,cur,h1,Nat.le_trans hB h2,h3⟩⟩
theorem uz (l:List au) (v:Value) (w:World) (h:Rd (·<w.heap.size) w (dS l) [v]) (hbd:au.sP l) (hsz:au.aZ l<=1000000) (hln:(au.bD l).length<=1000000) : Calls Tryz.prog 49 #[v] w fun e w'=>∃ v' rows,e=.returned v'/\w'.ownsRow w.heap.size 51 10 v' (au.bD l).length rows.flatten/\aP (fun _=>True) w' ((au.bD l).map aj.d) rows/\(∀ r∈rows,r.length=10)/\Below w.heap.size w w':=by
 obtain ⟨va,vn,vc,rfl⟩:=Rd.ah h;have HR:=hid h;have jD:=hid hbd;clear h hbd;obtain ⟨N,hN⟩:∃ N,N=w.heap.size:=⟨_,rfl⟩;go_enter Tryz.func49,Tryz.ntmps49;go_upto_region 3 with (fail)
 obtain ⟨wA,gN⟩:∃ wA,wA=(w.alloc (.cells #[.slice none 0 0] 22)).alloc (.cells #[.nilFunc] 120):=⟨_,rfl⟩;have b0:aG N (.slice none 0 0) 22 wA:=by rw [gN,hN];exact (aG.new w _ _).alloc _
 have b1:aG (N+1) .nilFunc 120 wA:=by
  rw [gN,hN];have:=aG.new (w.alloc (.cells #[.slice none 0 0] 22)) .nilFunc 120
  rwa [World.size_alloc] at this
 have bl:Below N w wA:=by rw [gN,hN];exact ((Below.refl _ _).alloc (jh2 _) _).alloc (by simp) _
 have sz:wA.heap.size=N+2:=by rw [gN,hN];simp
 rw [<- gN,<- hN];rw [<- hN] at HR;have HN:=hid hN;clear gN hN;have c1:=b1.cell;have f1:=b1.free;go_upto_region 4 with (fail)
 obtain ⟨wB,ET⟩:∃ wB,wB=wA.setCell ⟨N+1,0,none⟩ (P9 N (N+1)):=⟨_,rfl⟩;have d0:aG N (.slice none 0 0) 22 wB:=by rw [ET];exact b0.far (by omega) _
 have d1:aG (N+1) (P9 N (N+1)) 120 wB:=by rw [ET];exact b1.set _
 have dl:Below N w wB:=by rw [ET];exact bl.setCell (p:=⟨N+1,0,none⟩) (by show N<=N+1;omega) _
 have dz:wB.heap.size=N+2:=by rw [ET];simpa [World.setCell] using sz
 unfold P9 at ET;rw [<- ET];clear ET b0 b1 bl sz c1 f1;go_upto_region 5 with (fail)
 obtain ⟨wC,Wn⟩:∃ wC,wC=wB.alloc (.cells #[.nilFunc] 126):=⟨_,rfl⟩;have b0:aG N (.slice none 0 0) 22 wC:=by rw [Wn];exact d0.alloc _
 have b1:aG (N+1) (P9 N (N+1)) 120 wC:=by rw [Wn];exact d1.alloc _
 have b2:aG (N+2) .nilFunc 126 wC:=by rw [Wn,<- dz];exact aG.new _ _ _
 have bl:Below N w wC:=by rw [Wn];exact dl.alloc (by omega) _
 have sz:wC.heap.size=N+3:=by rw [Wn];simp [dz]
 rw [<- Wn];clear Wn d0 d1 dl dz;have c2:=b2.cell;have f2:=b2.free;go_upto_region 6 with (fail)
 obtain ⟨wD,Ug⟩:∃ wD,wD=wC.setCell ⟨N+2,0,none⟩ (Xn (N+1) (N+2)):=⟨_,rfl⟩;have d0:aG N (.slice none 0 0) 22 wD:=by rw [Ug];exact b0.far (by omega) _
 have d1:aG (N+1) (P9 N (N+1)) 120 wD:=by rw [Ug];exact b1.far (by omega) _
 have d2:aG (N+2) (Xn (N+1) (N+2)) 126 wD:=by rw [Ug];exact b2.set _
 have dl:Below N w wD:=by rw [Ug];exact bl.setCell (p:=⟨N+2,0,none⟩) (by show N<=N+2;omega) _
 have dz:wD.heap.size=N+3:=by rw [Ug];simpa [World.setCell] using sz
 have c2:=d2.cell;unfold Xn at Ug c2;rw [<- Ug];clear Ug b0 b1 b2 bl sz f2;have OLD:OL N (N+3) N (N+1) N (.slice none 0 0) [] [] wD:=⟨d0,d1,⟨rfl,.inl ⟨rfl,rfl⟩⟩,aP.none,by simp,by omega⟩;have CB:=hid (Oi (au.aZ l) l N (N+3) N (N+1) (N+2) [] [] (.slice va vn vc) (.slice none 0 0) wD (jh2 _) hsz (HR.out.below dl) (jh2 _) (by omega) (by omega) (by omega) (by omega) (by omega) (by omega) jD.out OLD d2 (by simpa using hln));have HDL:=hid dl;clear OLD d0 d1 d2 dl;go_wp2_with fail
 refine CB.out.mono ?_;rintro e w1 ⟨rfl,vo,rows,OL1,KO1,OR1⟩;have kb:w1.cell? ⟨N,0,none⟩=some vo:=by have:=OL1.bx;simp [ji9,this]
 obtain ⟨ao,co,rfl⟩:=qV OL1.own;have HO:=hid OL1;have HK:Hid (Below N w w1):=HDL.out.trans (KO1.below (B:=N+3) (jh2 _) (by omega) (by simp [Value.ownBlock]) (by omega));clear OL1 KO1 OR1 CB HDL c2;go_wp2_with fail
 go_ret;refine ⟨_,rows,rfl,?_,aP.keep (fun _ _ _=>⟨trivial,rfl⟩) _ _ HO.out.red,HO.out.len,HN.out ▸ HK.out⟩;have:=Lg HO.out.own (B':=w.heap.size) (by have:=HN.out;omega);simpa using this
end Go.Proofs.YtclikfjalmcoaaaGreatDoor

