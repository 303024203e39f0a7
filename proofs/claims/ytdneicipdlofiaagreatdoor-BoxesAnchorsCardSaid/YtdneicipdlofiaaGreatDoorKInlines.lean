/- tree.Inlines$1: the inlines, and those in them, are added to what the box holds. tree.Inlines$2 and tree.Inlines: all inlines of blocks, in document order. tree.Inlines: all inlines of blocks, in document order. -/
import Derived.Test.YtdneicipdlofiaaGreatDoorKRowE
import Derived.StillTailTactics
import Derived.Laws.EntriesVeiled
set_option maxHeartbeats 8000000
set_option maxRecDepth 100000
open Go.Lib (hid)
namespace Go.Proofs.YtdneicipdlofiaaGreatDoor
open Nat renaming le_refl->joz
open List renaming length_append->jp4
open Go.RowKit.Below renaming heap_alloc->jp9
open Go.World renaming cell?->jq7
open Go.RowKit
set_option linter.unusedVariables false
set_option linter.unusedSimpArgs false
theorem PV (n:Nat):∀ (l:List aj) (B0 B bo bi:Nat) (acc:List aj) (xK:List (List Value)) (v vo:Value) (w:World),aj.aX l<=n->n<=1000000->Rd (·<B0) w (fK l) [v]->B0<=bo->B0<=bi->bo<B->bi<B->bo≠bi->aj.l9 l->OL B0 B bo bi bo vo acc xK w->acc.length+aj.aX l<=1000000 -> Calls Tryz.prog 94 #[v,.pointer (some ⟨bo,0,none⟩),.pointer (some ⟨bi,0,none⟩)] w fun e w'=>e=.returned (.tuple #[])/\jE B0 B bo bi vo w (acc++aj.aA l) w':=by
 induction n using Nat.strongRecOn with
 | _ n ih=>
  intro l B0 B bo bi acc xK v vo w hn hnm hrd Jz h0i BZ zo hoi hbd uH hal;obtain ⟨a,cap,hv,hs⟩:=Rd.aC hrd;obtain rfl:v=.slice a l.length cap:=by simpa using hv
  have hcap:l.length<=cap:=by simpa using hs.le
  have hll:=aj.pK l;have hmx:=hs.max;have HS:=hid hs;have IH:=hid ih;have uR:=hid hbd;have R0:Hid (Vs B0 B bo bi vo w acc l (.int .i64 0) w):=⟨0,Nat.zero_le _,rfl,vo,xK,by rw [List.take_zero,aj.aA,List.append_nil];exact uH,⟨joz _,rfl,rfl,rfl,fun _ _ _ _=>rfl⟩,.inl rfl⟩;have Al:∀ g,vo.ownBlock=some g->B<=g:=fun g hg=>(uH.own.lt g hg).1
  have JN:=hid Al;have hBw:=uH.Vt;clear hs hv hrd ih hbd uH Al;unfold maxLen at hmx;go_enter Tryz.func94,Tryz.ntmps94;go_wp2
  go_loopw [8] (fun vi wr=>Vs B0 B bo bi vo w acc l vi wr) (fun i _=>l.length-(intOf i).toNat)
  case atStart=>exact R0.out
  case round=>
   obtain ⟨k,hk,rfl,Ip,rows,uH,TA,hor⟩:=hrel;clear R0;by_cases hlt:k<l.length
   ·obtain ⟨x,hx⟩:∃ x,l[k]?=some x:=⟨_,List.getElem?_eq_getElem hlt⟩;obtain ⟨kd,t,d,ti,at_,ar,ci,ks⟩:=x;have hbel:Below B0 w wr:=TA.below Jz (by omega) JN.out (by omega);obtain ⟨g,off,vc,vp,va,vi,vk,rfl,hok,hbl,hc,hR⟩:=iL (HS.out.below hbel) hx;obtain ⟨c0,c1,c2,c3,c4,c5,c6,c7,c8,c9⟩:=hc;have hb1:=aj.rA l k _ uR.out hx;rw [aj.bd] at hb1;obtain ⟨hn1,hn2,Y4,Wu,qN⟩:=hb1;have hsz:=aj.bP l k _ hx;rw [aj.sz] at hsz;obtain ⟨ac,nc,cc,rfl⟩:=Rd.au hR.at_.cls
    obtain ⟨ap,np,cp,rfl⟩:=Rd.au hR.at_.aJ
    obtain ⟨Aa,na,ca,rfl⟩:=Rd.au hR.args;obtain ⟨Ai,ni,cci,rfl⟩:=Rd.au hR.ji;obtain ⟨ak,nk,ck,rfl⟩:=Rd.au hR.kids;have HR:=hid hR;have HX:=hid hx;have HOL:=hid uH;have NS:=hid TA;have HOR:=hid hor;have jd2:=uH.Vt;clear hR hx uH TA hor hbel;go_upto_region 4 with (fail)
    obtain ⟨p,hp⟩:∃ p,p=wr.heap.size:=⟨_,rfl⟩;obtain ⟨wA,dX⟩:∃ wA,wA=wr.alloc (.cells #[.int .i64 kd,.string t,.string d,.string ti,.string at_.id,.slice ac nc cc,.slice ap np cp,.slice Aa na ca,.slice Ai ni cci,.slice ak nk ck] 43):=⟨_,rfl⟩;have hpv:Ip.ownBlock≠some p:=by rw [hp];exact own_ne HOL.out.own (joz _)
    have Q9:B<=p:=by rw [hp];exact jd2
    have OA:OL B0 B bo bi p Ip (acc++aj.aA (l.take k)) rows wA:=by
     rw [dX];refine ⟨(jp9 _ _ _ (by omega)).trans HOL.out.bx,(jp9 _ _ _ (by omega)).trans HOL.out.fn,HOL.out.own.alloc _,aL.keep (fun b hb hlt'=>⟨?_,jp9 _ _ b hlt'⟩) _ _ HOL.out.red,HOL.out.len,by simp;omega⟩;rcases hb with hb | hb
     ·exact .inl hb
     ·exact .inr ⟨hb.1,hb.2.1,by omega⟩
    have PA:PB p [.int .i64 kd,.string t,.string d,.string ti,.string at_.id,.slice ac nc cc,.slice ap np cp,.slice Aa na ca,.slice Ai ni cci,.slice ak nk ck] wA:=by rw [dX,hp];exact heap_alloc_new wr _
    have bA:Below B0 wr wA:=by rw [dX];exact (Below.refl _ _).alloc (by omega) _
    have gA:wr.grownBy wA none:=by rw [dX];exact World.grownBy_alloc _ _ none
    have hpA:wA.heap.size=p+1:=by rw [dX,hp];simp
    have HPW:=hid hp;have HVP:Hid (∀ g,Ip.ownBlock=some g->g<p):=fun g hg=>by rw [hp];exact (HOL.out.own.lt g hg).2
    have Zz:=hid hpA;have hBA:B0<=wA.heap.size:=by omega
    rw [<- dX,<- hp];clear hp hpA dX c0 c1 c2 c3 c4 c5 c6 c7 c8 c9 hbl HOL jd2;have HIA:=hid (⟨OA,PA,by rw [HPW.out];exact (Below.refl _ _).grown gA (joz _) (by simp)⟩:IS B0 B bo bi p Ip (acc++aj.aA (l.take k)) rows [.int .i64 kd,.string t,.string d,.string ti,.string at_.id,.slice ac nc cc,.slice ap np cp,.slice Aa na ca,.slice Ai ni cci,.slice ak nk ck] wr wA);have d4:=PA.cell 4 _ rfl;have d5:=PA.cell 5 _ rfl;have d6:=PA.cell 6 _ rfl;have CT:=hid (zG at_ _ _ B0 wA (HR.out.at_.below bA) hBA hn1 hn2);clear OA PA;go_wp2_with fail
    refine CT.out.mono ?_;rintro e w1 ⟨vc1,SV,rfl,Iq,b1⟩;obtain ⟨Vu,Vv,Vw,rfl⟩:=Rd.au Iq.cls;obtain ⟨Vx,Vy,Vz,rfl⟩:=Rd.au Iq.aJ;have I1:=HIA.out.grown (PX b1);have HI1:=hid I1;have AT1:=hid (Iq.weaken (ok':=(p<·)) (fun b hb=>by have:=Zz.out;omega));have d4:=I1.pb.cell 4 _ rfl;have d5:=I1.pb.cell 5 _ rfl;have d6:=I1.pb.cell 6 _ rfl;have f4:=I1.pb.free 4;have f5:=I1.pb.free 5;have f6:=I1.pb.free 6;have h0B:B0<=B:=by omega
    clear I1 CT HIA Iq b1 gA bA hBA;go_upto_region 5 with (fail)
    obtain ⟨w2,hw2⟩:∃ w2,w2=((w1.setCell ⟨p,4,none⟩ (.string at_.id)).setCell ⟨p,5,none⟩ (.slice Vu Vv Vw)).setCell ⟨p,6,none⟩ (.slice Vx Vy Vz):=⟨_,rfl⟩;have I2:IS B0 B bo bi p Ip (acc++aj.aA (l.take k)) rows [.int .i64 kd,.string t,.string d,.string ti,.string at_.id,.slice Vu Vv Vw,.slice Vx Vy Vz,.slice Aa na ca,.slice Ai ni cci,.slice ak nk ck] wr w2:=by rw [hw2];exact ((HI1.out.set BZ zo h0B Q9 hpv 4 _).set BZ zo h0B Q9 hpv 5 _).set BZ zo h0B Q9 hpv 6 _
    have AT2:Hid (AtR (p<·) w2 at_ (.slice Vu Vv Vw) (.slice Vx Vy Vz)):=by show AtR _ _ _ _ _;rw [hw2];exact ((AT1.out.above (eT.set 4 _)).above (eT.set 5 _)).above (eT.set 6 _)
    rw [<- hw2];clear hw2 d4 d5 d6 f4 f5 f6 HI1 AT1;have HI2:=hid I2;have d7:=I2.pb.cell 7 _ rfl;have hl2:=I2.pb.lt;have CS:=hid (xL ar B0 _ w2 (HR.out.args.below (I2.bl.mono (by omega))) (by omega) Y4);clear I2;go_wp2_with fail
    refine CS.out.mono ?_;rintro e w2b ⟨YU,rfl,hra,ba⟩;obtain ⟨Y5,Y6,Y7,rfl⟩:=Rd.au hra;have I2b:=HI2.out.grown (PX ba);have jd3:=hid I2b;have jd4:=hid (AT2.out.above (eT.grown (PX ba)));have jd5:=hid (hra.weaken (ok':=(p<·)) (fun b hb=>by omega));have d7:=I2b.pb.cell 7 _ rfl;have f7:=I2b.pb.free 7;clear I2b HI2 AT2 CS hra ba hl2;go_upto_region 6 with (fail)
    obtain ⟨w3,hw3⟩:∃ w3,w3=w2b.setCell ⟨p,7,none⟩ (.slice Y5 Y6 Y7):=⟨_,rfl⟩;have I3:IS B0 B bo bi p Ip (acc++aj.aA (l.take k)) rows [.int .i64 kd,.string t,.string d,.string ti,.string at_.id,.slice Vu Vv Vw,.slice Vx Vy Vz,.slice Y5 Y6 Y7,.slice Ai ni cci,.slice ak nk ck] wr w3:=by rw [hw3];exact jd3.out.set BZ zo h0B Q9 hpv 7 _
    have AT3:Hid (AtR (p<·) w3 at_ (.slice Vu Vv Vw) (.slice Vx Vy Vz)):=by show AtR _ _ _ _ _;rw [hw3];exact jd4.out.above (eT.set 7 _)
    have RA3:Hid (Rd (p<·) w3 (dZ ar) [.slice Y5 Y6 Y7]):=by show Rd _ _ _ _;rw [hw3];exact jd5.out.above (eT.set 7 _)
    rw [<- hw3];clear hw3 d7 f7 jd3 jd4 jd5;have HI3:=hid I3;have d8:=I3.pb.cell 8 _ rfl;have hl3:=I3.pb.lt;have CC:=hid (Ir ci B0 _ w3 (HR.out.ji.below (I3.bl.mono (by omega))) (by omega) Wu);clear I3;go_wp2_with fail
    refine CC.out.mono ?_;rintro e w3b ⟨vi1,rfl,hri,bi3⟩;obtain ⟨ai1,ni1,ci1,rfl⟩:=Rd.au hri;have I3b:=HI3.out.grown (PX bi3);have jd6:=hid I3b;have jd7:=hid (AT3.out.above (eT.grown (PX bi3)));have jd8:=hid (RA3.out.above (eT.grown (PX bi3)));have jd9:=hid (hri.weaken (ok':=(p<·)) (fun b hb=>by omega));have d8:=I3b.pb.cell 8 _ rfl;have f8:=I3b.pb.free 8;clear I3b HI3 AT3 RA3 CC hri bi3 hl3;go_upto_region 7 with (fail)
    obtain ⟨w4,hw4⟩:∃ w4,w4=w3b.setCell ⟨p,8,none⟩ (.slice ai1 ni1 ci1):=⟨_,rfl⟩;have I4:IS B0 B bo bi p Ip (acc++aj.aA (l.take k)) rows [.int .i64 kd,.string t,.string d,.string ti,.string at_.id,.slice Vu Vv Vw,.slice Vx Vy Vz,.slice Y5 Y6 Y7,.slice ai1 ni1 ci1,.slice ak nk ck] wr w4:=by rw [hw4];exact jd6.out.set BZ zo h0B Q9 hpv 8 _
    have IN4:Hid (Tj (fun b=>b<B0\/p<b) w4 at_ ar ci ks (.slice Vu Vv Vw) (.slice Vx Vy Vz) (.slice Y5 Y6 Y7) (.slice ai1 ni1 ci1) (.slice ak nk ck)):=by
     show Tj _ _ _ _ _ _ _ _ _ _ _;refine ⟨?_,?_,?_,?_⟩
     ·rw [hw4];exact (jd7.out.above (eT.set 8 _)).weaken (fun b hb=>.inr hb)
     ·rw [hw4];exact (jd8.out.above (eT.set 8 _)).weaken (fun b hb=>.inr hb)
     ·rw [hw4];exact (jd9.out.above (eT.set 8 _)).weaken (fun b hb=>.inr hb)
     ·exact (HR.out.kids.below (I4.bl.mono (by omega))).weaken (fun b hb=>.inl hb)
    rw [<- hw4];clear hw4 d8 f8 jd6 jd7 jd8 jd9;have HI4:=hid I4;obtain ⟨iI,QU,yX,yY,yZ⟩:=info_parts XU;obtain ⟨ao,co,rfl⟩:=q01 I4.ol.own;obtain ⟨m,hm⟩:∃ m,m=(acc++aj.aA (l.take k)).length:=⟨_,rfl⟩;have hm1:m+(aj.aX ks+1)<=1000000:=by have h1:=aj.CX l k _ HX.out;rw [aj.sz] at h1;rw [hm,jp4,aj.dJ];omega
    have HM:=hid hm;have e0:=I4.pb.cell 0 _ rfl;have e1:=I4.pb.cell 1 _ rfl;have e2:=I4.pb.cell 2 _ rfl;have e3:=I4.pb.cell 3 _ rfl;have e4:=I4.pb.cell 4 _ rfl;have e5:=I4.pb.cell 5 _ rfl;have e6:=I4.pb.cell 6 _ rfl;have e7:=I4.pb.cell 7 _ rfl;have e8:=I4.pb.cell 8 _ rfl;have e9:=I4.pb.cell 9 _ rfl;have eb:w4.cell? ⟨bo,0,none⟩=some (.slice ao m co):=by have:=I4.ol.bx;rw [hm];simp [jq7,this]
    have fb:w4.frozen? ⟨bo,0,none⟩=false:=by have:=I4.ol.bx;simp [World.frozen?,this]
    have OW4:Hid (w4.ownsRow B 43 10 (.slice ao m co) m rows.flatten):=by show World.ownsRow _ _ _ _ _ _ _;rw [hm];exact I4.ol.own
    have hs4:B<=w4.heap.size:=I4.ol.Vt;have vv:=hid I4.ol.bx;rw [<- hm] at vv;have hp4:p<w4.heap.size:=I4.pb.lt;have hb4:bo<w4.heap.size:=by omega
    have Ox:=hid I4.pb;have jjx:(Value.slice ao m co).ownBlock≠some p:=by rw [hm];exact hpv
    have DI:Hid (rows.flatten.length=m*10):=OW4.out.1;have HI5:Hid (IS B0 B bo bi p (.slice ao m co) (acc++aj.aA (l.take k)) rows [.int .i64 kd,.string t,.string d,.string ti,.string at_.id,.slice Vu Vv Vw,.slice Vx Vy Vz,.slice Y5 Y6 Y7,.slice ai1 ni1 ci1,.slice ak nk ck] wr w4):=by show IS _ _ _ _ _ _ _ _ _ _ _;rw [hm];exact HI4.out
    have HVQ:Hid (∀ g,(Value.slice ao m co).ownBlock=some g->g<p):=by show ∀ g,_;rw [hm];exact HVP.out
    rw [<- hm] at HOR;clear I4 hm HI4 HVP;have RX4:=hid (aj.l6 kd t d ti IN4.out)
    go_cut [] (fun wx=>jE B0 B bo bi (.slice ao m co) w4 (acc++aj.aA (l.take k)++[aj.mk kd t d ti at_ ar ci ks]) wx)
    case first=>
     go_region_law (refine step_append_lies _ rfl (.tmp 27) (.tmp 30) 38 rfl B 43 iI _ 10 192 Tryz.underlying38 QU yX yY yZ rfl (by decide) (.slice ao m co) m rows.flatten rfl (OW4.out.alloc _) ⟨w4.heap.size,0,none⟩ 1 1 [.int .i64 0,.string ⟨#[]⟩,.string ⟨#[]⟩,.string ⟨#[]⟩,.string ⟨#[]⟩,.slice none 0 0,.slice none 0 0,.slice none 0 0,.slice none 0 0,.slice none 0 0] rfl rfl (TD w4 _ _) (by intro u hu;simp at hu;rcases hu with rfl | rfl | rfl<;>rfl) (by omega) (by unfold maxLen;omega) (by omega) (by show B<=(w4.alloc _).heap.size;rw [World.size_alloc];omega) _ rfl ?_;intro g cap w5 hown hgrow hat jnq;have hix:(m:Int)<(m:Int)+1:=(by omega);have hcp:=TF hown;have q0:=gM hown DI.out 0 _ rfl (by omega);have z0:=hown.frozenAt (m*10+0);have q1:=gM hown DI.out 1 _ rfl (by omega);have z1:=hown.frozenAt (m*10+1);have q2:=gM hown DI.out 2 _ rfl (by omega);have z2:=hown.frozenAt (m*10+2);have q3:=gM hown DI.out 3 _ rfl (by omega);have z3:=hown.frozenAt (m*10+3);have q4:=gM hown DI.out 4 _ rfl (by omega);have z4:=hown.frozenAt (m*10+4);have q5:=gM hown DI.out 5 _ rfl (by omega);have z5:=hown.frozenAt (m*10+5);have q6:=gM hown DI.out 6 _ rfl (by omega);have z6:=hown.frozenAt (m*10+6);have q7:=gM hown DI.out 7 _ rfl (by omega);have z7:=hown.frozenAt (m*10+7);have q8:=gM hown DI.out 8 _ rfl (by omega);have z8:=hown.frozenAt (m*10+8);have q9:=gM hown DI.out 9 _ rfl (by omega);have z9:=hown.frozenAt (m*10+9);obtain ⟨qb,zb,hgb⟩:=XV vv.out hown hgrow OW4.out BZ hs4;simp only [Nat.add_zero] at q0 z0;have PY:=jdj Ox.out hgrow jjx;have r0:=PY.cell 0 _ rfl;have r1:=PY.cell 1 _ rfl;have r2:=PY.cell 2 _ rfl;have r3:=PY.cell 3 _ rfl;have r4:=PY.cell 4 _ rfl;have r5:=PY.cell 5 _ rfl;have r6:=PY.cell 6 _ rfl;have r7:=PY.cell 7 _ rfl;have r8:=PY.cell 8 _ rfl;have r9:=PY.cell 9 _ rfl;have jdk:=hat.imp_right (fun e=>(Nat.le_trans (Nat.le_succ w4.heap.size) (Nat.le_of_eq ((World.size_alloc _ _).symm.trans e.symm))));have PT1:=PZ HI5.out HM.out BZ zo hoi Jz Q9 HVQ.out RX4.out hown rfl DI.out hgrow jdk;simp only [ten] at PT1;have PT:=hid PT1;clear PT1 PY hat jdk)
     all_goals
      go_wp2_with fail
      go_meet
      first
      | with_reducible exact PT.out.1
      | with_reducible exact PT.out.2
    case rest=>
     obtain ⟨w7,hw7⟩:∃ w7:World,w7=wc:=⟨_,rfl⟩;subst hw7;have jdq:eU bo vo w w4:=by have hb:=HI5.out.bl;have hk:=NS.out;refine ⟨Nat.le_trans hk.1 hb.size,hb.os.trans hk.2.1,hb.tape.trans hk.2.2.1,hb.output.trans hk.2.2.2.1,fun b hb' hne Al=>(hb.block b ?_).trans (hk.2.2.2.2 b hb' hne Al)⟩;rw [HPW.out];exact Nat.lt_of_lt_of_le hb' hk.1
     have IO7:=jE.trans jdq HOR.out hcut;obtain ⟨vo7,Aj,OL7,KO7,OR7⟩:=IO7;obtain ⟨g7,o7,vc7,YH,va7,vi7,vk7,hgo,_,_,hc7,XW⟩:=iL (HS.out.below (KO7.below Jz (by omega) JN.out (by omega))) HX.out;cases hgo
     have k9:=hc7.c9;have kb:w7.cell? ⟨bi,0,none⟩=some (Ra bo bi):=by have:=OL7.fn;simp [jq7,this]
     unfold Ra at kb;have hsk:=aj.bP l k _ HX.out;rw [aj.sz] at hsk;have IK:=hid (IH.out (aj.aX ks) (by omega) ks B0 B bo bi (acc++aj.aA (l.take k)++[aj.mk kd t d ti at_ ar ci ks]) Aj vk7 vo7 w7.drew (joz _) (by omega) (XW.kids.below ⟨rfl,rfl,rfl,joz _,fun _ _=>rfl⟩) Jz h0i BZ zo hoi qN OL7.drew (by rw [jp4,<- HM.out,List.length_singleton];omega));have jdx:=hid KO7.drew;have jdz:=hid OR7;obtain ⟨ak7,nk7,ck7,rfl⟩:=Rd.au XW.kids;clear hcut OL7 KO7 OR7 XW hc7 jdq HI5 HVQ vv Ox OW4 RX4;go_upto_region 8 with (fail)
     go_still_tail 6,(by kernel_rfl)
     change wpList _ _ _ _ _ w7.drew;go_wp2_with fail
     refine IK.out.mono ?_;rintro e w8 ⟨rfl,IO8⟩;have IO9:=hid (jE.trans jdx.out jdz.out IO8);clear IO8 IK jdx jdz k9 kb;go_wp2_with fail
     go_roundw;case rel=>
      refine ⟨k+1,by omega,by go_num,?_⟩;rw [aj.xM l k _ HX.out,aj.deep];have:=IO9.out;simp only [List.append_assoc,List.singleton_append] at this;exact this
     case measure=>simp [intOf];omega
   ·have hkl:k=l.length:=by omega
    subst hkl;rw [List.take_length] at uH;have HO:=hid uH;clear uH;go_wp2
    go_end0
    exact ⟨rfl,Ip,rows,HO.out,TA,hor⟩
open Go.RowKit
mutual
def ah.inls:ah->List aj
 | .mk _ _ _ _ _ _ _ li ks=>aj.aA li++ah.aQ ks
def ah.aQ:List ah->List aj
 | []=>[]
 | x::l=>x.inls++ah.aQ l
end
theorem ah.A9 (l m:List ah):ah.aQ (l++m)=ah.aQ l++ah.aQ m:=by
 induction l with
 | nil=>rw [ah.aQ];rfl
 | cons x l ih=>rw [List.cons_append,ah.aQ,ah.aQ,ih,List.append_assoc]
theorem ah.xO (l:List ah) (k:Nat) (x:ah) (h:l[k]?=some x):ah.aQ (l.take (k+1))=ah.aQ (l.take k)++x.inls:=by rw [List.take_add_one,h,ah.A9];simp [ah.aQ]
theorem ah.Me (l:List ah) (k:Nat) (x:ah) (h:l[k]?=some x):(ah.aQ (l.take k)).length+x.inls.length<=(ah.aQ l).length:=by
 have e:ah.aQ l=ah.aQ (l.take (k+1))++ah.aQ (l.drop (k+1)):=by rw [<- ah.A9,List.take_append_drop]
 have e2:=congrArg List.length e;rw [ah.xO l k x h] at e2;simp only [jp4] at e2;omega
def Y8 (bi bk:Nat):Value:=.func (.func 98) #[] #[.pointer (some ⟨bi,0,none⟩),.pointer (some ⟨bk,0,none⟩)]
def P5 (bi bk:Nat) (w:World):Prop:=w.heap[bk]?=some (.cells #[Y8 bi bk] 127 (0,0))
theorem P5.keep {bi bk bo B:Nat} {vo:Value} {w w':World} (h:P5 bi bk w) (hk:eU bo vo w w') (hne:bk≠bo) (hb:bk<B) (hv:∀ g,vo.ownBlock=some g->B<=g):P5 bi bk w':=
 (hk.2.2.2.2 bk (Array.getElem?_eq_some_iff.1 h).1 hne (fun e=>by have:=hv bk e;omega)).trans h
def VB (B0 B bo bi:Nat) (vo:Value) (w:World) (acc:List aj) (l:List ah) (vi:Value) (wr:World):Prop:=
 ∃ k:Nat,k<=l.length/\vi=.int .i64 k/\jE B0 B bo bi vo w (acc++ah.aQ (l.take k)) wr
theorem P6 (n:Nat):∀ (l:List ah) (B0 B bo bi bk:Nat) (acc:List aj) (xK:List (List Value)) (v vo:Value) (w:World),ah.aX l<=n->n<=1000000->Rd (·<B0) w (om l) [v]->B0<=bo->B0<=bi->bo<B->bi<B->bo≠bi->bk<B->bk≠bo->ah.l9 l->OL B0 B bo bi bo vo acc xK w->P5 bi bk w->acc.length+(ah.aQ l).length<=1000000 -> Calls Tryz.prog 98 #[v,.pointer (some ⟨bi,0,none⟩),.pointer (some ⟨bk,0,none⟩)] w fun e w'=>e=.returned (.tuple #[])/\jE B0 B bo bi vo w (acc++ah.aQ l) w':=by
 induction n using Nat.strongRecOn with
 | _ n ih=>
  intro l B0 B bo bi bk acc xK v vo w hn hnm hrd Jz h0i BZ zo hoi hkB hko hbd uH hKB hal;obtain ⟨a,cap,hv,hs⟩:=Rd.aC hrd;obtain rfl:v=.slice a l.length cap:=by simpa using hv
  have hcap:l.length<=cap:=by simpa using hs.le
  have hll:=ah.pK l;have hmx:=hs.max;have HS:=hid hs;have IH:=hid ih;have uR:=hid hbd;have YN:=hid hKB;have R0:Hid (VB B0 B bo bi vo w acc l (.int .i64 0) w):=⟨0,Nat.zero_le _,rfl,vo,xK,by rw [List.take_zero,ah.aQ,List.append_nil];exact uH,⟨joz _,rfl,rfl,rfl,fun _ _ _ _=>rfl⟩,.inl rfl⟩;have Al:∀ g,vo.ownBlock=some g->B<=g:=fun g hg=>(uH.own.lt g hg).1
  have JN:=hid Al;have hBw:=uH.Vt;clear hs hv hrd ih hbd uH Al hKB;unfold maxLen at hmx;go_enter Tryz.func98,Tryz.ntmps98;go_wp2
  go_loopw [7] (fun vi wr=>VB B0 B bo bi vo w acc l vi wr) (fun i _=>l.length-(intOf i).toNat)
  case atStart=>exact R0.out
  case round=>
   obtain ⟨k,hk,rfl,Ip,rows,uH,TA,hor⟩:=hrel;clear R0;by_cases hlt:k<l.length
   ·obtain ⟨x,hx⟩:∃ x,l[k]?=some x:=⟨_,List.getElem?_eq_getElem hlt⟩;obtain ⟨kd,lv,i,t,d,ti,at_,li,ks⟩:=x;have hbel:Below B0 w wr:=TA.below Jz (by omega) JN.out (by omega);obtain ⟨g,off,vc,vp,vl,vk,rfl,hok,hbl,hc,hR⟩:=dH (HS.out.below hbel) hx;have c9:=hc.c9;have hb1:=ah.rA l k _ uR.out hx;rw [ah.bd] at hb1;obtain ⟨hn1,hn2,Y4,Wu,qN⟩:=hb1;have hsz:=ah.bP l k _ hx;rw [ah.sz] at hsz;have hln:=ah.Me l k _ hx;rw [ah.inls,jp4] at hln;have jnx:=aj.dJ li;obtain ⟨al,nl,cl,rfl⟩:=Rd.au hR.line;have kb:wr.cell? ⟨bi,0,none⟩=some (Ra bo bi):=by
     have:=uH.fn;simp [jq7,this]
    unfold Ra at kb;have CI:=hid (PV (aj.aX li) li B0 B bo bi (acc++ah.aQ (l.take k)) rows (.slice al nl cl) Ip wr.drew (joz _) Wu (hR.line.below ⟨rfl,rfl,rfl,joz _,fun _ _=>rfl⟩) Jz h0i BZ zo hoi Y4 uH.drew (by rw [jp4];omega));have HX:=hid hx;have NS:=hid TA.drew;have HOR:=hid hor;clear hR hx uH TA hor hbel hc hbl;go_upto_region 3 with (fail)
    go_still_tail 6,(by kernel_rfl)
    change wpList _ _ _ _ _ wr.drew;go_wp2_with fail
    refine CI.out.mono ?_;rintro e w1 ⟨rfl,IO1⟩;obtain ⟨vo2,fM,OL2,KO2,OR2⟩:=jE.trans NS.out HOR.out IO1;obtain ⟨g7,o7,vc7,YH,vl7,vk7,hgo,_,_,hc7,XW⟩:=dH (HS.out.below (KO2.below Jz (by omega) JN.out (by omega))) HX.out;cases hgo
    have k10:=hc7.c10;have kb2:w1.cell? ⟨bk,0,none⟩=some (Y8 bi bk):=by have:=YN.out.keep KO2 hko hkB JN.out;unfold P5 at this;simp [jq7,this]
    unfold Y8 at kb2;obtain ⟨ak7,nk7,ck7,rfl⟩:=Rd.au XW.kids;have IK:=hid (IH.out (ah.aX ks) (by omega) ks B0 B bo bi bk (acc++ah.aQ (l.take k)++aj.aA li) fM (.slice ak7 nk7 ck7) vo2 w1.drew (joz _) (by omega) (XW.kids.below ⟨rfl,rfl,rfl,joz _,fun _ _=>rfl⟩) Jz h0i BZ zo hoi hkB hko qN OL2.drew (YN.out.keep KO2.drew hko hkB JN.out) (by rw [jp4,jp4];omega));have je0:=hid KO2.drew;have je1:=hid OR2;clear CI IO1 OL2 KO2 OR2 XW hc7 kb c9 NS HOR;go_upto_region 4 with (fail)
    go_still_tail 6,(by kernel_rfl)
    change wpList _ _ _ _ _ w1.drew;go_wp2_with fail
    refine IK.out.mono ?_;rintro e w8 ⟨rfl,IO8⟩;have IO9:=hid (jE.trans je0.out je1.out IO8);clear IO8 IK je0 je1 k10 kb2;go_wp2_with fail
    go_roundw;case rel=>
     refine ⟨k+1,by omega,by go_num,?_⟩;rw [ah.xO l k _ HX.out,ah.inls];have:=IO9.out;simp only [List.append_assoc] at this ⊢;exact this
    case measure=>simp [intOf];omega
   ·have hkl:k=l.length:=by omega
    subst hkl;rw [List.take_length] at uH;have HO:=hid uH;clear uH;go_wp2
    go_end0
    exact ⟨rfl,Ip,rows,HO.out,TA,hor⟩
open Go.RowKit
def aH (b:Nat) (v:Value) (t:TypeId) (w:World):Prop:=w.heap[b]?=some (.cells #[v] t (0,0))
section
variable {b:Nat} {v:Value} {t:TypeId} {w w':World}
theorem aH.lt (h:aH b v t w):b<w.heap.size:=(Array.getElem?_eq_some_iff.1 h).1
theorem aH.cell (h:aH b v t w):w.cell? ⟨b,0,none⟩=some v:=by unfold aH at h;simp [jq7,h]
theorem aH.free (h:aH b v t w):w.frozen? ⟨b,0,none⟩=false:=by unfold aH at h;simp [World.frozen?,h]
theorem aH.set (h:aH b v t w) (u:Value):aH b u t (w.setCell ⟨b,0,none⟩ u):=CY h
theorem aH.far (h:aH b v t w) {q j:Nat} (hq:b≠q) (u:Value):aH b v t (w.setCell ⟨q,j,none⟩ u):=(Below.heap_setCell w ⟨q,j,none⟩ u b hq).trans h
theorem aH.alloc (h:aH b v t w) (o:Obj):aH b v t (w.alloc o):=(jp9 w o b h.lt).trans h
theorem aH.new (w:World) (v:Value) (t:TypeId):aH w.heap.size v t (w.alloc (.cells #[v] t)):=heap_alloc_new w _
theorem aH.below (h:aH b v t w) {B:Nat} (hB:b<B) (hb:Below B w w'):aH b v t w':=(hb.block b hB).trans h
theorem aH.drew (h:aH b v t w):aH b v t w.drew:=h
end
theorem Mf {w:World} {B B':Nat} {e:TypeId} {k n:Nat} {v:Value} {xs:List Value} (h:w.ownsRow B e k v n xs) (hB:B'<=B):w.ownsRow B' e k v n xs:=
 ⟨h.1,h.2.imp id fun ⟨g,cap,cur,h1,h2,h3⟩=>⟨g,cap,cur,h1,Nat.le_trans hB h2,h3⟩⟩
theorem EU (l:List ah) (v:Value) (w:World) (h:Rd (·<w.heap.size) w (om l) [v]) (hbd:ah.l9 l) (hsz:ah.aX l<=1000000) (hln:(ah.aQ l).length<=1000000) : Calls Tryz.prog 49 #[v] w fun e w'=>∃ v' rows,e=.returned v'/\w'.ownsRow w.heap.size 43 10 v' (ah.aQ l).length rows.flatten/\aL (fun _=>True) w' ((ah.aQ l).map aj.d) rows/\(∀ r∈rows,r.length=10)/\Below w.heap.size w w':=by
 obtain ⟨va,vn,vc,rfl⟩:=Rd.au h;have HR:=hid h;have uR:=hid hbd;clear h hbd;obtain ⟨N,hN⟩:∃ N,N=w.heap.size:=⟨_,rfl⟩;go_enter Tryz.func49,Tryz.ntmps49;go_upto_region 3 with (fail)
 obtain ⟨wA,dX⟩:∃ wA,wA=(w.alloc (.cells #[.slice none 0 0] 38)).alloc (.cells #[.nilFunc] 122):=⟨_,rfl⟩;have b0:aH N (.slice none 0 0) 38 wA:=by rw [dX,hN];exact (aH.new w _ _).alloc _
 have b1:aH (N+1) .nilFunc 122 wA:=by
  rw [dX,hN];have:=aH.new (w.alloc (.cells #[.slice none 0 0] 38)) .nilFunc 122
  rwa [World.size_alloc] at this
 have bl:Below N w wA:=by rw [dX,hN];exact ((Below.refl _ _).alloc (joz _) _).alloc (by simp) _
 have sz:wA.heap.size=N+2:=by rw [dX,hN];simp
 rw [<- dX,<- hN];rw [<- hN] at HR;have HN:=hid hN;clear dX hN;have c1:=b1.cell;have f1:=b1.free;go_upto_region 4 with (fail)
 obtain ⟨wB,Ah⟩:∃ wB,wB=wA.setCell ⟨N+1,0,none⟩ (Ra N (N+1)):=⟨_,rfl⟩;have d0:aH N (.slice none 0 0) 38 wB:=by rw [Ah];exact b0.far (by omega) _
 have d1:aH (N+1) (Ra N (N+1)) 122 wB:=by rw [Ah];exact b1.set _
 have dl:Below N w wB:=by rw [Ah];exact bl.setCell (p:=⟨N+1,0,none⟩) (by show N<=N+1;omega) _
 have dz:wB.heap.size=N+2:=by rw [Ah];simpa [World.setCell] using sz
 unfold Ra at Ah;rw [<- Ah];clear Ah b0 b1 bl sz c1 f1;go_upto_region 5 with (fail)
 obtain ⟨wC,vY⟩:∃ wC,wC=wB.alloc (.cells #[.nilFunc] 127):=⟨_,rfl⟩;have b0:aH N (.slice none 0 0) 38 wC:=by rw [vY];exact d0.alloc _
 have b1:aH (N+1) (Ra N (N+1)) 122 wC:=by rw [vY];exact d1.alloc _
 have b2:aH (N+2) .nilFunc 127 wC:=by rw [vY,<- dz];exact aH.new _ _ _
 have bl:Below N w wC:=by rw [vY];exact dl.alloc (by omega) _
 have sz:wC.heap.size=N+3:=by rw [vY];simp [dz]
 rw [<- vY];clear vY d0 d1 dl dz;have c2:=b2.cell;have f2:=b2.free;go_upto_region 6 with (fail)
 obtain ⟨wD,VD⟩:∃ wD,wD=wC.setCell ⟨N+2,0,none⟩ (Y8 (N+1) (N+2)):=⟨_,rfl⟩;have d0:aH N (.slice none 0 0) 38 wD:=by rw [VD];exact b0.far (by omega) _
 have d1:aH (N+1) (Ra N (N+1)) 122 wD:=by rw [VD];exact b1.far (by omega) _
 have d2:aH (N+2) (Y8 (N+1) (N+2)) 127 wD:=by rw [VD];exact b2.set _
 have dl:Below N w wD:=by rw [VD];exact bl.setCell (p:=⟨N+2,0,none⟩) (by show N<=N+2;omega) _
 have dz:wD.heap.size=N+3:=by rw [VD];simpa [World.setCell] using sz
 have c2:=d2.cell;unfold Y8 at VD c2;rw [<- VD];clear VD b0 b1 b2 bl sz f2;have OLD:OL N (N+3) N (N+1) N (.slice none 0 0) [] [] wD:=⟨d0,d1,⟨rfl,.inl ⟨rfl,rfl⟩⟩,aL.none,by simp,by omega⟩;have CB:=hid (P6 (ah.aX l) l N (N+3) N (N+1) (N+2) [] [] (.slice va vn vc) (.slice none 0 0) wD (joz _) hsz (HR.out.below dl) (joz _) (by omega) (by omega) (by omega) (by omega) (by omega) (by omega) uR.out OLD d2 (by simpa using hln));have HDL:=hid dl;clear OLD d0 d1 d2 dl;go_wp2_with fail
 refine CB.out.mono ?_;rintro e w1 ⟨rfl,vo,rows,OL1,KO1,OR1⟩;have kb:w1.cell? ⟨N,0,none⟩=some vo:=by have:=OL1.bx;simp [jq7,this]
 obtain ⟨ao,co,rfl⟩:=q01 OL1.own;have HO:=hid OL1;have HK:Hid (Below N w w1):=HDL.out.trans (KO1.below (B:=N+3) (joz _) (by omega) (by simp [Value.ownBlock]) (by omega));clear OL1 KO1 OR1 CB HDL c2;go_wp2_with fail
 go_ret;refine ⟨_,rows,rfl,?_,aL.keep (fun _ _ _=>⟨trivial,rfl⟩) _ _ HO.out.red,HO.out.len,HN.out ▸ HK.out⟩;have:=Mf HO.out.own (B':=w.heap.size) (by have:=HN.out;omega);simpa using this
end Go.Proofs.YtdneicipdlofiaaGreatDoor

