/- tree.Inlines$1: the inlines, and those in them, are added to what the box holds. tree.Inlines$2 and tree.Inlines: all inlines of blocks, in document order. tree.Inlines: all inlines of blocks, in document order. -/
import Derived.Test.YtkfnkeflalcphaaGreatDoorMRowE
import Derived.StillTailTactics
import Derived.Laws.EntriesVeiled
set_option maxHeartbeats 8000000
set_option maxRecDepth 100000
open Go.Lib (hid)
namespace Go.Proofs.YtkfnkeflalcphaaGreatDoor
open Tryz
open Nat renaming le_refl->jK8
open List renaming length_append->jKq
open Go.RowKit.Below renaming heap_alloc->jL2
open Go.World renaming cell?->jM0
open Go.RowKit
set_option linter.unusedVariables false
set_option linter.unusedSimpArgs false
theorem Vk (n:Nat):∀ (l:List aj) (B0 B bo bi:Nat) (acc:List aj) (Aq:List (List Value)) (v vo:Value) (w:World),aj.aU l<=n->n<=1000000->Rd (·<B0) w (aZ l) [v]->B0<=bo->B0<=bi->bo<B->bi<B->bo≠bi->aj.mh l->OL B0 B bo bi bo vo acc Aq w->acc.length+aj.aU l<=1000000 -> Calls prog 81 #[v,.pointer (some ⟨bo,0,none⟩),.pointer (some ⟨bi,0,none⟩)] w fun e w'=>e=.returned (.tuple #[])/\jV B0 B bo bi vo w (acc++aj.aT l) w':=by
 induction n using Nat.strongRecOn with
 | _ n ih=>
  intro l B0 B bo bi acc Aq v vo w hn hnm hrd Q9 h0i Ih Jz hoi hbd Ar hal;obtain ⟨a,cap,hv,hs⟩:=Rd.aB hrd;obtain rfl:v=.slice a l.length cap:=by simpa using hv
  have hcap:l.length<=cap:=by simpa using hs.le
  have hll:=aj.dI l;have hmx:=hs.max;have HS:=hid hs;have IH:=hid ih;have mD:=hid hbd;have R0:Hid (jg5 B0 B bo bi vo w acc l (.int .i64 0) w):=⟨0,Nat.zero_le _,rfl,vo,Aq,by rw [List.take_zero,aj.aT,List.append_nil];exact Ar,⟨jK8 _,rfl,rfl,rfl,fun _ _ _ _=>rfl⟩,.inl rfl⟩;have Ii:∀ g,vo.ownBlock=some g->B<=g:=fun g hg=>(Ar.own.lt g hg).1
  have HVO:=hid Ii;have hBw:=Ar.siz;clear hs hv hrd ih hbd Ar Ii;unfold maxLen at hmx;go_enter func81,ntmps81;go_wp2
  go_loopw [8] (fun vi wr=>jg5 B0 B bo bi vo w acc l vi wr) (fun i _=>l.length-(intOf i).toNat)
  case atStart=>exact R0.out
  case round=>
   obtain ⟨k,hk,rfl,MO,rows,Ar,ZI,hor⟩:=hrel;clear R0;by_cases hlt:k<l.length
   ·refine kK ?_;intro x hx;obtain ⟨kd,t,d,ti,at_,ar,ci,ks⟩:=x;have hbel:Below B0 w wr:=ZI.below Q9 (by omega) HVO.out (by omega);obtain ⟨g,off,vc,vp,va,vi,vk,rfl,hok,hbl,hc,hR⟩:=fE (HS.out.below hbel) hx;obtain ⟨c0,c1,c2,c3,c4,c5,c6,c7,c8,c9⟩:=hc;have hb1:=aj.mM l k _ mD.out hx;rw [aj.bd] at hb1;obtain ⟨hn1,hn2,hn3,ZJ,hn5⟩:=hb1;have hsz:=aj.bK l k _ hx;rw [aj.sz] at hsz;obtain ⟨ac,nc,cc,rfl⟩:=Rd.au hR.at_.cls
    obtain ⟨ap,np,cp,rfl⟩:=Rd.au hR.at_.aD
    obtain ⟨Aa,na,ca,rfl⟩:=Rd.au hR.args;obtain ⟨Ai,ni,cci,rfl⟩:=Rd.au hR.dH;obtain ⟨ak,nk,ck,rfl⟩:=Rd.au hR.kids;have HR:=hid hR;have HX:=hid hx;have HOL:=hid Ar;have HKO:=hid ZI;have HOR:=hid hor;have jxx:=Ar.siz;clear hR hx Ar ZI hor hbel;go_upto_region 4 with (fail)
    obtain ⟨p,hp⟩:∃ p,p=wr.heap.size:=⟨_,rfl⟩;obtain ⟨wA,iD⟩:∃ wA,wA=wr.alloc (.cells #[.int .i64 kd,.string t,.string d,.string ti,.string at_.id,.slice ac nc cc,.slice ap np cp,.slice Aa na ca,.slice Ai ni cci,.slice ak nk ck] 66):=⟨_,rfl⟩;have hpv:MO.ownBlock≠some p:=by rw [hp];exact own_ne HOL.out.own (jK8 _)
    have yT:B<=p:=by rw [hp];exact jxx
    have OA:OL B0 B bo bi p MO (acc++aj.aT (l.take k)) rows wA:=by
     rw [iD];refine ⟨(jL2 _ _ _ (by omega)).trans HOL.out.bx,(jL2 _ _ _ (by omega)).trans HOL.out.fn,HOL.out.own.alloc _,aO.keep (fun b hb hlt'=>⟨?_,jL2 _ _ b hlt'⟩) _ _ HOL.out.red,HOL.out.len,by simp;omega⟩;rcases hb with hb | hb
     ·exact .inl hb
     ·exact .inr ⟨hb.1,hb.2.1,by omega⟩
    have PA:PB p [.int .i64 kd,.string t,.string d,.string ti,.string at_.id,.slice ac nc cc,.slice ap np cp,.slice Aa na ca,.slice Ai ni cci,.slice ak nk ck] wA:=by rw [iD,hp];exact heap_alloc_new wr _
    have bA:Below B0 wr wA:=by rw [iD];exact (Below.refl _ _).alloc (by omega) _
    have gA:wr.grownBy wA none:=by rw [iD];exact World.grownBy_alloc _ _ none
    have hpA:wA.heap.size=p+1:=by rw [iD,hp];simp
    have HPW:=hid hp;have HVP:Hid (∀ g,MO.ownBlock=some g->g<p):=fun g hg=>by rw [hp];exact (HOL.out.own.lt g hg).2
    have HSA:=hid hpA;have hBA:B0<=wA.heap.size:=by omega
    rw [<- iD,<- hp];clear hp hpA iD c0 c1 c2 c3 c4 c5 c6 c7 c8 c9 hbl HOL jxx;have HIA:=hid (⟨OA,PA,by rw [HPW.out];exact (Below.refl _ _).grown gA (jK8 _) (by simp)⟩:IS B0 B bo bi p MO (acc++aj.aT (l.take k)) rows [.int .i64 kd,.string t,.string d,.string ti,.string at_.id,.slice ac nc cc,.slice ap np cp,.slice Aa na ca,.slice Ai ni cci,.slice ak nk ck] wr wA);have d4:=PA.cell 4 _ rfl;have d5:=PA.cell 5 _ rfl;have d6:=PA.cell 6 _ rfl;have CT:=hid (DF at_ _ _ B0 wA (HR.out.at_.below bA) hBA hn1 hn2);clear OA PA;go_wp2_with fail
    refine CT.out.mono ?_;rintro e w1 ⟨vc1,vp1,rfl,ZK,b1⟩;obtain ⟨ac1,nc1,cc1,rfl⟩:=Rd.au ZK.cls;obtain ⟨ap1,np1,cp1,rfl⟩:=Rd.au ZK.aD;have I1:=HIA.out.grown (TH b1);have HI1:=hid I1;have AT1:=hid (ZK.weaken (ok':=(p<·)) (fun b hb=>by have:=HSA.out;omega));have d4:=I1.pb.cell 4 _ rfl;have d5:=I1.pb.cell 5 _ rfl;have d6:=I1.pb.cell 6 _ rfl;have f4:=I1.pb.free 4;have f5:=I1.pb.free 5;have f6:=I1.pb.free 6;have h0B:B0<=B:=by omega
    clear I1 CT HIA ZK b1 gA bA hBA;go_upto_region 5 with (fail)
    obtain ⟨w2,hw2⟩:∃ w2,w2=((w1.setCell ⟨p,4,none⟩ (.string at_.id)).setCell ⟨p,5,none⟩ (.slice ac1 nc1 cc1)).setCell ⟨p,6,none⟩ (.slice ap1 np1 cp1):=⟨_,rfl⟩;have I2:IS B0 B bo bi p MO (acc++aj.aT (l.take k)) rows [.int .i64 kd,.string t,.string d,.string ti,.string at_.id,.slice ac1 nc1 cc1,.slice ap1 np1 cp1,.slice Aa na ca,.slice Ai ni cci,.slice ak nk ck] wr w2:=by rw [hw2];exact ((HI1.out.set Ih Jz h0B yT hpv 4 _).set Ih Jz h0B yT hpv 5 _).set Ih Jz h0B yT hpv 6 _
    have zU:Hid (AtR (p<·) w2 at_ (.slice ac1 nc1 cc1) (.slice ap1 np1 cp1)):=by show AtR _ _ _ _ _;rw [hw2];exact ((AT1.out.above (fM.set 4 _)).above (fM.set 5 _)).above (fM.set 6 _)
    rw [<- hw2];clear hw2 d4 d5 d6 f4 f5 f6 HI1 AT1;have HI2:=hid I2;have d7:=I2.pb.cell 7 _ rfl;have hl2:=I2.pb.lt;have CS:=hid (rJ ar B0 _ w2 (HR.out.args.below (I2.bl.mono (by omega))) (by omega) hn3);clear I2;go_wp2_with fail
    refine CS.out.mono ?_;rintro e w2b ⟨va1,rfl,hra,ba⟩;obtain ⟨aa1,na1,ca1,rfl⟩:=Rd.au hra;have I2b:=HI2.out.grown (TH ba);have jxz:=hid I2b;have jy0:=hid (zU.out.above (fM.grown (TH ba)));have jy1:=hid (hra.weaken (ok':=(p<·)) (fun b hb=>by omega));have d7:=I2b.pb.cell 7 _ rfl;have f7:=I2b.pb.free 7;clear I2b HI2 zU CS hra ba hl2;go_upto_region 6 with (fail)
    obtain ⟨w3,hw3⟩:∃ w3,w3=w2b.setCell ⟨p,7,none⟩ (.slice aa1 na1 ca1):=⟨_,rfl⟩;have I3:IS B0 B bo bi p MO (acc++aj.aT (l.take k)) rows [.int .i64 kd,.string t,.string d,.string ti,.string at_.id,.slice ac1 nc1 cc1,.slice ap1 np1 cp1,.slice aa1 na1 ca1,.slice Ai ni cci,.slice ak nk ck] wr w3:=by rw [hw3];exact jxz.out.set Ih Jz h0B yT hpv 7 _
    have Gg:Hid (AtR (p<·) w3 at_ (.slice ac1 nc1 cc1) (.slice ap1 np1 cp1)):=by show AtR _ _ _ _ _;rw [hw3];exact jy0.out.above (fM.set 7 _)
    have RA3:Hid (Rd (p<·) w3 (jf ar) [.slice aa1 na1 ca1]):=by show Rd _ _ _ _;rw [hw3];exact jy1.out.above (fM.set 7 _)
    rw [<- hw3];clear hw3 d7 f7 jxz jy0 jy1;have HI3:=hid I3;have d8:=I3.pb.cell 8 _ rfl;have hl3:=I3.pb.lt;have CC:=hid (Au ci B0 _ w3 (HR.out.dH.below (I3.bl.mono (by omega))) (by omega) ZJ);clear I3;go_wp2_with fail
    refine CC.out.mono ?_;rintro e w3b ⟨vi1,rfl,hri,bi3⟩;obtain ⟨ai1,ni1,ci1,rfl⟩:=Rd.au hri;have I3b:=HI3.out.grown (TH bi3);have jy2:=hid I3b;have jy3:=hid (Gg.out.above (fM.grown (TH bi3)));have jy4:=hid (RA3.out.above (fM.grown (TH bi3)));have jy5:=hid (hri.weaken (ok':=(p<·)) (fun b hb=>by omega));have d8:=I3b.pb.cell 8 _ rfl;have f8:=I3b.pb.free 8;clear I3b HI3 Gg RA3 CC hri bi3 hl3;go_upto_region 7 with (fail)
    obtain ⟨w4,hw4⟩:∃ w4,w4=w3b.setCell ⟨p,8,none⟩ (.slice ai1 ni1 ci1):=⟨_,rfl⟩;have I4:IS B0 B bo bi p MO (acc++aj.aT (l.take k)) rows [.int .i64 kd,.string t,.string d,.string ti,.string at_.id,.slice ac1 nc1 cc1,.slice ap1 np1 cp1,.slice aa1 na1 ca1,.slice ai1 ni1 ci1,.slice ak nk ck] wr w4:=by rw [hw4];exact jy2.out.set Ih Jz h0B yT hpv 8 _
    have IN4:Hid (vD (fun b=>b<B0\/p<b) w4 at_ ar ci ks (.slice ac1 nc1 cc1) (.slice ap1 np1 cp1) (.slice aa1 na1 ca1) (.slice ai1 ni1 ci1) (.slice ak nk ck)):=by
     show vD _ _ _ _ _ _ _ _ _ _ _;refine ⟨?_,?_,?_,?_⟩
     ·rw [hw4];exact (jy3.out.above (fM.set 8 _)).weaken (fun b hb=>.inr hb)
     ·rw [hw4];exact (jy4.out.above (fM.set 8 _)).weaken (fun b hb=>.inr hb)
     ·rw [hw4];exact (jy5.out.above (fM.set 8 _)).weaken (fun b hb=>.inr hb)
     ·exact (HR.out.kids.below (I4.bl.mono (by omega))).weaken (fun b hb=>.inl hb)
    rw [<- hw4];clear hw4 d8 f8 jy2 jy3 jy4 jy5;have HI4:=hid I4;obtain ⟨iI,ZL,Gu,Gv,Gw⟩:=info_parts MP;obtain ⟨ao,co,rfl⟩:=lD I4.ol.own;obtain ⟨m,hm⟩:∃ m,m=(acc++aj.aT (l.take k)).length:=⟨_,rfl⟩;have hm1:m+(aj.aU ks+1)<=1000000:=by have h1:=aj.Gx l k _ HX.out;rw [aj.sz] at h1;rw [hm,jKq,aj.eF];omega
    have HM:=hid hm;have e0:=I4.pb.cell 0 _ rfl;have e1:=I4.pb.cell 1 _ rfl;have e2:=I4.pb.cell 2 _ rfl;have e3:=I4.pb.cell 3 _ rfl;have e4:=I4.pb.cell 4 _ rfl;have e5:=I4.pb.cell 5 _ rfl;have e6:=I4.pb.cell 6 _ rfl;have e7:=I4.pb.cell 7 _ rfl;have e8:=I4.pb.cell 8 _ rfl;have e9:=I4.pb.cell 9 _ rfl;have eb:w4.cell? ⟨bo,0,none⟩=some (.slice ao m co):=by have:=I4.ol.bx;rw [hm];simp [jM0,this]
    have fb:w4.frozen? ⟨bo,0,none⟩=false:=by have:=I4.ol.bx;simp [World.frozen?,this]
    have OW4:Hid (w4.ownsRow B 66 10 (.slice ao m co) m rows.flatten):=by show World.ownsRow _ _ _ _ _ _ _;rw [hm];exact I4.ol.own
    have hs4:B<=w4.heap.size:=I4.ol.siz;have lK:=hid I4.ol.bx;rw [<- hm] at lK;have hp4:p<w4.heap.size:=I4.pb.lt;have hb4:bo<w4.heap.size:=by omega
    have HPB:=hid I4.pb;have jE2:(Value.slice ao m co).ownBlock≠some p:=by rw [hm];exact hpv
    have Vl:Hid (rows.flatten.length=m*10):=OW4.out.1;have HI5:Hid (IS B0 B bo bi p (.slice ao m co) (acc++aj.aT (l.take k)) rows [.int .i64 kd,.string t,.string d,.string ti,.string at_.id,.slice ac1 nc1 cc1,.slice ap1 np1 cp1,.slice aa1 na1 ca1,.slice ai1 ni1 ci1,.slice ak nk ck] wr w4):=by show IS _ _ _ _ _ _ _ _ _ _ _;rw [hm];exact HI4.out
    have HVQ:Hid (∀ g,(Value.slice ao m co).ownBlock=some g->g<p):=by show ∀ g,_;rw [hm];exact HVP.out
    rw [<- hm] at HOR;clear I4 hm HI4 HVP;have RX4:=hid (aj.fC kd t d ti IN4.out)
    go_cut [] (fun wx=>jV B0 B bo bi (.slice ao m co) w4 (acc++aj.aT (l.take k)++[aj.mk kd t d ti at_ ar ci ks]) wx)
    case first=>
     go_region_law (refine step_append_lies _ rfl (.tmp 27) (.tmp 30) 46 rfl B 66 iI _ 10 192 underlying46 ZL Gu Gv Gw rfl (by decide) (.slice ao m co) m rows.flatten rfl (OW4.out.alloc _) ⟨w4.heap.size,0,none⟩ 1 1 [.int .i64 0,.string ⟨#[]⟩,.string ⟨#[]⟩,.string ⟨#[]⟩,.string ⟨#[]⟩,.slice none 0 0,.slice none 0 0,.slice none 0 0,.slice none 0 0,.slice none 0 0] rfl rfl (JA w4 _ _) (by intro u hu;simp at hu;rcases hu with rfl | rfl | rfl<;>rfl) (by omega) (by unfold maxLen;omega) (by omega) (by show B<=(w4.alloc _).heap.size;rw [World.size_alloc];omega) _ rfl ?_;intro g cap w5 hown hgrow hat jJ1;have hix:(m:Int)<(m:Int)+1:=(by omega);have hcp:=ZM hown;have q0:=iW hown Vl.out 0 _ rfl (by omega);have z0:=hown.frozenAt (m*10+0);have q1:=iW hown Vl.out 1 _ rfl (by omega);have z1:=hown.frozenAt (m*10+1);have q2:=iW hown Vl.out 2 _ rfl (by omega);have z2:=hown.frozenAt (m*10+2);have q3:=iW hown Vl.out 3 _ rfl (by omega);have z3:=hown.frozenAt (m*10+3);have q4:=iW hown Vl.out 4 _ rfl (by omega);have z4:=hown.frozenAt (m*10+4);have q5:=iW hown Vl.out 5 _ rfl (by omega);have z5:=hown.frozenAt (m*10+5);have q6:=iW hown Vl.out 6 _ rfl (by omega);have z6:=hown.frozenAt (m*10+6);have q7:=iW hown Vl.out 7 _ rfl (by omega);have z7:=hown.frozenAt (m*10+7);have q8:=iW hown Vl.out 8 _ rfl (by omega);have z8:=hown.frozenAt (m*10+8);have q9:=iW hown Vl.out 9 _ rfl (by omega);have z9:=hown.frozenAt (m*10+9);obtain ⟨qb,zb,hgb⟩:=jsk lK.out hown hgrow OW4.out Ih hs4;simp only [Nat.add_zero] at q0 z0;have Vm:=jy6 HPB.out hgrow jE2;have r0:=Vm.cell 0 _ rfl;have r1:=Vm.cell 1 _ rfl;have r2:=Vm.cell 2 _ rfl;have r3:=Vm.cell 3 _ rfl;have r4:=Vm.cell 4 _ rfl;have r5:=Vm.cell 5 _ rfl;have r6:=Vm.cell 6 _ rfl;have r7:=Vm.cell 7 _ rfl;have r8:=Vm.cell 8 _ rfl;have r9:=Vm.cell 9 _ rfl;have ZO:=hat.imp_right (fun e=>(Nat.le_trans (Nat.le_succ w4.heap.size) (Nat.le_of_eq ((World.size_alloc _ _).symm.trans e.symm))));have PT1:=Vn HI5.out HM.out Ih Jz hoi Q9 yT HVQ.out RX4.out hown rfl Vl.out hgrow ZO;simp only [ten] at PT1;have PT:=hid PT1;clear PT1 Vm hat ZO)
     all_goals
      go_wp2_with fail
      go_meet
      first
      | with_reducible exact PT.out.1
      | with_reducible exact PT.out.2
    case rest=>
     obtain ⟨w7,hw7⟩:∃ w7:World,w7=wc:=⟨_,rfl⟩;subst hw7;have jy7:fO bo vo w w4:=by have hb:=HI5.out.bl;have hk:=HKO.out;refine ⟨Nat.le_trans hk.1 hb.size,hb.os.trans hk.2.1,hb.tape.trans hk.2.2.1,hb.output.trans hk.2.2.2.1,fun b hb' hne Ii=>(hb.block b ?_).trans (hk.2.2.2.2 b hb' hne Ii)⟩;rw [HPW.out];exact Nat.lt_of_lt_of_le hb' hk.1
     have IO7:=jV.trans jy7 HOR.out hcut;obtain ⟨vo7,jy8,OL7,KO7,OR7⟩:=IO7;obtain ⟨g7,o7,vc7,vp7,va7,vi7,vk7,hgo,_,_,YZ,hR7⟩:=fE (HS.out.below (KO7.below Q9 (by omega) HVO.out (by omega))) HX.out;cases hgo
     have k9:=YZ.c9;have kb:w7.cell? ⟨bi,0,none⟩=some (Y0 bo bi):=by have:=OL7.fn;simp [jM0,this]
     unfold Y0 at kb;have hsk:=aj.bK l k _ HX.out;rw [aj.sz] at hsk;have IK:=hid (IH.out (aj.aU ks) (by omega) ks B0 B bo bi (acc++aj.aT (l.take k)++[aj.mk kd t d ti at_ ar ci ks]) jy8 vk7 vo7 w7.drew (jK8 _) (by omega) (hR7.kids.below ⟨rfl,rfl,rfl,jK8 _,fun _ _=>rfl⟩) Q9 h0i Ih Jz hoi hn5 OL7.drew (by rw [jKq,<- HM.out,List.length_singleton];omega));have jy9:=hid KO7.drew;have jyj:=hid OR7;obtain ⟨ak7,nk7,ck7,rfl⟩:=Rd.au hR7.kids;clear hcut OL7 KO7 OR7 hR7 YZ jy7 HI5 HVQ lK HPB OW4 RX4;go_upto_region 8 with (fail)
     go_still_tail 6,(by kernel_rfl)
     change wpList _ _ _ _ _ w7.drew;go_wp2_with fail
     refine IK.out.mono ?_;rintro e w8 ⟨rfl,IO8⟩;have IO9:=hid (jV.trans jy9.out jyj.out IO8);clear IO8 IK jy9 jyj k9 kb;go_wp2_with fail
     go_roundw;case rel=>
      refine ⟨k+1,by omega,by go_num,?_⟩;rw [aj.Av l k _ HX.out,aj.deep];have:=IO9.out;simp only [List.append_assoc,List.singleton_append] at this;exact this
     case measure=>simp [intOf];omega
   ·have hkl:k=l.length:=by omega
    subst hkl;rw [List.take_length] at Ar;have HO:=hid Ar;clear Ar;go_wp2
    go_end0
    exact ⟨rfl,MO,rows,HO.out,ZI,hor⟩
open Go.RowKit
mutual
def ah.inls:ah->List aj
 | .mk _ _ _ _ _ _ _ li ks=>aj.aT li++ah.aJ ks
def ah.aJ:List ah->List aj
 | []=>[]
 | x::l=>x.inls++ah.aJ l
end
theorem ah.lV (l m:List ah):ah.aJ (l++m)=ah.aJ l++ah.aJ m:=by
 induction l with
 | nil=>rw [ah.aJ];rfl
 | cons x l ih=>rw [List.cons_append,ah.aJ,ah.aJ,ih,List.append_assoc]
theorem ah.Aw (l:List ah) (k:Nat) (x:ah) (h:l[k]?=some x):ah.aJ (l.take (k+1))=ah.aJ (l.take k)++x.inls:=by rw [List.take_add_one,h,ah.lV];simp [ah.aJ]
theorem ah.Ra (l:List ah) (k:Nat) (x:ah) (h:l[k]?=some x):(ah.aJ (l.take k)).length+x.inls.length<=(ah.aJ l).length:=by
 have e:ah.aJ l=ah.aJ (l.take (k+1))++ah.aJ (l.drop (k+1)):=by rw [<- ah.lV,List.take_append_drop]
 have e2:=congrArg List.length e;rw [ah.Aw l k x h] at e2;simp only [jKq] at e2;omega
def inG (bi bk:Nat):Value:=.func (.func 85) #[] #[.pointer (some ⟨bi,0,none⟩),.pointer (some ⟨bk,0,none⟩)]
def Vo (bi bk:Nat) (w:World):Prop:=w.heap[bk]?=some (.cells #[inG bi bk] 122 (0,0))
theorem Vo.keep {bi bk bo B:Nat} {vo:Value} {w w':World} (h:Vo bi bk w) (hk:fO bo vo w w') (hne:bk≠bo) (hb:bk<B) (hv:∀ g,vo.ownBlock=some g->B<=g):Vo bi bk w':=
 (hk.2.2.2.2 bk (Array.getElem?_eq_some_iff.1 h).1 hne (fun e=>by have:=hv bk e;omega)).trans h
def jg6 (B0 B bo bi:Nat) (vo:Value) (w:World) (acc:List aj) (l:List ah) (vi:Value) (wr:World):Prop:=
 ∃ k:Nat,k<=l.length/\vi=.int .i64 k/\jV B0 B bo bi vo w (acc++ah.aJ (l.take k)) wr
theorem Vp (n:Nat):∀ (l:List ah) (B0 B bo bi bk:Nat) (acc:List aj) (Aq:List (List Value)) (v vo:Value) (w:World),ah.aU l<=n->n<=1000000->Rd (·<B0) w (iC l) [v]->B0<=bo->B0<=bi->bo<B->bi<B->bo≠bi->bk<B->bk≠bo->ah.mh l->OL B0 B bo bi bo vo acc Aq w->Vo bi bk w->acc.length+(ah.aJ l).length<=1000000 -> Calls prog 85 #[v,.pointer (some ⟨bi,0,none⟩),.pointer (some ⟨bk,0,none⟩)] w fun e w'=>e=.returned (.tuple #[])/\jV B0 B bo bi vo w (acc++ah.aJ l) w':=by
 induction n using Nat.strongRecOn with
 | _ n ih=>
  intro l B0 B bo bi bk acc Aq v vo w hn hnm hrd Q9 h0i Ih Jz hoi hkB hko hbd Ar hKB hal;obtain ⟨a,cap,hv,hs⟩:=Rd.aB hrd;obtain rfl:v=.slice a l.length cap:=by simpa using hv
  have hcap:l.length<=cap:=by simpa using hs.le
  have hll:=ah.dI l;have hmx:=hs.max;have HS:=hid hs;have IH:=hid ih;have mD:=hid hbd;have HKB:=hid hKB;have R0:Hid (jg6 B0 B bo bi vo w acc l (.int .i64 0) w):=⟨0,Nat.zero_le _,rfl,vo,Aq,by rw [List.take_zero,ah.aJ,List.append_nil];exact Ar,⟨jK8 _,rfl,rfl,rfl,fun _ _ _ _=>rfl⟩,.inl rfl⟩;have Ii:∀ g,vo.ownBlock=some g->B<=g:=fun g hg=>(Ar.own.lt g hg).1
  have HVO:=hid Ii;have hBw:=Ar.siz;clear hs hv hrd ih hbd Ar Ii hKB;unfold maxLen at hmx;go_enter func85,ntmps85;go_wp2
  go_loopw [7] (fun vi wr=>jg6 B0 B bo bi vo w acc l vi wr) (fun i _=>l.length-(intOf i).toNat)
  case atStart=>exact R0.out
  case round=>
   obtain ⟨k,hk,rfl,MO,rows,Ar,ZI,hor⟩:=hrel;clear R0;by_cases hlt:k<l.length
   ·refine kK ?_;intro x hx;obtain ⟨kd,lv,i,t,d,ti,at_,li,ks⟩:=x;have hbel:Below B0 w wr:=ZI.below Q9 (by omega) HVO.out (by omega);obtain ⟨g,off,vc,vp,vl,vk,rfl,hok,hbl,hc,hR⟩:=Mr (HS.out.below hbel) hx;have c9:=hc.c9;have hb1:=ah.mM l k _ mD.out hx;rw [ah.bd] at hb1;obtain ⟨hn1,hn2,hn3,ZJ,hn5⟩:=hb1;have hsz:=ah.bK l k _ hx;rw [ah.sz] at hsz;have hln:=ah.Ra l k _ hx;rw [ah.inls,jKq] at hln;have jJ2:=aj.eF li;obtain ⟨al,nl,cl,rfl⟩:=Rd.au hR.line;have kb:wr.cell? ⟨bi,0,none⟩=some (Y0 bo bi):=by
     have:=Ar.fn;simp [jM0,this]
    unfold Y0 at kb;have CI:=hid (Vk (aj.aU li) li B0 B bo bi (acc++ah.aJ (l.take k)) rows (.slice al nl cl) MO wr.drew (jK8 _) ZJ (hR.line.below ⟨rfl,rfl,rfl,jK8 _,fun _ _=>rfl⟩) Q9 h0i Ih Jz hoi hn3 Ar.drew (by rw [jKq];omega));have HX:=hid hx;have HKO:=hid ZI.drew;have HOR:=hid hor;clear hR hx Ar ZI hor hbel hc hbl;go_upto_region 3 with (fail)
    go_still_tail 6,(by kernel_rfl)
    change wpList _ _ _ _ _ wr.drew;go_wp2_with fail
    refine CI.out.mono ?_;rintro e w1 ⟨rfl,IO1⟩;obtain ⟨vo2,bI,OL2,KO2,OR2⟩:=jV.trans HKO.out HOR.out IO1;obtain ⟨g7,o7,vc7,vp7,vl7,vk7,hgo,_,_,YZ,hR7⟩:=Mr (HS.out.below (KO2.below Q9 (by omega) HVO.out (by omega))) HX.out;cases hgo
    have k10:=YZ.c10;have kb2:w1.cell? ⟨bk,0,none⟩=some (inG bi bk):=by have:=HKB.out.keep KO2 hko hkB HVO.out;unfold Vo at this;simp [jM0,this]
    unfold inG at kb2;obtain ⟨ak7,nk7,ck7,rfl⟩:=Rd.au hR7.kids;have IK:=hid (IH.out (ah.aU ks) (by omega) ks B0 B bo bi bk (acc++ah.aJ (l.take k)++aj.aT li) bI (.slice ak7 nk7 ck7) vo2 w1.drew (jK8 _) (by omega) (hR7.kids.below ⟨rfl,rfl,rfl,jK8 _,fun _ _=>rfl⟩) Q9 h0i Ih Jz hoi hkB hko hn5 OL2.drew (HKB.out.keep KO2.drew hko hkB HVO.out) (by rw [jKq,jKq];omega));have jyk:=hid KO2.drew;have jyq:=hid OR2;clear CI IO1 OL2 KO2 OR2 hR7 YZ kb c9 HKO HOR;go_upto_region 4 with (fail)
    go_still_tail 6,(by kernel_rfl)
    change wpList _ _ _ _ _ w1.drew;go_wp2_with fail
    refine IK.out.mono ?_;rintro e w8 ⟨rfl,IO8⟩;have IO9:=hid (jV.trans jyk.out jyq.out IO8);clear IO8 IK jyk jyq k10 kb2;go_wp2_with fail
    go_roundw;case rel=>
     refine ⟨k+1,by omega,by go_num,?_⟩;rw [ah.Aw l k _ HX.out,ah.inls];have:=IO9.out;simp only [List.append_assoc] at this ⊢;exact this
    case measure=>simp [intOf];omega
   ·have hkl:k=l.length:=by omega
    subst hkl;rw [List.take_length] at Ar;have HO:=hid Ar;clear Ar;go_wp2
    go_end0
    exact ⟨rfl,MO,rows,HO.out,ZI,hor⟩
open Go.RowKit
def aH (b:Nat) (v:Value) (t:TypeId) (w:World):Prop:=w.heap[b]?=some (.cells #[v] t (0,0))
section
variable {b:Nat} {v:Value} {t:TypeId} {w w':World}
theorem aH.lt (h:aH b v t w):b<w.heap.size:=(Array.getElem?_eq_some_iff.1 h).1
theorem aH.cell (h:aH b v t w):w.cell? ⟨b,0,none⟩=some v:=by unfold aH at h;simp [jM0,h]
theorem aH.free (h:aH b v t w):w.frozen? ⟨b,0,none⟩=false:=by unfold aH at h;simp [World.frozen?,h]
theorem aH.set (h:aH b v t w) (u:Value):aH b u t (w.setCell ⟨b,0,none⟩ u):=Gy h
theorem aH.far (h:aH b v t w) {q j:Nat} (hq:b≠q) (u:Value):aH b v t (w.setCell ⟨q,j,none⟩ u):=(Below.heap_setCell w ⟨q,j,none⟩ u b hq).trans h
theorem aH.alloc (h:aH b v t w) (o:Obj):aH b v t (w.alloc o):=(jL2 w o b h.lt).trans h
theorem aH.new (w:World) (v:Value) (t:TypeId):aH w.heap.size v t (w.alloc (.cells #[v] t)):=heap_alloc_new w _
theorem aH.below (h:aH b v t w) {B:Nat} (hB:b<B) (hb:Below B w w'):aH b v t w':=(hb.block b hB).trans h
theorem aH.drew (h:aH b v t w):aH b v t w.drew:=h
end
theorem Rb {w:World} {B B':Nat} {e:TypeId} {k n:Nat} {v:Value} {xs:List Value} (h:w.ownsRow B e k v n xs) (hB:B'<=B):w.ownsRow B' e k v n xs:=
 ⟨h.1,h.2.imp id fun ⟨g,cap,cur,h1,h2,h3⟩=>⟨g,cap,cur,h1,Nat.le_trans hB h2,h3⟩⟩
theorem JB (l:List ah) (v:Value) (w:World) (h:Rd (·<w.heap.size) w (iC l) [v]) (hbd:ah.mh l) (hsz:ah.aU l<=1000000) (hln:(ah.aJ l).length<=1000000) : Calls prog 37 #[v] w fun e w'=>∃ v' rows,e=.returned v'/\w'.ownsRow w.heap.size 66 10 v' (ah.aJ l).length rows.flatten/\aO (fun _=>True) w' ((ah.aJ l).map aj.d) rows/\(∀ r∈rows,r.length=10)/\Below w.heap.size w w':=by
 obtain ⟨va,vn,vc,rfl⟩:=Rd.au h;have HR:=hid h;have mD:=hid hbd;clear h hbd;obtain ⟨N,hN⟩:∃ N,N=w.heap.size:=⟨_,rfl⟩;go_enter func37,ntmps37;go_upto_region 3 with (fail)
 obtain ⟨wA,iD⟩:∃ wA,wA=(w.alloc (.cells #[.slice none 0 0] 46)).alloc (.cells #[.nilFunc] 116):=⟨_,rfl⟩;have b0:aH N (.slice none 0 0) 46 wA:=by rw [iD,hN];exact (aH.new w _ _).alloc _
 have b1:aH (N+1) .nilFunc 116 wA:=by
  rw [iD,hN];have:=aH.new (w.alloc (.cells #[.slice none 0 0] 46)) .nilFunc 116
  rwa [World.size_alloc] at this
 have bl:Below N w wA:=by rw [iD,hN];exact ((Below.refl _ _).alloc (jK8 _) _).alloc (by simp) _
 have sz:wA.heap.size=N+2:=by rw [iD,hN];simp
 rw [<- iD,<- hN];rw [<- hN] at HR;have HN:=hid hN;clear iD hN;have c1:=b1.cell;have f1:=b1.free;go_upto_region 4 with (fail)
 obtain ⟨wB,Ju⟩:∃ wB,wB=wA.setCell ⟨N+1,0,none⟩ (Y0 N (N+1)):=⟨_,rfl⟩;have d0:aH N (.slice none 0 0) 46 wB:=by rw [Ju];exact b0.far (by omega) _
 have d1:aH (N+1) (Y0 N (N+1)) 116 wB:=by rw [Ju];exact b1.set _
 have dl:Below N w wB:=by rw [Ju];exact bl.setCell (p:=⟨N+1,0,none⟩) (by show N<=N+1;omega) _
 have dz:wB.heap.size=N+2:=by rw [Ju];simpa [World.setCell] using sz
 unfold Y0 at Ju;rw [<- Ju];clear Ju b0 b1 bl sz c1 f1;go_upto_region 5 with (fail)
 obtain ⟨wC,TI⟩:∃ wC,wC=wB.alloc (.cells #[.nilFunc] 122):=⟨_,rfl⟩;have b0:aH N (.slice none 0 0) 46 wC:=by rw [TI];exact d0.alloc _
 have b1:aH (N+1) (Y0 N (N+1)) 116 wC:=by rw [TI];exact d1.alloc _
 have b2:aH (N+2) .nilFunc 122 wC:=by rw [TI,<- dz];exact aH.new _ _ _
 have bl:Below N w wC:=by rw [TI];exact dl.alloc (by omega) _
 have sz:wC.heap.size=N+3:=by rw [TI];simp [dz]
 rw [<- TI];clear TI d0 d1 dl dz;have c2:=b2.cell;have f2:=b2.free;go_upto_region 6 with (fail)
 obtain ⟨wD,Rc⟩:∃ wD,wD=wC.setCell ⟨N+2,0,none⟩ (inG (N+1) (N+2)):=⟨_,rfl⟩;have d0:aH N (.slice none 0 0) 46 wD:=by rw [Rc];exact b0.far (by omega) _
 have d1:aH (N+1) (Y0 N (N+1)) 116 wD:=by rw [Rc];exact b1.far (by omega) _
 have d2:aH (N+2) (inG (N+1) (N+2)) 122 wD:=by rw [Rc];exact b2.set _
 have dl:Below N w wD:=by rw [Rc];exact bl.setCell (p:=⟨N+2,0,none⟩) (by show N<=N+2;omega) _
 have dz:wD.heap.size=N+3:=by rw [Rc];simpa [World.setCell] using sz
 have c2:=d2.cell;unfold inG at Rc c2;rw [<- Rc];clear Rc b0 b1 b2 bl sz f2;have OLD:OL N (N+3) N (N+1) N (.slice none 0 0) [] [] wD:=⟨d0,d1,⟨rfl,.inl ⟨rfl,rfl⟩⟩,aO.none,by simp,by omega⟩;have CB:=hid (Vp (ah.aU l) l N (N+3) N (N+1) (N+2) [] [] (.slice va vn vc) (.slice none 0 0) wD (jK8 _) hsz (HR.out.below dl) (jK8 _) (by omega) (by omega) (by omega) (by omega) (by omega) (by omega) mD.out OLD d2 (by simpa using hln));have HDL:=hid dl;clear OLD d0 d1 d2 dl;go_wp2_with fail
 refine CB.out.mono ?_;rintro e w1 ⟨rfl,vo,rows,OL1,KO1,OR1⟩;have kb:w1.cell? ⟨N,0,none⟩=some vo:=by have:=OL1.bx;simp [jM0,this]
 obtain ⟨ao,co,rfl⟩:=lD OL1.own;have HO:=hid OL1;have HK:Hid (Below N w w1):=HDL.out.trans (KO1.below (B:=N+3) (jK8 _) (by omega) (by simp [Value.ownBlock]) (by omega));clear OL1 KO1 OR1 CB HDL c2;go_wp2_with fail
 go_ret;refine ⟨_,rows,rfl,?_,aO.keep (fun _ _ _=>⟨trivial,rfl⟩) _ _ HO.out.red,HO.out.len,HN.out ▸ HK.out⟩;have:=Rb HO.out.own (B':=w.heap.size) (by have:=HN.out;omega);simpa using this
end Go.Proofs.YtkfnkeflalcphaaGreatDoor

