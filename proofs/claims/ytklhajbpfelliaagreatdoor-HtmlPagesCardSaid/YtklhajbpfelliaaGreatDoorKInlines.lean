/- tree.Inlines$1: the inlines, and those in them, are added to what the box holds. tree.Inlines$2 and tree.Inlines: all inlines of blocks, in document order. tree.Inlines: all inlines of blocks, in document order. -/
import Derived.Test.YtklhajbpfelliaaGreatDoorKCtC
import Derived.StillTailTactics
import Derived.Laws.EntriesVeiled
set_option maxHeartbeats 8000000
set_option maxRecDepth 100000
open Go.Lib (hid)
namespace Go.Proofs.YtklhajbpfelliaaGreatDoor
open Nat renaming le_refl->jFk
open List renaming length_append->jG0
open Go.RowKit.Below renaming heap_alloc->jG5
open Go.World renaming cell?->jH3
open Go.RowKit
set_option linter.unusedVariables false
set_option linter.unusedSimpArgs false
theorem Ue (n:Nat):∀ (l:List aj) (B0 B bo bi:Nat) (acc:List aj) (zP:List (List Value)) (v vo:Value) (w:World),aj.aY l<=n->n<=1000000->Rd (·<B0) w (bJ l) [v]->B0<=bo->B0<=bi->bo<B->bi<B->bo≠bi->aj.uG l->OL B0 B bo bi bo vo acc zP w->acc.length+aj.aY l<=1000000 -> Calls Tryz.prog 52 #[v,.pointer (some ⟨bo,0,none⟩),.pointer (some ⟨bi,0,none⟩)] w fun e w'=>e=.returned (.tuple #[])/\jC B0 B bo bi vo w (acc++aj.aS l) w':=by
 induction n using Nat.strongRecOn with
 | _ n ih=>
  intro l B0 B bo bi acc zP v vo w hn hnm hrd OM h0i F5 JZ hoi hbd zR hal;obtain ⟨a,cap,hv,hs⟩:=Rd.ay hrd;obtain rfl:v=.slice a l.length cap:=by simpa using hv
  have hcap:l.length<=cap:=by simpa using hs.le
  have hll:=aj.fK l;have hmx:=hs.max;have HS:=hid hs;have IH:=hid ih;have nJ:=hid hbd;have R0:Hid (ZQ B0 B bo bi vo w acc l (.int .i64 0) w):=⟨0,Nat.zero_le _,rfl,vo,zP,by rw [List.take_zero,aj.aS,List.append_nil];exact zR,⟨jFk _,rfl,rfl,rfl,fun _ _ _ _=>rfl⟩,.inl rfl⟩;have J3:∀ g,vo.ownBlock=some g->B<=g:=fun g hg=>(zR.own.lt g hg).1
  have HVO:=hid J3;have hBw:=zR.ZP;clear hs hv hrd ih hbd zR J3;unfold maxLen at hmx;go_enter Tryz.func52,Tryz.ntmps52;go_wp2
  go_loopw [8] (fun vi wr=>ZQ B0 B bo bi vo w acc l vi wr) (fun i _=>l.length-(intOf i).toNat)
  case atStart=>exact R0.out
  case round=>
   obtain ⟨k,hk,rfl,J4,rows,zR,Ym,hor⟩:=hrel;clear R0;by_cases hlt:k<l.length
   ·refine jc ?_;intro x hx;obtain ⟨kd,t,d,ti,at_,ar,ci,ks⟩:=x;have hbel:Below B0 w wr:=Ym.below OM (by omega) HVO.out (by omega);obtain ⟨g,off,vc,vp,va,vi,vk,rfl,hok,hbl,hc,hR⟩:=MC (HS.out.below hbel) hx;obtain ⟨c0,c1,c2,c3,c4,c5,c6,c7,c8,c9⟩:=hc;have hb1:=aj.sJ l k _ nJ.out hx;rw [aj.bd] at hb1;obtain ⟨hn1,hn2,hn3,hn4,hn5⟩:=hb1;have hsz:=aj.bI l k _ hx;rw [aj.sz] at hsz;obtain ⟨ac,nc,cc,rfl⟩:=Rd.au hR.at_.cls
    obtain ⟨ap,np,cp,rfl⟩:=Rd.au hR.at_.aF
    obtain ⟨Aa,na,ca,rfl⟩:=Rd.au hR.args;obtain ⟨Ai,ni,cci,rfl⟩:=Rd.au hR.fC;obtain ⟨ak,nk,ck,rfl⟩:=Rd.au hR.kids;have HR:=hid hR;have HX:=hid hx;have HOL:=hid zR;have HKO:=hid Ym;have HOR:=hid hor;have ju9:=zR.ZP;clear hR hx zR Ym hor hbel;go_upto_region 4 with (fail)
    obtain ⟨p,hp⟩:∃ p,p=wr.heap.size:=⟨_,rfl⟩;obtain ⟨wA,iH⟩:∃ wA,wA=wr.alloc (.cells #[.int .i64 kd,.string t,.string d,.string ti,.string at_.id,.slice ac nc cc,.slice ap np cp,.slice Aa na ca,.slice Ai ni cci,.slice ak nk ck] 47):=⟨_,rfl⟩;have hpv:J4.ownBlock≠some p:=by rw [hp];exact own_ne HOL.out.own (jFk _)
    have F6:B<=p:=by rw [hp];exact ju9
    have OA:OL B0 B bo bi p J4 (acc++aj.aS (l.take k)) rows wA:=by
     rw [iH];refine ⟨(jG5 _ _ _ (by omega)).trans HOL.out.bx,(jG5 _ _ _ (by omega)).trans HOL.out.fn,HOL.out.own.alloc _,aU.keep (fun b hb hlt'=>⟨?_,jG5 _ _ b hlt'⟩) _ _ HOL.out.red,HOL.out.len,by simp;omega⟩;rcases hb with hb | hb
     ·exact .inl hb
     ·exact .inr ⟨hb.1,hb.2.1,by omega⟩
    have PA:PB p [.int .i64 kd,.string t,.string d,.string ti,.string at_.id,.slice ac nc cc,.slice ap np cp,.slice Aa na ca,.slice Ai ni cci,.slice ak nk ck] wA:=by rw [iH,hp];exact heap_alloc_new wr _
    have bA:Below B0 wr wA:=by rw [iH];exact (Below.refl _ _).alloc (by omega) _
    have gA:wr.grownBy wA none:=by rw [iH];exact World.grownBy_alloc _ _ none
    have hpA:wA.heap.size=p+1:=by rw [iH,hp];simp
    have HPW:=hid hp;have HVP:Hid (∀ g,J4.ownBlock=some g->g<p):=fun g hg=>by rw [hp];exact (HOL.out.own.lt g hg).2
    have HSA:=hid hpA;have hBA:B0<=wA.heap.size:=by omega
    rw [<- iH,<- hp];clear hp hpA iH c0 c1 c2 c3 c4 c5 c6 c7 c8 c9 hbl HOL ju9;have HIA:=hid (⟨OA,PA,by rw [HPW.out];exact (Below.refl _ _).grown gA (jFk _) (by simp)⟩:IS B0 B bo bi p J4 (acc++aj.aS (l.take k)) rows [.int .i64 kd,.string t,.string d,.string ti,.string at_.id,.slice ac nc cc,.slice ap np cp,.slice Aa na ca,.slice Ai ni cci,.slice ak nk ck] wr wA);have d4:=PA.cell 4 _ rfl;have d5:=PA.cell 5 _ rfl;have d6:=PA.cell 6 _ rfl;have CT:=hid (BG at_ _ _ B0 wA (HR.out.at_.below bA) hBA hn1 hn2);clear OA PA;go_wp2_with fail
    refine CT.out.mono ?_;rintro e w1 ⟨vc1,vp1,rfl,Yn,b1⟩;obtain ⟨ac1,nc1,cc1,rfl⟩:=Rd.au Yn.cls;obtain ⟨ap1,np1,cp1,rfl⟩:=Rd.au Yn.aF;have I1:=HIA.out.grown (QF b1);have HI1:=hid I1;have AT1:=hid (Yn.weaken (ok':=(p<·)) (fun b hb=>by have:=HSA.out;omega));have d4:=I1.pb.cell 4 _ rfl;have d5:=I1.pb.cell 5 _ rfl;have d6:=I1.pb.cell 6 _ rfl;have f4:=I1.pb.free 4;have f5:=I1.pb.free 5;have f6:=I1.pb.free 6;have h0B:B0<=B:=by omega
    clear I1 CT HIA Yn b1 gA bA hBA;go_upto_region 5 with (fail)
    obtain ⟨w2,hw2⟩:∃ w2,w2=((w1.setCell ⟨p,4,none⟩ (.string at_.id)).setCell ⟨p,5,none⟩ (.slice ac1 nc1 cc1)).setCell ⟨p,6,none⟩ (.slice ap1 np1 cp1):=⟨_,rfl⟩;have I2:IS B0 B bo bi p J4 (acc++aj.aS (l.take k)) rows [.int .i64 kd,.string t,.string d,.string ti,.string at_.id,.slice ac1 nc1 cc1,.slice ap1 np1 cp1,.slice Aa na ca,.slice Ai ni cci,.slice ak nk ck] wr w2:=by rw [hw2];exact ((HI1.out.set F5 JZ h0B F6 hpv 4 _).set F5 JZ h0B F6 hpv 5 _).set F5 JZ h0B F6 hpv 6 _
    have xA:Hid (AtR (p<·) w2 at_ (.slice ac1 nc1 cc1) (.slice ap1 np1 cp1)):=by show AtR _ _ _ _ _;rw [hw2];exact ((AT1.out.above (fT.set 4 _)).above (fT.set 5 _)).above (fT.set 6 _)
    rw [<- hw2];clear hw2 d4 d5 d6 f4 f5 f6 HI1 AT1;have HI2:=hid I2;have d7:=I2.pb.cell 7 _ rfl;have hl2:=I2.pb.lt;have CS:=hid (yQ ar B0 _ w2 (HR.out.args.below (I2.bl.mono (by omega))) (by omega) hn3);clear I2;go_wp2_with fail
    refine CS.out.mono ?_;rintro e w2b ⟨va1,rfl,hra,ba⟩;obtain ⟨aa1,na1,ca1,rfl⟩:=Rd.au hra;have I2b:=HI2.out.grown (QF ba);have juj:=hid I2b;have juk:=hid (xA.out.above (fT.grown (QF ba)));have juq:=hid (hra.weaken (ok':=(p<·)) (fun b hb=>by omega));have d7:=I2b.pb.cell 7 _ rfl;have f7:=I2b.pb.free 7;clear I2b HI2 xA CS hra ba hl2;go_upto_region 6 with (fail)
    obtain ⟨w3,hw3⟩:∃ w3,w3=w2b.setCell ⟨p,7,none⟩ (.slice aa1 na1 ca1):=⟨_,rfl⟩;have I3:IS B0 B bo bi p J4 (acc++aj.aS (l.take k)) rows [.int .i64 kd,.string t,.string d,.string ti,.string at_.id,.slice ac1 nc1 cc1,.slice ap1 np1 cp1,.slice aa1 na1 ca1,.slice Ai ni cci,.slice ak nk ck] wr w3:=by rw [hw3];exact juj.out.set F5 JZ h0B F6 hpv 7 _
    have xL:Hid (AtR (p<·) w3 at_ (.slice ac1 nc1 cc1) (.slice ap1 np1 cp1)):=by show AtR _ _ _ _ _;rw [hw3];exact juk.out.above (fT.set 7 _)
    have RA3:Hid (Rd (p<·) w3 (ku ar) [.slice aa1 na1 ca1]):=by show Rd _ _ _ _;rw [hw3];exact juq.out.above (fT.set 7 _)
    rw [<- hw3];clear hw3 d7 f7 juj juk juq;have HI3:=hid I3;have d8:=I3.pb.cell 8 _ rfl;have hl3:=I3.pb.lt;have CC:=hid (JX ci B0 _ w3 (HR.out.fC.below (I3.bl.mono (by omega))) (by omega) hn4);clear I3;go_wp2_with fail
    refine CC.out.mono ?_;rintro e w3b ⟨vi1,rfl,hri,bi3⟩;obtain ⟨ai1,ni1,ci1,rfl⟩:=Rd.au hri;have I3b:=HI3.out.grown (QF bi3);have jux:=hid I3b;have juz:=hid (xL.out.above (fT.grown (QF bi3)));have jv0:=hid (RA3.out.above (fT.grown (QF bi3)));have jv1:=hid (hri.weaken (ok':=(p<·)) (fun b hb=>by omega));have d8:=I3b.pb.cell 8 _ rfl;have f8:=I3b.pb.free 8;clear I3b HI3 xL RA3 CC hri bi3 hl3;go_upto_region 7 with (fail)
    obtain ⟨w4,hw4⟩:∃ w4,w4=w3b.setCell ⟨p,8,none⟩ (.slice ai1 ni1 ci1):=⟨_,rfl⟩;have I4:IS B0 B bo bi p J4 (acc++aj.aS (l.take k)) rows [.int .i64 kd,.string t,.string d,.string ti,.string at_.id,.slice ac1 nc1 cc1,.slice ap1 np1 cp1,.slice aa1 na1 ca1,.slice ai1 ni1 ci1,.slice ak nk ck] wr w4:=by rw [hw4];exact jux.out.set F5 JZ h0B F6 hpv 8 _
    have IN4:Hid (rz (fun b=>b<B0\/p<b) w4 at_ ar ci ks (.slice ac1 nc1 cc1) (.slice ap1 np1 cp1) (.slice aa1 na1 ca1) (.slice ai1 ni1 ci1) (.slice ak nk ck)):=by
     show rz _ _ _ _ _ _ _ _ _ _ _;refine ⟨?_,?_,?_,?_⟩
     ·rw [hw4];exact (juz.out.above (fT.set 8 _)).weaken (fun b hb=>.inr hb)
     ·rw [hw4];exact (jv0.out.above (fT.set 8 _)).weaken (fun b hb=>.inr hb)
     ·rw [hw4];exact (jv1.out.above (fT.set 8 _)).weaken (fun b hb=>.inr hb)
     ·exact (HR.out.kids.below (I4.bl.mono (by omega))).weaken (fun b hb=>.inl hb)
    rw [<- hw4];clear hw4 d8 f8 jux juz jv0 jv1;have HI4:=hid I4;obtain ⟨iI,Yo,Fg,Fh,Fj⟩:=info_parts Rv;obtain ⟨ao,co,rfl⟩:=kY I4.ol.own;obtain ⟨m,hm⟩:∃ m,m=(acc++aj.aS (l.take k)).length:=⟨_,rfl⟩;have hm1:m+(aj.aY ks+1)<=1000000:=by have h1:=aj.ED l k _ HX.out;rw [aj.sz] at h1;rw [hm,jG0,aj.fU];omega
    have HM:=hid hm;have e0:=I4.pb.cell 0 _ rfl;have e1:=I4.pb.cell 1 _ rfl;have e2:=I4.pb.cell 2 _ rfl;have e3:=I4.pb.cell 3 _ rfl;have e4:=I4.pb.cell 4 _ rfl;have e5:=I4.pb.cell 5 _ rfl;have e6:=I4.pb.cell 6 _ rfl;have e7:=I4.pb.cell 7 _ rfl;have e8:=I4.pb.cell 8 _ rfl;have e9:=I4.pb.cell 9 _ rfl;have eb:w4.cell? ⟨bo,0,none⟩=some (.slice ao m co):=by have:=I4.ol.bx;rw [hm];simp [jH3,this]
    have fb:w4.frozen? ⟨bo,0,none⟩=false:=by have:=I4.ol.bx;simp [World.frozen?,this]
    have OW4:Hid (w4.ownsRow B 47 10 (.slice ao m co) m rows.flatten):=by show World.ownsRow _ _ _ _ _ _ _;rw [hm];exact I4.ol.own
    have hs4:B<=w4.heap.size:=I4.ol.ZP;have qw:=hid I4.ol.bx;rw [<- hm] at qw;have hp4:p<w4.heap.size:=I4.pb.lt;have hb4:bo<w4.heap.size:=by omega
    have R8:=hid I4.pb;have jA8:(Value.slice ao m co).ownBlock≠some p:=by rw [hm];exact hpv
    have Uf:Hid (rows.flatten.length=m*10):=OW4.out.1;have HI5:Hid (IS B0 B bo bi p (.slice ao m co) (acc++aj.aS (l.take k)) rows [.int .i64 kd,.string t,.string d,.string ti,.string at_.id,.slice ac1 nc1 cc1,.slice ap1 np1 cp1,.slice aa1 na1 ca1,.slice ai1 ni1 ci1,.slice ak nk ck] wr w4):=by show IS _ _ _ _ _ _ _ _ _ _ _;rw [hm];exact HI4.out
    have HVQ:Hid (∀ g,(Value.slice ao m co).ownBlock=some g->g<p):=by show ∀ g,_;rw [hm];exact HVP.out
    rw [<- hm] at HOR;clear I4 hm HI4 HVP;have RX4:=hid (aj.dJ kd t d ti IN4.out)
    go_cut [] (fun wx=>jC B0 B bo bi (.slice ao m co) w4 (acc++aj.aS (l.take k)++[aj.mk kd t d ti at_ ar ci ks]) wx)
    case first=>
     go_region_law (refine step_append_lies _ rfl (.tmp 27) (.tmp 30) 45 rfl B 47 iI _ 10 192 Tryz.underlying45 Yo Fg Fh Fj rfl (by decide) (.slice ao m co) m rows.flatten rfl (OW4.out.alloc _) ⟨w4.heap.size,0,none⟩ 1 1 [.int .i64 0,.string ⟨#[]⟩,.string ⟨#[]⟩,.string ⟨#[]⟩,.string ⟨#[]⟩,.slice none 0 0,.slice none 0 0,.slice none 0 0,.slice none 0 0,.slice none 0 0] rfl rfl (GL w4 _ _) (by intro u hu;simp at hu;rcases hu with rfl | rfl | rfl<;>rfl) (by omega) (by unfold maxLen;omega) (by omega) (by show B<=(w4.alloc _).heap.size;rw [World.size_alloc];omega) _ rfl ?_;intro g cap w5 hown hgrow hat jE8;have hix:(m:Int)<(m:Int)+1:=(by omega);have hcp:=Xa hown;have q0:=iO hown Uf.out 0 _ rfl (by omega);have z0:=hown.frozenAt (m*10+0);have q1:=iO hown Uf.out 1 _ rfl (by omega);have z1:=hown.frozenAt (m*10+1);have q2:=iO hown Uf.out 2 _ rfl (by omega);have z2:=hown.frozenAt (m*10+2);have q3:=iO hown Uf.out 3 _ rfl (by omega);have z3:=hown.frozenAt (m*10+3);have q4:=iO hown Uf.out 4 _ rfl (by omega);have z4:=hown.frozenAt (m*10+4);have q5:=iO hown Uf.out 5 _ rfl (by omega);have z5:=hown.frozenAt (m*10+5);have q6:=iO hown Uf.out 6 _ rfl (by omega);have z6:=hown.frozenAt (m*10+6);have q7:=iO hown Uf.out 7 _ rfl (by omega);have z7:=hown.frozenAt (m*10+7);have q8:=iO hown Uf.out 8 _ rfl (by omega);have z8:=hown.frozenAt (m*10+8);have q9:=iO hown Uf.out 9 _ rfl (by omega);have z9:=hown.frozenAt (m*10+9);obtain ⟨qb,zb,hgb⟩:=jm2 qw.out hown hgrow OW4.out F5 hs4;simp only [Nat.add_zero] at q0 z0;have Ug:=js8 R8.out hgrow jA8;have r0:=Ug.cell 0 _ rfl;have r1:=Ug.cell 1 _ rfl;have r2:=Ug.cell 2 _ rfl;have r3:=Ug.cell 3 _ rfl;have r4:=Ug.cell 4 _ rfl;have r5:=Ug.cell 5 _ rfl;have r6:=Ug.cell 6 _ rfl;have r7:=Ug.cell 7 _ rfl;have r8:=Ug.cell 8 _ rfl;have r9:=Ug.cell 9 _ rfl;have Xx:=hat.imp_right (fun e=>(Nat.le_trans (Nat.le_succ w4.heap.size) (Nat.le_of_eq ((World.size_alloc _ _).symm.trans e.symm))));have PT1:=Rz HI5.out HM.out F5 JZ hoi OM F6 HVQ.out RX4.out hown rfl Uf.out hgrow Xx;simp only [ten] at PT1;have PT:=hid PT1;clear PT1 Ug hat Xx)
     all_goals
      go_wp2_with fail
      go_meet
      first
      | with_reducible exact PT.out.1
      | with_reducible exact PT.out.2
    case rest=>
     obtain ⟨w7,hw7⟩:∃ w7:World,w7=wc:=⟨_,rfl⟩;subst hw7;have jv2:fV bo vo w w4:=by have hb:=HI5.out.bl;have hk:=HKO.out;refine ⟨Nat.le_trans hk.1 hb.size,hb.os.trans hk.2.1,hb.tape.trans hk.2.2.1,hb.output.trans hk.2.2.2.1,fun b hb' hne J3=>(hb.block b ?_).trans (hk.2.2.2.2 b hb' hne J3)⟩;rw [HPW.out];exact Nat.lt_of_lt_of_le hb' hk.1
     have IO7:=jC.trans jv2 HOR.out hcut;obtain ⟨vo7,jv3,OL7,KO7,OR7⟩:=IO7;obtain ⟨g7,o7,vc7,vp7,va7,vi7,vk7,hgo,_,_,hc7,hR7⟩:=MC (HS.out.below (KO7.below OM (by omega) HVO.out (by omega))) HX.out;cases hgo
     have k9:=hc7.c9;have kb:w7.cell? ⟨bi,0,none⟩=some (WA bo bi):=by have:=OL7.fn;simp [jH3,this]
     unfold WA at kb;have hsk:=aj.bI l k _ HX.out;rw [aj.sz] at hsk;have IK:=hid (IH.out (aj.aY ks) (by omega) ks B0 B bo bi (acc++aj.aS (l.take k)++[aj.mk kd t d ti at_ ar ci ks]) jv3 vk7 vo7 w7.drew (jFk _) (by omega) (hR7.kids.below ⟨rfl,rfl,rfl,jFk _,fun _ _=>rfl⟩) OM h0i F5 JZ hoi hn5 OL7.drew (by rw [jG0,<- HM.out,List.length_singleton];omega));have jv4:=hid KO7.drew;have jv5:=hid OR7;obtain ⟨ak7,nk7,ck7,rfl⟩:=Rd.au hR7.kids;clear hcut OL7 KO7 OR7 hR7 hc7 jv2 HI5 HVQ qw R8 OW4 RX4;go_upto_region 8 with (fail)
     go_still_tail 6,(by kernel_rfl)
     change wpList _ _ _ _ _ w7.drew;go_wp2_with fail
     refine IK.out.mono ?_;rintro e w8 ⟨rfl,IO8⟩;have IO9:=hid (jC.trans jv4.out jv5.out IO8);clear IO8 IK jv4 jv5 k9 kb;go_wp2_with fail
     go_roundw;case rel=>
      refine ⟨k+1,by omega,by go_num,?_⟩;rw [aj.yR l k _ HX.out,aj.deep];have:=IO9.out;simp only [List.append_assoc,List.singleton_append] at this;exact this
     case measure=>simp [intOf];omega
   ·have hkl:k=l.length:=by omega
    subst hkl;rw [List.take_length] at zR;have HO:=hid zR;clear zR;go_wp2
    go_end0
    exact ⟨rfl,J4,rows,HO.out,Ym,hor⟩
open Go.RowKit
mutual
def ah.inls:ah->List aj
 | .mk _ _ _ _ _ _ _ li ks=>aj.aS li++ah.aR ks
def ah.aR:List ah->List aj
 | []=>[]
 | x::l=>x.inls++ah.aR l
end
theorem ah.DI (l m:List ah):ah.aR (l++m)=ah.aR l++ah.aR m:=by
 induction l with
 | nil=>rw [ah.aR];rfl
 | cons x l ih=>rw [List.cons_append,ah.aR,ah.aR,ih,List.append_assoc]
theorem ah.zS (l:List ah) (k:Nat) (x:ah) (h:l[k]?=some x):ah.aR (l.take (k+1))=ah.aR (l.take k)++x.inls:=by rw [List.take_add_one,h,ah.DI];simp [ah.aR]
theorem ah.Pv (l:List ah) (k:Nat) (x:ah) (h:l[k]?=some x):(ah.aR (l.take k)).length+x.inls.length<=(ah.aR l).length:=by
 have e:ah.aR l=ah.aR (l.take (k+1))++ah.aR (l.drop (k+1)):=by rw [<- ah.DI,List.take_append_drop]
 have e2:=congrArg List.length e;rw [ah.zS l k x h] at e2;simp only [jG0] at e2;omega
def inG (bi bk:Nat):Value:=.func (.func 56) #[] #[.pointer (some ⟨bi,0,none⟩),.pointer (some ⟨bk,0,none⟩)]
def Uh (bi bk:Nat) (w:World):Prop:=w.heap[bk]?=some (.cells #[inG bi bk] 92 (0,0))
theorem Uh.keep {bi bk bo B:Nat} {vo:Value} {w w':World} (h:Uh bi bk w) (hk:fV bo vo w w') (hne:bk≠bo) (hb:bk<B) (hv:∀ g,vo.ownBlock=some g->B<=g):Uh bi bk w':=
 (hk.2.2.2.2 bk (Array.getElem?_eq_some_iff.1 h).1 hne (fun e=>by have:=hv bk e;omega)).trans h
def jd9 (B0 B bo bi:Nat) (vo:Value) (w:World) (acc:List aj) (l:List ah) (vi:Value) (wr:World):Prop:=
 ∃ k:Nat,k<=l.length/\vi=.int .i64 k/\jC B0 B bo bi vo w (acc++ah.aR (l.take k)) wr
theorem Ui (n:Nat):∀ (l:List ah) (B0 B bo bi bk:Nat) (acc:List aj) (zP:List (List Value)) (v vo:Value) (w:World),ah.aY l<=n->n<=1000000->Rd (·<B0) w (lu l) [v]->B0<=bo->B0<=bi->bo<B->bi<B->bo≠bi->bk<B->bk≠bo->ah.uG l->OL B0 B bo bi bo vo acc zP w->Uh bi bk w->acc.length+(ah.aR l).length<=1000000 -> Calls Tryz.prog 56 #[v,.pointer (some ⟨bi,0,none⟩),.pointer (some ⟨bk,0,none⟩)] w fun e w'=>e=.returned (.tuple #[])/\jC B0 B bo bi vo w (acc++ah.aR l) w':=by
 induction n using Nat.strongRecOn with
 | _ n ih=>
  intro l B0 B bo bi bk acc zP v vo w hn hnm hrd OM h0i F5 JZ hoi hkB hko hbd zR hKB hal;obtain ⟨a,cap,hv,hs⟩:=Rd.ay hrd;obtain rfl:v=.slice a l.length cap:=by simpa using hv
  have hcap:l.length<=cap:=by simpa using hs.le
  have hll:=ah.fK l;have hmx:=hs.max;have HS:=hid hs;have IH:=hid ih;have nJ:=hid hbd;have HKB:=hid hKB;have R0:Hid (jd9 B0 B bo bi vo w acc l (.int .i64 0) w):=⟨0,Nat.zero_le _,rfl,vo,zP,by rw [List.take_zero,ah.aR,List.append_nil];exact zR,⟨jFk _,rfl,rfl,rfl,fun _ _ _ _=>rfl⟩,.inl rfl⟩;have J3:∀ g,vo.ownBlock=some g->B<=g:=fun g hg=>(zR.own.lt g hg).1
  have HVO:=hid J3;have hBw:=zR.ZP;clear hs hv hrd ih hbd zR J3 hKB;unfold maxLen at hmx;go_enter Tryz.func56,Tryz.ntmps56;go_wp2
  go_loopw [7] (fun vi wr=>jd9 B0 B bo bi vo w acc l vi wr) (fun i _=>l.length-(intOf i).toNat)
  case atStart=>exact R0.out
  case round=>
   obtain ⟨k,hk,rfl,J4,rows,zR,Ym,hor⟩:=hrel;clear R0;by_cases hlt:k<l.length
   ·refine jc ?_;intro x hx;obtain ⟨kd,lv,i,t,d,ti,at_,li,ks⟩:=x;have hbel:Below B0 w wr:=Ym.below OM (by omega) HVO.out (by omega);obtain ⟨g,off,vc,vp,vl,vk,rfl,hok,hbl,hc,hR⟩:=F7 (HS.out.below hbel) hx;have c9:=hc.c9;have hb1:=ah.sJ l k _ nJ.out hx;rw [ah.bd] at hb1;obtain ⟨hn1,hn2,hn3,hn4,hn5⟩:=hb1;have hsz:=ah.bI l k _ hx;rw [ah.sz] at hsz;have hln:=ah.Pv l k _ hx;rw [ah.inls,jG0] at hln;have jE9:=aj.fU li;obtain ⟨al,nl,cl,rfl⟩:=Rd.au hR.line;have kb:wr.cell? ⟨bi,0,none⟩=some (WA bo bi):=by
     have:=zR.fn;simp [jH3,this]
    unfold WA at kb;have CI:=hid (Ue (aj.aY li) li B0 B bo bi (acc++ah.aR (l.take k)) rows (.slice al nl cl) J4 wr.drew (jFk _) hn4 (hR.line.below ⟨rfl,rfl,rfl,jFk _,fun _ _=>rfl⟩) OM h0i F5 JZ hoi hn3 zR.drew (by rw [jG0];omega));have HX:=hid hx;have HKO:=hid Ym.drew;have HOR:=hid hor;clear hR hx zR Ym hor hbel hc hbl;go_upto_region 3 with (fail)
    go_still_tail 6,(by kernel_rfl)
    change wpList _ _ _ _ _ wr.drew;go_wp2_with fail
    refine CI.out.mono ?_;rintro e w1 ⟨rfl,IO1⟩;obtain ⟨vo2,bD,OL2,KO2,OR2⟩:=jC.trans HKO.out HOR.out IO1;obtain ⟨g7,o7,vc7,vp7,vl7,vk7,hgo,_,_,hc7,hR7⟩:=F7 (HS.out.below (KO2.below OM (by omega) HVO.out (by omega))) HX.out;cases hgo
    have k10:=hc7.c10;have kb2:w1.cell? ⟨bk,0,none⟩=some (inG bi bk):=by have:=HKB.out.keep KO2 hko hkB HVO.out;unfold Uh at this;simp [jH3,this]
    unfold inG at kb2;obtain ⟨ak7,nk7,ck7,rfl⟩:=Rd.au hR7.kids;have IK:=hid (IH.out (ah.aY ks) (by omega) ks B0 B bo bi bk (acc++ah.aR (l.take k)++aj.aS li) bD (.slice ak7 nk7 ck7) vo2 w1.drew (jFk _) (by omega) (hR7.kids.below ⟨rfl,rfl,rfl,jFk _,fun _ _=>rfl⟩) OM h0i F5 JZ hoi hkB hko hn5 OL2.drew (HKB.out.keep KO2.drew hko hkB HVO.out) (by rw [jG0,jG0];omega));have jv6:=hid KO2.drew;have jv7:=hid OR2;clear CI IO1 OL2 KO2 OR2 hR7 hc7 kb c9 HKO HOR;go_upto_region 4 with (fail)
    go_still_tail 6,(by kernel_rfl)
    change wpList _ _ _ _ _ w1.drew;go_wp2_with fail
    refine IK.out.mono ?_;rintro e w8 ⟨rfl,IO8⟩;have IO9:=hid (jC.trans jv6.out jv7.out IO8);clear IO8 IK jv6 jv7 k10 kb2;go_wp2_with fail
    go_roundw;case rel=>
     refine ⟨k+1,by omega,by go_num,?_⟩;rw [ah.zS l k _ HX.out,ah.inls];have:=IO9.out;simp only [List.append_assoc] at this ⊢;exact this
    case measure=>simp [intOf];omega
   ·have hkl:k=l.length:=by omega
    subst hkl;rw [List.take_length] at zR;have HO:=hid zR;clear zR;go_wp2
    go_end0
    exact ⟨rfl,J4,rows,HO.out,Ym,hor⟩
open Go.RowKit
def aJ (b:Nat) (v:Value) (t:TypeId) (w:World):Prop:=w.heap[b]?=some (.cells #[v] t (0,0))
section
variable {b:Nat} {v:Value} {t:TypeId} {w w':World}
theorem aJ.lt (h:aJ b v t w):b<w.heap.size:=(Array.getElem?_eq_some_iff.1 h).1
theorem aJ.cell (h:aJ b v t w):w.cell? ⟨b,0,none⟩=some v:=by unfold aJ at h;simp [jH3,h]
theorem aJ.free (h:aJ b v t w):w.frozen? ⟨b,0,none⟩=false:=by unfold aJ at h;simp [World.frozen?,h]
theorem aJ.set (h:aJ b v t w) (u:Value):aJ b u t (w.setCell ⟨b,0,none⟩ u):=EA h
theorem aJ.far (h:aJ b v t w) {q j:Nat} (hq:b≠q) (u:Value):aJ b v t (w.setCell ⟨q,j,none⟩ u):=(Below.heap_setCell w ⟨q,j,none⟩ u b hq).trans h
theorem aJ.alloc (h:aJ b v t w) (o:Obj):aJ b v t (w.alloc o):=(jG5 w o b h.lt).trans h
theorem aJ.new (w:World) (v:Value) (t:TypeId):aJ w.heap.size v t (w.alloc (.cells #[v] t)):=heap_alloc_new w _
theorem aJ.below (h:aJ b v t w) {B:Nat} (hB:b<B) (hb:Below B w w'):aJ b v t w':=(hb.block b hB).trans h
theorem aJ.drew (h:aJ b v t w):aJ b v t w.drew:=h
end
theorem Pw {w:World} {B B':Nat} {e:TypeId} {k n:Nat} {v:Value} {xs:List Value} (h:w.ownsRow B e k v n xs) (hB:B'<=B):w.ownsRow B' e k v n xs:=
 ⟨h.1,h.2.imp id fun ⟨g,cap,cur,h1,h2,h3⟩=>⟨g,cap,cur,h1,Nat.le_trans hB h2,h3⟩⟩
theorem wG (l:List ah) (v:Value) (w:World) (h:Rd (·<w.heap.size) w (lu l) [v]) (hbd:ah.uG l) (hsz:ah.aY l<=1000000) (hln:(ah.aR l).length<=1000000) : Calls Tryz.prog 27 #[v] w fun e w'=>∃ v' rows,e=.returned v'/\w'.ownsRow w.heap.size 47 10 v' (ah.aR l).length rows.flatten/\aU (fun _=>True) w' ((ah.aR l).map aj.d) rows/\(∀ r∈rows,r.length=10)/\Below w.heap.size w w':=by
 obtain ⟨va,vn,vc,rfl⟩:=Rd.au h;have HR:=hid h;have nJ:=hid hbd;clear h hbd;obtain ⟨N,hN⟩:∃ N,N=w.heap.size:=⟨_,rfl⟩;go_enter Tryz.func27,Tryz.ntmps27;go_upto_region 3 with (fail)
 obtain ⟨wA,iH⟩:∃ wA,wA=(w.alloc (.cells #[.slice none 0 0] 45)).alloc (.cells #[.nilFunc] 88):=⟨_,rfl⟩;have b0:aJ N (.slice none 0 0) 45 wA:=by rw [iH,hN];exact (aJ.new w _ _).alloc _
 have b1:aJ (N+1) .nilFunc 88 wA:=by
  rw [iH,hN];have:=aJ.new (w.alloc (.cells #[.slice none 0 0] 45)) .nilFunc 88
  rwa [World.size_alloc] at this
 have bl:Below N w wA:=by rw [iH,hN];exact ((Below.refl _ _).alloc (jFk _) _).alloc (by simp) _
 have sz:wA.heap.size=N+2:=by rw [iH,hN];simp
 rw [<- iH,<- hN];rw [<- hN] at HR;have HN:=hid hN;clear iH hN;have c1:=b1.cell;have f1:=b1.free;go_upto_region 4 with (fail)
 obtain ⟨wB,Ic⟩:∃ wB,wB=wA.setCell ⟨N+1,0,none⟩ (WA N (N+1)):=⟨_,rfl⟩;have d0:aJ N (.slice none 0 0) 45 wB:=by rw [Ic];exact b0.far (by omega) _
 have d1:aJ (N+1) (WA N (N+1)) 88 wB:=by rw [Ic];exact b1.set _
 have dl:Below N w wB:=by rw [Ic];exact bl.setCell (p:=⟨N+1,0,none⟩) (by show N<=N+1;omega) _
 have dz:wB.heap.size=N+2:=by rw [Ic];simpa [World.setCell] using sz
 unfold WA at Ic;rw [<- Ic];clear Ic b0 b1 bl sz c1 f1;go_upto_region 5 with (fail)
 obtain ⟨wC,hwC⟩:∃ wC,wC=wB.alloc (.cells #[.nilFunc] 92):=⟨_,rfl⟩;have b0:aJ N (.slice none 0 0) 45 wC:=by rw [hwC];exact d0.alloc _
 have b1:aJ (N+1) (WA N (N+1)) 88 wC:=by rw [hwC];exact d1.alloc _
 have b2:aJ (N+2) .nilFunc 92 wC:=by rw [hwC,<- dz];exact aJ.new _ _ _
 have bl:Below N w wC:=by rw [hwC];exact dl.alloc (by omega) _
 have sz:wC.heap.size=N+3:=by rw [hwC];simp [dz]
 rw [<- hwC];clear hwC d0 d1 dl dz;have c2:=b2.cell;have f2:=b2.free;go_upto_region 6 with (fail)
 obtain ⟨wD,hwD⟩:∃ wD,wD=wC.setCell ⟨N+2,0,none⟩ (inG (N+1) (N+2)):=⟨_,rfl⟩;have d0:aJ N (.slice none 0 0) 45 wD:=by rw [hwD];exact b0.far (by omega) _
 have d1:aJ (N+1) (WA N (N+1)) 88 wD:=by rw [hwD];exact b1.far (by omega) _
 have d2:aJ (N+2) (inG (N+1) (N+2)) 92 wD:=by rw [hwD];exact b2.set _
 have dl:Below N w wD:=by rw [hwD];exact bl.setCell (p:=⟨N+2,0,none⟩) (by show N<=N+2;omega) _
 have dz:wD.heap.size=N+3:=by rw [hwD];simpa [World.setCell] using sz
 have c2:=d2.cell;unfold inG at hwD c2;rw [<- hwD];clear hwD b0 b1 b2 bl sz f2;have OLD:OL N (N+3) N (N+1) N (.slice none 0 0) [] [] wD:=⟨d0,d1,⟨rfl,.inl ⟨rfl,rfl⟩⟩,aU.none,by simp,by omega⟩;have CB:=hid (Ui (ah.aY l) l N (N+3) N (N+1) (N+2) [] [] (.slice va vn vc) (.slice none 0 0) wD (jFk _) hsz (HR.out.below dl) (jFk _) (by omega) (by omega) (by omega) (by omega) (by omega) (by omega) nJ.out OLD d2 (by simpa using hln));have HDL:=hid dl;clear OLD d0 d1 d2 dl;go_wp2_with fail
 refine CB.out.mono ?_;rintro e w1 ⟨rfl,vo,rows,OL1,KO1,OR1⟩;have kb:w1.cell? ⟨N,0,none⟩=some vo:=by have:=OL1.bx;simp [jH3,this]
 obtain ⟨ao,co,rfl⟩:=kY OL1.own;have HO:=hid OL1;have HK:Hid (Below N w w1):=HDL.out.trans (KO1.below (B:=N+3) (jFk _) (by omega) (by simp [Value.ownBlock]) (by omega));clear OL1 KO1 OR1 CB HDL c2;go_wp2_with fail
 go_ret;refine ⟨_,rows,rfl,?_,aU.keep (fun _ _ _=>⟨trivial,rfl⟩) _ _ HO.out.red,HO.out.len,HN.out ▸ HK.out⟩;have:=Pw HO.out.own (B':=w.heap.size) (by have:=HN.out;omega);simpa using this
end Go.Proofs.YtklhajbpfelliaaGreatDoor

