/- tree.Inlines$1: the inlines, and those in them, are added to what the box holds. tree.Inlines$2 and tree.Inlines: all inlines of blocks, in document order. tree.Inlines: all inlines of blocks, in document order. -/
import Derived.Test.YtclikfjalmcoaaaGreatDoorJInlsW
import Derived.StillTailTactics
import Derived.Laws.EntriesVeiled
set_option maxHeartbeats 8000000
set_option maxRecDepth 100000
open Go.Lib (hid)
namespace Go.Proofs.YtclikfjalmcoaaaGreatDoor
open Nat renaming le_refl->jc8
open List renaming length_append->jcq
open Go.RowKit.Below renaming heap_alloc->jd2
open Go.World renaming cell?->je0
open Go.RowKit
set_option linter.unusedVariables false
set_option linter.unusedSimpArgs false
theorem KS (n:Nat):∀ (l:List ah) (B0 B bo bi:Nat) (acc:List ah) (vB:List (List Value)) (v vo:Value) (w:World),ah.aU l<=n->n<=1000000->Rd (·<B0) w (bC l) [v]->B0<=bo->B0<=bi->bo<B->bi<B->bo≠bi->ah.qI l->OL B0 B bo bi bo vo acc vB w->acc.length+ah.aU l<=1000000 -> Calls Tryz.prog 93 #[v,.pointer (some ⟨bo,0,none⟩),.pointer (some ⟨bi,0,none⟩)] w fun e w'=>e=.returned (.tuple #[])/\jd B0 B bo bi vo w (acc++ah.aM l) w':=by
 induction n using Nat.strongRecOn with
 | _ n ih=>
  intro l B0 B bo bi acc vB v vo w hn hnm hrd Iz Xi Ba EX hoi hbd vC hal;obtain ⟨a,cap,hv,hs⟩:=Rd.aD hrd;obtain rfl:v=.slice a l.length cap:=by simpa using hv
  have hcap:l.length<=cap:=by simpa using hs.le
  have hll:=ah.gU l;have hmx:=hs.max;have HS:=hid hs;have IH:=hid ih;have iM:=hid hbd;have R0:Hid (PV B0 B bo bi vo w acc l (.int .i64 0) w):=⟨0,Nat.zero_le _,rfl,vo,vB,by rw [List.take_zero,ah.aM,List.append_nil];exact vC,⟨jc8 _,rfl,rfl,rfl,fun _ _ _ _=>rfl⟩,.inl rfl⟩;have EY:∀ g,vo.ownBlock=some g->B<=g:=fun g hg=>(vC.own.lt g hg).1
  have RG:=hid EY;have hBw:=vC.PX;clear hs hv hrd ih hbd vC EY;unfold maxLen at hmx;go_enter Tryz.func93,Tryz.ntmps93;go_wp2
  go_loopw [8] (fun vi wr=>PV B0 B bo bi vo w acc l vi wr) (fun i _=>l.length-(intOf i).toNat)
  case atStart=>exact R0.out
  case round=>
   obtain ⟨k,hk,rfl,EZ,rows,vC,ND,hor⟩:=hrel;clear R0;by_cases hlt:k<l.length
   ·obtain ⟨x,hx⟩:∃ x,l[k]?=some x:=⟨_,List.getElem?_eq_getElem hlt⟩;obtain ⟨kd,t,d,ti,at_,ar,ci,ks⟩:=x;have hbel:Below B0 w wr:=ND.below Iz (by omega) RG.out (by omega);obtain ⟨g,off,vc,vp,va,vi,vk,rfl,hok,hbl,hc,hR⟩:=eF (HS.out.below hbel) hx;obtain ⟨c0,c1,c2,c3,c4,c5,c6,c7,c8,c9⟩:=hc;have hb1:=ah.oZ l k _ iM.out hx;rw [ah.bd] at hb1;obtain ⟨hn1,hn2,YO,YP,Pz⟩:=hb1;have hsz:=ah.bD l k _ hx;rw [ah.sz] at hsz;obtain ⟨ac,nc,cc,rfl⟩:=Rd.aj hR.at_.cls
    obtain ⟨ap,np,cp,rfl⟩:=Rd.aj hR.at_.aH
    obtain ⟨Aa,na,ca,rfl⟩:=Rd.aj hR.args;obtain ⟨Ai,ni,cci,rfl⟩:=Rd.aj hR.bM;obtain ⟨ak,nk,ck,rfl⟩:=Rd.aj hR.kids;have HR:=hid hR;have HX:=hid hx;have HOL:=hid vC;have Xj:=hid ND;have Va:=hid hor;have Vb:=vC.PX;clear hR hx vC ND hor hbel;go_upto_region 4 with (fail)
    obtain ⟨p,hp⟩:∃ p,p=wr.heap.size:=⟨_,rfl⟩;obtain ⟨wA,gQ⟩:∃ wA,wA=wr.alloc (.cells #[.int .i64 kd,.string t,.string d,.string ti,.string at_.id,.slice ac nc cc,.slice ap np cp,.slice Aa na ca,.slice Ai ni cci,.slice ak nk ck] 51):=⟨_,rfl⟩;have hpv:EZ.ownBlock≠some p:=by rw [hp];exact own_ne HOL.out.own (jc8 _)
    have GY:B<=p:=by rw [hp];exact Vb
    have OA:OL B0 B bo bi p EZ (acc++ah.aM (l.take k)) rows wA:=by
     rw [gQ];refine ⟨(jd2 _ _ _ (by omega)).trans HOL.out.bx,(jd2 _ _ _ (by omega)).trans HOL.out.fn,HOL.out.own.alloc _,aO.keep (fun b hb hlt'=>⟨?_,jd2 _ _ b hlt'⟩) _ _ HOL.out.red,HOL.out.len,by simp;omega⟩;rcases hb with hb | hb
     ·exact .inl hb
     ·exact .inr ⟨hb.1,hb.2.1,by omega⟩
    have PA:PB p [.int .i64 kd,.string t,.string d,.string ti,.string at_.id,.slice ac nc cc,.slice ap np cp,.slice Aa na ca,.slice Ai ni cci,.slice ak nk ck] wA:=by rw [gQ,hp];exact heap_alloc_new wr _
    have bA:Below B0 wr wA:=by rw [gQ];exact (Below.refl _ _).alloc (by omega) _
    have gA:wr.grownBy wA none:=by rw [gQ];exact World.grownBy_alloc _ _ none
    have hpA:wA.heap.size=p+1:=by rw [gQ,hp];simp
    have HPW:=hid hp;have Yd:Hid (∀ g,EZ.ownBlock=some g->g<p):=fun g hg=>by rw [hp];exact (HOL.out.own.lt g hg).2
    have Uo:=hid hpA;have hBA:B0<=wA.heap.size:=by omega
    rw [<- gQ,<- hp];clear hp hpA gQ c0 c1 c2 c3 c4 c5 c6 c7 c8 c9 hbl HOL Vb;have HIA:=hid (⟨OA,PA,by rw [HPW.out];exact (Below.refl _ _).grown gA (jc8 _) (by simp)⟩:IS B0 B bo bi p EZ (acc++ah.aM (l.take k)) rows [.int .i64 kd,.string t,.string d,.string ti,.string at_.id,.slice ac nc cc,.slice ap np cp,.slice Aa na ca,.slice Ai ni cci,.slice ak nk ck] wr wA);have d4:=PA.cell 4 _ rfl;have d5:=PA.cell 5 _ rfl;have d6:=PA.cell 6 _ rfl;have CT:=hid (xE at_ _ _ B0 wA (HR.out.at_.below bA) hBA hn1 hn2);clear OA PA;go_wp2_with fail
    refine CT.out.mono ?_;rintro e w1 ⟨vc1,vp1,rfl,NG,b1⟩;obtain ⟨PY,PZ,P5,rfl⟩:=Rd.aj NG.cls;obtain ⟨P6,P7,P8,rfl⟩:=Rd.aj NG.aH;have I1:=HIA.out.grown (Jj b1);have HI1:=hid I1;have AT1:=hid (NG.weaken (ok':=(p<·)) (fun b hb=>by have:=Uo.out;omega));have d4:=I1.pb.cell 4 _ rfl;have d5:=I1.pb.cell 5 _ rfl;have d6:=I1.pb.cell 6 _ rfl;have f4:=I1.pb.free 4;have f5:=I1.pb.free 5;have f6:=I1.pb.free 6;have h0B:B0<=B:=by omega
    clear I1 CT HIA NG b1 gA bA hBA;go_upto_region 5 with (fail)
    obtain ⟨w2,hw2⟩:∃ w2,w2=((w1.setCell ⟨p,4,none⟩ (.string at_.id)).setCell ⟨p,5,none⟩ (.slice PY PZ P5)).setCell ⟨p,6,none⟩ (.slice P6 P7 P8):=⟨_,rfl⟩;have I2:IS B0 B bo bi p EZ (acc++ah.aM (l.take k)) rows [.int .i64 kd,.string t,.string d,.string ti,.string at_.id,.slice PY PZ P5,.slice P6 P7 P8,.slice Aa na ca,.slice Ai ni cci,.slice ak nk ck] wr w2:=by rw [hw2];exact ((HI1.out.set Ba EX h0B GY hpv 4 _).set Ba EX h0B GY hpv 5 _).set Ba EX h0B GY hpv 6 _
    have uK:Hid (AtR (p<·) w2 at_ (.slice PY PZ P5) (.slice P6 P7 P8)):=by show AtR _ _ _ _ _;rw [hw2];exact ((AT1.out.above (eU.set 4 _)).above (eU.set 5 _)).above (eU.set 6 _)
    rw [<- hw2];clear hw2 d4 d5 d6 f4 f5 f6 HI1 AT1;have HI2:=hid I2;have d7:=I2.pb.cell 7 _ rfl;have hl2:=I2.pb.lt;have CS:=hid (vD ar B0 _ w2 (HR.out.args.below (I2.bl.mono (by omega))) (by omega) YO);clear I2;go_wp2_with fail
    refine CS.out.mono ?_;rintro e w2b ⟨va1,rfl,hra,ba⟩;obtain ⟨Tf,Tg,Ti,rfl⟩:=Rd.aj hra;have Xk:=HI2.out.grown (Jj ba);have Vd:=hid Xk;have Ve:=hid (uK.out.above (eU.grown (Jj ba)));have Vf:=hid (hra.weaken (ok':=(p<·)) (fun b hb=>by omega));have d7:=Xk.pb.cell 7 _ rfl;have f7:=Xk.pb.free 7;clear Xk HI2 uK CS hra ba hl2;go_upto_region 6 with (fail)
    obtain ⟨w3,hw3⟩:∃ w3,w3=w2b.setCell ⟨p,7,none⟩ (.slice Tf Tg Ti):=⟨_,rfl⟩;have I3:IS B0 B bo bi p EZ (acc++ah.aM (l.take k)) rows [.int .i64 kd,.string t,.string d,.string ti,.string at_.id,.slice PY PZ P5,.slice P6 P7 P8,.slice Tf Tg Ti,.slice Ai ni cci,.slice ak nk ck] wr w3:=by rw [hw3];exact Vd.out.set Ba EX h0B GY hpv 7 _
    have zG:Hid (AtR (p<·) w3 at_ (.slice PY PZ P5) (.slice P6 P7 P8)):=by show AtR _ _ _ _ _;rw [hw3];exact Ve.out.above (eU.set 7 _)
    have U6:Hid (Rd (p<·) w3 (jv ar) [.slice Tf Tg Ti]):=by show Rd _ _ _ _;rw [hw3];exact Vf.out.above (eU.set 7 _)
    rw [<- hw3];clear hw3 d7 f7 Vd Ve Vf;have HI3:=hid I3;have d8:=I3.pb.cell 8 _ rfl;have hl3:=I3.pb.lt;have CC:=hid (E8 ci B0 _ w3 (HR.out.bM.below (I3.bl.mono (by omega))) (by omega) YP);clear I3;go_wp2_with fail
    refine CC.out.mono ?_;rintro e w3b ⟨vi1,rfl,YQ,Xl⟩;obtain ⟨Xm,Xn,Xo,rfl⟩:=Rd.aj YQ;have Xp:=HI3.out.grown (Jj Xl);have Vg:=hid Xp;have Vh:=hid (zG.out.above (eU.grown (Jj Xl)));have Vi:=hid (U6.out.above (eU.grown (Jj Xl)));have Vj:=hid (YQ.weaken (ok':=(p<·)) (fun b hb=>by omega));have d8:=Xp.pb.cell 8 _ rfl;have f8:=Xp.pb.free 8;clear Xp HI3 zG U6 CC YQ Xl hl3;go_upto_region 7 with (fail)
    obtain ⟨w4,hw4⟩:∃ w4,w4=w3b.setCell ⟨p,8,none⟩ (.slice Xm Xn Xo):=⟨_,rfl⟩;have I4:IS B0 B bo bi p EZ (acc++ah.aM (l.take k)) rows [.int .i64 kd,.string t,.string d,.string ti,.string at_.id,.slice PY PZ P5,.slice P6 P7 P8,.slice Tf Tg Ti,.slice Xm Xn Xo,.slice ak nk ck] wr w4:=by rw [hw4];exact Vg.out.set Ba EX h0B GY hpv 8 _
    have IN4:Hid (jF (fun b=>b<B0\/p<b) w4 at_ ar ci ks (.slice PY PZ P5) (.slice P6 P7 P8) (.slice Tf Tg Ti) (.slice Xm Xn Xo) (.slice ak nk ck)):=by
     show jF _ _ _ _ _ _ _ _ _ _ _;refine ⟨?_,?_,?_,?_⟩
     ·rw [hw4];exact (Vh.out.above (eU.set 8 _)).weaken (fun b hb=>.inr hb)
     ·rw [hw4];exact (Vi.out.above (eU.set 8 _)).weaken (fun b hb=>.inr hb)
     ·rw [hw4];exact (Vj.out.above (eU.set 8 _)).weaken (fun b hb=>.inr hb)
     ·exact (HR.out.kids.below (I4.bl.mono (by omega))).weaken (fun b hb=>.inl hb)
    rw [<- hw4];clear hw4 d8 f8 Vg Vh Vi Vj;have HI4:=hid I4;obtain ⟨iI,Xq,NH,NJ,NK⟩:=info_parts QD;obtain ⟨ao,co,rfl⟩:=qP I4.ol.own;obtain ⟨m,hm⟩:∃ m,m=(acc++ah.aM (l.take k)).length:=⟨_,rfl⟩;have hm1:m+(ah.aU ks+1)<=1000000:=by have h1:=ah.Ad l k _ HX.out;rw [ah.sz] at h1;rw [hm,jcq,ah.gq];omega
    have HM:=hid hm;have e0:=I4.pb.cell 0 _ rfl;have e1:=I4.pb.cell 1 _ rfl;have e2:=I4.pb.cell 2 _ rfl;have e3:=I4.pb.cell 3 _ rfl;have e4:=I4.pb.cell 4 _ rfl;have e5:=I4.pb.cell 5 _ rfl;have e6:=I4.pb.cell 6 _ rfl;have e7:=I4.pb.cell 7 _ rfl;have e8:=I4.pb.cell 8 _ rfl;have e9:=I4.pb.cell 9 _ rfl;have eb:w4.cell? ⟨bo,0,none⟩=some (.slice ao m co):=by have:=I4.ol.bx;rw [hm];simp [je0,this]
    have fb:w4.frozen? ⟨bo,0,none⟩=false:=by have:=I4.ol.bx;simp [World.frozen?,this]
    have Xr:Hid (w4.ownsRow B 51 10 (.slice ao m co) m rows.flatten):=by show World.ownsRow _ _ _ _ _ _ _;rw [hm];exact I4.ol.own
    have hs4:B<=w4.heap.size:=I4.ol.PX;have jJ:=hid I4.ol.bx;rw [<- hm] at jJ;have U7:p<w4.heap.size:=I4.pb.lt;have hb4:bo<w4.heap.size:=by omega
    have Py:=hid I4.pb;have YR:(Value.slice ao m co).ownBlock≠some p:=by rw [hm];exact hpv
    have KT:Hid (rows.flatten.length=m*10):=Xr.out.1;have YS:Hid (IS B0 B bo bi p (.slice ao m co) (acc++ah.aM (l.take k)) rows [.int .i64 kd,.string t,.string d,.string ti,.string at_.id,.slice PY PZ P5,.slice P6 P7 P8,.slice Tf Tg Ti,.slice Xm Xn Xo,.slice ak nk ck] wr w4):=by show IS _ _ _ _ _ _ _ _ _ _ _;rw [hm];exact HI4.out
    have HVQ:Hid (∀ g,(Value.slice ao m co).ownBlock=some g->g<p):=by show ∀ g,_;rw [hm];exact Yd.out
    rw [<- hm] at Va;clear I4 hm HI4 Yd;have RX4:=hid (ah.fK kd t d ti IN4.out)
    go_cut [] (fun wx=>jd B0 B bo bi (.slice ao m co) w4 (acc++ah.aM (l.take k)++[ah.mk kd t d ti at_ ar ci ks]) wx)
    case first=>
     go_region_law (refine step_append_lies _ rfl (.tmp 27) (.tmp 30) 22 rfl B 51 iI _ 10 192 Tryz.underlying22 Xq NH NJ NK rfl (by decide) (.slice ao m co) m rows.flatten rfl (Xr.out.alloc _) ⟨w4.heap.size,0,none⟩ 1 1 [.int .i64 0,.string ⟨#[]⟩,.string ⟨#[]⟩,.string ⟨#[]⟩,.string ⟨#[]⟩,.slice none 0 0,.slice none 0 0,.slice none 0 0,.slice none 0 0,.slice none 0 0] rfl rfl (Mi w4 _ _) (by intro u hu;simp at hu;rcases hu with rfl | rfl | rfl<;>rfl) (by omega) (by unfold maxLen;omega) (by omega) (by show B<=(w4.alloc _).heap.size;rw [World.size_alloc];omega) _ rfl ?_;intro g cap w5 hown hgrow hat jb5;have hix:(m:Int)<(m:Int)+1:=(by omega);have hcp:=NP hown;have q0:=gD hown KT.out 0 _ rfl (by omega);have z0:=hown.frozenAt (m*10+0);have q1:=gD hown KT.out 1 _ rfl (by omega);have z1:=hown.frozenAt (m*10+1);have q2:=gD hown KT.out 2 _ rfl (by omega);have z2:=hown.frozenAt (m*10+2);have q3:=gD hown KT.out 3 _ rfl (by omega);have z3:=hown.frozenAt (m*10+3);have q4:=gD hown KT.out 4 _ rfl (by omega);have z4:=hown.frozenAt (m*10+4);have q5:=gD hown KT.out 5 _ rfl (by omega);have z5:=hown.frozenAt (m*10+5);have q6:=gD hown KT.out 6 _ rfl (by omega);have z6:=hown.frozenAt (m*10+6);have q7:=gD hown KT.out 7 _ rfl (by omega);have z7:=hown.frozenAt (m*10+7);have q8:=gD hown KT.out 8 _ rfl (by omega);have z8:=hown.frozenAt (m*10+8);have q9:=gD hown KT.out 9 _ rfl (by omega);have z9:=hown.frozenAt (m*10+9);obtain ⟨qb,zb,hgb⟩:=RH jJ.out hown hgrow Xr.out Ba hs4;simp only [Nat.add_zero] at q0 z0;have KU:=Vk Py.out hgrow YR;have r0:=KU.cell 0 _ rfl;have r1:=KU.cell 1 _ rfl;have r2:=KU.cell 2 _ rfl;have r3:=KU.cell 3 _ rfl;have r4:=KU.cell 4 _ rfl;have r5:=KU.cell 5 _ rfl;have r6:=KU.cell 6 _ rfl;have r7:=KU.cell 7 _ rfl;have r8:=KU.cell 8 _ rfl;have r9:=KU.cell 9 _ rfl;have MU:=hat.imp_right (fun e=>(Nat.le_trans (Nat.le_succ w4.heap.size) (Nat.le_of_eq ((World.size_alloc _ _).symm.trans e.symm))));have YT:=KV YS.out HM.out Ba EX hoi Iz GY HVQ.out RX4.out hown rfl KT.out hgrow MU;simp only [ten] at YT;have PT:=hid YT;clear YT KU hat MU)
     all_goals
      go_wp2_with fail
      go_meet
      first
      | with_reducible exact PT.out.1
      | with_reducible exact PT.out.2
    case rest=>
     obtain ⟨w7,hw7⟩:∃ w7:World,w7=wc:=⟨_,rfl⟩;subst hw7;have Vl:eZ bo vo w w4:=by have hb:=YS.out.bl;have hk:=Xj.out;refine ⟨Nat.le_trans hk.1 hb.size,hb.os.trans hk.2.1,hb.tape.trans hk.2.2.1,hb.output.trans hk.2.2.2.1,fun b hb' hne EY=>(hb.block b ?_).trans (hk.2.2.2.2 b hb' hne EY)⟩;rw [HPW.out];exact Nat.lt_of_lt_of_le hb' hk.1
     have IO7:=jd.trans Vl Va.out hcut;obtain ⟨vo7,Vm,YU,YV,OR7⟩:=IO7;obtain ⟨g7,o7,vc7,vp7,va7,vi7,vk7,hgo,_,_,Vn,RJ⟩:=eF (HS.out.below (YV.below Iz (by omega) RG.out (by omega))) HX.out;cases hgo
     have k9:=Vn.c9;have kb:w7.cell? ⟨bi,0,none⟩=some (Mw bo bi):=by have:=YU.fn;simp [je0,this]
     unfold Mw at kb;have hsk:=ah.bD l k _ HX.out;rw [ah.sz] at hsk;have IK:=hid (IH.out (ah.aU ks) (by omega) ks B0 B bo bi (acc++ah.aM (l.take k)++[ah.mk kd t d ti at_ ar ci ks]) Vm vk7 vo7 w7.drew (jc8 _) (by omega) (RJ.kids.below ⟨rfl,rfl,rfl,jc8 _,fun _ _=>rfl⟩) Iz Xi Ba EX hoi Pz YU.drew (by rw [jcq,<- HM.out,List.length_singleton];omega));have Vo:=hid YV.drew;have Vp:=hid OR7;obtain ⟨ak7,nk7,ck7,rfl⟩:=Rd.aj RJ.kids;clear hcut YU YV OR7 RJ Vn Vl YS HVQ jJ Py Xr RX4;go_upto_region 8 with (fail)
     go_still_tail 6,(by kernel_rfl)
     change wpList _ _ _ _ _ w7.drew;go_wp2_with fail
     refine IK.out.mono ?_;rintro e w8 ⟨rfl,Vq⟩;have YW:=hid (jd.trans Vo.out Vp.out Vq);clear Vq IK Vo Vp k9 kb;go_wp2_with fail
     go_roundw;case rel=>
      refine ⟨k+1,by omega,by go_num,?_⟩;rw [ah.vE l k _ HX.out,ah.deep];have:=YW.out;simp only [List.append_assoc,List.singleton_append] at this;exact this
     case measure=>simp [intOf];omega
   ·have hkl:k=l.length:=by omega
    subst hkl;rw [List.take_length] at vC;have HO:=hid vC;clear vC;go_wp2
    go_end0
    exact ⟨rfl,EZ,rows,HO.out,ND,hor⟩
open Go.RowKit
mutual
def au.inls:au->List ah
 | .mk _ _ _ _ _ _ _ li ks=>ah.aM li++au.aV ks
def au.aV:List au->List ah
 | []=>[]
 | x::l=>x.inls++au.aV l
end
theorem au.yH (l m:List au):au.aV (l++m)=au.aV l++au.aV m:=by
 induction l with
 | nil=>rw [au.aV];rfl
 | cons x l ih=>rw [List.cons_append,au.aV,au.aV,ih,List.append_assoc]
theorem au.vF (l:List au) (k:Nat) (x:au) (h:l[k]?=some x):au.aV (l.take (k+1))=au.aV (l.take k)++x.inls:=by rw [List.take_add_one,h,au.yH];simp [au.aV]
theorem au.IE (l:List au) (k:Nat) (x:au) (h:l[k]?=some x):(au.aV (l.take k)).length+x.inls.length<=(au.aV l).length:=by
 have e:au.aV l=au.aV (l.take (k+1))++au.aV (l.drop (k+1)):=by rw [<- au.yH,List.take_append_drop]
 have e2:=congrArg List.length e;rw [au.vF l k x h] at e2;simp only [jcq] at e2;omega
def Tj (bi bk:Nat):Value:=.func (.func 97) #[] #[.pointer (some ⟨bi,0,none⟩),.pointer (some ⟨bk,0,none⟩)]
def KW (bi bk:Nat) (w:World):Prop:=w.heap[bk]?=some (.cells #[Tj bi bk] 126 (0,0))
theorem KW.keep {bi bk bo B:Nat} {vo:Value} {w w':World} (h:KW bi bk w) (hk:eZ bo vo w w') (hne:bk≠bo) (hb:bk<B) (hv:∀ g,vo.ownBlock=some g->B<=g):KW bi bk w':=
 (hk.2.2.2.2 bk (Array.getElem?_eq_some_iff.1 h).1 hne (fun e=>by have:=hv bk e;omega)).trans h
def P9 (B0 B bo bi:Nat) (vo:Value) (w:World) (acc:List ah) (l:List au) (vi:Value) (wr:World):Prop:=
 ∃ k:Nat,k<=l.length/\vi=.int .i64 k/\jd B0 B bo bi vo w (acc++au.aV (l.take k)) wr
theorem KY (n:Nat):∀ (l:List au) (B0 B bo bi bk:Nat) (acc:List ah) (vB:List (List Value)) (v vo:Value) (w:World),au.aU l<=n->n<=1000000->Rd (·<B0) w (dB l) [v]->B0<=bo->B0<=bi->bo<B->bi<B->bo≠bi->bk<B->bk≠bo->au.qI l->OL B0 B bo bi bo vo acc vB w->KW bi bk w->acc.length+(au.aV l).length<=1000000 -> Calls Tryz.prog 97 #[v,.pointer (some ⟨bi,0,none⟩),.pointer (some ⟨bk,0,none⟩)] w fun e w'=>e=.returned (.tuple #[])/\jd B0 B bo bi vo w (acc++au.aV l) w':=by
 induction n using Nat.strongRecOn with
 | _ n ih=>
  intro l B0 B bo bi bk acc vB v vo w hn hnm hrd Iz Xi Ba EX hoi hkB hko hbd vC hKB hal;obtain ⟨a,cap,hv,hs⟩:=Rd.aD hrd;obtain rfl:v=.slice a l.length cap:=by simpa using hv
  have hcap:l.length<=cap:=by simpa using hs.le
  have hll:=au.gU l;have hmx:=hs.max;have HS:=hid hs;have IH:=hid ih;have iM:=hid hbd;have HKB:=hid hKB;have R0:Hid (P9 B0 B bo bi vo w acc l (.int .i64 0) w):=⟨0,Nat.zero_le _,rfl,vo,vB,by rw [List.take_zero,au.aV,List.append_nil];exact vC,⟨jc8 _,rfl,rfl,rfl,fun _ _ _ _=>rfl⟩,.inl rfl⟩;have EY:∀ g,vo.ownBlock=some g->B<=g:=fun g hg=>(vC.own.lt g hg).1
  have RG:=hid EY;have hBw:=vC.PX;clear hs hv hrd ih hbd vC EY hKB;unfold maxLen at hmx;go_enter Tryz.func97,Tryz.ntmps97;go_wp2
  go_loopw [7] (fun vi wr=>P9 B0 B bo bi vo w acc l vi wr) (fun i _=>l.length-(intOf i).toNat)
  case atStart=>exact R0.out
  case round=>
   obtain ⟨k,hk,rfl,EZ,rows,vC,ND,hor⟩:=hrel;clear R0;by_cases hlt:k<l.length
   ·obtain ⟨x,hx⟩:∃ x,l[k]?=some x:=⟨_,List.getElem?_eq_getElem hlt⟩;obtain ⟨kd,lv,i,t,d,ti,at_,li,ks⟩:=x;have hbel:Below B0 w wr:=ND.below Iz (by omega) RG.out (by omega);obtain ⟨g,off,vc,vp,vl,vk,rfl,hok,hbl,hc,hR⟩:=gy (HS.out.below hbel) hx;have c9:=hc.c9;have hb1:=au.oZ l k _ iM.out hx;rw [au.bd] at hb1;obtain ⟨hn1,hn2,YO,YP,Pz⟩:=hb1;have hsz:=au.bD l k _ hx;rw [au.sz] at hsz;have hln:=au.IE l k _ hx;rw [au.inls,jcq] at hln;have jb6:=ah.gq li;obtain ⟨al,nl,cl,rfl⟩:=Rd.aj hR.line;have kb:wr.cell? ⟨bi,0,none⟩=some (Mw bo bi):=by
     have:=vC.fn;simp [je0,this]
    unfold Mw at kb;have CI:=hid (KS (ah.aU li) li B0 B bo bi (acc++au.aV (l.take k)) rows (.slice al nl cl) EZ wr.drew (jc8 _) YP (hR.line.below ⟨rfl,rfl,rfl,jc8 _,fun _ _=>rfl⟩) Iz Xi Ba EX hoi YO vC.drew (by rw [jcq];omega));have HX:=hid hx;have Xj:=hid ND.drew;have Va:=hid hor;clear hR hx vC ND hor hbel hc hbl;go_upto_region 3 with (fail)
    go_still_tail 6,(by kernel_rfl)
    change wpList _ _ _ _ _ wr.drew;go_wp2_with fail
    refine CI.out.mono ?_;rintro e w1 ⟨rfl,IO1⟩;obtain ⟨YX,bg,OL2,Vr,OR2⟩:=jd.trans Xj.out Va.out IO1;obtain ⟨g7,o7,vc7,vp7,vl7,vk7,hgo,_,_,Vn,RJ⟩:=gy (HS.out.below (Vr.below Iz (by omega) RG.out (by omega))) HX.out;cases hgo
    have k10:=Vn.c10;have kb2:w1.cell? ⟨bk,0,none⟩=some (Tj bi bk):=by have:=HKB.out.keep Vr hko hkB RG.out;unfold KW at this;simp [je0,this]
    unfold Tj at kb2;obtain ⟨ak7,nk7,ck7,rfl⟩:=Rd.aj RJ.kids;have IK:=hid (IH.out (au.aU ks) (by omega) ks B0 B bo bi bk (acc++au.aV (l.take k)++ah.aM li) bg (.slice ak7 nk7 ck7) YX w1.drew (jc8 _) (by omega) (RJ.kids.below ⟨rfl,rfl,rfl,jc8 _,fun _ _=>rfl⟩) Iz Xi Ba EX hoi hkB hko Pz OL2.drew (HKB.out.keep Vr.drew hko hkB RG.out) (by rw [jcq,jcq];omega));have Vs:=hid Vr.drew;have Vt:=hid OR2;clear CI IO1 OL2 Vr OR2 RJ Vn kb c9 Xj Va;go_upto_region 4 with (fail)
    go_still_tail 6,(by kernel_rfl)
    change wpList _ _ _ _ _ w1.drew;go_wp2_with fail
    refine IK.out.mono ?_;rintro e w8 ⟨rfl,Vq⟩;have YW:=hid (jd.trans Vs.out Vt.out Vq);clear Vq IK Vs Vt k10 kb2;go_wp2_with fail
    go_roundw;case rel=>
     refine ⟨k+1,by omega,by go_num,?_⟩;rw [au.vF l k _ HX.out,au.inls];have:=YW.out;simp only [List.append_assoc] at this ⊢;exact this
    case measure=>simp [intOf];omega
   ·have hkl:k=l.length:=by omega
    subst hkl;rw [List.take_length] at vC;have HO:=hid vC;clear vC;go_wp2
    go_end0
    exact ⟨rfl,EZ,rows,HO.out,ND,hor⟩
open Go.RowKit
def aF (b:Nat) (v:Value) (t:TypeId) (w:World):Prop:=w.heap[b]?=some (.cells #[v] t (0,0))
section
variable {b:Nat} {v:Value} {t:TypeId} {w w':World}
theorem aF.lt (h:aF b v t w):b<w.heap.size:=(Array.getElem?_eq_some_iff.1 h).1
theorem aF.cell (h:aF b v t w):w.cell? ⟨b,0,none⟩=some v:=by unfold aF at h;simp [je0,h]
theorem aF.free (h:aF b v t w):w.frozen? ⟨b,0,none⟩=false:=by unfold aF at h;simp [World.frozen?,h]
theorem aF.set (h:aF b v t w) (u:Value):aF b u t (w.setCell ⟨b,0,none⟩ u):=Ae h
theorem aF.far (h:aF b v t w) {q j:Nat} (hq:b≠q) (u:Value):aF b v t (w.setCell ⟨q,j,none⟩ u):=(Below.heap_setCell w ⟨q,j,none⟩ u b hq).trans h
theorem aF.alloc (h:aF b v t w) (o:Obj):aF b v t (w.alloc o):=(jd2 w o b h.lt).trans h
theorem aF.new (w:World) (v:Value) (t:TypeId):aF w.heap.size v t (w.alloc (.cells #[v] t)):=heap_alloc_new w _
theorem aF.below (h:aF b v t w) {B:Nat} (hB:b<B) (hb:Below B w w'):aF b v t w':=(hb.block b hB).trans h
theorem aF.drew (h:aF b v t w):aF b v t w.drew:=h
end
theorem IG {w:World} {B B':Nat} {e:TypeId} {k n:Nat} {v:Value} {xs:List Value} (h:w.ownsRow B e k v n xs) (hB:B'<=B):w.ownsRow B' e k v n xs:=
 ⟨h.1,h.2.imp id fun ⟨g,cap,cur,h1,h2,h3⟩=>⟨g,cap,cur,h1,Nat.le_trans hB h2,h3⟩⟩
theorem rY (l:List au) (v:Value) (w:World) (h:Rd (·<w.heap.size) w (dB l) [v]) (hbd:au.qI l) (hsz:au.aU l<=1000000) (hln:(au.aV l).length<=1000000) : Calls Tryz.prog 49 #[v] w fun e w'=>∃ v' rows,e=.returned v'/\w'.ownsRow w.heap.size 51 10 v' (au.aV l).length rows.flatten/\aO (fun _=>True) w' ((au.aV l).map ah.d) rows/\(∀ r∈rows,r.length=10)/\Below w.heap.size w w':=by
 obtain ⟨va,vn,vc,rfl⟩:=Rd.aj h;have HR:=hid h;have iM:=hid hbd;clear h hbd;obtain ⟨N,hN⟩:∃ N,N=w.heap.size:=⟨_,rfl⟩;go_enter Tryz.func49,Tryz.ntmps49;go_upto_region 3 with (fail)
 obtain ⟨wA,gQ⟩:∃ wA,wA=(w.alloc (.cells #[.slice none 0 0] 22)).alloc (.cells #[.nilFunc] 120):=⟨_,rfl⟩;have b0:aF N (.slice none 0 0) 22 wA:=by rw [gQ,hN];exact (aF.new w _ _).alloc _
 have b1:aF (N+1) .nilFunc 120 wA:=by
  rw [gQ,hN];have:=aF.new (w.alloc (.cells #[.slice none 0 0] 22)) .nilFunc 120
  rwa [World.size_alloc] at this
 have bl:Below N w wA:=by rw [gQ,hN];exact ((Below.refl _ _).alloc (jc8 _) _).alloc (by simp) _
 have sz:wA.heap.size=N+2:=by rw [gQ,hN];simp
 rw [<- gQ,<- hN];rw [<- hN] at HR;have HN:=hid hN;clear gQ hN;have c1:=b1.cell;have f1:=b1.free;go_upto_region 4 with (fail)
 obtain ⟨wB,CU⟩:∃ wB,wB=wA.setCell ⟨N+1,0,none⟩ (Mw N (N+1)):=⟨_,rfl⟩;have d0:aF N (.slice none 0 0) 22 wB:=by rw [CU];exact b0.far (by omega) _
 have d1:aF (N+1) (Mw N (N+1)) 120 wB:=by rw [CU];exact b1.set _
 have dl:Below N w wB:=by rw [CU];exact bl.setCell (p:=⟨N+1,0,none⟩) (by show N<=N+1;omega) _
 have dz:wB.heap.size=N+2:=by rw [CU];simpa [World.setCell] using sz
 unfold Mw at CU;rw [<- CU];clear CU b0 b1 bl sz c1 f1;go_upto_region 5 with (fail)
 obtain ⟨wC,RO⟩:∃ wC,wC=wB.alloc (.cells #[.nilFunc] 126):=⟨_,rfl⟩;have b0:aF N (.slice none 0 0) 22 wC:=by rw [RO];exact d0.alloc _
 have b1:aF (N+1) (Mw N (N+1)) 120 wC:=by rw [RO];exact d1.alloc _
 have b2:aF (N+2) .nilFunc 126 wC:=by rw [RO,<- dz];exact aF.new _ _ _
 have bl:Below N w wC:=by rw [RO];exact dl.alloc (by omega) _
 have sz:wC.heap.size=N+3:=by rw [RO];simp [dz]
 rw [<- RO];clear RO d0 d1 dl dz;have c2:=b2.cell;have f2:=b2.free;go_upto_region 6 with (fail)
 obtain ⟨wD,Qa⟩:∃ wD,wD=wC.setCell ⟨N+2,0,none⟩ (Tj (N+1) (N+2)):=⟨_,rfl⟩;have d0:aF N (.slice none 0 0) 22 wD:=by rw [Qa];exact b0.far (by omega) _
 have d1:aF (N+1) (Mw N (N+1)) 120 wD:=by rw [Qa];exact b1.far (by omega) _
 have d2:aF (N+2) (Tj (N+1) (N+2)) 126 wD:=by rw [Qa];exact b2.set _
 have dl:Below N w wD:=by rw [Qa];exact bl.setCell (p:=⟨N+2,0,none⟩) (by show N<=N+2;omega) _
 have dz:wD.heap.size=N+3:=by rw [Qa];simpa [World.setCell] using sz
 have c2:=d2.cell;unfold Tj at Qa c2;rw [<- Qa];clear Qa b0 b1 b2 bl sz f2;have OLD:OL N (N+3) N (N+1) N (.slice none 0 0) [] [] wD:=⟨d0,d1,⟨rfl,.inl ⟨rfl,rfl⟩⟩,aO.none,by simp,by omega⟩;have CB:=hid (KY (au.aU l) l N (N+3) N (N+1) (N+2) [] [] (.slice va vn vc) (.slice none 0 0) wD (jc8 _) hsz (HR.out.below dl) (jc8 _) (by omega) (by omega) (by omega) (by omega) (by omega) (by omega) iM.out OLD d2 (by simpa using hln));have Xt:=hid dl;clear OLD d0 d1 d2 dl;go_wp2_with fail
 refine CB.out.mono ?_;rintro e w1 ⟨rfl,vo,rows,Xu,KO1,OR1⟩;have kb:w1.cell? ⟨N,0,none⟩=some vo:=by have:=Xu.bx;simp [je0,this]
 obtain ⟨ao,co,rfl⟩:=qP Xu.own;have HO:=hid Xu;have HK:Hid (Below N w w1):=Xt.out.trans (KO1.below (B:=N+3) (jc8 _) (by omega) (by simp [Value.ownBlock]) (by omega));clear Xu KO1 OR1 CB Xt c2;go_wp2_with fail
 go_ret;refine ⟨_,rows,rfl,?_,aO.keep (fun _ _ _=>⟨trivial,rfl⟩) _ _ HO.out.red,HO.out.len,HN.out ▸ HK.out⟩;have:=IG HO.out.own (B':=w.heap.size) (by have:=HN.out;omega);simpa using this
end Go.Proofs.YtclikfjalmcoaaaGreatDoor

