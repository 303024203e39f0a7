/- tree.Inlines$1: the inlines, and those in them, are added to what the box holds. tree.Inlines$2 and tree.Inlines: all inlines of blocks, in document order. tree.Inlines: all inlines of blocks, in document order. -/
import Derived.Test.YtnmldmofggkoeaaGreatDoorKInlsW
import Derived.StillTailTactics
import Derived.Laws.EntriesVeiled
set_option maxHeartbeats 8000000
set_option maxRecDepth 100000
open Go.Lib (hid)
namespace Go.Proofs.YtnmldmofggkoeaaGreatDoor
open Nat renaming le_refl->XU
open List renaming length_append->XZ,append_assoc->Yh
open Go.RowKit.Below renaming heap_alloc->X7
open Go.World renaming cell?->Yk
open Go renaming Value->YL
open Go.RowKit
set_option linter.unusedVariables false
set_option linter.unusedSimpArgs false
theorem Er (n:Nat):∀ (l:List ah) (B0 B bo bi:Nat) (acc:List ah) (oV:List (List YL)) (v vo:YL) (w:World),ah.aV l<=n->n<=1000000->Rd (·<B0) w (fC l) [v]->B0<=bo->B0<=bi->bo<B->bi<B->bo≠bi->ah.jN l->OL B0 B bo bi bo vo acc oV w->acc.length+ah.aV l<=1000000 -> Calls Tryz.prog 39 #[v,.pointer (some ⟨bo,0,none⟩),.pointer (some ⟨bi,0,none⟩)] w fun e w'=>e=.returned (.tuple #[])/\eX B0 B bo bi vo w (acc++ah.aD l) w':=by
 induction n using Nat.strongRecOn with
 | _ n ih=>
  intro l B0 B bo bi acc oV v vo w hn hnm hrd Bq PI tF qm hoi hbd oW hal;obtain ⟨a,cap,hv,hs⟩:=Rd.aC hrd;obtain rfl:v=.slice a l.length cap:=by simpa using hv
  have hcap:l.length<=cap:=by simpa using hs.le
  have hll:=ah.lX l;have hmx:=hs.max;have HS:=hid hs;have IH:=hid ih;have nu:=hid hbd;have R0:Hid (Iw B0 B bo bi vo w acc l (.int .i64 0) w):=⟨0,Nat.zero_le _,rfl,vo,oV,by rw [List.take_zero,ah.aD,List.append_nil];exact oW,⟨XU _,rfl,rfl,rfl,fun _ _ _ _=>rfl⟩,.inl rfl⟩;have yN:∀ g,vo.ownBlock=some g->B<=g:=fun g hg=>(oW.own.lt g hg).1
  have zF:=hid yN;have hBw:=oW.Iy;clear hs hv hrd ih hbd oW yN;unfold maxLen at hmx;go_enter Tryz.func39,Tryz.ntmps39;go_wp2
  go_loopw [8] (fun vi wr=>Iw B0 B bo bi vo w acc l vi wr) (fun i _=>l.length-(intOf i).toNat)
  case atStart=>exact R0.out
  case round=>
   obtain ⟨k,hk,rfl,yO,rows,oW,Gw,hor⟩:=hrel;clear R0;by_cases hlt:k<l.length
   ·obtain ⟨x,hx⟩:∃ x,l[k]?=some x:=⟨_,List.getElem?_eq_getElem hlt⟩;obtain ⟨kd,t,d,ti,at_,ar,ci,ks⟩:=x;have hbel:Below B0 w wr:=Gw.below Bq (by omega) zF.out (by omega);obtain ⟨g,off,vc,vp,va,vi,vk,rfl,hok,hbl,hc,hR⟩:=gN (HS.out.below hbel) hx;obtain ⟨c0,c1,c2,c3,c4,c5,c6,c7,c8,c9⟩:=hc;have hb1:=ah.kV l k _ nu.out hx;rw [ah.bd] at hb1;obtain ⟨hn1,hn2,Rk,Rl,uN⟩:=hb1;have hsz:=ah.cZ l k _ hx;rw [ah.sz] at hsz;obtain ⟨ac,nc,cc,rfl⟩:=Rd.au hR.at_.cls
    obtain ⟨ap,np,cp,rfl⟩:=Rd.au hR.at_.aS
    obtain ⟨Aa,na,ca,rfl⟩:=Rd.au hR.args;obtain ⟨Ai,ni,cci,rfl⟩:=Rd.au hR.fZ;obtain ⟨ak,nk,ck,rfl⟩:=Rd.au hR.kids;have HR:=hid hR;have HX:=hid hx;have HOL:=hid oW;have PK:=hid Gw;have NZ:=hid hor;have N7:=oW.Iy;clear hR hx oW Gw hor hbel;go_upto_region 4 with (fail)
    obtain ⟨p,hp⟩:∃ p,p=wr.heap.size:=⟨_,rfl⟩;obtain ⟨wA,iT⟩:∃ wA,wA=wr.alloc (.cells #[.int .i64 kd,.string t,.string d,.string ti,.string at_.id,.slice ac nc cc,.slice ap np cp,.slice Aa na ca,.slice Ai ni cci,.slice ak nk ck] 52):=⟨_,rfl⟩;have hpv:yO.ownBlock≠some p:=by rw [hp];exact own_ne HOL.out.own (XU _)
    have Fq:B<=p:=by rw [hp];exact N7
    have OA:OL B0 B bo bi p yO (acc++ah.aD (l.take k)) rows wA:=by
     rw [iT];refine ⟨(X7 _ _ _ (by omega)).trans HOL.out.bx,(X7 _ _ _ (by omega)).trans HOL.out.fn,HOL.out.own.alloc _,aH.keep (fun b hb hlt'=>⟨?_,X7 _ _ b hlt'⟩) _ _ HOL.out.red,HOL.out.len,by simp;omega⟩;rcases hb with hb | hb
     ·exact .inl hb
     ·exact .inr ⟨hb.1,hb.2.1,by omega⟩
    have PA:PB p [.int .i64 kd,.string t,.string d,.string ti,.string at_.id,.slice ac nc cc,.slice ap np cp,.slice Aa na ca,.slice Ai ni cci,.slice ak nk ck] wA:=by rw [iT,hp];exact heap_alloc_new wr _
    have bA:Below B0 wr wA:=by rw [iT];exact (Below.refl _ _).alloc (by omega) _
    have gA:wr.grownBy wA none:=by rw [iT];exact World.grownBy_alloc _ _ none
    have TU:wA.heap.size=p+1:=by rw [iT,hp];simp
    have TV:=hid hp;have TW:Hid (∀ g,yO.ownBlock=some g->g<p):=fun g hg=>by rw [hp];exact (HOL.out.own.lt g hg).2
    have Jj:=hid TU;have TY:B0<=wA.heap.size:=by omega
    rw [<- iT,<- hp];clear hp TU iT c0 c1 c2 c3 c4 c5 c6 c7 c8 c9 hbl HOL N7;have T9:=hid (⟨OA,PA,by rw [TV.out];exact (Below.refl _ _).grown gA (XU _) (by simp)⟩:IS B0 B bo bi p yO (acc++ah.aD (l.take k)) rows [.int .i64 kd,.string t,.string d,.string ti,.string at_.id,.slice ac nc cc,.slice ap np cp,.slice Aa na ca,.slice Ai ni cci,.slice ak nk ck] wr wA);have d4:=PA.cell 4 _ rfl;have d5:=PA.cell 5 _ rfl;have d6:=PA.cell 6 _ rfl;have CT:=hid (qD at_ _ _ B0 wA (HR.out.at_.below bA) TY hn1 hn2);clear OA PA;go_wp2_with fail
    refine CT.out.mono ?_;rintro e w1 ⟨Xy,Xz,rfl,Gx,b1⟩;obtain ⟨Iz,IE,IG,rfl⟩:=Rd.au Gx.cls;obtain ⟨II,IJ,IL,rfl⟩:=Rd.au Gx.aS;have I1:=T9.out.grown (Es b1);have HI1:=hid I1;have Ua:=hid (Gx.weaken (ok':=(p<·)) (fun b hb=>by have:=Jj.out;omega));have d4:=I1.pb.cell 4 _ rfl;have d5:=I1.pb.cell 5 _ rfl;have d6:=I1.pb.cell 6 _ rfl;have f4:=I1.pb.free 4;have f5:=I1.pb.free 5;have f6:=I1.pb.free 6;have h0B:B0<=B:=by omega
    clear I1 CT T9 Gx b1 gA bA TY;go_upto_region 5 with (fail)
    obtain ⟨w2,hw2⟩:∃ w2,w2=((w1.setCell ⟨p,4,none⟩ (.string at_.id)).setCell ⟨p,5,none⟩ (.slice Iz IE IG)).setCell ⟨p,6,none⟩ (.slice II IJ IL):=⟨_,rfl⟩;have I2:IS B0 B bo bi p yO (acc++ah.aD (l.take k)) rows [.int .i64 kd,.string t,.string d,.string ti,.string at_.id,.slice Iz IE IG,.slice II IJ IL,.slice Aa na ca,.slice Ai ni cci,.slice ak nk ck] wr w2:=by rw [hw2];exact ((HI1.out.set tF qm h0B Fq hpv 4 _).set tF qm h0B Fq hpv 5 _).set tF qm h0B Fq hpv 6 _
    have Ub:Hid (AtR (p<·) w2 at_ (.slice Iz IE IG) (.slice II IJ IL)):=by show AtR _ _ _ _ _;rw [hw2];exact ((Ua.out.above (bY.set 4 _)).above (bY.set 5 _)).above (bY.set 6 _)
    rw [<- hw2];clear hw2 d4 d5 d6 f4 f5 f6 HI1 Ua;have HI2:=hid I2;have d7:=I2.pb.cell 7 _ rfl;have hl2:=I2.pb.lt;have CS:=hid (oZ ar B0 _ w2 (HR.out.args.below (I2.bl.mono (by omega))) (by omega) Rk);clear I2;go_wp2_with fail
    refine CS.out.mono ?_;rintro e Wv ⟨XA,rfl,hra,ba⟩;obtain ⟨LJ,LM,LP,rfl⟩:=Rd.au hra;have PL:=HI2.out.grown (Es ba);have N8:=hid PL;have N9:=hid (Ub.out.above (bY.grown (Es ba)));have Oa:=hid (hra.weaken (ok':=(p<·)) (fun b hb=>by omega));have d7:=PL.pb.cell 7 _ rfl;have f7:=PL.pb.free 7;clear PL HI2 Ub CS hra ba hl2;go_upto_region 6 with (fail)
    obtain ⟨w3,hw3⟩:∃ w3,w3=Wv.setCell ⟨p,7,none⟩ (.slice LJ LM LP):=⟨_,rfl⟩;have I3:IS B0 B bo bi p yO (acc++ah.aD (l.take k)) rows [.int .i64 kd,.string t,.string d,.string ti,.string at_.id,.slice Iz IE IG,.slice II IJ IL,.slice LJ LM LP,.slice Ai ni cci,.slice ak nk ck] wr w3:=by rw [hw3];exact N8.out.set tF qm h0B Fq hpv 7 _
    have Uc:Hid (AtR (p<·) w3 at_ (.slice Iz IE IG) (.slice II IJ IL)):=by show AtR _ _ _ _ _;rw [hw3];exact N9.out.above (bY.set 7 _)
    have Ud:Hid (Rd (p<·) w3 (dL ar) [.slice LJ LM LP]):=by show Rd _ _ _ _;rw [hw3];exact Oa.out.above (bY.set 7 _)
    rw [<- hw3];clear hw3 d7 f7 N8 N9 Oa;have HI3:=hid I3;have d8:=I3.pb.cell 8 _ rfl;have hl3:=I3.pb.lt;have CC:=hid (yP ci B0 _ w3 (HR.out.fZ.below (I3.bl.mono (by omega))) (by omega) Rl);clear I3;go_wp2_with fail
    refine CC.out.mono ?_;rintro e Ww ⟨XB,rfl,Rm,PN⟩;obtain ⟨PS,PV,PW,rfl⟩:=Rd.au Rm;have PX:=HI3.out.grown (Es PN);have Ob:=hid PX;have Oc:=hid (Uc.out.above (bY.grown (Es PN)));have Od:=hid (Ud.out.above (bY.grown (Es PN)));have Oe:=hid (Rm.weaken (ok':=(p<·)) (fun b hb=>by omega));have d8:=PX.pb.cell 8 _ rfl;have f8:=PX.pb.free 8;clear PX HI3 Uc Ud CC Rm PN hl3;go_upto_region 7 with (fail)
    obtain ⟨w4,hw4⟩:∃ w4,w4=Ww.setCell ⟨p,8,none⟩ (.slice PS PV PW):=⟨_,rfl⟩;have I4:IS B0 B bo bi p yO (acc++ah.aD (l.take k)) rows [.int .i64 kd,.string t,.string d,.string ti,.string at_.id,.slice Iz IE IG,.slice II IJ IL,.slice LJ LM LP,.slice PS PV PW,.slice ak nk ck] wr w4:=by rw [hw4];exact Ob.out.set tF qm h0B Fq hpv 8 _
    have Wx:Hid (Gh (fun b=>b<B0\/p<b) w4 at_ ar ci ks (.slice Iz IE IG) (.slice II IJ IL) (.slice LJ LM LP) (.slice PS PV PW) (.slice ak nk ck)):=by
     show Gh _ _ _ _ _ _ _ _ _ _ _;refine ⟨?_,?_,?_,?_⟩
     ·rw [hw4];exact (Oc.out.above (bY.set 8 _)).weaken (fun b hb=>.inr hb)
     ·rw [hw4];exact (Od.out.above (bY.set 8 _)).weaken (fun b hb=>.inr hb)
     ·rw [hw4];exact (Oe.out.above (bY.set 8 _)).weaken (fun b hb=>.inr hb)
     ·exact (HR.out.kids.below (I4.bl.mono (by omega))).weaken (fun b hb=>.inl hb)
    rw [<- hw4];clear hw4 d8 f8 Ob Oc Od Oe;have HI4:=hid I4;obtain ⟨iI,LW,Ck,Cm,Cn⟩:=info_parts KM;obtain ⟨ao,co,rfl⟩:=lu I4.ol.own;obtain ⟨m,hm⟩:∃ m,m=(acc++ah.aD (l.take k)).length:=⟨_,rfl⟩;have hm1:m+(ah.aV ks+1)<=1000000:=by have h1:=ah.sN l k _ HX.out;rw [ah.sz] at h1;rw [hm,XZ,ah.gG];omega
    have HM:=hid hm;have e0:=I4.pb.cell 0 _ rfl;have e1:=I4.pb.cell 1 _ rfl;have e2:=I4.pb.cell 2 _ rfl;have e3:=I4.pb.cell 3 _ rfl;have e4:=I4.pb.cell 4 _ rfl;have e5:=I4.pb.cell 5 _ rfl;have e6:=I4.pb.cell 6 _ rfl;have e7:=I4.pb.cell 7 _ rfl;have e8:=I4.pb.cell 8 _ rfl;have e9:=I4.pb.cell 9 _ rfl;have eb:w4.cell? ⟨bo,0,none⟩=some (.slice ao m co):=by have:=I4.ol.bx;rw [hm];simp [Yk,this]
    have fb:w4.frozen? ⟨bo,0,none⟩=false:=by have:=I4.ol.bx;simp [World.frozen?,this]
    have PY:Hid (w4.ownsRow B 52 10 (.slice ao m co) m rows.flatten):=by show World.ownsRow _ _ _ _ _ _ _;rw [hm];exact I4.ol.own
    have hs4:B<=w4.heap.size:=I4.ol.Iy;have Ca:=hid I4.ol.bx;rw [<- hm] at Ca;have XC:p<w4.heap.size:=I4.pb.lt;have hb4:bo<w4.heap.size:=by omega
    have Hw:=hid I4.pb;have Rn:(Value.slice ao m co).ownBlock≠some p:=by rw [hm];exact hpv
    have tu:Hid (rows.flatten.length=m*10):=PY.out.1;have Ro:Hid (IS B0 B bo bi p (.slice ao m co) (acc++ah.aD (l.take k)) rows [.int .i64 kd,.string t,.string d,.string ti,.string at_.id,.slice Iz IE IG,.slice II IJ IL,.slice LJ LM LP,.slice PS PV PW,.slice ak nk ck] wr w4):=by show IS _ _ _ _ _ _ _ _ _ _ _;rw [hm];exact HI4.out
    have Ue:Hid (∀ g,(Value.slice ao m co).ownBlock=some g->g<p):=by show ∀ g,_;rw [hm];exact TW.out
    rw [<- hm] at NZ;clear I4 hm HI4 TW;have Uf:=hid (ah.mO kd t d ti Wx.out)
    go_cut [] (fun wx=>eX B0 B bo bi (.slice ao m co) w4 (acc++ah.aD (l.take k)++[ah.mk kd t d ti at_ ar ci ks]) wx)
    case first=>
     go_region_law (refine step_append_lies _ rfl (.tmp 27) (.tmp 30) 45 rfl B 52 iI _ 10 192 Tryz.underlying45 LW Ck Cm Cn rfl (by decide) (.slice ao m co) m rows.flatten rfl (PY.out.alloc _) ⟨w4.heap.size,0,none⟩ 1 1 [.int .i64 0,.string ⟨#[]⟩,.string ⟨#[]⟩,.string ⟨#[]⟩,.string ⟨#[]⟩,.slice none 0 0,.slice none 0 0,.slice none 0 0,.slice none 0 0,.slice none 0 0] rfl rfl (gH w4 _ _) (by intro u hu;simp at hu;rcases hu with rfl | rfl | rfl<;>rfl) (by omega) (by unfold maxLen;omega) (by omega) (by show B<=(w4.alloc _).heap.size;rw [World.size_alloc];omega) _ rfl ?_;intro g cap w5 hown hgrow hat Wy;have hix:(m:Int)<(m:Int)+1:=(by omega);have hcp:=Gy hown;have q0:=dJ hown tu.out 0 _ rfl (by omega);have z0:=hown.frozenAt (m*10+0);have q1:=dJ hown tu.out 1 _ rfl (by omega);have z1:=hown.frozenAt (m*10+1);have q2:=dJ hown tu.out 2 _ rfl (by omega);have z2:=hown.frozenAt (m*10+2);have q3:=dJ hown tu.out 3 _ rfl (by omega);have z3:=hown.frozenAt (m*10+3);have q4:=dJ hown tu.out 4 _ rfl (by omega);have z4:=hown.frozenAt (m*10+4);have q5:=dJ hown tu.out 5 _ rfl (by omega);have z5:=hown.frozenAt (m*10+5);have q6:=dJ hown tu.out 6 _ rfl (by omega);have z6:=hown.frozenAt (m*10+6);have q7:=dJ hown tu.out 7 _ rfl (by omega);have z7:=hown.frozenAt (m*10+7);have q8:=dJ hown tu.out 8 _ rfl (by omega);have z8:=hown.frozenAt (m*10+8);have q9:=dJ hown tu.out 9 _ rfl (by omega);have z9:=hown.frozenAt (m*10+9);obtain ⟨qb,zb,hgb⟩:=KN Ca.out hown hgrow PY.out tF hs4;simp only [Nat.add_zero] at q0 z0;have Et:=Og Hw.out hgrow Rn;have r0:=Et.cell 0 _ rfl;have r1:=Et.cell 1 _ rfl;have r2:=Et.cell 2 _ rfl;have r3:=Et.cell 3 _ rfl;have r4:=Et.cell 4 _ rfl;have r5:=Et.cell 5 _ rfl;have r6:=Et.cell 6 _ rfl;have r7:=Et.cell 7 _ rfl;have r8:=Et.cell 8 _ rfl;have r9:=Et.cell 9 _ rfl;have Oh:=hat.imp_right (fun e=>(Nat.le_trans (Nat.le_succ w4.heap.size) (Nat.le_of_eq ((World.size_alloc _ _).symm.trans e.symm))));have Rp:=Eu Ro.out HM.out tF qm hoi Bq Fq Ue.out Uf.out hown rfl tu.out hgrow Oh;simp only [ten] at Rp;have PT:=hid Rp;clear Rp Et hat Oh)
     all_goals
      go_wp2_with fail
      go_meet
      first
      | with_reducible exact PT.out.1
      | with_reducible exact PT.out.2
    case rest=>
     obtain ⟨w7,hw7⟩:∃ w7:World,w7=wc:=⟨_,rfl⟩;subst hw7;have Oi:bZ bo vo w w4:=by have hb:=Ro.out.bl;have hk:=PK.out;refine ⟨Nat.le_trans hk.1 hb.size,hb.os.trans hk.2.1,hb.tape.trans hk.2.2.1,hb.output.trans hk.2.2.2.1,fun b hb' hne yN=>(hb.block b ?_).trans (hk.2.2.2.2 b hb' hne yN)⟩;rw [TV.out];exact Nat.lt_of_lt_of_le hb' hk.1
     have Wz:=eX.trans Oi NZ.out hcut;obtain ⟨WA,Hr,Rq,Rs,Ug⟩:=Wz;obtain ⟨g7,o7,WC,SB,XD,XE,Uh,hgo,_,_,Oj,KO⟩:=gN (HS.out.below (Rs.below Bq (by omega) zF.out (by omega))) HX.out;cases hgo
     have k9:=Oj.c9;have kb:w7.cell? ⟨bi,0,none⟩=some (Fu bo bi):=by have:=Rq.fn;simp [Yk,this]
     unfold Fu at kb;have hsk:=ah.cZ l k _ HX.out;rw [ah.sz] at hsk;have IK:=hid (IH.out (ah.aV ks) (by omega) ks B0 B bo bi (acc++ah.aD (l.take k)++[ah.mk kd t d ti at_ ar ci ks]) Hr Uh WA w7.drew (XU _) (by omega) (KO.kids.below ⟨rfl,rfl,rfl,XU _,fun _ _=>rfl⟩) Bq PI tF qm hoi uN Rq.drew (by rw [XZ,<- HM.out,List.length_singleton];omega));have Ol:=hid Rs.drew;have Om:=hid Ug;obtain ⟨Ui,Uj,Uk,rfl⟩:=Rd.au KO.kids;clear hcut Rq Rs Ug KO Oj Oi Ro Ue Ca Hw PY Uf;go_upto_region 8 with (fail)
     go_still_tail 6,(by kernel_rfl)
     change wpList _ _ _ _ _ w7.drew;go_wp2_with fail
     refine IK.out.mono ?_;rintro e w8 ⟨rfl,Oo⟩;have Rt:=hid (eX.trans Ol.out Om.out Oo);clear Oo IK Ol Om k9 kb;go_wp2_with fail
     go_roundw;case rel=>
      refine ⟨k+1,by omega,by go_num,?_⟩;rw [ah.o8 l k _ HX.out,ah.deep];have:=Rt.out;simp only [Yh,List.singleton_append] at this;exact this
     case measure=>simp [intOf];omega
   ·have hkl:k=l.length:=by omega
    subst hkl;rw [List.take_length] at oW;have HO:=hid oW;clear oW;go_wp2
    go_end0
    exact ⟨rfl,yO,rows,HO.out,Gw,hor⟩
open Go.RowKit
mutual
def aj.inls:aj->List ah
 | .mk _ _ _ _ _ _ _ li ks=>ah.aD li++aj.aM ks
def aj.aM:List aj->List ah
 | []=>[]
 | x::l=>x.inls++aj.aM l
end
theorem aj.rz (l m:List aj):aj.aM (l++m)=aj.aM l++aj.aM m:=by
 induction l with
 | nil=>rw [aj.aM];rfl
 | cons x l ih=>rw [List.cons_append,aj.aM,aj.aM,ih,Yh]
theorem aj.o9 (l:List aj) (k:Nat) (x:aj) (h:l[k]?=some x):aj.aM (l.take (k+1))=aj.aM (l.take k)++x.inls:=by rw [List.take_add_one,h,aj.rz];simp [aj.aM]
theorem aj.Br (l:List aj) (k:Nat) (x:aj) (h:l[k]?=some x):(aj.aM (l.take k)).length+x.inls.length<=(aj.aM l).length:=by
 have e:aj.aM l=aj.aM (l.take (k+1))++aj.aM (l.drop (k+1)):=by rw [<- aj.rz,List.take_append_drop]
 have e2:=congrArg List.length e;rw [aj.o9 l k x h] at e2;simp only [XZ] at e2;omega
def LQ (bi bk:Nat):YL:=.func (.func 43) #[] #[.pointer (some ⟨bi,0,none⟩),.pointer (some ⟨bk,0,none⟩)]
def Ev (bi bk:Nat) (w:World):Prop:=w.heap[bk]?=some (.cells #[LQ bi bk] 87 (0,0))
theorem Ev.keep {bi bk bo B:Nat} {vo:YL} {w w':World} (h:Ev bi bk w) (hk:bZ bo vo w w') (hne:bk≠bo) (hb:bk<B) (hv:∀ g,vo.ownBlock=some g->B<=g):Ev bi bk w':=
 (hk.2.2.2.2 bk (Array.getElem?_eq_some_iff.1 h).1 hne (fun e=>by have:=hv bk e;omega)).trans h
def IQ (B0 B bo bi:Nat) (vo:YL) (w:World) (acc:List ah) (l:List aj) (vi:YL) (wr:World):Prop:=
 ∃ k:Nat,k<=l.length/\vi=.int .i64 k/\eX B0 B bo bi vo w (acc++aj.aM (l.take k)) wr
theorem Ew (n:Nat):∀ (l:List aj) (B0 B bo bi bk:Nat) (acc:List ah) (oV:List (List YL)) (v vo:YL) (w:World),aj.aV l<=n->n<=1000000->Rd (·<B0) w (aY l) [v]->B0<=bo->B0<=bi->bo<B->bi<B->bo≠bi->bk<B->bk≠bo->aj.jN l->OL B0 B bo bi bo vo acc oV w->Ev bi bk w->acc.length+(aj.aM l).length<=1000000 -> Calls Tryz.prog 43 #[v,.pointer (some ⟨bi,0,none⟩),.pointer (some ⟨bk,0,none⟩)] w fun e w'=>e=.returned (.tuple #[])/\eX B0 B bo bi vo w (acc++aj.aM l) w':=by
 induction n using Nat.strongRecOn with
 | _ n ih=>
  intro l B0 B bo bi bk acc oV v vo w hn hnm hrd Bq PI tF qm hoi hkB hko hbd oW Ul hal;obtain ⟨a,cap,hv,hs⟩:=Rd.aC hrd;obtain rfl:v=.slice a l.length cap:=by simpa using hv
  have hcap:l.length<=cap:=by simpa using hs.le
  have hll:=aj.lX l;have hmx:=hs.max;have HS:=hid hs;have IH:=hid ih;have nu:=hid hbd;have Lm:=hid Ul;have R0:Hid (IQ B0 B bo bi vo w acc l (.int .i64 0) w):=⟨0,Nat.zero_le _,rfl,vo,oV,by rw [List.take_zero,aj.aM,List.append_nil];exact oW,⟨XU _,rfl,rfl,rfl,fun _ _ _ _=>rfl⟩,.inl rfl⟩;have yN:∀ g,vo.ownBlock=some g->B<=g:=fun g hg=>(oW.own.lt g hg).1
  have zF:=hid yN;have hBw:=oW.Iy;clear hs hv hrd ih hbd oW yN Ul;unfold maxLen at hmx;go_enter Tryz.func43,Tryz.ntmps43;go_wp2
  go_loopw [7] (fun vi wr=>IQ B0 B bo bi vo w acc l vi wr) (fun i _=>l.length-(intOf i).toNat)
  case atStart=>exact R0.out
  case round=>
   obtain ⟨k,hk,rfl,yO,rows,oW,Gw,hor⟩:=hrel;clear R0;by_cases hlt:k<l.length
   ·obtain ⟨x,hx⟩:∃ x,l[k]?=some x:=⟨_,List.getElem?_eq_getElem hlt⟩;obtain ⟨kd,lv,i,t,d,ti,at_,li,ks⟩:=x;have hbel:Below B0 w wr:=Gw.below Bq (by omega) zF.out (by omega);obtain ⟨g,off,vc,vp,vl,vk,rfl,hok,hbl,hc,hR⟩:=jv (HS.out.below hbel) hx;have c9:=hc.c9;have hb1:=aj.kV l k _ nu.out hx;rw [aj.bd] at hb1;obtain ⟨hn1,hn2,Rk,Rl,uN⟩:=hb1;have hsz:=aj.cZ l k _ hx;rw [aj.sz] at hsz;have hln:=aj.Br l k _ hx;rw [aj.inls,XZ] at hln;have WG:=ah.gG li;obtain ⟨al,nl,cl,rfl⟩:=Rd.au hR.line;have kb:wr.cell? ⟨bi,0,none⟩=some (Fu bo bi):=by
     have:=oW.fn;simp [Yk,this]
    unfold Fu at kb;have CI:=hid (Er (ah.aV li) li B0 B bo bi (acc++aj.aM (l.take k)) rows (.slice al nl cl) yO wr.drew (XU _) Rl (hR.line.below ⟨rfl,rfl,rfl,XU _,fun _ _=>rfl⟩) Bq PI tF qm hoi Rk oW.drew (by rw [XZ];omega));have HX:=hid hx;have PK:=hid Gw.drew;have NZ:=hid hor;clear hR hx oW Gw hor hbel hc hbl;go_upto_region 3 with (fail)
    go_still_tail 6,(by kernel_rfl)
    change wpList _ _ _ _ _ wr.drew;go_wp2_with fail
    refine CI.out.mono ?_;rintro e w1 ⟨rfl,Um⟩;obtain ⟨Ru,iL,Un,Oq,Uo⟩:=eX.trans PK.out NZ.out Um;obtain ⟨g7,o7,WC,SB,XF,Uh,hgo,_,_,Oj,KO⟩:=jv (HS.out.below (Oq.below Bq (by omega) zF.out (by omega))) HX.out;cases hgo
    have k10:=Oj.c10;have Uq:w1.cell? ⟨bk,0,none⟩=some (LQ bi bk):=by have:=Lm.out.keep Oq hko hkB zF.out;unfold Ev at this;simp [Yk,this]
    unfold LQ at Uq;obtain ⟨Ui,Uj,Uk,rfl⟩:=Rd.au KO.kids;have IK:=hid (IH.out (aj.aV ks) (by omega) ks B0 B bo bi bk (acc++aj.aM (l.take k)++ah.aD li) iL (.slice Ui Uj Uk) Ru w1.drew (XU _) (by omega) (KO.kids.below ⟨rfl,rfl,rfl,XU _,fun _ _=>rfl⟩) Bq PI tF qm hoi hkB hko uN Un.drew (Lm.out.keep Oq.drew hko hkB zF.out) (by rw [XZ,XZ];omega));have Ot:=hid Oq.drew;have Ou:=hid Uo;clear CI Um Un Oq Uo KO Oj kb c9 PK NZ;go_upto_region 4 with (fail)
    go_still_tail 6,(by kernel_rfl)
    change wpList _ _ _ _ _ w1.drew;go_wp2_with fail
    refine IK.out.mono ?_;rintro e w8 ⟨rfl,Oo⟩;have Rt:=hid (eX.trans Ot.out Ou.out Oo);clear Oo IK Ot Ou k10 Uq;go_wp2_with fail
    go_roundw;case rel=>
     refine ⟨k+1,by omega,by go_num,?_⟩;rw [aj.o9 l k _ HX.out,aj.inls];have:=Rt.out;simp only [Yh] at this ⊢;exact this
    case measure=>simp [intOf];omega
   ·have hkl:k=l.length:=by omega
    subst hkl;rw [List.take_length] at oW;have HO:=hid oW;clear oW;go_wp2
    go_end0
    exact ⟨rfl,yO,rows,HO.out,Gw,hor⟩
open Go.RowKit
def aO (b:Nat) (v:YL) (t:TypeId) (w:World):Prop:=w.heap[b]?=some (.cells #[v] t (0,0))
section
variable {b:Nat} {v:YL} {t:TypeId} {w w':World}
theorem aO.lt (h:aO b v t w):b<w.heap.size:=(Array.getElem?_eq_some_iff.1 h).1
theorem aO.cell (h:aO b v t w):w.cell? ⟨b,0,none⟩=some v:=by unfold aO at h;simp [Yk,h]
theorem aO.free (h:aO b v t w):w.frozen? ⟨b,0,none⟩=false:=by unfold aO at h;simp [World.frozen?,h]
theorem aO.set (h:aO b v t w) (u:YL):aO b u t (w.setCell ⟨b,0,none⟩ u):=sO h
theorem aO.far (h:aO b v t w) {q j:Nat} (hq:b≠q) (u:YL):aO b v t (w.setCell ⟨q,j,none⟩ u):=(Below.heap_setCell w ⟨q,j,none⟩ u b hq).trans h
theorem aO.alloc (h:aO b v t w) (o:Obj):aO b v t (w.alloc o):=(X7 w o b h.lt).trans h
theorem aO.new (w:World) (v:YL) (t:TypeId):aO w.heap.size v t (w.alloc (.cells #[v] t)):=heap_alloc_new w _
theorem aO.below (h:aO b v t w) {B:Nat} (hB:b<B) (hb:Below B w w'):aO b v t w':=(hb.block b hB).trans h
end
theorem Bt {w:World} {B B':Nat} {e:TypeId} {k n:Nat} {v:YL} {xs:List YL} (h:w.ownsRow B e k v n xs) (hB:B'<=B):w.ownsRow B' e k v n xs:=
 ⟨h.1,h.2.imp id fun ⟨g,cap,cur,h1,h2,h3⟩=>⟨g,cap,cur,h1,Nat.le_trans hB h2,h3⟩⟩
theorem uT (l:List aj) (v:YL) (w:World) (h:Rd (·<w.heap.size) w (aY l) [v]) (hbd:aj.jN l) (hsz:aj.aV l<=1000000) (hln:(aj.aM l).length<=1000000) : Calls Tryz.prog 22 #[v] w fun e w'=>∃ v' rows,e=.returned v'/\w'.ownsRow w.heap.size 52 10 v' (aj.aM l).length rows.flatten/\aH (fun _=>True) w' ((aj.aM l).map ah.d) rows/\(∀ r∈rows,r.length=10)/\Below w.heap.size w w':=by
 obtain ⟨va,vn,vc,rfl⟩:=Rd.au h;have HR:=hid h;have nu:=hid hbd;clear h hbd;obtain ⟨N,hN⟩:∃ N,N=w.heap.size:=⟨_,rfl⟩;go_enter Tryz.func22,Tryz.ntmps22;go_upto_region 3 with (fail)
 obtain ⟨wA,iT⟩:∃ wA,wA=(w.alloc (.cells #[.slice none 0 0] 45)).alloc (.cells #[.nilFunc] 81):=⟨_,rfl⟩;have b0:aO N (.slice none 0 0) 45 wA:=by rw [iT,hN];exact (aO.new w _ _).alloc _
 have b1:aO (N+1) .nilFunc 81 wA:=by
  rw [iT,hN];have:=aO.new (w.alloc (.cells #[.slice none 0 0] 45)) .nilFunc 81
  rwa [World.size_alloc] at this
 have bl:Below N w wA:=by rw [iT,hN];exact ((Below.refl _ _).alloc (XU _) _).alloc (by simp) _
 have sz:wA.heap.size=N+2:=by rw [iT,hN];simp
 rw [<- iT,<- hN];rw [<- hN] at HR;have HN:=hid hN;clear iT hN;have c1:=b1.cell;have f1:=b1.free;go_upto_region 4 with (fail)
 obtain ⟨wB,KR⟩:∃ wB,wB=wA.setCell ⟨N+1,0,none⟩ (Fu N (N+1)):=⟨_,rfl⟩;have d0:aO N (.slice none 0 0) 45 wB:=by rw [KR];exact b0.far (by omega) _
 have d1:aO (N+1) (Fu N (N+1)) 81 wB:=by rw [KR];exact b1.set _
 have dl:Below N w wB:=by rw [KR];exact bl.setCell (p:=⟨N+1,0,none⟩) (by show N<=N+1;omega) _
 have dz:wB.heap.size=N+2:=by rw [KR];simpa [World.setCell] using sz
 unfold Fu at KR;rw [<- KR];clear KR b0 b1 bl sz c1 f1;go_upto_region 5 with (fail)
 obtain ⟨wC,KS⟩:∃ wC,wC=wB.alloc (.cells #[.nilFunc] 87):=⟨_,rfl⟩;have b0:aO N (.slice none 0 0) 45 wC:=by rw [KS];exact d0.alloc _
 have b1:aO (N+1) (Fu N (N+1)) 81 wC:=by rw [KS];exact d1.alloc _
 have b2:aO (N+2) .nilFunc 87 wC:=by rw [KS,<- dz];exact aO.new _ _ _
 have bl:Below N w wC:=by rw [KS];exact dl.alloc (by omega) _
 have sz:wC.heap.size=N+3:=by rw [KS];simp [dz]
 rw [<- KS];clear KS d0 d1 dl dz;have c2:=b2.cell;have f2:=b2.free;go_upto_region 6 with (fail)
 obtain ⟨wD,IU⟩:∃ wD,wD=wC.setCell ⟨N+2,0,none⟩ (LQ (N+1) (N+2)):=⟨_,rfl⟩;have d0:aO N (.slice none 0 0) 45 wD:=by rw [IU];exact b0.far (by omega) _
 have d1:aO (N+1) (Fu N (N+1)) 81 wD:=by rw [IU];exact b1.far (by omega) _
 have d2:aO (N+2) (LQ (N+1) (N+2)) 87 wD:=by rw [IU];exact b2.set _
 have dl:Below N w wD:=by rw [IU];exact bl.setCell (p:=⟨N+2,0,none⟩) (by show N<=N+2;omega) _
 have dz:wD.heap.size=N+3:=by rw [IU];simpa [World.setCell] using sz
 have c2:=d2.cell;unfold LQ at IU c2;rw [<- IU];clear IU b0 b1 b2 bl sz f2;have OLD:OL N (N+3) N (N+1) N (.slice none 0 0) [] [] wD:=⟨d0,d1,⟨rfl,.inl ⟨rfl,rfl⟩⟩,aH.none,by simp,by omega⟩;have CB:=hid (Ew (aj.aV l) l N (N+3) N (N+1) (N+2) [] [] (.slice va vn vc) (.slice none 0 0) wD (XU _) hsz (HR.out.below dl) (XU _) (by omega) (by omega) (by omega) (by omega) (by omega) (by omega) nu.out OLD d2 (by simpa using hln));have Ur:=hid dl;clear OLD d0 d1 d2 dl;go_wp2_with fail
 refine CB.out.mono ?_;rintro e w1 ⟨rfl,vo,rows,PZ,Us,WH⟩;have kb:w1.cell? ⟨N,0,none⟩=some vo:=by have:=PZ.bx;simp [Yk,this]
 obtain ⟨ao,co,rfl⟩:=lu PZ.own;have HO:=hid PZ;have HK:Hid (Below N w w1):=Ur.out.trans (Us.below (B:=N+3) (XU _) (by omega) (by simp [Value.ownBlock]) (by omega));clear PZ Us WH CB Ur c2;go_wp2_with fail
 go_ret;refine ⟨_,rows,rfl,?_,aH.keep (fun _ _ _=>⟨trivial,rfl⟩) _ _ HO.out.red,HO.out.len,HN.out ▸ HK.out⟩;have:=Bt HO.out.own (B':=w.heap.size) (by have:=HN.out;omega);simpa using this
end Go.Proofs.YtnmldmofggkoeaaGreatDoor

