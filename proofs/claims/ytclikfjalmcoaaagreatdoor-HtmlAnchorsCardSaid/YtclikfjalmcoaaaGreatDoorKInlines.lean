/- tree.Inlines$1: the inlines, and those in them, are added to what the box holds. tree.Inlines$2 and tree.Inlines: all inlines of blocks, in document order. tree.Inlines: all inlines of blocks, in document order. -/
import Derived.Test.YtclikfjalmcoaaaGreatDoorKInlsW
import Derived.StillTailTactics
import Derived.Laws.EntriesVeiled
set_option maxHeartbeats 8000000
set_option maxRecDepth 100000
open Go.Lib (hid)
namespace Go.Proofs.YtclikfjalmcoaaaGreatDoor
open Nat renaming le_refl->je8
open List renaming length_append->jeq
open Go.RowKit.Below renaming heap_alloc->jf2
open Go.World renaming cell?->jg0
open Go.RowKit
set_option linter.unusedVariables false
set_option linter.unusedSimpArgs false
theorem Kw (n:Nat):∀ (l:List aj) (B0 B bo bi:Nat) (acc:List aj) (uH:List (List Value)) (v vo:Value) (w:World),aj.aS l<=n->n<=1000000->Rd (·<B0) w (bD l) [v]->B0<=bo->B0<=bi->bo<B->bi<B->bo≠bi->aj.pO l->OL B0 B bo bi bo vo acc uH w->acc.length+aj.aS l<=1000000 -> Calls Tryz.prog 93 #[v,.pointer (some ⟨bo,0,none⟩),.pointer (some ⟨bi,0,none⟩)] w fun e w'=>e=.returned (.tuple #[])/\iW B0 B bo bi vo w (acc++aj.aX l) w':=by
 induction n using Nat.strongRecOn with
 | _ n ih=>
  intro l B0 B bo bi acc uH v vo w hn hnm hrd H9 XY Ad Ej hoi hbd uI hal;obtain ⟨a,cap,hv,hs⟩:=Rd.aC hrd;obtain rfl:v=.slice a l.length cap:=by simpa using hv
  have hcap:l.length<=cap:=by simpa using hs.le
  have hll:=aj.gZ l;have hmx:=hs.max;have HS:=hid hs;have IH:=hid ih;have kM:=hid hbd;have R0:Hid (PD B0 B bo bi vo w acc l (.int .i64 0) w):=⟨0,Nat.zero_le _,rfl,vo,uH,by rw [List.take_zero,aj.aX,List.append_nil];exact uI,⟨je8 _,rfl,rfl,rfl,fun _ _ _ _=>rfl⟩,.inl rfl⟩;have El:∀ g,vo.ownBlock=some g->B<=g:=fun g hg=>(uI.own.lt g hg).1
  have RZ:=hid El;have hBw:=uI.PE;clear hs hv hrd ih hbd uI El;unfold maxLen at hmx;go_enter Tryz.func93,Tryz.ntmps93;go_wp2
  go_loopw [8] (fun vi wr=>PD B0 B bo bi vo w acc l vi wr) (fun i _=>l.length-(intOf i).toNat)
  case atStart=>exact R0.out
  case round=>
   obtain ⟨k,hk,rfl,Em,rows,uI,Nu,hor⟩:=hrel;clear R0;by_cases hlt:k<l.length
   ·obtain ⟨x,hx⟩:∃ x,l[k]?=some x:=⟨_,List.getElem?_eq_getElem hlt⟩;obtain ⟨kd,t,d,ti,at_,ar,ci,ks⟩:=x;have hbel:Below B0 w wr:=Nu.below H9 (by omega) RZ.out (by omega);obtain ⟨g,off,vc,vp,va,vi,vk,rfl,hok,hbl,hc,hR⟩:=iy (HS.out.below hbel) hx;obtain ⟨c0,c1,c2,c3,c4,c5,c6,c7,c8,c9⟩:=hc;have hb1:=aj.om l k _ kM.out hx;rw [aj.bd] at hb1;obtain ⟨hn1,hn2,ZK,ZL,PG⟩:=hb1;have hsz:=aj.aZ l k _ hx;rw [aj.sz] at hsz;obtain ⟨ac,nc,cc,rfl⟩:=Rd.au hR.at_.cls
    obtain ⟨ap,np,cp,rfl⟩:=Rd.au hR.at_.aP
    obtain ⟨Aa,na,ca,rfl⟩:=Rd.au hR.args;obtain ⟨Ai,ni,cci,rfl⟩:=Rd.au hR.iq;obtain ⟨ak,nk,ck,rfl⟩:=Rd.au hR.kids;have HR:=hid hR;have HX:=hid hx;have HOL:=hid uI;have XZ:=hid Nu;have VD:=hid hor;have VE:=uI.PE;clear hR hx uI Nu hor hbel;go_upto_region 4 with (fail)
    obtain ⟨p,hp⟩:∃ p,p=wr.heap.size:=⟨_,rfl⟩;obtain ⟨wA,gW⟩:∃ wA,wA=wr.alloc (.cells #[.int .i64 kd,.string t,.string d,.string ti,.string at_.id,.slice ac nc cc,.slice ap np cp,.slice Aa na ca,.slice Ai ni cci,.slice ak nk ck] 51):=⟨_,rfl⟩;have hpv:Em.ownBlock≠some p:=by rw [hp];exact own_ne HOL.out.own (je8 _)
    have Ab:B<=p:=by rw [hp];exact VE
    have OA:OL B0 B bo bi p Em (acc++aj.aX (l.take k)) rows wA:=by
     rw [gW];refine ⟨(jf2 _ _ _ (by omega)).trans HOL.out.bx,(jf2 _ _ _ (by omega)).trans HOL.out.fn,HOL.out.own.alloc _,aO.keep (fun b hb hlt'=>⟨?_,jf2 _ _ b hlt'⟩) _ _ HOL.out.red,HOL.out.len,by simp;omega⟩;rcases hb with hb | hb
     ·exact .inl hb
     ·exact .inr ⟨hb.1,hb.2.1,by omega⟩
    have PA:PB p [.int .i64 kd,.string t,.string d,.string ti,.string at_.id,.slice ac nc cc,.slice ap np cp,.slice Aa na ca,.slice Ai ni cci,.slice ak nk ck] wA:=by rw [gW,hp];exact heap_alloc_new wr _
    have bA:Below B0 wr wA:=by rw [gW];exact (Below.refl _ _).alloc (by omega) _
    have gA:wr.grownBy wA none:=by rw [gW];exact World.grownBy_alloc _ _ none
    have hpA:wA.heap.size=p+1:=by rw [gW,hp];simp
    have HPW:=hid hp;have YM:Hid (∀ g,Em.ownBlock=some g->g<p):=fun g hg=>by rw [hp];exact (HOL.out.own.lt g hg).2
    have UG:=hid hpA;have hBA:B0<=wA.heap.size:=by omega
    rw [<- gW,<- hp];clear hp hpA gW c0 c1 c2 c3 c4 c5 c6 c7 c8 c9 hbl HOL VE;have HIA:=hid (⟨OA,PA,by rw [HPW.out];exact (Below.refl _ _).grown gA (je8 _) (by simp)⟩:IS B0 B bo bi p Em (acc++aj.aX (l.take k)) rows [.int .i64 kd,.string t,.string d,.string ti,.string at_.id,.slice ac nc cc,.slice ap np cp,.slice Aa na ca,.slice Ai ni cci,.slice ak nk ck] wr wA);have d4:=PA.cell 4 _ rfl;have d5:=PA.cell 5 _ rfl;have d6:=PA.cell 6 _ rfl;have CT:=hid (wF at_ _ _ B0 wA (HR.out.at_.below bA) hBA hn1 hn2);clear OA PA;go_wp2_with fail
    refine CT.out.mono ?_;rintro e w1 ⟨vc1,vp1,rfl,Nv,b1⟩;obtain ⟨PI,PK,PO,rfl⟩:=Rd.au Nv.cls;obtain ⟨PS,PV,PX,rfl⟩:=Rd.au Nv.aP;have I1:=HIA.out.grown (I5 b1);have HI1:=hid I1;have AT1:=hid (Nv.weaken (ok':=(p<·)) (fun b hb=>by have:=UG.out;omega));have d4:=I1.pb.cell 4 _ rfl;have d5:=I1.pb.cell 5 _ rfl;have d6:=I1.pb.cell 6 _ rfl;have f4:=I1.pb.free 4;have f5:=I1.pb.free 5;have f6:=I1.pb.free 6;have h0B:B0<=B:=by omega
    clear I1 CT HIA Nv b1 gA bA hBA;go_upto_region 5 with (fail)
    obtain ⟨w2,hw2⟩:∃ w2,w2=((w1.setCell ⟨p,4,none⟩ (.string at_.id)).setCell ⟨p,5,none⟩ (.slice PI PK PO)).setCell ⟨p,6,none⟩ (.slice PS PV PX):=⟨_,rfl⟩;have I2:IS B0 B bo bi p Em (acc++aj.aX (l.take k)) rows [.int .i64 kd,.string t,.string d,.string ti,.string at_.id,.slice PI PK PO,.slice PS PV PX,.slice Aa na ca,.slice Ai ni cci,.slice ak nk ck] wr w2:=by rw [hw2];exact ((HI1.out.set Ad Ej h0B Ab hpv 4 _).set Ad Ej h0B Ab hpv 5 _).set Ad Ej h0B Ab hpv 6 _
    have tF:Hid (AtR (p<·) w2 at_ (.slice PI PK PO) (.slice PS PV PX)):=by show AtR _ _ _ _ _;rw [hw2];exact ((AT1.out.above (eD.set 4 _)).above (eD.set 5 _)).above (eD.set 6 _)
    rw [<- hw2];clear hw2 d4 d5 d6 f4 f5 f6 HI1 AT1;have HI2:=hid I2;have d7:=I2.pb.cell 7 _ rfl;have hl2:=I2.pb.lt;have CS:=hid (uJ ar B0 _ w2 (HR.out.args.below (I2.bl.mono (by omega))) (by omega) ZK);clear I2;go_wp2_with fail
    refine CS.out.mono ?_;rintro e w2b ⟨va1,rfl,hra,ba⟩;obtain ⟨TJ,TK,TM,rfl⟩:=Rd.au hra;have X3:=HI2.out.grown (I5 ba);have VF:=hid X3;have VG:=hid (tF.out.above (eD.grown (I5 ba)));have VH:=hid (hra.weaken (ok':=(p<·)) (fun b hb=>by omega));have d7:=X3.pb.cell 7 _ rfl;have f7:=X3.pb.free 7;clear X3 HI2 tF CS hra ba hl2;go_upto_region 6 with (fail)
    obtain ⟨w3,hw3⟩:∃ w3,w3=w2b.setCell ⟨p,7,none⟩ (.slice TJ TK TM):=⟨_,rfl⟩;have I3:IS B0 B bo bi p Em (acc++aj.aX (l.take k)) rows [.int .i64 kd,.string t,.string d,.string ti,.string at_.id,.slice PI PK PO,.slice PS PV PX,.slice TJ TK TM,.slice Ai ni cci,.slice ak nk ck] wr w3:=by rw [hw3];exact VF.out.set Ad Ej h0B Ab hpv 7 _
    have yJ:Hid (AtR (p<·) w3 at_ (.slice PI PK PO) (.slice PS PV PX)):=by show AtR _ _ _ _ _;rw [hw3];exact VG.out.above (eD.set 7 _)
    have Vt:Hid (Rd (p<·) w3 (jk ar) [.slice TJ TK TM]):=by show Rd _ _ _ _;rw [hw3];exact VH.out.above (eD.set 7 _)
    rw [<- hw3];clear hw3 d7 f7 VF VG VH;have HI3:=hid I3;have d8:=I3.pb.cell 8 _ rfl;have hl3:=I3.pb.lt;have CC:=hid (En ci B0 _ w3 (HR.out.iq.below (I3.bl.mono (by omega))) (by omega) ZL);clear I3;go_wp2_with fail
    refine CC.out.mono ?_;rintro e w3b ⟨vi1,rfl,ZM,Ya⟩;obtain ⟨Yb,Yc,Yd,rfl⟩:=Rd.au ZM;have Ye:=HI3.out.grown (I5 Ya);have VI:=hid Ye;have VJ:=hid (yJ.out.above (eD.grown (I5 Ya)));have VK:=hid (Vt.out.above (eD.grown (I5 Ya)));have VL:=hid (ZM.weaken (ok':=(p<·)) (fun b hb=>by omega));have d8:=Ye.pb.cell 8 _ rfl;have f8:=Ye.pb.free 8;clear Ye HI3 yJ Vt CC ZM Ya hl3;go_upto_region 7 with (fail)
    obtain ⟨w4,hw4⟩:∃ w4,w4=w3b.setCell ⟨p,8,none⟩ (.slice Yb Yc Yd):=⟨_,rfl⟩;have I4:IS B0 B bo bi p Em (acc++aj.aX (l.take k)) rows [.int .i64 kd,.string t,.string d,.string ti,.string at_.id,.slice PI PK PO,.slice PS PV PX,.slice TJ TK TM,.slice Yb Yc Yd,.slice ak nk ck] wr w4:=by rw [hw4];exact VI.out.set Ad Ej h0B Ab hpv 8 _
    have IN4:Hid (tT (fun b=>b<B0\/p<b) w4 at_ ar ci ks (.slice PI PK PO) (.slice PS PV PX) (.slice TJ TK TM) (.slice Yb Yc Yd) (.slice ak nk ck)):=by
     show tT _ _ _ _ _ _ _ _ _ _ _;refine ⟨?_,?_,?_,?_⟩
     ·rw [hw4];exact (VJ.out.above (eD.set 8 _)).weaken (fun b hb=>.inr hb)
     ·rw [hw4];exact (VK.out.above (eD.set 8 _)).weaken (fun b hb=>.inr hb)
     ·rw [hw4];exact (VL.out.above (eD.set 8 _)).weaken (fun b hb=>.inr hb)
     ·exact (HR.out.kids.below (I4.bl.mono (by omega))).weaken (fun b hb=>.inl hb)
    rw [<- hw4];clear hw4 d8 f8 VI VJ VK VL;have HI4:=hid I4;obtain ⟨iI,Yf,Nw,Ny,Nz⟩:=info_parts QI;obtain ⟨ao,co,rfl⟩:=lW I4.ol.own;obtain ⟨m,hm⟩:∃ m,m=(acc++aj.aX (l.take k)).length:=⟨_,rfl⟩;have hm1:m+(aj.aS ks+1)<=1000000:=by have h1:=aj.ze l k _ HX.out;rw [aj.sz] at h1;rw [hm,jeq,aj.dI];omega
    have HM:=hid hm;have e0:=I4.pb.cell 0 _ rfl;have e1:=I4.pb.cell 1 _ rfl;have e2:=I4.pb.cell 2 _ rfl;have e3:=I4.pb.cell 3 _ rfl;have e4:=I4.pb.cell 4 _ rfl;have e5:=I4.pb.cell 5 _ rfl;have e6:=I4.pb.cell 6 _ rfl;have e7:=I4.pb.cell 7 _ rfl;have e8:=I4.pb.cell 8 _ rfl;have e9:=I4.pb.cell 9 _ rfl;have eb:w4.cell? ⟨bo,0,none⟩=some (.slice ao m co):=by have:=I4.ol.bx;rw [hm];simp [jg0,this]
    have fb:w4.frozen? ⟨bo,0,none⟩=false:=by have:=I4.ol.bx;simp [World.frozen?,this]
    have Yg:Hid (w4.ownsRow B 51 10 (.slice ao m co) m rows.flatten):=by show World.ownsRow _ _ _ _ _ _ _;rw [hm];exact I4.ol.own
    have hs4:B<=w4.heap.size:=I4.ol.PE;have lU:=hid I4.ol.bx;rw [<- hm] at lU;have Vu:p<w4.heap.size:=I4.pb.lt;have hb4:bo<w4.heap.size:=by omega
    have PY:=hid I4.pb;have ZO:(Value.slice ao m co).ownBlock≠some p:=by rw [hm];exact hpv
    have KD:Hid (rows.flatten.length=m*10):=Yg.out.1;have ZP:Hid (IS B0 B bo bi p (.slice ao m co) (acc++aj.aX (l.take k)) rows [.int .i64 kd,.string t,.string d,.string ti,.string at_.id,.slice PI PK PO,.slice PS PV PX,.slice TJ TK TM,.slice Yb Yc Yd,.slice ak nk ck] wr w4):=by show IS _ _ _ _ _ _ _ _ _ _ _;rw [hm];exact HI4.out
    have HVQ:Hid (∀ g,(Value.slice ao m co).ownBlock=some g->g<p):=by show ∀ g,_;rw [hm];exact YM.out
    rw [<- hm] at VD;clear I4 hm HI4 YM;have RX4:=hid (aj.gI kd t d ti IN4.out)
    go_cut [] (fun wx=>iW B0 B bo bi (.slice ao m co) w4 (acc++aj.aX (l.take k)++[aj.mk kd t d ti at_ ar ci ks]) wx)
    case first=>
     go_region_law (refine step_append_lies _ rfl (.tmp 27) (.tmp 30) 22 rfl B 51 iI _ 10 192 Tryz.underlying22 Yf Nw Ny Nz rfl (by decide) (.slice ao m co) m rows.flatten rfl (Yg.out.alloc _) ⟨w4.heap.size,0,none⟩ 1 1 [.int .i64 0,.string ⟨#[]⟩,.string ⟨#[]⟩,.string ⟨#[]⟩,.string ⟨#[]⟩,.slice none 0 0,.slice none 0 0,.slice none 0 0,.slice none 0 0,.slice none 0 0] rfl rfl (Ml w4 _ _) (by intro u hu;simp at hu;rcases hu with rfl | rfl | rfl<;>rfl) (by omega) (by unfold maxLen;omega) (by omega) (by show B<=(w4.alloc _).heap.size;rw [World.size_alloc];omega) _ rfl ?_;intro g cap w5 hown hgrow hat jd3;have hix:(m:Int)<(m:Int)+1:=(by omega);have hcp:=NA hown;have q0:=gD hown KD.out 0 _ rfl (by omega);have z0:=hown.frozenAt (m*10+0);have q1:=gD hown KD.out 1 _ rfl (by omega);have z1:=hown.frozenAt (m*10+1);have q2:=gD hown KD.out 2 _ rfl (by omega);have z2:=hown.frozenAt (m*10+2);have q3:=gD hown KD.out 3 _ rfl (by omega);have z3:=hown.frozenAt (m*10+3);have q4:=gD hown KD.out 4 _ rfl (by omega);have z4:=hown.frozenAt (m*10+4);have q5:=gD hown KD.out 5 _ rfl (by omega);have z5:=hown.frozenAt (m*10+5);have q6:=gD hown KD.out 6 _ rfl (by omega);have z6:=hown.frozenAt (m*10+6);have q7:=gD hown KD.out 7 _ rfl (by omega);have z7:=hown.frozenAt (m*10+7);have q8:=gD hown KD.out 8 _ rfl (by omega);have z8:=hown.frozenAt (m*10+8);have q9:=gD hown KD.out 9 _ rfl (by omega);have z9:=hown.frozenAt (m*10+9);obtain ⟨qb,zb,hgb⟩:=R5 lU.out hown hgrow Yg.out Ad hs4;simp only [Nat.add_zero] at q0 z0;have KE:=VN PY.out hgrow ZO;have r0:=KE.cell 0 _ rfl;have r1:=KE.cell 1 _ rfl;have r2:=KE.cell 2 _ rfl;have r3:=KE.cell 3 _ rfl;have r4:=KE.cell 4 _ rfl;have r5:=KE.cell 5 _ rfl;have r6:=KE.cell 6 _ rfl;have r7:=KE.cell 7 _ rfl;have r8:=KE.cell 8 _ rfl;have r9:=KE.cell 9 _ rfl;have Ni:=hat.imp_right (fun e=>(Nat.le_trans (Nat.le_succ w4.heap.size) (Nat.le_of_eq ((World.size_alloc _ _).symm.trans e.symm))));have ZQ:=KF ZP.out HM.out Ad Ej hoi H9 Ab HVQ.out RX4.out hown rfl KD.out hgrow Ni;simp only [ten] at ZQ;have PT:=hid ZQ;clear ZQ KE hat Ni)
     all_goals
      go_wp2_with fail
      go_meet
      first
      | with_reducible exact PT.out.1
      | with_reducible exact PT.out.2
    case rest=>
     obtain ⟨w7,hw7⟩:∃ w7:World,w7=wc:=⟨_,rfl⟩;subst hw7;have VO:eF bo vo w w4:=by have hb:=ZP.out.bl;have hk:=XZ.out;refine ⟨Nat.le_trans hk.1 hb.size,hb.os.trans hk.2.1,hb.tape.trans hk.2.2.1,hb.output.trans hk.2.2.2.1,fun b hb' hne El=>(hb.block b ?_).trans (hk.2.2.2.2 b hb' hne El)⟩;rw [HPW.out];exact Nat.lt_of_lt_of_le hb' hk.1
     have IO7:=iW.trans VO VD.out hcut;obtain ⟨vo7,VP,ZR,ZT,OR7⟩:=IO7;obtain ⟨g7,o7,vc7,vp7,va7,vi7,vk7,hgo,_,_,VQ,R7⟩:=iy (HS.out.below (ZT.below H9 (by omega) RZ.out (by omega))) HX.out;cases hgo
     have k9:=VQ.c9;have kb:w7.cell? ⟨bi,0,none⟩=some (Mx bo bi):=by have:=ZR.fn;simp [jg0,this]
     unfold Mx at kb;have hsk:=aj.aZ l k _ HX.out;rw [aj.sz] at hsk;have IK:=hid (IH.out (aj.aS ks) (by omega) ks B0 B bo bi (acc++aj.aX (l.take k)++[aj.mk kd t d ti at_ ar ci ks]) VP vk7 vo7 w7.drew (je8 _) (by omega) (R7.kids.below ⟨rfl,rfl,rfl,je8 _,fun _ _=>rfl⟩) H9 XY Ad Ej hoi PG ZR.drew (by rw [jeq,<- HM.out,List.length_singleton];omega));have VT:=hid ZT.drew;have VU:=hid OR7;obtain ⟨ak7,nk7,ck7,rfl⟩:=Rd.au R7.kids;clear hcut ZR ZT OR7 R7 VQ VO ZP HVQ lU PY Yg RX4;go_upto_region 8 with (fail)
     go_still_tail 6,(by kernel_rfl)
     change wpList _ _ _ _ _ w7.drew;go_wp2_with fail
     refine IK.out.mono ?_;rintro e w8 ⟨rfl,VW⟩;have ZU:=hid (iW.trans VT.out VU.out VW);clear VW IK VT VU k9 kb;go_wp2_with fail
     go_roundw;case rel=>
      refine ⟨k+1,by omega,by go_num,?_⟩;rw [aj.uK l k _ HX.out,aj.deep];have:=ZU.out;simp only [List.append_assoc,List.singleton_append] at this;exact this
     case measure=>simp [intOf];omega
   ·have hkl:k=l.length:=by omega
    subst hkl;rw [List.take_length] at uI;have HO:=hid uI;clear uI;go_wp2
    go_end0
    exact ⟨rfl,Em,rows,HO.out,Nu,hor⟩
open Go.RowKit
mutual
def ah.inls:ah->List aj
 | .mk _ _ _ _ _ _ _ li ks=>aj.aX li++ah.aL ks
def ah.aL:List ah->List aj
 | []=>[]
 | x::l=>x.inls++ah.aL l
end
theorem ah.xH (l m:List ah):ah.aL (l++m)=ah.aL l++ah.aL m:=by
 induction l with
 | nil=>rw [ah.aL];rfl
 | cons x l ih=>rw [List.cons_append,ah.aL,ah.aL,ih,List.append_assoc]
theorem ah.uL (l:List ah) (k:Nat) (x:ah) (h:l[k]?=some x):ah.aL (l.take (k+1))=ah.aL (l.take k)++x.inls:=by rw [List.take_add_one,h,ah.xH];simp [ah.aL]
theorem ah.Ia (l:List ah) (k:Nat) (x:ah) (h:l[k]?=some x):(ah.aL (l.take k)).length+x.inls.length<=(ah.aL l).length:=by
 have e:ah.aL l=ah.aL (l.take (k+1))++ah.aL (l.drop (k+1)):=by rw [<- ah.xH,List.take_append_drop]
 have e2:=congrArg List.length e;rw [ah.uL l k x h] at e2;simp only [jeq] at e2;omega
def TN (bi bk:Nat):Value:=.func (.func 97) #[] #[.pointer (some ⟨bi,0,none⟩),.pointer (some ⟨bk,0,none⟩)]
def KG (bi bk:Nat) (w:World):Prop:=w.heap[bk]?=some (.cells #[TN bi bk] 126 (0,0))
theorem KG.keep {bi bk bo B:Nat} {vo:Value} {w w':World} (h:KG bi bk w) (hk:eF bo vo w w') (hne:bk≠bo) (hb:bk<B) (hv:∀ g,vo.ownBlock=some g->B<=g):KG bi bk w':=
 (hk.2.2.2.2 bk (Array.getElem?_eq_some_iff.1 h).1 hne (fun e=>by have:=hv bk e;omega)).trans h
def PZ (B0 B bo bi:Nat) (vo:Value) (w:World) (acc:List aj) (l:List ah) (vi:Value) (wr:World):Prop:=
 ∃ k:Nat,k<=l.length/\vi=.int .i64 k/\iW B0 B bo bi vo w (acc++ah.aL (l.take k)) wr
theorem KH (n:Nat):∀ (l:List ah) (B0 B bo bi bk:Nat) (acc:List aj) (uH:List (List Value)) (v vo:Value) (w:World),ah.aS l<=n->n<=1000000->Rd (·<B0) w (nR l) [v]->B0<=bo->B0<=bi->bo<B->bi<B->bo≠bi->bk<B->bk≠bo->ah.pO l->OL B0 B bo bi bo vo acc uH w->KG bi bk w->acc.length+(ah.aL l).length<=1000000 -> Calls Tryz.prog 97 #[v,.pointer (some ⟨bi,0,none⟩),.pointer (some ⟨bk,0,none⟩)] w fun e w'=>e=.returned (.tuple #[])/\iW B0 B bo bi vo w (acc++ah.aL l) w':=by
 induction n using Nat.strongRecOn with
 | _ n ih=>
  intro l B0 B bo bi bk acc uH v vo w hn hnm hrd H9 XY Ad Ej hoi hkB hko hbd uI hKB hal;obtain ⟨a,cap,hv,hs⟩:=Rd.aC hrd;obtain rfl:v=.slice a l.length cap:=by simpa using hv
  have hcap:l.length<=cap:=by simpa using hs.le
  have hll:=ah.gZ l;have hmx:=hs.max;have HS:=hid hs;have IH:=hid ih;have kM:=hid hbd;have HKB:=hid hKB;have R0:Hid (PZ B0 B bo bi vo w acc l (.int .i64 0) w):=⟨0,Nat.zero_le _,rfl,vo,uH,by rw [List.take_zero,ah.aL,List.append_nil];exact uI,⟨je8 _,rfl,rfl,rfl,fun _ _ _ _=>rfl⟩,.inl rfl⟩;have El:∀ g,vo.ownBlock=some g->B<=g:=fun g hg=>(uI.own.lt g hg).1
  have RZ:=hid El;have hBw:=uI.PE;clear hs hv hrd ih hbd uI El hKB;unfold maxLen at hmx;go_enter Tryz.func97,Tryz.ntmps97;go_wp2
  go_loopw [7] (fun vi wr=>PZ B0 B bo bi vo w acc l vi wr) (fun i _=>l.length-(intOf i).toNat)
  case atStart=>exact R0.out
  case round=>
   obtain ⟨k,hk,rfl,Em,rows,uI,Nu,hor⟩:=hrel;clear R0;by_cases hlt:k<l.length
   ·obtain ⟨x,hx⟩:∃ x,l[k]?=some x:=⟨_,List.getElem?_eq_getElem hlt⟩;obtain ⟨kd,lv,i,t,d,ti,at_,li,ks⟩:=x;have hbel:Below B0 w wr:=Nu.below H9 (by omega) RZ.out (by omega);obtain ⟨g,off,vc,vp,vl,vk,rfl,hok,hbl,hc,hR⟩:=dV (HS.out.below hbel) hx;have c9:=hc.c9;have hb1:=ah.om l k _ kM.out hx;rw [ah.bd] at hb1;obtain ⟨hn1,hn2,ZK,ZL,PG⟩:=hb1;have hsz:=ah.aZ l k _ hx;rw [ah.sz] at hsz;have hln:=ah.Ia l k _ hx;rw [ah.inls,jeq] at hln;have jd4:=aj.dI li;obtain ⟨al,nl,cl,rfl⟩:=Rd.au hR.line;have kb:wr.cell? ⟨bi,0,none⟩=some (Mx bo bi):=by
     have:=uI.fn;simp [jg0,this]
    unfold Mx at kb;have CI:=hid (Kw (aj.aS li) li B0 B bo bi (acc++ah.aL (l.take k)) rows (.slice al nl cl) Em wr.drew (je8 _) ZL (hR.line.below ⟨rfl,rfl,rfl,je8 _,fun _ _=>rfl⟩) H9 XY Ad Ej hoi ZK uI.drew (by rw [jeq];omega));have HX:=hid hx;have XZ:=hid Nu.drew;have VD:=hid hor;clear hR hx uI Nu hor hbel hc hbl;go_upto_region 3 with (fail)
    go_still_tail 6,(by kernel_rfl)
    change wpList _ _ _ _ _ wr.drew;go_wp2_with fail
    refine CI.out.mono ?_;rintro e w1 ⟨rfl,IO1⟩;obtain ⟨ZV,aW,OL2,VX,OR2⟩:=iW.trans XZ.out VD.out IO1;obtain ⟨g7,o7,vc7,vp7,vl7,vk7,hgo,_,_,VQ,R7⟩:=dV (HS.out.below (VX.below H9 (by omega) RZ.out (by omega))) HX.out;cases hgo
    have k10:=VQ.c10;have kb2:w1.cell? ⟨bk,0,none⟩=some (TN bi bk):=by have:=HKB.out.keep VX hko hkB RZ.out;unfold KG at this;simp [jg0,this]
    unfold TN at kb2;obtain ⟨ak7,nk7,ck7,rfl⟩:=Rd.au R7.kids;have IK:=hid (IH.out (ah.aS ks) (by omega) ks B0 B bo bi bk (acc++ah.aL (l.take k)++aj.aX li) aW (.slice ak7 nk7 ck7) ZV w1.drew (je8 _) (by omega) (R7.kids.below ⟨rfl,rfl,rfl,je8 _,fun _ _=>rfl⟩) H9 XY Ad Ej hoi hkB hko PG OL2.drew (HKB.out.keep VX.drew hko hkB RZ.out) (by rw [jeq,jeq];omega));have VY:=hid VX.drew;have VZ:=hid OR2;clear CI IO1 OL2 VX OR2 R7 VQ kb c9 XZ VD;go_upto_region 4 with (fail)
    go_still_tail 6,(by kernel_rfl)
    change wpList _ _ _ _ _ w1.drew;go_wp2_with fail
    refine IK.out.mono ?_;rintro e w8 ⟨rfl,VW⟩;have ZU:=hid (iW.trans VY.out VZ.out VW);clear VW IK VY VZ k10 kb2;go_wp2_with fail
    go_roundw;case rel=>
     refine ⟨k+1,by omega,by go_num,?_⟩;rw [ah.uL l k _ HX.out,ah.inls];have:=ZU.out;simp only [List.append_assoc] at this ⊢;exact this
    case measure=>simp [intOf];omega
   ·have hkl:k=l.length:=by omega
    subst hkl;rw [List.take_length] at uI;have HO:=hid uI;clear uI;go_wp2
    go_end0
    exact ⟨rfl,Em,rows,HO.out,Nu,hor⟩
open Go.RowKit
def aG (b:Nat) (v:Value) (t:TypeId) (w:World):Prop:=w.heap[b]?=some (.cells #[v] t (0,0))
section
variable {b:Nat} {v:Value} {t:TypeId} {w w':World}
theorem aG.lt (h:aG b v t w):b<w.heap.size:=(Array.getElem?_eq_some_iff.1 h).1
theorem aG.cell (h:aG b v t w):w.cell? ⟨b,0,none⟩=some v:=by unfold aG at h;simp [jg0,h]
theorem aG.free (h:aG b v t w):w.frozen? ⟨b,0,none⟩=false:=by unfold aG at h;simp [World.frozen?,h]
theorem aG.set (h:aG b v t w) (u:Value):aG b u t (w.setCell ⟨b,0,none⟩ u):=zh h
theorem aG.far (h:aG b v t w) {q j:Nat} (hq:b≠q) (u:Value):aG b v t (w.setCell ⟨q,j,none⟩ u):=(Below.heap_setCell w ⟨q,j,none⟩ u b hq).trans h
theorem aG.alloc (h:aG b v t w) (o:Obj):aG b v t (w.alloc o):=(jf2 w o b h.lt).trans h
theorem aG.new (w:World) (v:Value) (t:TypeId):aG w.heap.size v t (w.alloc (.cells #[v] t)):=heap_alloc_new w _
theorem aG.below (h:aG b v t w) {B:Nat} (hB:b<B) (hb:Below B w w'):aG b v t w':=(hb.block b hB).trans h
theorem aG.drew (h:aG b v t w):aG b v t w.drew:=h
end
theorem Ib {w:World} {B B':Nat} {e:TypeId} {k n:Nat} {v:Value} {xs:List Value} (h:w.ownsRow B e k v n xs) (hB:B'<=B):w.ownsRow B' e k v n xs:=
 ⟨h.1,h.2.imp id fun ⟨g,cap,cur,h1,h2,h3⟩=>⟨g,cap,cur,h1,Nat.le_trans hB h2,h3⟩⟩
theorem qY (l:List ah) (v:Value) (w:World) (h:Rd (·<w.heap.size) w (nR l) [v]) (hbd:ah.pO l) (hsz:ah.aS l<=1000000) (hln:(ah.aL l).length<=1000000) : Calls Tryz.prog 49 #[v] w fun e w'=>∃ v' rows,e=.returned v'/\w'.ownsRow w.heap.size 51 10 v' (ah.aL l).length rows.flatten/\aO (fun _=>True) w' ((ah.aL l).map aj.d) rows/\(∀ r∈rows,r.length=10)/\Below w.heap.size w w':=by
 obtain ⟨va,vn,vc,rfl⟩:=Rd.au h;have HR:=hid h;have kM:=hid hbd;clear h hbd;obtain ⟨N,hN⟩:∃ N,N=w.heap.size:=⟨_,rfl⟩;go_enter Tryz.func49,Tryz.ntmps49;go_upto_region 3 with (fail)
 obtain ⟨wA,gW⟩:∃ wA,wA=(w.alloc (.cells #[.slice none 0 0] 22)).alloc (.cells #[.nilFunc] 120):=⟨_,rfl⟩;have b0:aG N (.slice none 0 0) 22 wA:=by rw [gW,hN];exact (aG.new w _ _).alloc _
 have b1:aG (N+1) .nilFunc 120 wA:=by
  rw [gW,hN];have:=aG.new (w.alloc (.cells #[.slice none 0 0] 22)) .nilFunc 120
  rwa [World.size_alloc] at this
 have bl:Below N w wA:=by rw [gW,hN];exact ((Below.refl _ _).alloc (je8 _) _).alloc (by simp) _
 have sz:wA.heap.size=N+2:=by rw [gW,hN];simp
 rw [<- gW,<- hN];rw [<- hN] at HR;have HN:=hid hN;clear gW hN;have c1:=b1.cell;have f1:=b1.free;go_upto_region 4 with (fail)
 obtain ⟨wB,BS⟩:∃ wB,wB=wA.setCell ⟨N+1,0,none⟩ (Mx N (N+1)):=⟨_,rfl⟩;have d0:aG N (.slice none 0 0) 22 wB:=by rw [BS];exact b0.far (by omega) _
 have d1:aG (N+1) (Mx N (N+1)) 120 wB:=by rw [BS];exact b1.set _
 have dl:Below N w wB:=by rw [BS];exact bl.setCell (p:=⟨N+1,0,none⟩) (by show N<=N+1;omega) _
 have dz:wB.heap.size=N+2:=by rw [BS];simpa [World.setCell] using sz
 unfold Mx at BS;rw [<- BS];clear BS b0 b1 bl sz c1 f1;go_upto_region 5 with (fail)
 obtain ⟨wC,R8⟩:∃ wC,wC=wB.alloc (.cells #[.nilFunc] 126):=⟨_,rfl⟩;have b0:aG N (.slice none 0 0) 22 wC:=by rw [R8];exact d0.alloc _
 have b1:aG (N+1) (Mx N (N+1)) 120 wC:=by rw [R8];exact d1.alloc _
 have b2:aG (N+2) .nilFunc 126 wC:=by rw [R8,<- dz];exact aG.new _ _ _
 have bl:Below N w wC:=by rw [R8];exact dl.alloc (by omega) _
 have sz:wC.heap.size=N+3:=by rw [R8];simp [dz]
 rw [<- R8];clear R8 d0 d1 dl dz;have c2:=b2.cell;have f2:=b2.free;go_upto_region 6 with (fail)
 obtain ⟨wD,P5⟩:∃ wD,wD=wC.setCell ⟨N+2,0,none⟩ (TN (N+1) (N+2)):=⟨_,rfl⟩;have d0:aG N (.slice none 0 0) 22 wD:=by rw [P5];exact b0.far (by omega) _
 have d1:aG (N+1) (Mx N (N+1)) 120 wD:=by rw [P5];exact b1.far (by omega) _
 have d2:aG (N+2) (TN (N+1) (N+2)) 126 wD:=by rw [P5];exact b2.set _
 have dl:Below N w wD:=by rw [P5];exact bl.setCell (p:=⟨N+2,0,none⟩) (by show N<=N+2;omega) _
 have dz:wD.heap.size=N+3:=by rw [P5];simpa [World.setCell] using sz
 have c2:=d2.cell;unfold TN at P5 c2;rw [<- P5];clear P5 b0 b1 b2 bl sz f2;have OLD:OL N (N+3) N (N+1) N (.slice none 0 0) [] [] wD:=⟨d0,d1,⟨rfl,.inl ⟨rfl,rfl⟩⟩,aO.none,by simp,by omega⟩;have CB:=hid (KH (ah.aS l) l N (N+3) N (N+1) (N+2) [] [] (.slice va vn vc) (.slice none 0 0) wD (je8 _) hsz (HR.out.below dl) (je8 _) (by omega) (by omega) (by omega) (by omega) (by omega) (by omega) kM.out OLD d2 (by simpa using hln));have Yh:=hid dl;clear OLD d0 d1 d2 dl;go_wp2_with fail
 refine CB.out.mono ?_;rintro e w1 ⟨rfl,vo,rows,Yi,KO1,OR1⟩;have kb:w1.cell? ⟨N,0,none⟩=some vo:=by have:=Yi.bx;simp [jg0,this]
 obtain ⟨ao,co,rfl⟩:=lW Yi.own;have HO:=hid Yi;have HK:Hid (Below N w w1):=Yh.out.trans (KO1.below (B:=N+3) (je8 _) (by omega) (by simp [Value.ownBlock]) (by omega));clear Yi KO1 OR1 CB Yh c2;go_wp2_with fail
 go_ret;refine ⟨_,rows,rfl,?_,aO.keep (fun _ _ _=>⟨trivial,rfl⟩) _ _ HO.out.red,HO.out.len,HN.out ▸ HK.out⟩;have:=Ib HO.out.own (B':=w.heap.size) (by have:=HN.out;omega);simpa using this
end Go.Proofs.YtclikfjalmcoaaaGreatDoor

