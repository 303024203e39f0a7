/- tree.Inlines$1: the inlines, and those in them, are added to what the box holds. tree.Inlines$2 and tree.Inlines: all inlines of blocks, in document order. tree.Inlines: all inlines of blocks, in document order. -/
import Derived.Test.YtnmldmofggkoeaaGreatDoorKInlsW
import Derived.StillTailTactics
import Derived.Laws.EntriesVeiled
set_option maxHeartbeats 8000000
set_option maxRecDepth 100000
open Go.Lib (hid)
namespace Go.Proofs.YtnmldmofggkoeaaGreatDoor
open Nat renaming le_refl->YI
open List renaming length_append->YM,append_assoc->Y2
open Go.RowKit.Below renaming heap_alloc->YR
open Go.World renaming cell?->Y5
open Go renaming Value->Zw
open Go.RowKit
set_option linter.unusedVariables false
set_option linter.unusedSimpArgs false
theorem Er (n:Nat):∀ (l:List ah) (B0 B bo bi:Nat) (acc:List ah) (pG:List (List Zw)) (v vo:Zw) (w:World),ah.aW l<=n->n<=1000000->Rd (·<B0) w (fq l) [v]->B0<=bo->B0<=bi->bo<B->bi<B->bo≠bi->ah.ku l->OL B0 B bo bi bo vo acc pG w->acc.length+ah.aW l<=1000000 -> Calls Tryz.prog 39 #[v,.pointer (some ⟨bo,0,none⟩),.pointer (some ⟨bi,0,none⟩)] w fun e w'=>e=.returned (.tuple #[])/\eX B0 B bo bi vo w (acc++ah.aC l) w':=by
 induction n using Nat.strongRecOn with
 | _ n ih=>
  intro l B0 B bo bi acc pG v vo w hn hnm hrd BA Qh tZ qA hoi hbd pI hal;obtain ⟨a,cap,hv,hs⟩:=Rd.aD hrd;obtain rfl:v=.slice a l.length cap:=by simpa using hv
  have hcap:l.length<=cap:=by simpa using hs.le
  have hll:=ah.l7 l;have hmx:=hs.max;have HS:=hid hs;have IH:=hid ih;have nH:=hid hbd;have R0:Hid (I5 B0 B bo bi vo w acc l (.int .i64 0) w):=⟨0,Nat.zero_le _,rfl,vo,pG,by rw [List.take_zero,ah.aC,List.append_nil];exact pI,⟨YI _,rfl,rfl,rfl,fun _ _ _ _=>rfl⟩,.inl rfl⟩;have yK:∀ g,vo.ownBlock=some g->B<=g:=fun g hg=>(pI.own.lt g hg).1
  have zQ:=hid yK;have hBw:=pI.I6;clear hs hv hrd ih hbd pI yK;unfold maxLen at hmx;go_enter Tryz.func39,Tryz.ntmps39;go_wp2
  go_loopw [8] (fun vi wr=>I5 B0 B bo bi vo w acc l vi wr) (fun i _=>l.length-(intOf i).toNat)
  case atStart=>exact R0.out
  case round=>
   obtain ⟨k,hk,rfl,yL,rows,pI,GN,hor⟩:=hrel;clear R0;by_cases hlt:k<l.length
   ·obtain ⟨x,hx⟩:∃ x,l[k]?=some x:=⟨_,List.getElem?_eq_getElem hlt⟩;obtain ⟨kd,t,d,ti,at_,ar,ci,ks⟩:=x;have hbel:Below B0 w wr:=GN.below BA (by omega) zQ.out (by omega);obtain ⟨g,off,vc,vp,va,vi,vk,rfl,hok,hbl,hc,hR⟩:=gT (HS.out.below hbel) hx;obtain ⟨c0,c1,c2,c3,c4,c5,c6,c7,c8,c9⟩:=hc;have hb1:=ah.lu l k _ nH.out hx;rw [ah.bd] at hb1;obtain ⟨hn1,hn2,RS,RU,uQ⟩:=hb1;have hsz:=ah.cZ l k _ hx;rw [ah.sz] at hsz;obtain ⟨ac,nc,cc,rfl⟩:=Rd.au hR.at_.cls
    obtain ⟨ap,np,cp,rfl⟩:=Rd.au hR.at_.aT
    obtain ⟨Aa,na,ca,rfl⟩:=Rd.au hR.args;obtain ⟨Ai,ni,cci,rfl⟩:=Rd.au hR.gq;obtain ⟨ak,nk,ck,rfl⟩:=Rd.au hR.kids;have HR:=hid hR;have HX:=hid hx;have HOL:=hid pI;have Qi:=hid GN;have N8:=hid hor;have N9:=pI.I6;clear hR hx pI GN hor hbel;go_upto_region 4 with (fail)
    obtain ⟨p,hp⟩:∃ p,p=wr.heap.size:=⟨_,rfl⟩;obtain ⟨wA,iV⟩:∃ wA,wA=wr.alloc (.cells #[.int .i64 kd,.string t,.string d,.string ti,.string at_.id,.slice ac nc cc,.slice ap np cp,.slice Aa na ca,.slice Ai ni cci,.slice ak nk ck] 52):=⟨_,rfl⟩;have hpv:yL.ownBlock≠some p:=by rw [hp];exact own_ne HOL.out.own (YI _)
    have FE:B<=p:=by rw [hp];exact N9
    have OA:OL B0 B bo bi p yL (acc++ah.aC (l.take k)) rows wA:=by
     rw [iV];refine ⟨(YR _ _ _ (by omega)).trans HOL.out.bx,(YR _ _ _ (by omega)).trans HOL.out.fn,HOL.out.own.alloc _,aG.keep (fun b hb hlt'=>⟨?_,YR _ _ b hlt'⟩) _ _ HOL.out.red,HOL.out.len,by simp;omega⟩;rcases hb with hb | hb
     ·exact .inl hb
     ·exact .inr ⟨hb.1,hb.2.1,by omega⟩
    have PA:PB p [.int .i64 kd,.string t,.string d,.string ti,.string at_.id,.slice ac nc cc,.slice ap np cp,.slice Aa na ca,.slice Ai ni cci,.slice ak nk ck] wA:=by rw [iV,hp];exact heap_alloc_new wr _
    have bA:Below B0 wr wA:=by rw [iV];exact (Below.refl _ _).alloc (by omega) _
    have gA:wr.grownBy wA none:=by rw [iV];exact World.grownBy_alloc _ _ none
    have Um:wA.heap.size=p+1:=by rw [iV,hp];simp
    have Un:=hid hp;have Uo:Hid (∀ g,yL.ownBlock=some g->g<p):=fun g hg=>by rw [hp];exact (HOL.out.own.lt g hg).2
    have Q5:=hid Um;have Uq:B0<=wA.heap.size:=by omega
    rw [<- iV,<- hp];clear hp Um iV c0 c1 c2 c3 c4 c5 c6 c7 c8 c9 hbl HOL N9;have Ur:=hid (⟨OA,PA,by rw [Un.out];exact (Below.refl _ _).grown gA (YI _) (by simp)⟩:IS B0 B bo bi p yL (acc++ah.aC (l.take k)) rows [.int .i64 kd,.string t,.string d,.string ti,.string at_.id,.slice ac nc cc,.slice ap np cp,.slice Aa na ca,.slice Ai ni cci,.slice ak nk ck] wr wA);have d4:=PA.cell 4 _ rfl;have d5:=PA.cell 5 _ rfl;have d6:=PA.cell 6 _ rfl;have CT:=hid (qJ at_ _ _ B0 wA (HR.out.at_.below bA) Uq hn1 hn2);clear OA PA;go_wp2_with fail
    refine CT.out.mono ?_;rintro e w1 ⟨Yl,Ym,rfl,GQ,b1⟩;obtain ⟨I7,I8,I9,rfl⟩:=Rd.au GQ.cls;obtain ⟨Ja,Jb,Jc,rfl⟩:=Rd.au GQ.aT;have I1:=Ur.out.grown (Es b1);have HI1:=hid I1;have Us:=hid (GQ.weaken (ok':=(p<·)) (fun b hb=>by have:=Q5.out;omega));have d4:=I1.pb.cell 4 _ rfl;have d5:=I1.pb.cell 5 _ rfl;have d6:=I1.pb.cell 6 _ rfl;have f4:=I1.pb.free 4;have f5:=I1.pb.free 5;have f6:=I1.pb.free 6;have h0B:B0<=B:=by omega
    clear I1 CT Ur GQ b1 gA bA Uq;go_upto_region 5 with (fail)
    obtain ⟨w2,hw2⟩:∃ w2,w2=((w1.setCell ⟨p,4,none⟩ (.string at_.id)).setCell ⟨p,5,none⟩ (.slice I7 I8 I9)).setCell ⟨p,6,none⟩ (.slice Ja Jb Jc):=⟨_,rfl⟩;have I2:IS B0 B bo bi p yL (acc++ah.aC (l.take k)) rows [.int .i64 kd,.string t,.string d,.string ti,.string at_.id,.slice I7 I8 I9,.slice Ja Jb Jc,.slice Aa na ca,.slice Ai ni cci,.slice ak nk ck] wr w2:=by rw [hw2];exact ((HI1.out.set tZ qA h0B FE hpv 4 _).set tZ qA h0B FE hpv 5 _).set tZ qA h0B FE hpv 6 _
    have Ut:Hid (AtR (p<·) w2 at_ (.slice I7 I8 I9) (.slice Ja Jb Jc)):=by show AtR _ _ _ _ _;rw [hw2];exact ((Us.out.above (bZ.set 4 _)).above (bZ.set 5 _)).above (bZ.set 6 _)
    rw [<- hw2];clear hw2 d4 d5 d6 f4 f5 f6 HI1 Us;have HI2:=hid I2;have d7:=I2.pb.cell 7 _ rfl;have hl2:=I2.pb.lt;have CS:=hid (pJ ar B0 _ w2 (HR.out.args.below (I2.bl.mono (by omega))) (by omega) RS);clear I2;go_wp2_with fail
    refine CS.out.mono ?_;rintro e Xm ⟨Yn,rfl,hra,ba⟩;obtain ⟨Ma,Mc,Md,rfl⟩:=Rd.au hra;have Qj:=HI2.out.grown (Es ba);have Oa:=hid Qj;have Ob:=hid (Ut.out.above (bZ.grown (Es ba)));have Oc:=hid (hra.weaken (ok':=(p<·)) (fun b hb=>by omega));have d7:=Qj.pb.cell 7 _ rfl;have f7:=Qj.pb.free 7;clear Qj HI2 Ut CS hra ba hl2;go_upto_region 6 with (fail)
    obtain ⟨w3,hw3⟩:∃ w3,w3=Xm.setCell ⟨p,7,none⟩ (.slice Ma Mc Md):=⟨_,rfl⟩;have I3:IS B0 B bo bi p yL (acc++ah.aC (l.take k)) rows [.int .i64 kd,.string t,.string d,.string ti,.string at_.id,.slice I7 I8 I9,.slice Ja Jb Jc,.slice Ma Mc Md,.slice Ai ni cci,.slice ak nk ck] wr w3:=by rw [hw3];exact Oa.out.set tZ qA h0B FE hpv 7 _
    have Uu:Hid (AtR (p<·) w3 at_ (.slice I7 I8 I9) (.slice Ja Jb Jc)):=by show AtR _ _ _ _ _;rw [hw3];exact Ob.out.above (bZ.set 7 _)
    have Uv:Hid (Rd (p<·) w3 (dU ar) [.slice Ma Mc Md]):=by show Rd _ _ _ _;rw [hw3];exact Oc.out.above (bZ.set 7 _)
    rw [<- hw3];clear hw3 d7 f7 Oa Ob Oc;have HI3:=hid I3;have d8:=I3.pb.cell 8 _ rfl;have hl3:=I3.pb.lt;have CC:=hid (yM ci B0 _ w3 (HR.out.gq.below (I3.bl.mono (by omega))) (by omega) RU);clear I3;go_wp2_with fail
    refine CC.out.mono ?_;rintro e Xn ⟨Yo,rfl,RV,Qk⟩;obtain ⟨Ql,Qm,Qn,rfl⟩:=Rd.au RV;have Qo:=HI3.out.grown (Es Qk);have Od:=hid Qo;have Oe:=hid (Uu.out.above (bZ.grown (Es Qk)));have Og:=hid (Uv.out.above (bZ.grown (Es Qk)));have Oh:=hid (RV.weaken (ok':=(p<·)) (fun b hb=>by omega));have d8:=Qo.pb.cell 8 _ rfl;have f8:=Qo.pb.free 8;clear Qo HI3 Uu Uv CC RV Qk hl3;go_upto_region 7 with (fail)
    obtain ⟨w4,hw4⟩:∃ w4,w4=Xn.setCell ⟨p,8,none⟩ (.slice Ql Qm Qn):=⟨_,rfl⟩;have I4:IS B0 B bo bi p yL (acc++ah.aC (l.take k)) rows [.int .i64 kd,.string t,.string d,.string ti,.string at_.id,.slice I7 I8 I9,.slice Ja Jb Jc,.slice Ma Mc Md,.slice Ql Qm Qn,.slice ak nk ck] wr w4:=by rw [hw4];exact Od.out.set tZ qA h0B FE hpv 8 _
    have Xo:Hid (Gu (fun b=>b<B0\/p<b) w4 at_ ar ci ks (.slice I7 I8 I9) (.slice Ja Jb Jc) (.slice Ma Mc Md) (.slice Ql Qm Qn) (.slice ak nk ck)):=by
     show Gu _ _ _ _ _ _ _ _ _ _ _;refine ⟨?_,?_,?_,?_⟩
     ·rw [hw4];exact (Oe.out.above (bZ.set 8 _)).weaken (fun b hb=>.inr hb)
     ·rw [hw4];exact (Og.out.above (bZ.set 8 _)).weaken (fun b hb=>.inr hb)
     ·rw [hw4];exact (Oh.out.above (bZ.set 8 _)).weaken (fun b hb=>.inr hb)
     ·exact (HR.out.kids.below (I4.bl.mono (by omega))).weaken (fun b hb=>.inl hb)
    rw [<- hw4];clear hw4 d8 f8 Od Oe Og Oh;have HI4:=hid I4;obtain ⟨iI,Mq,Co,Cq,Cr⟩:=info_parts K6;obtain ⟨ao,co,rfl⟩:=lI I4.ol.own;obtain ⟨m,hm⟩:∃ m,m=(acc++ah.aC (l.take k)).length:=⟨_,rfl⟩;have hm1:m+(ah.aW ks+1)<=1000000:=by have h1:=ah.sZ l k _ HX.out;rw [ah.sz] at h1;rw [hm,YM,ah.gJ];omega
    have HM:=hid hm;have e0:=I4.pb.cell 0 _ rfl;have e1:=I4.pb.cell 1 _ rfl;have e2:=I4.pb.cell 2 _ rfl;have e3:=I4.pb.cell 3 _ rfl;have e4:=I4.pb.cell 4 _ rfl;have e5:=I4.pb.cell 5 _ rfl;have e6:=I4.pb.cell 6 _ rfl;have e7:=I4.pb.cell 7 _ rfl;have e8:=I4.pb.cell 8 _ rfl;have e9:=I4.pb.cell 9 _ rfl;have eb:w4.cell? ⟨bo,0,none⟩=some (.slice ao m co):=by have:=I4.ol.bx;rw [hm];simp [Y5,this]
    have fb:w4.frozen? ⟨bo,0,none⟩=false:=by have:=I4.ol.bx;simp [World.frozen?,this]
    have Qp:Hid (w4.ownsRow B 52 10 (.slice ao m co) m rows.flatten):=by show World.ownsRow _ _ _ _ _ _ _;rw [hm];exact I4.ol.own
    have hs4:B<=w4.heap.size:=I4.ol.I6;have Ce:=hid I4.ol.bx;rw [<- hm] at Ce;have Yp:p<w4.heap.size:=I4.pb.lt;have hb4:bo<w4.heap.size:=by omega
    have Ii:=hid I4.pb;have RX:(Value.slice ao m co).ownBlock≠some p:=by rw [hm];exact hpv
    have tX:Hid (rows.flatten.length=m*10):=Qp.out.1;have RY:Hid (IS B0 B bo bi p (.slice ao m co) (acc++ah.aC (l.take k)) rows [.int .i64 kd,.string t,.string d,.string ti,.string at_.id,.slice I7 I8 I9,.slice Ja Jb Jc,.slice Ma Mc Md,.slice Ql Qm Qn,.slice ak nk ck] wr w4):=by show IS _ _ _ _ _ _ _ _ _ _ _;rw [hm];exact HI4.out
    have Uw:Hid (∀ g,(Value.slice ao m co).ownBlock=some g->g<p):=by show ∀ g,_;rw [hm];exact Uo.out
    rw [<- hm] at N8;clear I4 hm HI4 Uo;have Ux:=hid (ah.nD kd t d ti Xo.out)
    go_cut [] (fun wx=>eX B0 B bo bi (.slice ao m co) w4 (acc++ah.aC (l.take k)++[ah.mk kd t d ti at_ ar ci ks]) wx)
    case first=>
     go_region_law (refine step_append_lies _ rfl (.tmp 27) (.tmp 30) 45 rfl B 52 iI _ 10 192 Tryz.underlying45 Mq Co Cq Cr rfl (by decide) (.slice ao m co) m rows.flatten rfl (Qp.out.alloc _) ⟨w4.heap.size,0,none⟩ 1 1 [.int .i64 0,.string ⟨#[]⟩,.string ⟨#[]⟩,.string ⟨#[]⟩,.string ⟨#[]⟩,.slice none 0 0,.slice none 0 0,.slice none 0 0,.slice none 0 0,.slice none 0 0] rfl rfl (jP w4 _ _) (by intro u hu;simp at hu;rcases hu with rfl | rfl | rfl<;>rfl) (by omega) (by unfold maxLen;omega) (by omega) (by show B<=(w4.alloc _).heap.size;rw [World.size_alloc];omega) _ rfl ?_;intro g cap w5 hown hgrow hat Xp;have hix:(m:Int)<(m:Int)+1:=(by omega);have hcp:=GR hown;have q0:=dF hown tX.out 0 _ rfl (by omega);have z0:=hown.frozenAt (m*10+0);have q1:=dF hown tX.out 1 _ rfl (by omega);have z1:=hown.frozenAt (m*10+1);have q2:=dF hown tX.out 2 _ rfl (by omega);have z2:=hown.frozenAt (m*10+2);have q3:=dF hown tX.out 3 _ rfl (by omega);have z3:=hown.frozenAt (m*10+3);have q4:=dF hown tX.out 4 _ rfl (by omega);have z4:=hown.frozenAt (m*10+4);have q5:=dF hown tX.out 5 _ rfl (by omega);have z5:=hown.frozenAt (m*10+5);have q6:=dF hown tX.out 6 _ rfl (by omega);have z6:=hown.frozenAt (m*10+6);have q7:=dF hown tX.out 7 _ rfl (by omega);have z7:=hown.frozenAt (m*10+7);have q8:=dF hown tX.out 8 _ rfl (by omega);have z8:=hown.frozenAt (m*10+8);have q9:=dF hown tX.out 9 _ rfl (by omega);have z9:=hown.frozenAt (m*10+9);obtain ⟨qb,zb,hgb⟩:=K7 Ce.out hown hgrow Qp.out tZ hs4;simp only [Nat.add_zero] at q0 z0;have Et:=Oi Ii.out hgrow RX;have r0:=Et.cell 0 _ rfl;have r1:=Et.cell 1 _ rfl;have r2:=Et.cell 2 _ rfl;have r3:=Et.cell 3 _ rfl;have r4:=Et.cell 4 _ rfl;have r5:=Et.cell 5 _ rfl;have r6:=Et.cell 6 _ rfl;have r7:=Et.cell 7 _ rfl;have r8:=Et.cell 8 _ rfl;have r9:=Et.cell 9 _ rfl;have Oj:=hat.imp_right (fun e=>(Nat.le_trans (Nat.le_succ w4.heap.size) (Nat.le_of_eq ((World.size_alloc _ _).symm.trans e.symm))));have RZ:=Eu RY.out HM.out tZ qA hoi BA FE Uw.out Ux.out hown rfl tX.out hgrow Oj;simp only [ten] at RZ;have PT:=hid RZ;clear RZ Et hat Oj)
     all_goals
      go_wp2_with fail
      go_meet
      first
      | with_reducible exact PT.out.1
      | with_reducible exact PT.out.2
    case rest=>
     obtain ⟨w7,hw7⟩:∃ w7:World,w7=wc:=⟨_,rfl⟩;subst hw7;have Ol:cu bo vo w w4:=by have hb:=RY.out.bl;have hk:=Qi.out;refine ⟨Nat.le_trans hk.1 hb.size,hb.os.trans hk.2.1,hb.tape.trans hk.2.2.1,hb.output.trans hk.2.2.2.1,fun b hb' hne yK=>(hb.block b ?_).trans (hk.2.2.2.2 b hb' hne yK)⟩;rw [Un.out];exact Nat.lt_of_lt_of_le hb' hk.1
     have Xq:=eX.trans Ol N8.out hcut;obtain ⟨Xr,Iy,R5,R6,Uy⟩:=Xq;obtain ⟨g7,o7,Xt,T9,Yq,Yr,Uz,hgo,_,_,Om,K8⟩:=gT (HS.out.below (R6.below BA (by omega) zQ.out (by omega))) HX.out;cases hgo
     have k9:=Om.c9;have kb:w7.cell? ⟨bi,0,none⟩=some (FH bo bi):=by have:=R5.fn;simp [Y5,this]
     unfold FH at kb;have hsk:=ah.cZ l k _ HX.out;rw [ah.sz] at hsk;have IK:=hid (IH.out (ah.aW ks) (by omega) ks B0 B bo bi (acc++ah.aC (l.take k)++[ah.mk kd t d ti at_ ar ci ks]) Iy Uz Xr w7.drew (YI _) (by omega) (K8.kids.below ⟨rfl,rfl,rfl,YI _,fun _ _=>rfl⟩) BA Qh tZ qA hoi uQ R5.drew (by rw [YM,<- HM.out,List.length_singleton];omega));have Oo:=hid R6.drew;have Oq:=hid Uy;obtain ⟨UA,UC,UD,rfl⟩:=Rd.au K8.kids;clear hcut R5 R6 Uy K8 Om Ol RY Uw Ce Ii Qp Ux;go_upto_region 8 with (fail)
     go_still_tail 6,(by kernel_rfl)
     change wpList _ _ _ _ _ w7.drew;go_wp2_with fail
     refine IK.out.mono ?_;rintro e w8 ⟨rfl,Ot⟩;have R7:=hid (eX.trans Oo.out Oq.out Ot);clear Ot IK Oo Oq k9 kb;go_wp2_with fail
     go_roundw;case rel=>
      refine ⟨k+1,by omega,by go_num,?_⟩;rw [ah.pK l k _ HX.out,ah.deep];have:=R7.out;simp only [Y2,List.singleton_append] at this;exact this
     case measure=>simp [intOf];omega
   ·have hkl:k=l.length:=by omega
    subst hkl;rw [List.take_length] at pI;have HO:=hid pI;clear pI;go_wp2
    go_end0
    exact ⟨rfl,yL,rows,HO.out,GN,hor⟩
open Go.RowKit
mutual
def aj.inls:aj->List ah
 | .mk _ _ _ _ _ _ _ li ks=>ah.aC li++aj.aK ks
def aj.aK:List aj->List ah
 | []=>[]
 | x::l=>x.inls++aj.aK l
end
theorem aj.rG (l m:List aj):aj.aK (l++m)=aj.aK l++aj.aK m:=by
 induction l with
 | nil=>rw [aj.aK];rfl
 | cons x l ih=>rw [List.cons_append,aj.aK,aj.aK,ih,Y2]
theorem aj.pO (l:List aj) (k:Nat) (x:aj) (h:l[k]?=some x):aj.aK (l.take (k+1))=aj.aK (l.take k)++x.inls:=by rw [List.take_add_one,h,aj.rG];simp [aj.aK]
theorem aj.BD (l:List aj) (k:Nat) (x:aj) (h:l[k]?=some x):(aj.aK (l.take k)).length+x.inls.length<=(aj.aK l).length:=by
 have e:aj.aK l=aj.aK (l.take (k+1))++aj.aK (l.drop (k+1)):=by rw [<- aj.rG,List.take_append_drop]
 have e2:=congrArg List.length e;rw [aj.pO l k x h] at e2;simp only [YM] at e2;omega
def Me (bi bk:Nat):Zw:=.func (.func 43) #[] #[.pointer (some ⟨bi,0,none⟩),.pointer (some ⟨bk,0,none⟩)]
def Ev (bi bk:Nat) (w:World):Prop:=w.heap[bk]?=some (.cells #[Me bi bk] 87 (0,0))
theorem Ev.keep {bi bk bo B:Nat} {vo:Zw} {w w':World} (h:Ev bi bk w) (hk:cu bo vo w w') (hne:bk≠bo) (hb:bk<B) (hv:∀ g,vo.ownBlock=some g->B<=g):Ev bi bk w':=
 (hk.2.2.2.2 bk (Array.getElem?_eq_some_iff.1 h).1 hne (fun e=>by have:=hv bk e;omega)).trans h
def Jd (B0 B bo bi:Nat) (vo:Zw) (w:World) (acc:List ah) (l:List aj) (vi:Zw) (wr:World):Prop:=
 ∃ k:Nat,k<=l.length/\vi=.int .i64 k/\eX B0 B bo bi vo w (acc++aj.aK (l.take k)) wr
theorem Ew (n:Nat):∀ (l:List aj) (B0 B bo bi bk:Nat) (acc:List ah) (pG:List (List Zw)) (v vo:Zw) (w:World),aj.aW l<=n->n<=1000000->Rd (·<B0) w (aX l) [v]->B0<=bo->B0<=bi->bo<B->bi<B->bo≠bi->bk<B->bk≠bo->aj.ku l->OL B0 B bo bi bo vo acc pG w->Ev bi bk w->acc.length+(aj.aK l).length<=1000000 -> Calls Tryz.prog 43 #[v,.pointer (some ⟨bi,0,none⟩),.pointer (some ⟨bk,0,none⟩)] w fun e w'=>e=.returned (.tuple #[])/\eX B0 B bo bi vo w (acc++aj.aK l) w':=by
 induction n using Nat.strongRecOn with
 | _ n ih=>
  intro l B0 B bo bi bk acc pG v vo w hn hnm hrd BA Qh tZ qA hoi hkB hko hbd pI UF hal;obtain ⟨a,cap,hv,hs⟩:=Rd.aD hrd;obtain rfl:v=.slice a l.length cap:=by simpa using hv
  have hcap:l.length<=cap:=by simpa using hs.le
  have hll:=aj.l7 l;have hmx:=hs.max;have HS:=hid hs;have IH:=hid ih;have nH:=hid hbd;have LW:=hid UF;have R0:Hid (Jd B0 B bo bi vo w acc l (.int .i64 0) w):=⟨0,Nat.zero_le _,rfl,vo,pG,by rw [List.take_zero,aj.aK,List.append_nil];exact pI,⟨YI _,rfl,rfl,rfl,fun _ _ _ _=>rfl⟩,.inl rfl⟩;have yK:∀ g,vo.ownBlock=some g->B<=g:=fun g hg=>(pI.own.lt g hg).1
  have zQ:=hid yK;have hBw:=pI.I6;clear hs hv hrd ih hbd pI yK UF;unfold maxLen at hmx;go_enter Tryz.func43,Tryz.ntmps43;go_wp2
  go_loopw [7] (fun vi wr=>Jd B0 B bo bi vo w acc l vi wr) (fun i _=>l.length-(intOf i).toNat)
  case atStart=>exact R0.out
  case round=>
   obtain ⟨k,hk,rfl,yL,rows,pI,GN,hor⟩:=hrel;clear R0;by_cases hlt:k<l.length
   ·obtain ⟨x,hx⟩:∃ x,l[k]?=some x:=⟨_,List.getElem?_eq_getElem hlt⟩;obtain ⟨kd,lv,i,t,d,ti,at_,li,ks⟩:=x;have hbel:Below B0 w wr:=GN.below BA (by omega) zQ.out (by omega);obtain ⟨g,off,vc,vp,vl,vk,rfl,hok,hbl,hc,hR⟩:=jG (HS.out.below hbel) hx;have c9:=hc.c9;have hb1:=aj.lu l k _ nH.out hx;rw [aj.bd] at hb1;obtain ⟨hn1,hn2,RS,RU,uQ⟩:=hb1;have hsz:=aj.cZ l k _ hx;rw [aj.sz] at hsz;have hln:=aj.BD l k _ hx;rw [aj.inls,YM] at hln;have Xu:=ah.gJ li;obtain ⟨al,nl,cl,rfl⟩:=Rd.au hR.line;have kb:wr.cell? ⟨bi,0,none⟩=some (FH bo bi):=by
     have:=pI.fn;simp [Y5,this]
    unfold FH at kb;have CI:=hid (Er (ah.aW li) li B0 B bo bi (acc++aj.aK (l.take k)) rows (.slice al nl cl) yL wr.drew (YI _) RU (hR.line.below ⟨rfl,rfl,rfl,YI _,fun _ _=>rfl⟩) BA Qh tZ qA hoi RS pI.drew (by rw [YM];omega));have HX:=hid hx;have Qi:=hid GN.drew;have N8:=hid hor;clear hR hx pI GN hor hbel hc hbl;go_upto_region 3 with (fail)
    go_still_tail 6,(by kernel_rfl)
    change wpList _ _ _ _ _ wr.drew;go_wp2_with fail
    refine CI.out.mono ?_;rintro e w1 ⟨rfl,UG⟩;obtain ⟨R8,iP,UH,Ou,UJ⟩:=eX.trans Qi.out N8.out UG;obtain ⟨g7,o7,Xt,T9,Yt,Uz,hgo,_,_,Om,K8⟩:=jG (HS.out.below (Ou.below BA (by omega) zQ.out (by omega))) HX.out;cases hgo
    have k10:=Om.c10;have UK:w1.cell? ⟨bk,0,none⟩=some (Me bi bk):=by have:=LW.out.keep Ou hko hkB zQ.out;unfold Ev at this;simp [Y5,this]
    unfold Me at UK;obtain ⟨UA,UC,UD,rfl⟩:=Rd.au K8.kids;have IK:=hid (IH.out (aj.aW ks) (by omega) ks B0 B bo bi bk (acc++aj.aK (l.take k)++ah.aC li) iP (.slice UA UC UD) R8 w1.drew (YI _) (by omega) (K8.kids.below ⟨rfl,rfl,rfl,YI _,fun _ _=>rfl⟩) BA Qh tZ qA hoi hkB hko uQ UH.drew (LW.out.keep Ou.drew hko hkB zQ.out) (by rw [YM,YM];omega));have Ov:=hid Ou.drew;have Ow:=hid UJ;clear CI UG UH Ou UJ K8 Om kb c9 Qi N8;go_upto_region 4 with (fail)
    go_still_tail 6,(by kernel_rfl)
    change wpList _ _ _ _ _ w1.drew;go_wp2_with fail
    refine IK.out.mono ?_;rintro e w8 ⟨rfl,Ot⟩;have R7:=hid (eX.trans Ov.out Ow.out Ot);clear Ot IK Ov Ow k10 UK;go_wp2_with fail
    go_roundw;case rel=>
     refine ⟨k+1,by omega,by go_num,?_⟩;rw [aj.pO l k _ HX.out,aj.inls];have:=R7.out;simp only [Y2] at this ⊢;exact this
    case measure=>simp [intOf];omega
   ·have hkl:k=l.length:=by omega
    subst hkl;rw [List.take_length] at pI;have HO:=hid pI;clear pI;go_wp2
    go_end0
    exact ⟨rfl,yL,rows,HO.out,GN,hor⟩
open Go.RowKit
def aP (b:Nat) (v:Zw) (t:TypeId) (w:World):Prop:=w.heap[b]?=some (.cells #[v] t (0,0))
section
variable {b:Nat} {v:Zw} {t:TypeId} {w w':World}
theorem aP.lt (h:aP b v t w):b<w.heap.size:=(Array.getElem?_eq_some_iff.1 h).1
theorem aP.cell (h:aP b v t w):w.cell? ⟨b,0,none⟩=some v:=by unfold aP at h;simp [Y5,h]
theorem aP.free (h:aP b v t w):w.frozen? ⟨b,0,none⟩=false:=by unfold aP at h;simp [World.frozen?,h]
theorem aP.set (h:aP b v t w) (u:Zw):aP b u t (w.setCell ⟨b,0,none⟩ u):=tq h
theorem aP.far (h:aP b v t w) {q j:Nat} (hq:b≠q) (u:Zw):aP b v t (w.setCell ⟨q,j,none⟩ u):=(Below.heap_setCell w ⟨q,j,none⟩ u b hq).trans h
theorem aP.alloc (h:aP b v t w) (o:Obj):aP b v t (w.alloc o):=(YR w o b h.lt).trans h
theorem aP.new (w:World) (v:Zw) (t:TypeId):aP w.heap.size v t (w.alloc (.cells #[v] t)):=heap_alloc_new w _
theorem aP.below (h:aP b v t w) {B:Nat} (hB:b<B) (hb:Below B w w'):aP b v t w':=(hb.block b hB).trans h
end
theorem BF {w:World} {B B':Nat} {e:TypeId} {k n:Nat} {v:Zw} {xs:List Zw} (h:w.ownsRow B e k v n xs) (hB:B'<=B):w.ownsRow B' e k v n xs:=
 ⟨h.1,h.2.imp id fun ⟨g,cap,cur,h1,h2,h3⟩=>⟨g,cap,cur,h1,Nat.le_trans hB h2,h3⟩⟩
theorem vZ (l:List aj) (v:Zw) (w:World) (h:Rd (·<w.heap.size) w (aX l) [v]) (hbd:aj.ku l) (hsz:aj.aW l<=1000000) (hln:(aj.aK l).length<=1000000) : Calls Tryz.prog 22 #[v] w fun e w'=>∃ v' rows,e=.returned v'/\w'.ownsRow w.heap.size 52 10 v' (aj.aK l).length rows.flatten/\aG (fun _=>True) w' ((aj.aK l).map ah.d) rows/\(∀ r∈rows,r.length=10)/\Below w.heap.size w w':=by
 obtain ⟨va,vn,vc,rfl⟩:=Rd.au h;have HR:=hid h;have nH:=hid hbd;clear h hbd;obtain ⟨N,hN⟩:∃ N,N=w.heap.size:=⟨_,rfl⟩;go_enter Tryz.func22,Tryz.ntmps22;go_upto_region 3 with (fail)
 obtain ⟨wA,iV⟩:∃ wA,wA=(w.alloc (.cells #[.slice none 0 0] 45)).alloc (.cells #[.nilFunc] 81):=⟨_,rfl⟩;have b0:aP N (.slice none 0 0) 45 wA:=by rw [iV,hN];exact (aP.new w _ _).alloc _
 have b1:aP (N+1) .nilFunc 81 wA:=by
  rw [iV,hN];have:=aP.new (w.alloc (.cells #[.slice none 0 0] 45)) .nilFunc 81
  rwa [World.size_alloc] at this
 have bl:Below N w wA:=by rw [iV,hN];exact ((Below.refl _ _).alloc (YI _) _).alloc (by simp) _
 have sz:wA.heap.size=N+2:=by rw [iV,hN];simp
 rw [<- iV,<- hN];rw [<- hN] at HR;have HN:=hid hN;clear iV hN;have c1:=b1.cell;have f1:=b1.free;go_upto_region 4 with (fail)
 obtain ⟨wB,La⟩:∃ wB,wB=wA.setCell ⟨N+1,0,none⟩ (FH N (N+1)):=⟨_,rfl⟩;have d0:aP N (.slice none 0 0) 45 wB:=by rw [La];exact b0.far (by omega) _
 have d1:aP (N+1) (FH N (N+1)) 81 wB:=by rw [La];exact b1.set _
 have dl:Below N w wB:=by rw [La];exact bl.setCell (p:=⟨N+1,0,none⟩) (by show N<=N+1;omega) _
 have dz:wB.heap.size=N+2:=by rw [La];simpa [World.setCell] using sz
 unfold FH at La;rw [<- La];clear La b0 b1 bl sz c1 f1;go_upto_region 5 with (fail)
 obtain ⟨wC,Lb⟩:∃ wC,wC=wB.alloc (.cells #[.nilFunc] 87):=⟨_,rfl⟩;have b0:aP N (.slice none 0 0) 45 wC:=by rw [Lb];exact d0.alloc _
 have b1:aP (N+1) (FH N (N+1)) 81 wC:=by rw [Lb];exact d1.alloc _
 have b2:aP (N+2) .nilFunc 87 wC:=by rw [Lb,<- dz];exact aP.new _ _ _
 have bl:Below N w wC:=by rw [Lb];exact dl.alloc (by omega) _
 have sz:wC.heap.size=N+3:=by rw [Lb];simp [dz]
 rw [<- Lb];clear Lb d0 d1 dl dz;have c2:=b2.cell;have f2:=b2.free;go_upto_region 6 with (fail)
 obtain ⟨wD,Je⟩:∃ wD,wD=wC.setCell ⟨N+2,0,none⟩ (Me (N+1) (N+2)):=⟨_,rfl⟩;have d0:aP N (.slice none 0 0) 45 wD:=by rw [Je];exact b0.far (by omega) _
 have d1:aP (N+1) (FH N (N+1)) 81 wD:=by rw [Je];exact b1.far (by omega) _
 have d2:aP (N+2) (Me (N+1) (N+2)) 87 wD:=by rw [Je];exact b2.set _
 have dl:Below N w wD:=by rw [Je];exact bl.setCell (p:=⟨N+2,0,none⟩) (by show N<=N+2;omega) _
 have dz:wD.heap.size=N+3:=by rw [Je];simpa [World.setCell] using sz
 have c2:=d2.cell;unfold Me at Je c2;rw [<- Je];clear Je b0 b1 b2 bl sz f2;have OLD:OL N (N+3) N (N+1) N (.slice none 0 0) [] [] wD:=⟨d0,d1,⟨rfl,.inl ⟨rfl,rfl⟩⟩,aG.none,by simp,by omega⟩;have CB:=hid (Ew (aj.aW l) l N (N+3) N (N+1) (N+2) [] [] (.slice va vn vc) (.slice none 0 0) wD (YI _) hsz (HR.out.below dl) (YI _) (by omega) (by omega) (by omega) (by omega) (by omega) (by omega) nH.out OLD d2 (by simpa using hln));have UL:=hid dl;clear OLD d0 d1 d2 dl;go_wp2_with fail
 refine CB.out.mono ?_;rintro e w1 ⟨rfl,vo,rows,Qq,UM,Xv⟩;have kb:w1.cell? ⟨N,0,none⟩=some vo:=by have:=Qq.bx;simp [Y5,this]
 obtain ⟨ao,co,rfl⟩:=lI Qq.own;have HO:=hid Qq;have HK:Hid (Below N w w1):=UL.out.trans (UM.below (B:=N+3) (YI _) (by omega) (by simp [Value.ownBlock]) (by omega));clear Qq UM Xv CB UL c2;go_wp2_with fail
 go_ret;refine ⟨_,rows,rfl,?_,aG.keep (fun _ _ _=>⟨trivial,rfl⟩) _ _ HO.out.red,HO.out.len,HN.out ▸ HK.out⟩;have:=BF HO.out.own (B':=w.heap.size) (by have:=HN.out;omega);simpa using this
end Go.Proofs.YtnmldmofggkoeaaGreatDoor

