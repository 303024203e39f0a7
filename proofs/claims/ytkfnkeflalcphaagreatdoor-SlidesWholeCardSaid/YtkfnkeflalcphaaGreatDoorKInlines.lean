/- tree.Inlines$1: the inlines, and those in them, are added to what the box holds. tree.Inlines$2 and tree.Inlines: all inlines of blocks, in document order. tree.Inlines: all inlines of blocks, in document order. -/
import Derived.Test.YtkfnkeflalcphaaGreatDoorKRowE
import Derived.StillTailTactics
import Derived.Laws.EntriesVeiled
set_option maxHeartbeats 8000000
set_option maxRecDepth 100000
open Go.Lib (hid)
namespace Go.Proofs.YtkfnkeflalcphaaGreatDoor
open Nat renaming le_refl->jj9
open List renaming length_append->jjx
open Go.RowKit.Below renaming heap_alloc->jk3
open Go.World renaming cell?->jl1
open Go.RowKit
set_option linter.unusedVariables false
set_option linter.unusedSimpArgs false
theorem MX (n:Nat):∀ (l:List aj) (B0 B bo bi:Nat) (acc:List aj) (vO:List (List Value)) (v vo:Value) (w:World),aj.aV l<=n->n<=1000000->Rd (·<B0) w (aY l) [v]->B0<=bo->B0<=bi->bo<B->bi<B->bo≠bi->aj.kV l->OL B0 B bo bi bo vo acc vO w->acc.length+aj.aV l<=1000000 -> Calls Tryz.prog 81 #[v,.pointer (some ⟨bo,0,none⟩),.pointer (some ⟨bi,0,none⟩)] w fun e w'=>e=.returned (.tuple #[])/\jm B0 B bo bi vo w (acc++aj.bI l) w':=by
 induction n using Nat.strongRecOn with
 | _ n ih=>
  intro l B0 B bo bi acc vO v vo w hn hnm hrd J4 h0i CF zD hoi hbd vP hal;obtain ⟨a,cap,hv,hs⟩:=Rd.aB hrd;obtain rfl:v=.slice a l.length cap:=by simpa using hv
  have hcap:l.length<=cap:=by simpa using hs.le
  have hll:=aj.dw l;have hmx:=hs.max;have HS:=hid hs;have IH:=hid ih;have kX:=hid hbd;have R0:Hid (Tv B0 B bo bi vo w acc l (.int .i64 0) w):=⟨0,Nat.zero_le _,rfl,vo,vO,by rw [List.take_zero,aj.bI,List.append_nil];exact vP,⟨jj9 _,rfl,rfl,rfl,fun _ _ _ _=>rfl⟩,.inl rfl⟩;have CG:∀ g,vo.ownBlock=some g->B<=g:=fun g hg=>(vP.own.lt g hg).1
  have VT:=hid CG;have hBw:=vP.Tw;clear hs hv hrd ih hbd vP CG;unfold maxLen at hmx;go_enter Tryz.func81,Tryz.ntmps81;go_wp2
  go_loopw [8] (fun vi wr=>Tv B0 B bo bi vo w acc l vi wr) (fun i _=>l.length-(intOf i).toNat)
  case atStart=>exact R0.out
  case round=>
   obtain ⟨k,hk,rfl,Gi,rows,vP,QE,hor⟩:=hrel;clear R0;by_cases hlt:k<l.length
   ·obtain ⟨x,hx⟩:∃ x,l[k]?=some x:=⟨_,List.getElem?_eq_getElem hlt⟩;obtain ⟨kd,t,d,ti,at_,ar,ci,ks⟩:=x;have hbel:Below B0 w wr:=QE.below J4 (by omega) VT.out (by omega);obtain ⟨g,off,vc,vp,va,vi,vk,rfl,hok,hbl,hc,hR⟩:=fH (HS.out.below hbel) hx;obtain ⟨c0,c1,c2,c3,c4,c5,c6,c7,c8,c9⟩:=hc;have hb1:=aj.lG l k _ kX.out hx;rw [aj.bd] at hb1;obtain ⟨hn1,hn2,hn3,QF,Tm⟩:=hb1;have hsz:=aj.bq l k _ hx;rw [aj.sz] at hsz;obtain ⟨ac,nc,cc,rfl⟩:=Rd.ay hR.at_.cls
    obtain ⟨ap,np,cp,rfl⟩:=Rd.ay hR.at_.aJ
    obtain ⟨Aa,na,ca,rfl⟩:=Rd.ay hR.args;obtain ⟨Ai,ni,cci,rfl⟩:=Rd.ay hR.dF;obtain ⟨ak,nk,ck,rfl⟩:=Rd.ay hR.kids;have HR:=hid hR;have HX:=hid hx;have HOL:=hid vP;have HKO:=hid QE;have Ze:=hid hor;have Zf:=vP.Tw;clear hR hx vP QE hor hbel;go_upto_region 4 with (fail)
    obtain ⟨p,hp⟩:∃ p,p=wr.heap.size:=⟨_,rfl⟩;obtain ⟨wA,iF⟩:∃ wA,wA=wr.alloc (.cells #[.int .i64 kd,.string t,.string d,.string ti,.string at_.id,.slice ac nc cc,.slice ap np cp,.slice Aa na ca,.slice Ai ni cci,.slice ak nk ck] 66):=⟨_,rfl⟩;have hpv:Gi.ownBlock≠some p:=by rw [hp];exact own_ne HOL.out.own (jj9 _)
    have Bo:B<=p:=by rw [hp];exact Zf
    have OA:OL B0 B bo bi p Gi (acc++aj.bI (l.take k)) rows wA:=by
     rw [iF];refine ⟨(jk3 _ _ _ (by omega)).trans HOL.out.bx,(jk3 _ _ _ (by omega)).trans HOL.out.fn,HOL.out.own.alloc _,aI.keep (fun b hb hlt'=>⟨?_,jk3 _ _ b hlt'⟩) _ _ HOL.out.red,HOL.out.len,by simp;omega⟩;rcases hb with hb | hb
     ·exact .inl hb
     ·exact .inr ⟨hb.1,hb.2.1,by omega⟩
    have PA:PB p [.int .i64 kd,.string t,.string d,.string ti,.string at_.id,.slice ac nc cc,.slice ap np cp,.slice Aa na ca,.slice Ai ni cci,.slice ak nk ck] wA:=by rw [iF,hp];exact heap_alloc_new wr _
    have bA:Below B0 wr wA:=by rw [iF];exact (Below.refl _ _).alloc (by omega) _
    have gA:wr.grownBy wA none:=by rw [iF];exact World.grownBy_alloc _ _ none
    have hpA:wA.heap.size=p+1:=by rw [iF,hp];simp
    have XE:=hid hp;have HVP:Hid (∀ g,Gi.ownBlock=some g->g<p):=fun g hg=>by rw [hp];exact (HOL.out.own.lt g hg).2
    have Zg:=hid hpA;have hBA:B0<=wA.heap.size:=by omega
    rw [<- iF,<- hp];clear hp hpA iF c0 c1 c2 c3 c4 c5 c6 c7 c8 c9 hbl HOL Zf;have HIA:=hid (⟨OA,PA,by rw [XE.out];exact (Below.refl _ _).grown gA (jj9 _) (by simp)⟩:IS B0 B bo bi p Gi (acc++aj.bI (l.take k)) rows [.int .i64 kd,.string t,.string d,.string ti,.string at_.id,.slice ac nc cc,.slice ap np cp,.slice Aa na ca,.slice Ai ni cci,.slice ak nk ck] wr wA);have d4:=PA.cell 4 _ rfl;have d5:=PA.cell 5 _ rfl;have d6:=PA.cell 6 _ rfl;have CT:=hid (yu at_ _ _ B0 wA (HR.out.at_.below bA) hBA hn1 hn2);clear OA PA;go_wp2_with fail
    refine CT.out.mono ?_;rintro e w1 ⟨vc1,vp1,rfl,QG,b1⟩;obtain ⟨Tx,Tz,TA,rfl⟩:=Rd.ay QG.cls;obtain ⟨TD,TF,TG,rfl⟩:=Rd.ay QG.aJ;have I1:=HIA.out.grown (Fh b1);have HI1:=hid I1;have AT1:=hid (QG.weaken (ok':=(p<·)) (fun b hb=>by have:=Zg.out;omega));have d4:=I1.pb.cell 4 _ rfl;have d5:=I1.pb.cell 5 _ rfl;have d6:=I1.pb.cell 6 _ rfl;have f4:=I1.pb.free 4;have f5:=I1.pb.free 5;have f6:=I1.pb.free 6;have h0B:B0<=B:=by omega
    clear I1 CT HIA QG b1 gA bA hBA;go_upto_region 5 with (fail)
    obtain ⟨w2,hw2⟩:∃ w2,w2=((w1.setCell ⟨p,4,none⟩ (.string at_.id)).setCell ⟨p,5,none⟩ (.slice Tx Tz TA)).setCell ⟨p,6,none⟩ (.slice TD TF TG):=⟨_,rfl⟩;have I2:IS B0 B bo bi p Gi (acc++aj.bI (l.take k)) rows [.int .i64 kd,.string t,.string d,.string ti,.string at_.id,.slice Tx Tz TA,.slice TD TF TG,.slice Aa na ca,.slice Ai ni cci,.slice ak nk ck] wr w2:=by rw [hw2];exact ((HI1.out.set CF zD h0B Bo hpv 4 _).set CF zD h0B Bo hpv 5 _).set CF zD h0B Bo hpv 6 _
    have uR:Hid (AtR (p<·) w2 at_ (.slice Tx Tz TA) (.slice TD TF TG)):=by show AtR _ _ _ _ _;rw [hw2];exact ((AT1.out.above (dO.set 4 _)).above (dO.set 5 _)).above (dO.set 6 _)
    rw [<- hw2];clear hw2 d4 d5 d6 f4 f5 f6 HI1 AT1;have HI2:=hid I2;have d7:=I2.pb.cell 7 _ rfl;have hl2:=I2.pb.lt;have CS:=hid (lH ar B0 _ w2 (HR.out.args.below (I2.bl.mono (by omega))) (by omega) hn3);clear I2;go_wp2_with fail
    refine CS.out.mono ?_;rintro e w2b ⟨va1,rfl,hra,ba⟩;obtain ⟨XF,XG,XH,rfl⟩:=Rd.ay hra;have I2b:=HI2.out.grown (Fh ba);have Zh:=hid I2b;have Zi:=hid (uR.out.above (dO.grown (Fh ba)));have Zj:=hid (hra.weaken (ok':=(p<·)) (fun b hb=>by omega));have d7:=I2b.pb.cell 7 _ rfl;have f7:=I2b.pb.free 7;clear I2b HI2 uR CS hra ba hl2;go_upto_region 6 with (fail)
    obtain ⟨w3,hw3⟩:∃ w3,w3=w2b.setCell ⟨p,7,none⟩ (.slice XF XG XH):=⟨_,rfl⟩;have I3:IS B0 B bo bi p Gi (acc++aj.bI (l.take k)) rows [.int .i64 kd,.string t,.string d,.string ti,.string at_.id,.slice Tx Tz TA,.slice TD TF TG,.slice XF XG XH,.slice Ai ni cci,.slice ak nk ck] wr w3:=by rw [hw3];exact Zh.out.set CF zD h0B Bo hpv 7 _
    have AL:Hid (AtR (p<·) w3 at_ (.slice Tx Tz TA) (.slice TD TF TG)):=by show AtR _ _ _ _ _;rw [hw3];exact Zi.out.above (dO.set 7 _)
    have RA3:Hid (Rd (p<·) w3 (fq ar) [.slice XF XG XH]):=by show Rd _ _ _ _;rw [hw3];exact Zj.out.above (dO.set 7 _)
    rw [<- hw3];clear hw3 d7 f7 Zh Zi Zj;have HI3:=hid I3;have d8:=I3.pb.cell 8 _ rfl;have hl3:=I3.pb.lt;have CC:=hid (vQ ci B0 _ w3 (HR.out.dF.below (I3.bl.mono (by omega))) (by omega) QF);clear I3;go_wp2_with fail
    refine CC.out.mono ?_;rintro e w3b ⟨vi1,rfl,hri,bi3⟩;obtain ⟨ai1,ni1,ci1,rfl⟩:=Rd.ay hri;have I3b:=HI3.out.grown (Fh bi3);have Zk:=hid I3b;have Zl:=hid (AL.out.above (dO.grown (Fh bi3)));have Zm:=hid (RA3.out.above (dO.grown (Fh bi3)));have Zn:=hid (hri.weaken (ok':=(p<·)) (fun b hb=>by omega));have d8:=I3b.pb.cell 8 _ rfl;have f8:=I3b.pb.free 8;clear I3b HI3 AL RA3 CC hri bi3 hl3;go_upto_region 7 with (fail)
    obtain ⟨w4,hw4⟩:∃ w4,w4=w3b.setCell ⟨p,8,none⟩ (.slice ai1 ni1 ci1):=⟨_,rfl⟩;have I4:IS B0 B bo bi p Gi (acc++aj.bI (l.take k)) rows [.int .i64 kd,.string t,.string d,.string ti,.string at_.id,.slice Tx Tz TA,.slice TD TF TG,.slice XF XG XH,.slice ai1 ni1 ci1,.slice ak nk ck] wr w4:=by rw [hw4];exact Zk.out.set CF zD h0B Bo hpv 8 _
    have IN4:Hid (tT (fun b=>b<B0\/p<b) w4 at_ ar ci ks (.slice Tx Tz TA) (.slice TD TF TG) (.slice XF XG XH) (.slice ai1 ni1 ci1) (.slice ak nk ck)):=by
     show tT _ _ _ _ _ _ _ _ _ _ _;refine ⟨?_,?_,?_,?_⟩
     ·rw [hw4];exact (Zl.out.above (dO.set 8 _)).weaken (fun b hb=>.inr hb)
     ·rw [hw4];exact (Zm.out.above (dO.set 8 _)).weaken (fun b hb=>.inr hb)
     ·rw [hw4];exact (Zn.out.above (dO.set 8 _)).weaken (fun b hb=>.inr hb)
     ·exact (HR.out.kids.below (I4.bl.mono (by omega))).weaken (fun b hb=>.inl hb)
    rw [<- hw4];clear hw4 d8 f8 Zk Zl Zm Zn;have HI4:=hid I4;obtain ⟨iI,hiI,jd6,jd7,jd8⟩:=info_parts MZ;obtain ⟨ao,co,rfl⟩:=tQ I4.ol.own;obtain ⟨m,hm⟩:∃ m,m=(acc++aj.bI (l.take k)).length:=⟨_,rfl⟩;have hm1:m+(aj.aV ks+1)<=1000000:=by have h1:=aj.Br l k _ HX.out;rw [aj.sz] at h1;rw [hm,jjx,aj.je];omega
    have HM:=hid hm;have e0:=I4.pb.cell 0 _ rfl;have e1:=I4.pb.cell 1 _ rfl;have e2:=I4.pb.cell 2 _ rfl;have e3:=I4.pb.cell 3 _ rfl;have e4:=I4.pb.cell 4 _ rfl;have e5:=I4.pb.cell 5 _ rfl;have e6:=I4.pb.cell 6 _ rfl;have e7:=I4.pb.cell 7 _ rfl;have e8:=I4.pb.cell 8 _ rfl;have e9:=I4.pb.cell 9 _ rfl;have eb:w4.cell? ⟨bo,0,none⟩=some (.slice ao m co):=by have:=I4.ol.bx;rw [hm];simp [jl1,this]
    have fb:w4.frozen? ⟨bo,0,none⟩=false:=by have:=I4.ol.bx;simp [World.frozen?,this]
    have OW4:Hid (w4.ownsRow B 66 10 (.slice ao m co) m rows.flatten):=by show World.ownsRow _ _ _ _ _ _ _;rw [hm];exact I4.ol.own
    have hs4:B<=w4.heap.size:=I4.ol.Tw;have jY:=hid I4.ol.bx;rw [<- hm] at jY;have hp4:p<w4.heap.size:=I4.pb.lt;have hb4:bo<w4.heap.size:=by omega
    have Tk:=hid I4.pb;have jd9:(Value.slice ao m co).ownBlock≠some p:=by rw [hm];exact hpv
    have M4:Hid (rows.flatten.length=m*10):=OW4.out.1;have HI5:Hid (IS B0 B bo bi p (.slice ao m co) (acc++aj.bI (l.take k)) rows [.int .i64 kd,.string t,.string d,.string ti,.string at_.id,.slice Tx Tz TA,.slice TD TF TG,.slice XF XG XH,.slice ai1 ni1 ci1,.slice ak nk ck] wr w4):=by show IS _ _ _ _ _ _ _ _ _ _ _;rw [hm];exact HI4.out
    have HVQ:Hid (∀ g,(Value.slice ao m co).ownBlock=some g->g<p):=by show ∀ g,_;rw [hm];exact HVP.out
    rw [<- hm] at Ze;clear I4 hm HI4 HVP;have RX4:=hid (aj.eu kd t d ti IN4.out)
    go_cut [] (fun wx=>jm B0 B bo bi (.slice ao m co) w4 (acc++aj.bI (l.take k)++[aj.mk kd t d ti at_ ar ci ks]) wx)
    case first=>
     go_region_law (refine step_append_lies _ rfl (.tmp 27) (.tmp 30) 46 rfl B 66 iI _ 10 192 Tryz.underlying46 hiI jd6 jd7 jd8 rfl (by decide) (.slice ao m co) m rows.flatten rfl (OW4.out.alloc _) ⟨w4.heap.size,0,none⟩ 1 1 [.int .i64 0,.string ⟨#[]⟩,.string ⟨#[]⟩,.string ⟨#[]⟩,.string ⟨#[]⟩,.slice none 0 0,.slice none 0 0,.slice none 0 0,.slice none 0 0,.slice none 0 0] rfl rfl (Pv w4 _ _) (by intro u hu;simp at hu;rcases hu with rfl | rfl | rfl<;>rfl) (by omega) (by unfold maxLen;omega) (by omega) (by show B<=(w4.alloc _).heap.size;rw [World.size_alloc];omega) _ rfl ?_;intro g cap w5 hown hgrow hat ji2;have hix:(m:Int)<(m:Int)+1:=(by omega);have hcp:=QH hown;have q0:=gW hown M4.out 0 _ rfl (by omega);have z0:=hown.frozenAt (m*10+0);have q1:=gW hown M4.out 1 _ rfl (by omega);have z1:=hown.frozenAt (m*10+1);have q2:=gW hown M4.out 2 _ rfl (by omega);have z2:=hown.frozenAt (m*10+2);have q3:=gW hown M4.out 3 _ rfl (by omega);have z3:=hown.frozenAt (m*10+3);have q4:=gW hown M4.out 4 _ rfl (by omega);have z4:=hown.frozenAt (m*10+4);have q5:=gW hown M4.out 5 _ rfl (by omega);have z5:=hown.frozenAt (m*10+5);have q6:=gW hown M4.out 6 _ rfl (by omega);have z6:=hown.frozenAt (m*10+6);have q7:=gW hown M4.out 7 _ rfl (by omega);have z7:=hown.frozenAt (m*10+7);have q8:=gW hown M4.out 8 _ rfl (by omega);have z8:=hown.frozenAt (m*10+8);have q9:=gW hown M4.out 9 _ rfl (by omega);have z9:=hown.frozenAt (m*10+9);obtain ⟨qb,zb,hgb⟩:=VU jY.out hown hgrow OW4.out CF hs4;simp only [Nat.add_zero] at q0 z0;have M6:=Zo Tk.out hgrow jd9;have r0:=M6.cell 0 _ rfl;have r1:=M6.cell 1 _ rfl;have r2:=M6.cell 2 _ rfl;have r3:=M6.cell 3 _ rfl;have r4:=M6.cell 4 _ rfl;have r5:=M6.cell 5 _ rfl;have r6:=M6.cell 6 _ rfl;have r7:=M6.cell 7 _ rfl;have r8:=M6.cell 8 _ rfl;have r9:=M6.cell 9 _ rfl;have Qk:=hat.imp_right (fun e=>(Nat.le_trans (Nat.le_succ w4.heap.size) (Nat.le_of_eq ((World.size_alloc _ _).symm.trans e.symm))));have PT1:=M7 HI5.out HM.out CF zD hoi J4 Bo HVQ.out RX4.out hown rfl M4.out hgrow Qk;simp only [ten] at PT1;have PT:=hid PT1;clear PT1 M6 hat Qk)
     all_goals
      go_wp2_with fail
      go_meet
      first
      | with_reducible exact PT.out.1
      | with_reducible exact PT.out.2
    case rest=>
     obtain ⟨w7,hw7⟩:∃ w7:World,w7=wc:=⟨_,rfl⟩;subst hw7;have Zp:fC bo vo w w4:=by have hb:=HI5.out.bl;have hk:=HKO.out;refine ⟨Nat.le_trans hk.1 hb.size,hb.os.trans hk.2.1,hb.tape.trans hk.2.2.1,hb.output.trans hk.2.2.2.1,fun b hb' hne CG=>(hb.block b ?_).trans (hk.2.2.2.2 b hb' hne CG)⟩;rw [XE.out];exact Nat.lt_of_lt_of_le hb' hk.1
     have IO7:=jm.trans Zp Ze.out hcut;obtain ⟨vo7,M8,OL7,KO7,OR7⟩:=IO7;obtain ⟨g7,o7,vc7,vp7,va7,vi7,vk7,hgo,_,_,PD,VW⟩:=fH (HS.out.below (KO7.below J4 (by omega) VT.out (by omega))) HX.out;cases hgo
     have k9:=PD.c9;have kb:w7.cell? ⟨bi,0,none⟩=some (PE bo bi):=by have:=OL7.fn;simp [jl1,this]
     unfold PE at kb;have hsk:=aj.bq l k _ HX.out;rw [aj.sz] at hsk;have IK:=hid (IH.out (aj.aV ks) (by omega) ks B0 B bo bi (acc++aj.bI (l.take k)++[aj.mk kd t d ti at_ ar ci ks]) M8 vk7 vo7 w7.drew (jj9 _) (by omega) (VW.kids.below ⟨rfl,rfl,rfl,jj9 _,fun _ _=>rfl⟩) J4 h0i CF zD hoi Tm OL7.drew (by rw [jjx,<- HM.out,List.length_singleton];omega));have Zq:=hid KO7.drew;have Zr:=hid OR7;obtain ⟨ak7,nk7,ck7,rfl⟩:=Rd.ay VW.kids;clear hcut OL7 KO7 OR7 VW PD Zp HI5 HVQ jY Tk OW4 RX4;go_upto_region 8 with (fail)
     go_still_tail 6,(by kernel_rfl)
     change wpList _ _ _ _ _ w7.drew;go_wp2_with fail
     refine IK.out.mono ?_;rintro e w8 ⟨rfl,Zt⟩;have IO9:=hid (jm.trans Zq.out Zr.out Zt);clear Zt IK Zq Zr k9 kb;go_wp2_with fail
     go_roundw;case rel=>
      refine ⟨k+1,by omega,by go_num,?_⟩;rw [aj.vR l k _ HX.out,aj.deep];have:=IO9.out;simp only [List.append_assoc,List.singleton_append] at this;exact this
     case measure=>simp [intOf];omega
   ·have hkl:k=l.length:=by omega
    subst hkl;rw [List.take_length] at vP;have HO:=hid vP;clear vP;go_wp2
    go_end0
    exact ⟨rfl,Gi,rows,HO.out,QE,hor⟩
open Go.RowKit
mutual
def ah.inls:ah->List aj
 | .mk _ _ _ _ _ _ _ li ks=>aj.bI li++ah.aU ks
def ah.aU:List ah->List aj
 | []=>[]
 | x::l=>x.inls++ah.aU l
end
theorem ah.qQ (l m:List ah):ah.aU (l++m)=ah.aU l++ah.aU m:=by
 induction l with
 | nil=>rw [ah.aU];rfl
 | cons x l ih=>rw [List.cons_append,ah.aU,ah.aU,ih,List.append_assoc]
theorem ah.vS (l:List ah) (k:Nat) (x:ah) (h:l[k]?=some x):ah.aU (l.take (k+1))=ah.aU (l.take k)++x.inls:=by rw [List.take_add_one,h,ah.qQ];simp [ah.aU]
theorem ah.J5 (l:List ah) (k:Nat) (x:ah) (h:l[k]?=some x):(ah.aU (l.take k)).length+x.inls.length<=(ah.aU l).length:=by
 have e:ah.aU l=ah.aU (l.take (k+1))++ah.aU (l.drop (k+1)):=by rw [<- ah.qQ,List.take_append_drop]
 have e2:=congrArg List.length e;rw [ah.vS l k x h] at e2;simp only [jjx] at e2;omega
def XI (bi bk:Nat):Value:=.func (.func 85) #[] #[.pointer (some ⟨bi,0,none⟩),.pointer (some ⟨bk,0,none⟩)]
def Na (bi bk:Nat) (w:World):Prop:=w.heap[bk]?=some (.cells #[XI bi bk] 122 (0,0))
theorem Na.keep {bi bk bo B:Nat} {vo:Value} {w w':World} (h:Na bi bk w) (hk:fC bo vo w w') (hne:bk≠bo) (hb:bk<B) (hv:∀ g,vo.ownBlock=some g->B<=g):Na bi bk w':=
 (hk.2.2.2.2 bk (Array.getElem?_eq_some_iff.1 h).1 hne (fun e=>by have:=hv bk e;omega)).trans h
def TH (B0 B bo bi:Nat) (vo:Value) (w:World) (acc:List aj) (l:List ah) (vi:Value) (wr:World):Prop:=
 ∃ k:Nat,k<=l.length/\vi=.int .i64 k/\jm B0 B bo bi vo w (acc++ah.aU (l.take k)) wr
theorem Nb (n:Nat):∀ (l:List ah) (B0 B bo bi bk:Nat) (acc:List aj) (vO:List (List Value)) (v vo:Value) (w:World),ah.aV l<=n->n<=1000000->Rd (·<B0) w (iO l) [v]->B0<=bo->B0<=bi->bo<B->bi<B->bo≠bi->bk<B->bk≠bo->ah.kV l->OL B0 B bo bi bo vo acc vO w->Na bi bk w->acc.length+(ah.aU l).length<=1000000 -> Calls Tryz.prog 85 #[v,.pointer (some ⟨bi,0,none⟩),.pointer (some ⟨bk,0,none⟩)] w fun e w'=>e=.returned (.tuple #[])/\jm B0 B bo bi vo w (acc++ah.aU l) w':=by
 induction n using Nat.strongRecOn with
 | _ n ih=>
  intro l B0 B bo bi bk acc vO v vo w hn hnm hrd J4 h0i CF zD hoi hkB hko hbd vP hKB hal;obtain ⟨a,cap,hv,hs⟩:=Rd.aB hrd;obtain rfl:v=.slice a l.length cap:=by simpa using hv
  have hcap:l.length<=cap:=by simpa using hs.le
  have hll:=ah.dw l;have hmx:=hs.max;have HS:=hid hs;have IH:=hid ih;have kX:=hid hbd;have HKB:=hid hKB;have R0:Hid (TH B0 B bo bi vo w acc l (.int .i64 0) w):=⟨0,Nat.zero_le _,rfl,vo,vO,by rw [List.take_zero,ah.aU,List.append_nil];exact vP,⟨jj9 _,rfl,rfl,rfl,fun _ _ _ _=>rfl⟩,.inl rfl⟩;have CG:∀ g,vo.ownBlock=some g->B<=g:=fun g hg=>(vP.own.lt g hg).1
  have VT:=hid CG;have hBw:=vP.Tw;clear hs hv hrd ih hbd vP CG hKB;unfold maxLen at hmx;go_enter Tryz.func85,Tryz.ntmps85;go_wp2
  go_loopw [7] (fun vi wr=>TH B0 B bo bi vo w acc l vi wr) (fun i _=>l.length-(intOf i).toNat)
  case atStart=>exact R0.out
  case round=>
   obtain ⟨k,hk,rfl,Gi,rows,vP,QE,hor⟩:=hrel;clear R0;by_cases hlt:k<l.length
   ·obtain ⟨x,hx⟩:∃ x,l[k]?=some x:=⟨_,List.getElem?_eq_getElem hlt⟩;obtain ⟨kd,lv,i,t,d,ti,at_,li,ks⟩:=x;have hbel:Below B0 w wr:=QE.below J4 (by omega) VT.out (by omega);obtain ⟨g,off,vc,vp,vl,vk,rfl,hok,hbl,hc,hR⟩:=FR (HS.out.below hbel) hx;have c9:=hc.c9;have hb1:=ah.lG l k _ kX.out hx;rw [ah.bd] at hb1;obtain ⟨hn1,hn2,hn3,QF,Tm⟩:=hb1;have hsz:=ah.bq l k _ hx;rw [ah.sz] at hsz;have hln:=ah.J5 l k _ hx;rw [ah.inls,jjx] at hln;have ji3:=aj.je li;obtain ⟨al,nl,cl,rfl⟩:=Rd.ay hR.line;have kb:wr.cell? ⟨bi,0,none⟩=some (PE bo bi):=by
     have:=vP.fn;simp [jl1,this]
    unfold PE at kb;have CI:=hid (MX (aj.aV li) li B0 B bo bi (acc++ah.aU (l.take k)) rows (.slice al nl cl) Gi wr.drew (jj9 _) QF (hR.line.below ⟨rfl,rfl,rfl,jj9 _,fun _ _=>rfl⟩) J4 h0i CF zD hoi hn3 vP.drew (by rw [jjx];omega));have HX:=hid hx;have HKO:=hid QE.drew;have Ze:=hid hor;clear hR hx vP QE hor hbel hc hbl;go_upto_region 3 with (fail)
    go_still_tail 6,(by kernel_rfl)
    change wpList _ _ _ _ _ wr.drew;go_wp2_with fail
    refine CI.out.mono ?_;rintro e w1 ⟨rfl,IO1⟩;obtain ⟨vo2,bR,OL2,Zu,OR2⟩:=jm.trans HKO.out Ze.out IO1;obtain ⟨g7,o7,vc7,vp7,vl7,vk7,hgo,_,_,PD,VW⟩:=FR (HS.out.below (Zu.below J4 (by omega) VT.out (by omega))) HX.out;cases hgo
    have k10:=PD.c10;have kb2:w1.cell? ⟨bk,0,none⟩=some (XI bi bk):=by have:=HKB.out.keep Zu hko hkB VT.out;unfold Na at this;simp [jl1,this]
    unfold XI at kb2;obtain ⟨ak7,nk7,ck7,rfl⟩:=Rd.ay VW.kids;have IK:=hid (IH.out (ah.aV ks) (by omega) ks B0 B bo bi bk (acc++ah.aU (l.take k)++aj.bI li) bR (.slice ak7 nk7 ck7) vo2 w1.drew (jj9 _) (by omega) (VW.kids.below ⟨rfl,rfl,rfl,jj9 _,fun _ _=>rfl⟩) J4 h0i CF zD hoi hkB hko Tm OL2.drew (HKB.out.keep Zu.drew hko hkB VT.out) (by rw [jjx,jjx];omega));have Zv:=hid Zu.drew;have Zw:=hid OR2;clear CI IO1 OL2 Zu OR2 VW PD kb c9 HKO Ze;go_upto_region 4 with (fail)
    go_still_tail 6,(by kernel_rfl)
    change wpList _ _ _ _ _ w1.drew;go_wp2_with fail
    refine IK.out.mono ?_;rintro e w8 ⟨rfl,Zt⟩;have IO9:=hid (jm.trans Zv.out Zw.out Zt);clear Zt IK Zv Zw k10 kb2;go_wp2_with fail
    go_roundw;case rel=>
     refine ⟨k+1,by omega,by go_num,?_⟩;rw [ah.vS l k _ HX.out,ah.inls];have:=IO9.out;simp only [List.append_assoc] at this ⊢;exact this
    case measure=>simp [intOf];omega
   ·have hkl:k=l.length:=by omega
    subst hkl;rw [List.take_length] at vP;have HO:=hid vP;clear vP;go_wp2
    go_end0
    exact ⟨rfl,Gi,rows,HO.out,QE,hor⟩
open Go.RowKit
def aH (b:Nat) (v:Value) (t:TypeId) (w:World):Prop:=w.heap[b]?=some (.cells #[v] t (0,0))
section
variable {b:Nat} {v:Value} {t:TypeId} {w w':World}
theorem aH.lt (h:aH b v t w):b<w.heap.size:=(Array.getElem?_eq_some_iff.1 h).1
theorem aH.cell (h:aH b v t w):w.cell? ⟨b,0,none⟩=some v:=by unfold aH at h;simp [jl1,h]
theorem aH.free (h:aH b v t w):w.frozen? ⟨b,0,none⟩=false:=by unfold aH at h;simp [World.frozen?,h]
theorem aH.set (h:aH b v t w) (u:Value):aH b u t (w.setCell ⟨b,0,none⟩ u):=Bt h
theorem aH.far (h:aH b v t w) {q j:Nat} (hq:b≠q) (u:Value):aH b v t (w.setCell ⟨q,j,none⟩ u):=(Below.heap_setCell w ⟨q,j,none⟩ u b hq).trans h
theorem aH.alloc (h:aH b v t w) (o:Obj):aH b v t (w.alloc o):=(jk3 w o b h.lt).trans h
theorem aH.new (w:World) (v:Value) (t:TypeId):aH w.heap.size v t (w.alloc (.cells #[v] t)):=heap_alloc_new w _
theorem aH.below (h:aH b v t w) {B:Nat} (hB:b<B) (hb:Below B w w'):aH b v t w':=(hb.block b hB).trans h
theorem aH.drew (h:aH b v t w):aH b v t w.drew:=h
end
theorem J6 {w:World} {B B':Nat} {e:TypeId} {k n:Nat} {v:Value} {xs:List Value} (h:w.ownsRow B e k v n xs) (hB:B'<=B):w.ownsRow B' e k v n xs:=
 ⟨h.1,h.2.imp id fun ⟨g,cap,cur,h1,h2,h3⟩=>⟨g,cap,cur,h1,Nat.le_trans hB h2,h3⟩⟩
theorem Eb (l:List ah) (v:Value) (w:World) (h:Rd (·<w.heap.size) w (iO l) [v]) (hbd:ah.kV l) (hsz:ah.aV l<=1000000) (hln:(ah.aU l).length<=1000000) : Calls Tryz.prog 37 #[v] w fun e w'=>∃ v' rows,e=.returned v'/\w'.ownsRow w.heap.size 66 10 v' (ah.aU l).length rows.flatten/\aI (fun _=>True) w' ((ah.aU l).map aj.d) rows/\(∀ r∈rows,r.length=10)/\Below w.heap.size w w':=by
 obtain ⟨va,vn,vc,rfl⟩:=Rd.ay h;have HR:=hid h;have kX:=hid hbd;clear h hbd;obtain ⟨N,hN⟩:∃ N,N=w.heap.size:=⟨_,rfl⟩;go_enter Tryz.func37,Tryz.ntmps37;go_upto_region 3 with (fail)
 obtain ⟨wA,iF⟩:∃ wA,wA=(w.alloc (.cells #[.slice none 0 0] 46)).alloc (.cells #[.nilFunc] 116):=⟨_,rfl⟩;have b0:aH N (.slice none 0 0) 46 wA:=by rw [iF,hN];exact (aH.new w _ _).alloc _
 have b1:aH (N+1) .nilFunc 116 wA:=by
  rw [iF,hN];have:=aH.new (w.alloc (.cells #[.slice none 0 0] 46)) .nilFunc 116
  rwa [World.size_alloc] at this
 have bl:Below N w wA:=by rw [iF,hN];exact ((Below.refl _ _).alloc (jj9 _) _).alloc (by simp) _
 have sz:wA.heap.size=N+2:=by rw [iF,hN];simp
 rw [<- iF,<- hN];rw [<- hN] at HR;have HN:=hid hN;clear iF hN;have c1:=b1.cell;have f1:=b1.free;go_upto_region 4 with (fail)
 obtain ⟨wB,D7⟩:∃ wB,wB=wA.setCell ⟨N+1,0,none⟩ (PE N (N+1)):=⟨_,rfl⟩;have d0:aH N (.slice none 0 0) 46 wB:=by rw [D7];exact b0.far (by omega) _
 have d1:aH (N+1) (PE N (N+1)) 116 wB:=by rw [D7];exact b1.set _
 have dl:Below N w wB:=by rw [D7];exact bl.setCell (p:=⟨N+1,0,none⟩) (by show N<=N+1;omega) _
 have dz:wB.heap.size=N+2:=by rw [D7];simpa [World.setCell] using sz
 unfold PE at D7;rw [<- D7];clear D7 b0 b1 bl sz c1 f1;go_upto_region 5 with (fail)
 obtain ⟨wC,Lm⟩:∃ wC,wC=wB.alloc (.cells #[.nilFunc] 122):=⟨_,rfl⟩;have b0:aH N (.slice none 0 0) 46 wC:=by rw [Lm];exact d0.alloc _
 have b1:aH (N+1) (PE N (N+1)) 116 wC:=by rw [Lm];exact d1.alloc _
 have b2:aH (N+2) .nilFunc 122 wC:=by rw [Lm,<- dz];exact aH.new _ _ _
 have bl:Below N w wC:=by rw [Lm];exact dl.alloc (by omega) _
 have sz:wC.heap.size=N+3:=by rw [Lm];simp [dz]
 rw [<- Lm];clear Lm d0 d1 dl dz;have c2:=b2.cell;have f2:=b2.free;go_upto_region 6 with (fail)
 obtain ⟨wD,J7⟩:∃ wD,wD=wC.setCell ⟨N+2,0,none⟩ (XI (N+1) (N+2)):=⟨_,rfl⟩;have d0:aH N (.slice none 0 0) 46 wD:=by rw [J7];exact b0.far (by omega) _
 have d1:aH (N+1) (PE N (N+1)) 116 wD:=by rw [J7];exact b1.far (by omega) _
 have d2:aH (N+2) (XI (N+1) (N+2)) 122 wD:=by rw [J7];exact b2.set _
 have dl:Below N w wD:=by rw [J7];exact bl.setCell (p:=⟨N+2,0,none⟩) (by show N<=N+2;omega) _
 have dz:wD.heap.size=N+3:=by rw [J7];simpa [World.setCell] using sz
 have c2:=d2.cell;unfold XI at J7 c2;rw [<- J7];clear J7 b0 b1 b2 bl sz f2;have OLD:OL N (N+3) N (N+1) N (.slice none 0 0) [] [] wD:=⟨d0,d1,⟨rfl,.inl ⟨rfl,rfl⟩⟩,aI.none,by simp,by omega⟩;have CB:=hid (Nb (ah.aV l) l N (N+3) N (N+1) (N+2) [] [] (.slice va vn vc) (.slice none 0 0) wD (jj9 _) hsz (HR.out.below dl) (jj9 _) (by omega) (by omega) (by omega) (by omega) (by omega) (by omega) kX.out OLD d2 (by simpa using hln));have HDL:=hid dl;clear OLD d0 d1 d2 dl;go_wp2_with fail
 refine CB.out.mono ?_;rintro e w1 ⟨rfl,vo,rows,OL1,KO1,OR1⟩;have kb:w1.cell? ⟨N,0,none⟩=some vo:=by have:=OL1.bx;simp [jl1,this]
 obtain ⟨ao,co,rfl⟩:=tQ OL1.own;have HO:=hid OL1;have HK:Hid (Below N w w1):=HDL.out.trans (KO1.below (B:=N+3) (jj9 _) (by omega) (by simp [Value.ownBlock]) (by omega));clear OL1 KO1 OR1 CB HDL c2;go_wp2_with fail
 go_ret;refine ⟨_,rows,rfl,?_,aI.keep (fun _ _ _=>⟨trivial,rfl⟩) _ _ HO.out.red,HO.out.len,HN.out ▸ HK.out⟩;have:=J6 HO.out.own (B':=w.heap.size) (by have:=HN.out;omega);simpa using this
end Go.Proofs.YtkfnkeflalcphaaGreatDoor

