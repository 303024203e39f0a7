/- tree.Inlines$1: the inlines, and those in them, are added to what the box holds. tree.Inlines$2 and tree.Inlines: all inlines of blocks, in document order. tree.Inlines: all inlines of blocks, in document order. -/
import Derived.Test.YtkfnkeflalcphaaGreatDoorKInlsW
import Derived.StillTailTactics
import Derived.Laws.EntriesVeiled
set_option maxHeartbeats 8000000
set_option maxRecDepth 100000
open Go.Lib (hid)
namespace Go.Proofs.YtkfnkeflalcphaaGreatDoor
open Nat renaming le_refl->jnq
open List renaming length_append->jo1
open Go.RowKit.Below renaming heap_alloc->jo6
open Go.World renaming cell?->jp5
open Go.RowKit
set_option linter.unusedVariables false
set_option linter.unusedSimpArgs false
theorem O5 (n:Nat):∀ (l:List aj) (B0 B bo bi:Nat) (acc:List aj) (xE:List (List Value)) (v vo:Value) (w:World),aj.aW l<=n->n<=1000000->Rd (·<B0) w (bq l) [v]->B0<=bo->B0<=bi->bo<B->bi<B->bo≠bi->aj.sj l->OL B0 B bo bi bo vo acc xE w->acc.length+aj.aW l<=1000000 -> Calls Tryz.prog 81 #[v,.pointer (some ⟨bo,0,none⟩),.pointer (some ⟨bi,0,none⟩)] w fun e w'=>e=.returned (.tuple #[])/\jQ B0 B bo bi vo w (acc++aj.aY l) w':=by
 induction n using Nat.strongRecOn with
 | _ n ih=>
  intro l B0 B bo bi acc xE v vo w hn hnm hrd LZ h0i Em Iw hoi hbd xG hal;obtain ⟨a,cap,hv,hs⟩:=Rd.aC hrd;obtain rfl:v=.slice a l.length cap:=by simpa using hv
  have hcap:l.length<=cap:=by simpa using hs.le
  have hll:=aj.iZ l;have hmx:=hs.max;have HS:=hid hs;have IH:=hid ih;have mZ:=hid hbd;have R0:Hid (Vu B0 B bo bi vo w acc l (.int .i64 0) w):=⟨0,Nat.zero_le _,rfl,vo,xE,by rw [List.take_zero,aj.aY,List.append_nil];exact xG,⟨jnq _,rfl,rfl,rfl,fun _ _ _ _=>rfl⟩,.inl rfl⟩;have Iy:∀ g,vo.ownBlock=some g->B<=g:=fun g hg=>(xG.own.lt g hg).1
  have XW:=hid Iy;have hBw:=xG.Vv;clear hs hv hrd ih hbd xG Iy;unfold maxLen at hmx;go_enter Tryz.func81,Tryz.ntmps81;go_wp2
  go_loopw [8] (fun vi wr=>Vu B0 B bo bi vo w acc l vi wr) (fun i _=>l.length-(intOf i).toNat)
  case atStart=>exact R0.out
  case round=>
   obtain ⟨k,hk,rfl,Iz,rows,xG,Ta,hor⟩:=hrel;clear R0;by_cases hlt:k<l.length
   ·obtain ⟨x,hx⟩:∃ x,l[k]?=some x:=⟨_,List.getElem?_eq_getElem hlt⟩;obtain ⟨kd,t,d,ti,at_,ar,ci,ks⟩:=x;have hbel:Below B0 w wr:=Ta.below LZ (by omega) XW.out (by omega);obtain ⟨g,off,vc,vp,va,vi,vk,rfl,hok,hbl,hc,hR⟩:=jl (HS.out.below hbel) hx;obtain ⟨c0,c1,c2,c3,c4,c5,c6,c7,c8,c9⟩:=hc;have hb1:=aj.rD l k _ mZ.out hx;rw [aj.bd] at hb1;obtain ⟨hn1,hn2,Zf,hn4,Vw⟩:=hb1;have hsz:=aj.aZ l k _ hx;rw [aj.sz] at hsz;obtain ⟨ac,nc,cc,rfl⟩:=Rd.au hR.at_.cls
    obtain ⟨ap,np,cp,rfl⟩:=Rd.au hR.at_.aP
    obtain ⟨Aa,na,ca,rfl⟩:=Rd.au hR.args;obtain ⟨Ai,ni,cci,rfl⟩:=Rd.au hR.jh;obtain ⟨ak,nk,ck,rfl⟩:=Rd.au hR.kids;have HR:=hid hR;have HX:=hid hx;have HOL:=hid xG;have HKO:=hid Ta;have HOR:=hid hor;have jb3:=xG.Vv;clear hR hx xG Ta hor hbel;go_upto_region 4 with (fail)
    obtain ⟨p,hp⟩:∃ p,p=wr.heap.size:=⟨_,rfl⟩;obtain ⟨wA,gD⟩:∃ wA,wA=wr.alloc (.cells #[.int .i64 kd,.string t,.string d,.string ti,.string at_.id,.slice ac nc cc,.slice ap np cp,.slice Aa na ca,.slice Ai ni cci,.slice ak nk ck] 66):=⟨_,rfl⟩;have hpv:Iz.ownBlock≠some p:=by rw [hp];exact own_ne HOL.out.own (jnq _)
    have El:B<=p:=by rw [hp];exact jb3
    have OA:OL B0 B bo bi p Iz (acc++aj.aY (l.take k)) rows wA:=by
     rw [gD];refine ⟨(jo6 _ _ _ (by omega)).trans HOL.out.bx,(jo6 _ _ _ (by omega)).trans HOL.out.fn,HOL.out.own.alloc _,aQ.keep (fun b hb hlt'=>⟨?_,jo6 _ _ b hlt'⟩) _ _ HOL.out.red,HOL.out.len,by simp;omega⟩;rcases hb with hb | hb
     ·exact .inl hb
     ·exact .inr ⟨hb.1,hb.2.1,by omega⟩
    have PA:PB p [.int .i64 kd,.string t,.string d,.string ti,.string at_.id,.slice ac nc cc,.slice ap np cp,.slice Aa na ca,.slice Ai ni cci,.slice ak nk ck] wA:=by rw [gD,hp];exact heap_alloc_new wr _
    have bA:Below B0 wr wA:=by rw [gD];exact (Below.refl _ _).alloc (by omega) _
    have gA:wr.grownBy wA none:=by rw [gD];exact World.grownBy_alloc _ _ none
    have hpA:wA.heap.size=p+1:=by rw [gD,hp];simp
    have HPW:=hid hp;have HVP:Hid (∀ g,Iz.ownBlock=some g->g<p):=fun g hg=>by rw [hp];exact (HOL.out.own.lt g hg).2
    have ZV:=hid hpA;have hBA:B0<=wA.heap.size:=by omega
    rw [<- gD,<- hp];clear hp hpA gD c0 c1 c2 c3 c4 c5 c6 c7 c8 c9 hbl HOL jb3;have HIA:=hid (⟨OA,PA,by rw [HPW.out];exact (Below.refl _ _).grown gA (jnq _) (by simp)⟩:IS B0 B bo bi p Iz (acc++aj.aY (l.take k)) rows [.int .i64 kd,.string t,.string d,.string ti,.string at_.id,.slice ac nc cc,.slice ap np cp,.slice Aa na ca,.slice Ai ni cci,.slice ak nk ck] wr wA);have d4:=PA.cell 4 _ rfl;have d5:=PA.cell 5 _ rfl;have d6:=PA.cell 6 _ rfl;have CT:=hid (zS at_ _ _ B0 wA (HR.out.at_.below bA) hBA hn1 hn2);clear OA PA;go_wp2_with fail
    refine CT.out.mono ?_;rintro e w1 ⟨vc1,vp1,rfl,Tc,b1⟩;obtain ⟨Vx,Vy,Vz,rfl⟩:=Rd.au Tc.cls;obtain ⟨VB,VD,VE,rfl⟩:=Rd.au Tc.aP;have I1:=HIA.out.grown (zx b1);have HI1:=hid I1;have AT1:=hid (Tc.weaken (ok':=(p<·)) (fun b hb=>by have:=ZV.out;omega));have d4:=I1.pb.cell 4 _ rfl;have d5:=I1.pb.cell 5 _ rfl;have d6:=I1.pb.cell 6 _ rfl;have f4:=I1.pb.free 4;have f5:=I1.pb.free 5;have f6:=I1.pb.free 6;have h0B:B0<=B:=by omega
    clear I1 CT HIA Tc b1 gA bA hBA;go_upto_region 5 with (fail)
    obtain ⟨w2,hw2⟩:∃ w2,w2=((w1.setCell ⟨p,4,none⟩ (.string at_.id)).setCell ⟨p,5,none⟩ (.slice Vx Vy Vz)).setCell ⟨p,6,none⟩ (.slice VB VD VE):=⟨_,rfl⟩;have I2:IS B0 B bo bi p Iz (acc++aj.aY (l.take k)) rows [.int .i64 kd,.string t,.string d,.string ti,.string at_.id,.slice Vx Vy Vz,.slice VB VD VE,.slice Aa na ca,.slice Ai ni cci,.slice ak nk ck] wr w2:=by rw [hw2];exact ((HI1.out.set Em Iw h0B El hpv 4 _).set Em Iw h0B El hpv 5 _).set Em Iw h0B El hpv 6 _
    have wM:Hid (AtR (p<·) w2 at_ (.slice Vx Vy Vz) (.slice VB VD VE)):=by show AtR _ _ _ _ _;rw [hw2];exact ((AT1.out.above (fC.set 4 _)).above (fC.set 5 _)).above (fC.set 6 _)
    rw [<- hw2];clear hw2 d4 d5 d6 f4 f5 f6 HI1 AT1;have HI2:=hid I2;have d7:=I2.pb.cell 7 _ rfl;have hl2:=I2.pb.lt;have CS:=hid (xH ar B0 _ w2 (HR.out.args.below (I2.bl.mono (by omega))) (by omega) Zf);clear I2;go_wp2_with fail
    refine CS.out.mono ?_;rintro e w2b ⟨va1,rfl,hra,ba⟩;obtain ⟨Zg,Zh,Zi,rfl⟩:=Rd.au hra;have I2b:=HI2.out.grown (zx ba);have jb4:=hid I2b;have jb5:=hid (wM.out.above (fC.grown (zx ba)));have jb6:=hid (hra.weaken (ok':=(p<·)) (fun b hb=>by omega));have d7:=I2b.pb.cell 7 _ rfl;have f7:=I2b.pb.free 7;clear I2b HI2 wM CS hra ba hl2;go_upto_region 6 with (fail)
    obtain ⟨w3,hw3⟩:∃ w3,w3=w2b.setCell ⟨p,7,none⟩ (.slice Zg Zh Zi):=⟨_,rfl⟩;have I3:IS B0 B bo bi p Iz (acc++aj.aY (l.take k)) rows [.int .i64 kd,.string t,.string d,.string ti,.string at_.id,.slice Vx Vy Vz,.slice VB VD VE,.slice Zg Zh Zi,.slice Ai ni cci,.slice ak nk ck] wr w3:=by rw [hw3];exact jb4.out.set Em Iw h0B El hpv 7 _
    have Ct:Hid (AtR (p<·) w3 at_ (.slice Vx Vy Vz) (.slice VB VD VE)):=by show AtR _ _ _ _ _;rw [hw3];exact jb5.out.above (fC.set 7 _)
    have RA3:Hid (Rd (p<·) w3 (kD ar) [.slice Zg Zh Zi]):=by show Rd _ _ _ _;rw [hw3];exact jb6.out.above (fC.set 7 _)
    rw [<- hw3];clear hw3 d7 f7 jb4 jb5 jb6;have HI3:=hid I3;have d8:=I3.pb.cell 8 _ rfl;have hl3:=I3.pb.lt;have CC:=hid (IE ci B0 _ w3 (HR.out.jh.below (I3.bl.mono (by omega))) (by omega) hn4);clear I3;go_wp2_with fail
    refine CC.out.mono ?_;rintro e w3b ⟨vi1,rfl,hri,bi3⟩;obtain ⟨ai1,ni1,ci1,rfl⟩:=Rd.au hri;have I3b:=HI3.out.grown (zx bi3);have jb7:=hid I3b;have jb8:=hid (Ct.out.above (fC.grown (zx bi3)));have jb9:=hid (RA3.out.above (fC.grown (zx bi3)));have jbj:=hid (hri.weaken (ok':=(p<·)) (fun b hb=>by omega));have d8:=I3b.pb.cell 8 _ rfl;have f8:=I3b.pb.free 8;clear I3b HI3 Ct RA3 CC hri bi3 hl3;go_upto_region 7 with (fail)
    obtain ⟨w4,hw4⟩:∃ w4,w4=w3b.setCell ⟨p,8,none⟩ (.slice ai1 ni1 ci1):=⟨_,rfl⟩;have I4:IS B0 B bo bi p Iz (acc++aj.aY (l.take k)) rows [.int .i64 kd,.string t,.string d,.string ti,.string at_.id,.slice Vx Vy Vz,.slice VB VD VE,.slice Zg Zh Zi,.slice ai1 ni1 ci1,.slice ak nk ck] wr w4:=by rw [hw4];exact jb7.out.set Em Iw h0B El hpv 8 _
    have IN4:Hid (wI (fun b=>b<B0\/p<b) w4 at_ ar ci ks (.slice Vx Vy Vz) (.slice VB VD VE) (.slice Zg Zh Zi) (.slice ai1 ni1 ci1) (.slice ak nk ck)):=by
     show wI _ _ _ _ _ _ _ _ _ _ _;refine ⟨?_,?_,?_,?_⟩
     ·rw [hw4];exact (jb8.out.above (fC.set 8 _)).weaken (fun b hb=>.inr hb)
     ·rw [hw4];exact (jb9.out.above (fC.set 8 _)).weaken (fun b hb=>.inr hb)
     ·rw [hw4];exact (jbj.out.above (fC.set 8 _)).weaken (fun b hb=>.inr hb)
     ·exact (HR.out.kids.below (I4.bl.mono (by omega))).weaken (fun b hb=>.inl hb)
    rw [<- hw4];clear hw4 d8 f8 jb7 jb8 jb9 jbj;have HI4:=hid I4;obtain ⟨iI,hiI,jh2,jh3,jh4⟩:=info_parts XY;obtain ⟨ao,co,rfl⟩:=tT I4.ol.own;obtain ⟨m,hm⟩:∃ m,m=(acc++aj.aY (l.take k)).length:=⟨_,rfl⟩;have hm1:m+(aj.aW ks+1)<=1000000:=by have h1:=aj.CZ l k _ HX.out;rw [aj.sz] at h1;rw [hm,jo1,aj.dW];omega
    have HM:=hid hm;have e0:=I4.pb.cell 0 _ rfl;have e1:=I4.pb.cell 1 _ rfl;have e2:=I4.pb.cell 2 _ rfl;have e3:=I4.pb.cell 3 _ rfl;have e4:=I4.pb.cell 4 _ rfl;have e5:=I4.pb.cell 5 _ rfl;have e6:=I4.pb.cell 6 _ rfl;have e7:=I4.pb.cell 7 _ rfl;have e8:=I4.pb.cell 8 _ rfl;have e9:=I4.pb.cell 9 _ rfl;have eb:w4.cell? ⟨bo,0,none⟩=some (.slice ao m co):=by have:=I4.ol.bx;rw [hm];simp [jp5,this]
    have fb:w4.frozen? ⟨bo,0,none⟩=false:=by have:=I4.ol.bx;simp [World.frozen?,this]
    have OW4:Hid (w4.ownsRow B 66 10 (.slice ao m co) m rows.flatten):=by show World.ownsRow _ _ _ _ _ _ _;rw [hm];exact I4.ol.own
    have hs4:B<=w4.heap.size:=I4.ol.Vv;have oz:=hid I4.ol.bx;rw [<- hm] at oz;have hp4:p<w4.heap.size:=I4.pb.lt;have hb4:bo<w4.heap.size:=by omega
    have Rp:=hid I4.pb;have jh5:(Value.slice ao m co).ownBlock≠some p:=by rw [hm];exact hpv
    have O6:Hid (rows.flatten.length=m*10):=OW4.out.1;have HI5:Hid (IS B0 B bo bi p (.slice ao m co) (acc++aj.aY (l.take k)) rows [.int .i64 kd,.string t,.string d,.string ti,.string at_.id,.slice Vx Vy Vz,.slice VB VD VE,.slice Zg Zh Zi,.slice ai1 ni1 ci1,.slice ak nk ck] wr w4):=by show IS _ _ _ _ _ _ _ _ _ _ _;rw [hm];exact HI4.out
    have HVQ:Hid (∀ g,(Value.slice ao m co).ownBlock=some g->g<p):=by show ∀ g,_;rw [hm];exact HVP.out
    rw [<- hm] at HOR;clear I4 hm HI4 HVP;have RX4:=hid (aj.iH kd t d ti IN4.out)
    go_cut [] (fun wx=>jQ B0 B bo bi (.slice ao m co) w4 (acc++aj.aY (l.take k)++[aj.mk kd t d ti at_ ar ci ks]) wx)
    case first=>
     go_region_law (refine step_append_lies _ rfl (.tmp 27) (.tmp 30) 46 rfl B 66 iI _ 10 192 Tryz.underlying46 hiI jh2 jh3 jh4 rfl (by decide) (.slice ao m co) m rows.flatten rfl (OW4.out.alloc _) ⟨w4.heap.size,0,none⟩ 1 1 [.int .i64 0,.string ⟨#[]⟩,.string ⟨#[]⟩,.string ⟨#[]⟩,.string ⟨#[]⟩,.slice none 0 0,.slice none 0 0,.slice none 0 0,.slice none 0 0,.slice none 0 0] rfl rfl (Om w4 _ _) (by intro u hu;simp at hu;rcases hu with rfl | rfl | rfl<;>rfl) (by omega) (by unfold maxLen;omega) (by omega) (by show B<=(w4.alloc _).heap.size;rw [World.size_alloc];omega) _ rfl ?_;intro g cap w5 hown hgrow hat jlq;have hix:(m:Int)<(m:Int)+1:=(by omega);have hcp:=Td hown;have q0:=iB hown O6.out 0 _ rfl (by omega);have z0:=hown.frozenAt (m*10+0);have q1:=iB hown O6.out 1 _ rfl (by omega);have z1:=hown.frozenAt (m*10+1);have q2:=iB hown O6.out 2 _ rfl (by omega);have z2:=hown.frozenAt (m*10+2);have q3:=iB hown O6.out 3 _ rfl (by omega);have z3:=hown.frozenAt (m*10+3);have q4:=iB hown O6.out 4 _ rfl (by omega);have z4:=hown.frozenAt (m*10+4);have q5:=iB hown O6.out 5 _ rfl (by omega);have z5:=hown.frozenAt (m*10+5);have q6:=iB hown O6.out 6 _ rfl (by omega);have z6:=hown.frozenAt (m*10+6);have q7:=iB hown O6.out 7 _ rfl (by omega);have z7:=hown.frozenAt (m*10+7);have q8:=iB hown O6.out 8 _ rfl (by omega);have z8:=hown.frozenAt (m*10+8);have q9:=iB hown O6.out 9 _ rfl (by omega);have z9:=hown.frozenAt (m*10+9);obtain ⟨qb,zb,hgb⟩:=XZ oz.out hown hgrow OW4.out Em hs4;simp only [Nat.add_zero] at q0 z0;have O7:=jbk Rp.out hgrow jh5;have r0:=O7.cell 0 _ rfl;have r1:=O7.cell 1 _ rfl;have r2:=O7.cell 2 _ rfl;have r3:=O7.cell 3 _ rfl;have r4:=O7.cell 4 _ rfl;have r5:=O7.cell 5 _ rfl;have r6:=O7.cell 6 _ rfl;have r7:=O7.cell 7 _ rfl;have r8:=O7.cell 8 _ rfl;have r9:=O7.cell 9 _ rfl;have Sz:=hat.imp_right (fun e=>(Nat.le_trans (Nat.le_succ w4.heap.size) (Nat.le_of_eq ((World.size_alloc _ _).symm.trans e.symm))));have PT1:=O8 HI5.out HM.out Em Iw hoi LZ El HVQ.out RX4.out hown rfl O6.out hgrow Sz;simp only [ten] at PT1;have PT:=hid PT1;clear PT1 O7 hat Sz)
     all_goals
      go_wp2_with fail
      go_meet
      first
      | with_reducible exact PT.out.1
      | with_reducible exact PT.out.2
    case rest=>
     obtain ⟨w7,hw7⟩:∃ w7:World,w7=wc:=⟨_,rfl⟩;subst hw7;have jbq:fD bo vo w w4:=by have hb:=HI5.out.bl;have hk:=HKO.out;refine ⟨Nat.le_trans hk.1 hb.size,hb.os.trans hk.2.1,hb.tape.trans hk.2.2.1,hb.output.trans hk.2.2.2.1,fun b hb' hne Iy=>(hb.block b ?_).trans (hk.2.2.2.2 b hb' hne Iy)⟩;rw [HPW.out];exact Nat.lt_of_lt_of_le hb' hk.1
     have IO7:=jQ.trans jbq HOR.out hcut;obtain ⟨vo7,jbx,OL7,KO7,OR7⟩:=IO7;obtain ⟨g7,o7,vc7,vp7,va7,vi7,vk7,hgo,_,_,hc7,X3⟩:=jl (HS.out.below (KO7.below LZ (by omega) XW.out (by omega))) HX.out;cases hgo
     have k9:=hc7.c9;have kb:w7.cell? ⟨bi,0,none⟩=some (Rq bo bi):=by have:=OL7.fn;simp [jp5,this]
     unfold Rq at kb;have hsk:=aj.aZ l k _ HX.out;rw [aj.sz] at hsk;have IK:=hid (IH.out (aj.aW ks) (by omega) ks B0 B bo bi (acc++aj.aY (l.take k)++[aj.mk kd t d ti at_ ar ci ks]) jbx vk7 vo7 w7.drew (jnq _) (by omega) (X3.kids.below ⟨rfl,rfl,rfl,jnq _,fun _ _=>rfl⟩) LZ h0i Em Iw hoi Vw OL7.drew (by rw [jo1,<- HM.out,List.length_singleton];omega));have jbz:=hid KO7.drew;have jc0:=hid OR7;obtain ⟨ak7,nk7,ck7,rfl⟩:=Rd.au X3.kids;clear hcut OL7 KO7 OR7 X3 hc7 jbq HI5 HVQ oz Rp OW4 RX4;go_upto_region 8 with (fail)
     go_still_tail 6,(by kernel_rfl)
     change wpList _ _ _ _ _ w7.drew;go_wp2_with fail
     refine IK.out.mono ?_;rintro e w8 ⟨rfl,IO8⟩;have IO9:=hid (jQ.trans jbz.out jc0.out IO8);clear IO8 IK jbz jc0 k9 kb;go_wp2_with fail
     go_roundw;case rel=>
      refine ⟨k+1,by omega,by go_num,?_⟩;rw [aj.xI l k _ HX.out,aj.deep];have:=IO9.out;simp only [List.append_assoc,List.singleton_append] at this;exact this
     case measure=>simp [intOf];omega
   ·have hkl:k=l.length:=by omega
    subst hkl;rw [List.take_length] at xG;have HO:=hid xG;clear xG;go_wp2
    go_end0
    exact ⟨rfl,Iz,rows,HO.out,Ta,hor⟩
open Go.RowKit
mutual
def ah.inls:ah->List aj
 | .mk _ _ _ _ _ _ _ li ks=>aj.aY li++ah.aM ks
def ah.aM:List ah->List aj
 | []=>[]
 | x::l=>x.inls++ah.aM l
end
theorem ah.AX (l m:List ah):ah.aM (l++m)=ah.aM l++ah.aM m:=by
 induction l with
 | nil=>rw [ah.aM];rfl
 | cons x l ih=>rw [List.cons_append,ah.aM,ah.aM,ih,List.append_assoc]
theorem ah.xJ (l:List ah) (k:Nat) (x:ah) (h:l[k]?=some x):ah.aM (l.take (k+1))=ah.aM (l.take k)++x.inls:=by rw [List.take_add_one,h,ah.AX];simp [ah.aM]
theorem ah.L6 (l:List ah) (k:Nat) (x:ah) (h:l[k]?=some x):(ah.aM (l.take k)).length+x.inls.length<=(ah.aM l).length:=by
 have e:ah.aM l=ah.aM (l.take (k+1))++ah.aM (l.drop (k+1)):=by rw [<- ah.AX,List.take_append_drop]
 have e2:=congrArg List.length e;rw [ah.xJ l k x h] at e2;simp only [jo1] at e2;omega
def Zj (bi bk:Nat):Value:=.func (.func 85) #[] #[.pointer (some ⟨bi,0,none⟩),.pointer (some ⟨bk,0,none⟩)]
def O9 (bi bk:Nat) (w:World):Prop:=w.heap[bk]?=some (.cells #[Zj bi bk] 122 (0,0))
theorem O9.keep {bi bk bo B:Nat} {vo:Value} {w w':World} (h:O9 bi bk w) (hk:fD bo vo w w') (hne:bk≠bo) (hb:bk<B) (hv:∀ g,vo.ownBlock=some g->B<=g):O9 bi bk w':=
 (hk.2.2.2.2 bk (Array.getElem?_eq_some_iff.1 h).1 hne (fun e=>by have:=hv bk e;omega)).trans h
def VF (B0 B bo bi:Nat) (vo:Value) (w:World) (acc:List aj) (l:List ah) (vi:Value) (wr:World):Prop:=
 ∃ k:Nat,k<=l.length/\vi=.int .i64 k/\jQ B0 B bo bi vo w (acc++ah.aM (l.take k)) wr
theorem Pb (n:Nat):∀ (l:List ah) (B0 B bo bi bk:Nat) (acc:List aj) (xE:List (List Value)) (v vo:Value) (w:World),ah.aW l<=n->n<=1000000->Rd (·<B0) w (bZ l) [v]->B0<=bo->B0<=bi->bo<B->bi<B->bo≠bi->bk<B->bk≠bo->ah.sj l->OL B0 B bo bi bo vo acc xE w->O9 bi bk w->acc.length+(ah.aM l).length<=1000000 -> Calls Tryz.prog 85 #[v,.pointer (some ⟨bi,0,none⟩),.pointer (some ⟨bk,0,none⟩)] w fun e w'=>e=.returned (.tuple #[])/\jQ B0 B bo bi vo w (acc++ah.aM l) w':=by
 induction n using Nat.strongRecOn with
 | _ n ih=>
  intro l B0 B bo bi bk acc xE v vo w hn hnm hrd LZ h0i Em Iw hoi hkB hko hbd xG hKB hal;obtain ⟨a,cap,hv,hs⟩:=Rd.aC hrd;obtain rfl:v=.slice a l.length cap:=by simpa using hv
  have hcap:l.length<=cap:=by simpa using hs.le
  have hll:=ah.iZ l;have hmx:=hs.max;have HS:=hid hs;have IH:=hid ih;have mZ:=hid hbd;have HKB:=hid hKB;have R0:Hid (VF B0 B bo bi vo w acc l (.int .i64 0) w):=⟨0,Nat.zero_le _,rfl,vo,xE,by rw [List.take_zero,ah.aM,List.append_nil];exact xG,⟨jnq _,rfl,rfl,rfl,fun _ _ _ _=>rfl⟩,.inl rfl⟩;have Iy:∀ g,vo.ownBlock=some g->B<=g:=fun g hg=>(xG.own.lt g hg).1
  have XW:=hid Iy;have hBw:=xG.Vv;clear hs hv hrd ih hbd xG Iy hKB;unfold maxLen at hmx;go_enter Tryz.func85,Tryz.ntmps85;go_wp2
  go_loopw [7] (fun vi wr=>VF B0 B bo bi vo w acc l vi wr) (fun i _=>l.length-(intOf i).toNat)
  case atStart=>exact R0.out
  case round=>
   obtain ⟨k,hk,rfl,Iz,rows,xG,Ta,hor⟩:=hrel;clear R0;by_cases hlt:k<l.length
   ·obtain ⟨x,hx⟩:∃ x,l[k]?=some x:=⟨_,List.getElem?_eq_getElem hlt⟩;obtain ⟨kd,lv,i,t,d,ti,at_,li,ks⟩:=x;have hbel:Below B0 w wr:=Ta.below LZ (by omega) XW.out (by omega);obtain ⟨g,off,vc,vp,vl,vk,rfl,hok,hbl,hc,hR⟩:=iA (HS.out.below hbel) hx;have c9:=hc.c9;have hb1:=ah.rD l k _ mZ.out hx;rw [ah.bd] at hb1;obtain ⟨hn1,hn2,Zf,hn4,Vw⟩:=hb1;have hsz:=ah.aZ l k _ hx;rw [ah.sz] at hsz;have hln:=ah.L6 l k _ hx;rw [ah.inls,jo1] at hln;have jlx:=aj.dW li;obtain ⟨al,nl,cl,rfl⟩:=Rd.au hR.line;have kb:wr.cell? ⟨bi,0,none⟩=some (Rq bo bi):=by
     have:=xG.fn;simp [jp5,this]
    unfold Rq at kb;have CI:=hid (O5 (aj.aW li) li B0 B bo bi (acc++ah.aM (l.take k)) rows (.slice al nl cl) Iz wr.drew (jnq _) hn4 (hR.line.below ⟨rfl,rfl,rfl,jnq _,fun _ _=>rfl⟩) LZ h0i Em Iw hoi Zf xG.drew (by rw [jo1];omega));have HX:=hid hx;have HKO:=hid Ta.drew;have HOR:=hid hor;clear hR hx xG Ta hor hbel hc hbl;go_upto_region 3 with (fail)
    go_still_tail 6,(by kernel_rfl)
    change wpList _ _ _ _ _ wr.drew;go_wp2_with fail
    refine CI.out.mono ?_;rintro e w1 ⟨rfl,IO1⟩;obtain ⟨vo2,bE,OL2,KO2,OR2⟩:=jQ.trans HKO.out HOR.out IO1;obtain ⟨g7,o7,vc7,vp7,vl7,vk7,hgo,_,_,hc7,X3⟩:=iA (HS.out.below (KO2.below LZ (by omega) XW.out (by omega))) HX.out;cases hgo
    have k10:=hc7.c10;have kb2:w1.cell? ⟨bk,0,none⟩=some (Zj bi bk):=by have:=HKB.out.keep KO2 hko hkB XW.out;unfold O9 at this;simp [jp5,this]
    unfold Zj at kb2;obtain ⟨ak7,nk7,ck7,rfl⟩:=Rd.au X3.kids;have IK:=hid (IH.out (ah.aW ks) (by omega) ks B0 B bo bi bk (acc++ah.aM (l.take k)++aj.aY li) bE (.slice ak7 nk7 ck7) vo2 w1.drew (jnq _) (by omega) (X3.kids.below ⟨rfl,rfl,rfl,jnq _,fun _ _=>rfl⟩) LZ h0i Em Iw hoi hkB hko Vw OL2.drew (HKB.out.keep KO2.drew hko hkB XW.out) (by rw [jo1,jo1];omega));have jc1:=hid KO2.drew;have jc2:=hid OR2;clear CI IO1 OL2 KO2 OR2 X3 hc7 kb c9 HKO HOR;go_upto_region 4 with (fail)
    go_still_tail 6,(by kernel_rfl)
    change wpList _ _ _ _ _ w1.drew;go_wp2_with fail
    refine IK.out.mono ?_;rintro e w8 ⟨rfl,IO8⟩;have IO9:=hid (jQ.trans jc1.out jc2.out IO8);clear IO8 IK jc1 jc2 k10 kb2;go_wp2_with fail
    go_roundw;case rel=>
     refine ⟨k+1,by omega,by go_num,?_⟩;rw [ah.xJ l k _ HX.out,ah.inls];have:=IO9.out;simp only [List.append_assoc] at this ⊢;exact this
    case measure=>simp [intOf];omega
   ·have hkl:k=l.length:=by omega
    subst hkl;rw [List.take_length] at xG;have HO:=hid xG;clear xG;go_wp2
    go_end0
    exact ⟨rfl,Iz,rows,HO.out,Ta,hor⟩
open Go.RowKit
def aF (b:Nat) (v:Value) (t:TypeId) (w:World):Prop:=w.heap[b]?=some (.cells #[v] t (0,0))
section
variable {b:Nat} {v:Value} {t:TypeId} {w w':World}
theorem aF.lt (h:aF b v t w):b<w.heap.size:=(Array.getElem?_eq_some_iff.1 h).1
theorem aF.cell (h:aF b v t w):w.cell? ⟨b,0,none⟩=some v:=by unfold aF at h;simp [jp5,h]
theorem aF.free (h:aF b v t w):w.frozen? ⟨b,0,none⟩=false:=by unfold aF at h;simp [World.frozen?,h]
theorem aF.set (h:aF b v t w) (u:Value):aF b u t (w.setCell ⟨b,0,none⟩ u):=C8 h
theorem aF.far (h:aF b v t w) {q j:Nat} (hq:b≠q) (u:Value):aF b v t (w.setCell ⟨q,j,none⟩ u):=(Below.heap_setCell w ⟨q,j,none⟩ u b hq).trans h
theorem aF.alloc (h:aF b v t w) (o:Obj):aF b v t (w.alloc o):=(jo6 w o b h.lt).trans h
theorem aF.new (w:World) (v:Value) (t:TypeId):aF w.heap.size v t (w.alloc (.cells #[v] t)):=heap_alloc_new w _
theorem aF.below (h:aF b v t w) {B:Nat} (hB:b<B) (hb:Below B w w'):aF b v t w':=(hb.block b hB).trans h
theorem aF.drew (h:aF b v t w):aF b v t w.drew:=h
end
theorem L8 {w:World} {B B':Nat} {e:TypeId} {k n:Nat} {v:Value} {xs:List Value} (h:w.ownsRow B e k v n xs) (hB:B'<=B):w.ownsRow B' e k v n xs:=
 ⟨h.1,h.2.imp id fun ⟨g,cap,cur,h1,h2,h3⟩=>⟨g,cap,cur,h1,Nat.le_trans hB h2,h3⟩⟩
theorem uz (l:List ah) (v:Value) (w:World) (h:Rd (·<w.heap.size) w (bZ l) [v]) (hbd:ah.sj l) (hsz:ah.aW l<=1000000) (hln:(ah.aM l).length<=1000000) : Calls Tryz.prog 37 #[v] w fun e w'=>∃ v' rows,e=.returned v'/\w'.ownsRow w.heap.size 66 10 v' (ah.aM l).length rows.flatten/\aQ (fun _=>True) w' ((ah.aM l).map aj.d) rows/\(∀ r∈rows,r.length=10)/\Below w.heap.size w w':=by
 obtain ⟨va,vn,vc,rfl⟩:=Rd.au h;have HR:=hid h;have mZ:=hid hbd;clear h hbd;obtain ⟨N,hN⟩:∃ N,N=w.heap.size:=⟨_,rfl⟩;go_enter Tryz.func37,Tryz.ntmps37;go_upto_region 3 with (fail)
 obtain ⟨wA,gD⟩:∃ wA,wA=(w.alloc (.cells #[.slice none 0 0] 46)).alloc (.cells #[.nilFunc] 116):=⟨_,rfl⟩;have b0:aF N (.slice none 0 0) 46 wA:=by rw [gD,hN];exact (aF.new w _ _).alloc _
 have b1:aF (N+1) .nilFunc 116 wA:=by
  rw [gD,hN];have:=aF.new (w.alloc (.cells #[.slice none 0 0] 46)) .nilFunc 116
  rwa [World.size_alloc] at this
 have bl:Below N w wA:=by rw [gD,hN];exact ((Below.refl _ _).alloc (jnq _) _).alloc (by simp) _
 have sz:wA.heap.size=N+2:=by rw [gD,hN];simp
 rw [<- gD,<- hN];rw [<- hN] at HR;have HN:=hid hN;clear gD hN;have c1:=b1.cell;have f1:=b1.free;go_upto_region 4 with (fail)
 obtain ⟨wB,uj⟩:∃ wB,wB=wA.setCell ⟨N+1,0,none⟩ (Rq N (N+1)):=⟨_,rfl⟩;have d0:aF N (.slice none 0 0) 46 wB:=by rw [uj];exact b0.far (by omega) _
 have d1:aF (N+1) (Rq N (N+1)) 116 wB:=by rw [uj];exact b1.set _
 have dl:Below N w wB:=by rw [uj];exact bl.setCell (p:=⟨N+1,0,none⟩) (by show N<=N+1;omega) _
 have dz:wB.heap.size=N+2:=by rw [uj];simpa [World.setCell] using sz
 unfold Rq at uj;rw [<- uj];clear uj b0 b1 bl sz c1 f1;go_upto_region 5 with (fail)
 obtain ⟨wC,Ya⟩:∃ wC,wC=wB.alloc (.cells #[.nilFunc] 122):=⟨_,rfl⟩;have b0:aF N (.slice none 0 0) 46 wC:=by rw [Ya];exact d0.alloc _
 have b1:aF (N+1) (Rq N (N+1)) 116 wC:=by rw [Ya];exact d1.alloc _
 have b2:aF (N+2) .nilFunc 122 wC:=by rw [Ya,<- dz];exact aF.new _ _ _
 have bl:Below N w wC:=by rw [Ya];exact dl.alloc (by omega) _
 have sz:wC.heap.size=N+3:=by rw [Ya];simp [dz]
 rw [<- Ya];clear Ya d0 d1 dl dz;have c2:=b2.cell;have f2:=b2.free;go_upto_region 6 with (fail)
 obtain ⟨wD,VG⟩:∃ wD,wD=wC.setCell ⟨N+2,0,none⟩ (Zj (N+1) (N+2)):=⟨_,rfl⟩;have d0:aF N (.slice none 0 0) 46 wD:=by rw [VG];exact b0.far (by omega) _
 have d1:aF (N+1) (Rq N (N+1)) 116 wD:=by rw [VG];exact b1.far (by omega) _
 have d2:aF (N+2) (Zj (N+1) (N+2)) 122 wD:=by rw [VG];exact b2.set _
 have dl:Below N w wD:=by rw [VG];exact bl.setCell (p:=⟨N+2,0,none⟩) (by show N<=N+2;omega) _
 have dz:wD.heap.size=N+3:=by rw [VG];simpa [World.setCell] using sz
 have c2:=d2.cell;unfold Zj at VG c2;rw [<- VG];clear VG b0 b1 b2 bl sz f2;have OLD:OL N (N+3) N (N+1) N (.slice none 0 0) [] [] wD:=⟨d0,d1,⟨rfl,.inl ⟨rfl,rfl⟩⟩,aQ.none,by simp,by omega⟩;have CB:=hid (Pb (ah.aW l) l N (N+3) N (N+1) (N+2) [] [] (.slice va vn vc) (.slice none 0 0) wD (jnq _) hsz (HR.out.below dl) (jnq _) (by omega) (by omega) (by omega) (by omega) (by omega) (by omega) mZ.out OLD d2 (by simpa using hln));have HDL:=hid dl;clear OLD d0 d1 d2 dl;go_wp2_with fail
 refine CB.out.mono ?_;rintro e w1 ⟨rfl,vo,rows,OL1,KO1,OR1⟩;have kb:w1.cell? ⟨N,0,none⟩=some vo:=by have:=OL1.bx;simp [jp5,this]
 obtain ⟨ao,co,rfl⟩:=tT OL1.own;have HO:=hid OL1;have HK:Hid (Below N w w1):=HDL.out.trans (KO1.below (B:=N+3) (jnq _) (by omega) (by simp [Value.ownBlock]) (by omega));clear OL1 KO1 OR1 CB HDL c2;go_wp2_with fail
 go_ret;refine ⟨_,rows,rfl,?_,aQ.keep (fun _ _ _=>⟨trivial,rfl⟩) _ _ HO.out.red,HO.out.len,HN.out ▸ HK.out⟩;have:=L8 HO.out.own (B':=w.heap.size) (by have:=HN.out;omega);simpa using this
end Go.Proofs.YtkfnkeflalcphaaGreatDoor

