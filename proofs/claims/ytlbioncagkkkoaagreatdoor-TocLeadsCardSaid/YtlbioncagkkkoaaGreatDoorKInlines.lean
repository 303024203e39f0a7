/- tree.Inlines$1: the inlines, and those in them, are added to what the box holds. tree.Inlines$2 and tree.Inlines: all inlines of blocks, in document order. tree.Inlines: all inlines of blocks, in document order. -/
import Derived.Test.YtlbioncagkkkoaaGreatDoorKInlsW
import Derived.StillTailTactics
import Derived.Laws.EntriesVeiled
set_option maxHeartbeats 8000000
set_option maxRecDepth 100000
open Go.Lib (hid)
namespace Go.Proofs.YtlbioncagkkkoaaGreatDoor
open Go.RowKit
set_option linter.unusedVariables false
set_option linter.unusedSimpArgs false
theorem inls_any (n:Nat):∀ (l:List Inl) (B0 B bo bi:Nat) (acc:List Inl) (rows0:List (List Value)) (v vo:Value) (w:World),Inl.szL l<=n->n<=1000000->Rd (·<B0) w (q0w l) [v]->B0<=bo->B0<=bi->bo<B->bi<B->bo≠bi->Inl.bdL l->OL B0 B bo bi bo vo acc rows0 w->acc.length+Inl.szL l<=1000000 ->
  Calls Tryz.prog 113 #[v,.pointer (some ⟨bo,0,none⟩),.pointer (some ⟨bi,0,none⟩)] w fun e w'=>e=.returned (.tuple #[])/\InOut B0 B bo bi vo w (acc++Inl.deepL l) w':=by
 induction n using Nat.strongRecOn with
 | _ n ih=>
  intro l B0 B bo bi acc rows0 v vo w hn hnm hrd h0o h0i hoB hiB hoi hbd hOL hal
  obtain ⟨a,cap,hv,hs⟩:=Rd.sl_open hrd
  obtain rfl:v=.slice a l.length cap:=by simpa using hv
  have hcap:l.length<=cap:=by simpa using hs.le
  have hll:=Inl.len_le l
  have hmx:=hs.max
  have HS:=hid hs
  have IH:=hid ih
  have HBD:=hid hbd
  have R0:Hid (IlRel B0 B bo bi vo w acc l (.int .i64 0) w):=⟨0,Nat.zero_le _,rfl,vo,rows0,by rw [List.take_zero,Inl.deepL,List.append_nil];exact hOL,⟨Nat.le_refl _,rfl,rfl,rfl,fun _ _ _ _=>rfl⟩,.inl rfl⟩
  have hvo:∀ g,vo.ownBlock=some g->B<=g:=fun g hg=>(hOL.own.lt g hg).1
  have HVO:=hid hvo
  have hBw:=hOL.siz
  clear hs hv hrd ih hbd hOL hvo
  unfold maxLen at hmx
  go_enter Tryz.func113,Tryz.ntmps113
  go_wp2
  go_loopw [8] (fun vi wr=>IlRel B0 B bo bi vo w acc l vi wr) (fun i _=>l.length-(intOf i).toNat)
  case atStart=>exact R0.out
  case round=>
   obtain ⟨k,hk,rfl,vo1,rows,hOL,hKO,hor⟩:=hrel
   clear R0
   by_cases hlt:k<l.length
   ·obtain ⟨x,hx⟩:∃ x,l[k]?=some x:=⟨_,List.getElem?_eq_getElem hlt⟩
    obtain ⟨kd,t,d,ti,at_,ar,ci,ks⟩:=x
    have hbel:Below B0 w wr:=hKO.below h0o (by omega) HVO.out (by omega)
    obtain ⟨g,off,vc,vp,va,vi,vk,rfl,hok,hbl,hc,hR⟩:=q1b (HS.out.below hbel) hx
    obtain ⟨c0,c1,c2,c3,c4,c5,c6,c7,c8,c9⟩:=hc
    have hb1:=Inl.bdL_get l k _ HBD.out hx
    rw [Inl.bd] at hb1
    obtain ⟨hn1,hn2,hn3,hn4,hn5⟩:=hb1
    have hsz:=Inl.szL_get l k _ hx
    rw [Inl.sz] at hsz
    obtain ⟨ac,nc,cc,rfl⟩:=Rd.sl_form hR.at_.cls
    obtain ⟨ap,np,cp,rfl⟩:=Rd.sl_form hR.at_.prs
    obtain ⟨Aa,na,ca,rfl⟩:=Rd.sl_form hR.args
    obtain ⟨Ai,ni,cci,rfl⟩:=Rd.sl_form hR.cites
    obtain ⟨ak,nk,ck,rfl⟩:=Rd.sl_form hR.kids
    have HR:=hid hR
    have HX:=hid hx
    have HOL:=hid hOL
    have HKO:=hid hKO
    have HOR:=hid hor
    have hszr:=hOL.siz
    clear hR hx hOL hKO hor hbel
    go_upto_region 4 with (fail)
    obtain ⟨p,hp⟩:∃ p,p=wr.heap.size:=⟨_,rfl⟩
    obtain ⟨wA,hwA⟩:∃ wA,wA=wr.alloc (.cells #[.int .i64 kd,.string t,.string d,.string ti,.string at_.id,.slice ac nc cc,.slice ap np cp,.slice Aa na ca,.slice Ai ni cci,.slice ak nk ck] 47):=⟨_,rfl⟩
    have hpv:vo1.ownBlock≠some p:=by rw [hp];exact own_ne HOL.out.own (Nat.le_refl _)
    have hBp:B<=p:=by rw [hp];exact hszr
    have OA:OL B0 B bo bi p vo1 (acc++Inl.deepL (l.take k)) rows wA:=by
     rw [hwA]
     refine ⟨(Below.heap_alloc _ _ _ (by omega)).trans HOL.out.bx,(Below.heap_alloc _ _ _ (by omega)).trans HOL.out.fn,HOL.out.own.alloc _,RdL.keep (fun b hb hlt'=>⟨?_,Below.heap_alloc _ _ b hlt'⟩) _ _ HOL.out.red,HOL.out.len,by simp;omega⟩
     rcases hb with hb | hb
     ·exact .inl hb
     ·exact .inr ⟨hb.1,hb.2.1,by omega⟩
    have PA:PB p [.int .i64 kd,.string t,.string d,.string ti,.string at_.id,.slice ac nc cc,.slice ap np cp,.slice Aa na ca,.slice Ai ni cci,.slice ak nk ck] wA:=by
     rw [hwA,hp];exact heap_alloc_new wr _
    have bA:Below B0 wr wA:=by rw [hwA];exact (Below.refl _ _).alloc (by omega) _
    have gA:wr.grownBy wA none:=by rw [hwA];exact World.grownBy_alloc _ _ none
    have hpA:wA.heap.size=p+1:=by rw [hwA,hp];simp
    have HPW:=hid hp
    have HVP:Hid (∀ g,vo1.ownBlock=some g->g<p):=fun g hg=>by rw [hp];exact (HOL.out.own.lt g hg).2
    have HSA:=hid hpA
    have hBA:B0<=wA.heap.size:=by omega
    rw [<- hwA,<- hp]
    clear hp hpA hwA c0 c1 c2 c3 c4 c5 c6 c7 c8 c9 hbl HOL hszr
    have HIA:=hid (⟨OA,PA,by rw [HPW.out];exact (Below.refl _ _).grown gA (Nat.le_refl _) (by simp)⟩:IS B0 B bo bi p vo1 (acc++Inl.deepL (l.take k)) rows [.int .i64 kd,.string t,.string d,.string ti,.string at_.id,.slice ac nc cc,.slice ap np cp,.slice Aa na ca,.slice Ai ni cci,.slice ak nk ck] wr wA)
    have d4:=PA.cell 4 _ rfl
    have d5:=PA.cell 5 _ rfl
    have d6:=PA.cell 6 _ rfl
    have CT:=hid (tcopyAttr_any at_ _ _ B0 wA (HR.out.at_.below bA) hBA hn1 hn2)
    clear OA PA
    go_wp2_with fail
    refine CT.out.mono ?_
    rintro e w1 ⟨vc1,vp1,rfl,hat1,b1⟩
    obtain ⟨ac1,nc1,cc1,rfl⟩:=Rd.sl_form hat1.cls
    obtain ⟨ap1,np1,cp1,rfl⟩:=Rd.sl_form hat1.prs
    have I1:=HIA.out.grown (q02 b1)
    have HI1:=hid I1
    have AT1:=hid (hat1.weaken (ok':=(p<·)) (fun b hb=>by have:=HSA.out;omega))
    have d4:=I1.pb.cell 4 _ rfl
    have d5:=I1.pb.cell 5 _ rfl
    have d6:=I1.pb.cell 6 _ rfl
    have f4:=I1.pb.free 4
    have f5:=I1.pb.free 5
    have f6:=I1.pb.free 6
    have h0B:B0<=B:=by omega
    clear I1 CT HIA hat1 b1 gA bA hBA
    go_upto_region 5 with (fail)
    obtain ⟨w2,hw2⟩:∃ w2,w2=((w1.setCell ⟨p,4,none⟩ (.string at_.id)).setCell ⟨p,5,none⟩ (.slice ac1 nc1 cc1)).setCell ⟨p,6,none⟩ (.slice ap1 np1 cp1):=⟨_,rfl⟩
    have I2:IS B0 B bo bi p vo1 (acc++Inl.deepL (l.take k)) rows [.int .i64 kd,.string t,.string d,.string ti,.string at_.id,.slice ac1 nc1 cc1,.slice ap1 np1 cp1,.slice Aa na ca,.slice Ai ni cci,.slice ak nk ck] wr w2:=by
     rw [hw2];exact ((HI1.out.set hoB hiB h0B hBp hpv 4 _).set hoB hiB h0B hBp hpv 5 _).set hoB hiB h0B hBp hpv 6 _
    have AT2:Hid (AtR (p<·) w2 at_ (.slice ac1 nc1 cc1) (.slice ap1 np1 cp1)):=by
     show AtR _ _ _ _ _
     rw [hw2];exact ((AT1.out.above (Above.set 4 _)).above (Above.set 5 _)).above (Above.set 6 _)
    rw [<- hw2]
    clear hw2 d4 d5 d6 f4 f5 f6 HI1 AT1
    have HI2:=hid I2
    have d7:=I2.pb.cell 7 _ rfl
    have hl2:=I2.pb.lt
    have CS:=hid (cloneS_any ar B0 _ w2 (HR.out.args.below (I2.bl.mono (by omega))) (by omega) hn3)
    clear I2
    go_wp2_with fail
    refine CS.out.mono ?_
    rintro e w2b ⟨va1,rfl,hra,ba⟩
    obtain ⟨aa1,na1,ca1,rfl⟩:=Rd.sl_form hra
    have I2b:=HI2.out.grown (q02 ba)
    have HI2b:=hid I2b
    have AT2b:=hid (AT2.out.above (Above.grown (q02 ba)))
    have RA2b:=hid (hra.weaken (ok':=(p<·)) (fun b hb=>by omega))
    have d7:=I2b.pb.cell 7 _ rfl
    have f7:=I2b.pb.free 7
    clear I2b HI2 AT2 CS hra ba hl2
    go_upto_region 6 with (fail)
    obtain ⟨w3,hw3⟩:∃ w3,w3=w2b.setCell ⟨p,7,none⟩ (.slice aa1 na1 ca1):=⟨_,rfl⟩
    have I3:IS B0 B bo bi p vo1 (acc++Inl.deepL (l.take k)) rows [.int .i64 kd,.string t,.string d,.string ti,.string at_.id,.slice ac1 nc1 cc1,.slice ap1 np1 cp1,.slice aa1 na1 ca1,.slice Ai ni cci,.slice ak nk ck] wr w3:=by
     rw [hw3];exact HI2b.out.set hoB hiB h0B hBp hpv 7 _
    have AT3:Hid (AtR (p<·) w3 at_ (.slice ac1 nc1 cc1) (.slice ap1 np1 cp1)):=by
     show AtR _ _ _ _ _
     rw [hw3];exact AT2b.out.above (Above.set 7 _)
    have RA3:Hid (Rd (p<·) w3 (strsD ar) [.slice aa1 na1 ca1]):=by
     show Rd _ _ _ _
     rw [hw3];exact RA2b.out.above (Above.set 7 _)
    rw [<- hw3]
    clear hw3 d7 f7 HI2b AT2b RA2b
    have HI3:=hid I3
    have d8:=I3.pb.cell 8 _ rfl
    have hl3:=I3.pb.lt
    have CC:=hid (cloneC_any ci B0 _ w3 (HR.out.cites.below (I3.bl.mono (by omega))) (by omega) hn4)
    clear I3
    go_wp2_with fail
    refine CC.out.mono ?_
    rintro e w3b ⟨vi1,rfl,hri,bi3⟩
    obtain ⟨ai1,ni1,ci1,rfl⟩:=Rd.sl_form hri
    have I3b:=HI3.out.grown (q02 bi3)
    have HI3b:=hid I3b
    have AT3b:=hid (AT3.out.above (Above.grown (q02 bi3)))
    have RA3b:=hid (RA3.out.above (Above.grown (q02 bi3)))
    have RI3b:=hid (hri.weaken (ok':=(p<·)) (fun b hb=>by omega))
    have d8:=I3b.pb.cell 8 _ rfl
    have f8:=I3b.pb.free 8
    clear I3b HI3 AT3 RA3 CC hri bi3 hl3
    go_upto_region 7 with (fail)
    obtain ⟨w4,hw4⟩:∃ w4,w4=w3b.setCell ⟨p,8,none⟩ (.slice ai1 ni1 ci1):=⟨_,rfl⟩
    have I4:IS B0 B bo bi p vo1 (acc++Inl.deepL (l.take k)) rows [.int .i64 kd,.string t,.string d,.string ti,.string at_.id,.slice ac1 nc1 cc1,.slice ap1 np1 cp1,.slice aa1 na1 ca1,.slice ai1 ni1 ci1,.slice ak nk ck] wr w4:=by
     rw [hw4];exact HI3b.out.set hoB hiB h0B hBp hpv 8 _
    have IN4:Hid (InR (fun b=>b<B0\/p<b) w4 at_ ar ci ks (.slice ac1 nc1 cc1) (.slice ap1 np1 cp1) (.slice aa1 na1 ca1) (.slice ai1 ni1 ci1) (.slice ak nk ck)):=by
     show InR _ _ _ _ _ _ _ _ _ _ _
     refine ⟨?_,?_,?_,?_⟩
     ·rw [hw4];exact (AT3b.out.above (Above.set 8 _)).weaken (fun b hb=>.inr hb)
     ·rw [hw4];exact (RA3b.out.above (Above.set 8 _)).weaken (fun b hb=>.inr hb)
     ·rw [hw4];exact (RI3b.out.above (Above.set 8 _)).weaken (fun b hb=>.inr hb)
     ·exact (HR.out.kids.below (I4.bl.mono (by omega))).weaken (fun b hb=>.inl hb)
    rw [<- hw4]
    clear hw4 d8 f8 HI3b AT3b RA3b RI3b
    have HI4:=hid I4
    obtain ⟨iI,hiI,hzI0,hzI1,hzI2⟩:=info_parts infoIn
    obtain ⟨ao,co,rfl⟩:=q09 I4.ol.own
    obtain ⟨m,hm⟩:∃ m,m=(acc++Inl.deepL (l.take k)).length:=⟨_,rfl⟩
    have hm1:m+(Inl.szL ks+1)<=1000000:=by
     have h1:=Inl.szL_take_get l k _ HX.out
     rw [Inl.sz] at h1
     rw [hm,List.length_append,Inl.deepL_len];omega
    have HM:=hid hm
    have e0:=I4.pb.cell 0 _ rfl
    have e1:=I4.pb.cell 1 _ rfl
    have e2:=I4.pb.cell 2 _ rfl
    have e3:=I4.pb.cell 3 _ rfl
    have e4:=I4.pb.cell 4 _ rfl
    have e5:=I4.pb.cell 5 _ rfl
    have e6:=I4.pb.cell 6 _ rfl
    have e7:=I4.pb.cell 7 _ rfl
    have e8:=I4.pb.cell 8 _ rfl
    have e9:=I4.pb.cell 9 _ rfl
    have eb:w4.cell? ⟨bo,0,none⟩=some (.slice ao m co):=by
     have:=I4.ol.bx
     rw [hm];simp [World.cell?,this]
    have fb:w4.frozen? ⟨bo,0,none⟩=false:=by
     have:=I4.ol.bx
     simp [World.frozen?,this]
    have OW4:Hid (w4.ownsRow B 47 10 (.slice ao m co) m rows.flatten):=by
     show World.ownsRow _ _ _ _ _ _ _
     rw [hm];exact I4.ol.own
    have hs4:B<=w4.heap.size:=I4.ol.siz
    have HBX:=hid I4.ol.bx
    rw [<- hm] at HBX
    have hp4:p<w4.heap.size:=I4.pb.lt
    have hb4:bo<w4.heap.size:=by omega
    have HPB:=hid I4.pb
    have hpv4:(Value.slice ao m co).ownBlock≠some p:=by rw [hm];exact hpv
    have HRL:Hid (rows.flatten.length=m*10):=OW4.out.1
    have HI5:Hid (IS B0 B bo bi p (.slice ao m co) (acc++Inl.deepL (l.take k)) rows [.int .i64 kd,.string t,.string d,.string ti,.string at_.id,.slice ac1 nc1 cc1,.slice ap1 np1 cp1,.slice aa1 na1 ca1,.slice ai1 ni1 ci1,.slice ak nk ck] wr w4):=by
     show IS _ _ _ _ _ _ _ _ _ _ _
     rw [hm];exact HI4.out
    have HVQ:Hid (∀ g,(Value.slice ao m co).ownBlock=some g->g<p):=by
     show ∀ g,_
     rw [hm];exact HVP.out
    rw [<- hm] at HOR
    clear I4 hm HI4 HVP
    have RX4:=hid (Inl.mk_ kd t d ti IN4.out)
    go_cut [] (fun wx=>InOut B0 B bo bi (.slice ao m co) w4 (acc++Inl.deepL (l.take k)++[Inl.mk kd t d ti at_ ar ci ks]) wx)
    case first=>
     go_region_law (refine step_append_lies _ rfl (.tmp 27) (.tmp 30) 38 rfl B 47 iI _ 10 192 Tryz.underlying38 hiI hzI0 hzI1 hzI2 rfl (by decide) (.slice ao m co) m rows.flatten rfl (OW4.out.alloc _) ⟨w4.heap.size,0,none⟩ 1 1 [.int .i64 0,.string ⟨#[]⟩,.string ⟨#[]⟩,.string ⟨#[]⟩,.string ⟨#[]⟩,.slice none 0 0,.slice none 0 0,.slice none 0 0,.slice none 0 0,.slice none 0 0] rfl rfl (q0o w4 _ _) (by intro u hu;simp at hu;rcases hu with rfl | rfl | rfl<;>rfl) (by omega) (by unfold maxLen;omega) (by omega) (by show B<=(w4.alloc _).heap.size;rw [World.size_alloc];omega) _ rfl ?_;intro g cap w5 hown hgrow hat hlt5;have hix:(m:Int)<(m:Int)+1:=(by omega);have hcp:=own_cap hown;have q0:=cell_at hown HRL.out 0 _ rfl (by omega);have z0:=hown.frozenAt (m*10+0);have q1:=cell_at hown HRL.out 1 _ rfl (by omega);have z1:=hown.frozenAt (m*10+1);have q2:=cell_at hown HRL.out 2 _ rfl (by omega);have z2:=hown.frozenAt (m*10+2);have q3:=cell_at hown HRL.out 3 _ rfl (by omega);have z3:=hown.frozenAt (m*10+3);have q4:=cell_at hown HRL.out 4 _ rfl (by omega);have z4:=hown.frozenAt (m*10+4);have q5:=cell_at hown HRL.out 5 _ rfl (by omega);have z5:=hown.frozenAt (m*10+5);have q6:=cell_at hown HRL.out 6 _ rfl (by omega);have z6:=hown.frozenAt (m*10+6);have q7:=cell_at hown HRL.out 7 _ rfl (by omega);have z7:=hown.frozenAt (m*10+7);have q8:=cell_at hown HRL.out 8 _ rfl (by omega);have z8:=hown.frozenAt (m*10+8);have q9:=cell_at hown HRL.out 9 _ rfl (by omega);have z9:=hown.frozenAt (m*10+9);obtain ⟨qb,zb,hgb⟩:=box_at HBX.out hown hgrow OW4.out hoB hs4;simp only [Nat.add_zero] at q0 z0;have PB5:=pb_at HPB.out hgrow hpv4;have r0:=PB5.cell 0 _ rfl;have r1:=PB5.cell 1 _ rfl;have r2:=PB5.cell 2 _ rfl;have r3:=PB5.cell 3 _ rfl;have r4:=PB5.cell 4 _ rfl;have r5:=PB5.cell 5 _ rfl;have r6:=PB5.cell 6 _ rfl;have r7:=PB5.cell 7 _ rfl;have r8:=PB5.cell 8 _ rfl;have r9:=PB5.cell 9 _ rfl;have hat2:=hat.imp_right (fun e=>(Nat.le_trans (Nat.le_succ w4.heap.size) (Nat.le_of_eq ((World.size_alloc _ _).symm.trans e.symm))));have PT1:=push_two HI5.out HM.out hoB hiB hoi h0o hBp HVQ.out RX4.out hown rfl HRL.out hgrow hat2;simp only [ten] at PT1;have PT:=hid PT1;clear PT1 PB5 hat hat2)
     all_goals
      go_wp2_with fail
      go_meet
      first
      | with_reducible exact PT.out.1
      | with_reducible exact PT.out.2
    case rest=>
     obtain ⟨w7,hw7⟩:∃ w7:World,w7=wc:=⟨_,rfl⟩
     subst hw7
     have hKO7:KeepO bo vo w w4:=by
      have hb:=HI5.out.bl
      have hk:=HKO.out
      refine ⟨Nat.le_trans hk.1 hb.size,hb.os.trans hk.2.1,hb.tape.trans hk.2.2.1,hb.output.trans hk.2.2.2.1,fun b hb' hne hvo=>(hb.block b ?_).trans (hk.2.2.2.2 b hb' hne hvo)⟩
      rw [HPW.out];exact Nat.lt_of_lt_of_le hb' hk.1
     have IO7:=InOut.trans hKO7 HOR.out hcut
     obtain ⟨vo7,rows7,OL7,KO7,OR7⟩:=IO7
     obtain ⟨g7,o7,vc7,vp7,va7,vi7,vk7,hgo,_,_,hc7,hR7⟩:=q1b (HS.out.below (KO7.below h0o (by omega) HVO.out (by omega))) HX.out
     cases hgo
     have k9:=hc7.c9
     have kb:w7.cell? ⟨bi,0,none⟩=some (inF bo bi):=by
      have:=OL7.fn
      simp [World.cell?,this]
     unfold inF at kb
     have hsk:=Inl.szL_get l k _ HX.out
     rw [Inl.sz] at hsk
     have IK:=hid (IH.out (Inl.szL ks) (by omega) ks B0 B bo bi (acc++Inl.deepL (l.take k)++[Inl.mk kd t d ti at_ ar ci ks]) rows7 vk7 vo7 w7.drew (Nat.le_refl _) (by omega) (hR7.kids.below ⟨rfl,rfl,rfl,Nat.le_refl _,fun _ _=>rfl⟩) h0o h0i hoB hiB hoi hn5 OL7.drew (by rw [List.length_append,<- HM.out,List.length_singleton];omega))
     have HKO7:=hid KO7.drew
     have HOR7:=hid OR7
     obtain ⟨ak7,nk7,ck7,rfl⟩:=Rd.sl_form hR7.kids
     clear hcut OL7 KO7 OR7 hR7 hc7 hKO7 HI5 HVQ HBX HPB OW4 RX4
     go_upto_region 8 with (fail)
     go_still_tail 6,(by kernel_rfl)
     change wpList _ _ _ _ _ w7.drew
     go_wp2_with fail
     refine IK.out.mono ?_
     rintro e w8 ⟨rfl,IO8⟩
     have IO9:=hid (InOut.trans HKO7.out HOR7.out IO8)
     clear IO8 IK HKO7 HOR7 k9 kb
     go_wp2_with fail
     go_roundw
     case rel=>
      refine ⟨k+1,by omega,by go_num,?_⟩
      rw [Inl.deepL_take l k _ HX.out,Inl.deep]
      have:=IO9.out
      simp only [List.append_assoc,List.singleton_append] at this
      exact this
     case measure=>simp [intOf];omega
   ·have hkl:k=l.length:=by omega
    subst hkl
    rw [List.take_length] at hOL
    have HO:=hid hOL
    clear hOL
    go_wp2
    go_end0
    exact ⟨rfl,vo1,rows,HO.out,hKO,hor⟩
open Go.RowKit
mutual
def Blk.inls:Blk->List Inl
 | .mk _ _ _ _ _ _ _ li ks=>Inl.deepL li++Blk.inlsL ks
def Blk.inlsL:List Blk->List Inl
 | []=>[]
 | x::l=>x.inls++Blk.inlsL l
end
theorem Blk.inlsL_app (l m:List Blk):Blk.inlsL (l++m)=Blk.inlsL l++Blk.inlsL m:=by
 induction l with
 | nil=>rw [Blk.inlsL];rfl
 | cons x l ih=>rw [List.cons_append,Blk.inlsL,Blk.inlsL,ih,List.append_assoc]
theorem Blk.inlsL_take (l:List Blk) (k:Nat) (x:Blk) (h:l[k]?=some x):Blk.inlsL (l.take (k+1))=Blk.inlsL (l.take k)++x.inls:=by
 rw [List.take_add_one,h,Blk.inlsL_app]
 simp [Blk.inlsL]
theorem Blk.inlsL_len (l:List Blk) (k:Nat) (x:Blk) (h:l[k]?=some x):(Blk.inlsL (l.take k)).length+x.inls.length<=(Blk.inlsL l).length:=by
 have e:Blk.inlsL l=Blk.inlsL (l.take (k+1))++Blk.inlsL (l.drop (k+1)):=by rw [<- Blk.inlsL_app,List.take_append_drop]
 have e2:=congrArg List.length e
 rw [Blk.inlsL_take l k x h] at e2
 simp only [List.length_append] at e2
 omega
def inG (bi bk:Nat):Value:=.func (.func 117) #[] #[.pointer (some ⟨bi,0,none⟩),.pointer (some ⟨bk,0,none⟩)]
def KBox (bi bk:Nat) (w:World):Prop:=w.heap[bk]?=some (.cells #[inG bi bk] 149 (0,0))
theorem KBox.keep {bi bk bo B:Nat} {vo:Value} {w w':World} (h:KBox bi bk w) (hk:KeepO bo vo w w') (hne:bk≠bo) (hb:bk<B) (hv:∀ g,vo.ownBlock=some g->B<=g):KBox bi bk w':=
 (hk.2.2.2.2 bk (Array.getElem?_eq_some_iff.1 h).1 hne (fun e=>by have:=hv bk e;omega)).trans h
def IbRel (B0 B bo bi:Nat) (vo:Value) (w:World) (acc:List Inl) (l:List Blk) (vi:Value) (wr:World):Prop:=
 ∃ k:Nat,k<=l.length/\vi=.int .i64 k/\InOut B0 B bo bi vo w (acc++Blk.inlsL (l.take k)) wr
theorem inbs_any (n:Nat):∀ (l:List Blk) (B0 B bo bi bk:Nat) (acc:List Inl) (rows0:List (List Value)) (v vo:Value) (w:World),Blk.szL l<=n->n<=1000000->Rd (·<B0) w (q0x l) [v]->B0<=bo->B0<=bi->bo<B->bi<B->bo≠bi->bk<B->bk≠bo->Blk.bdL l->OL B0 B bo bi bo vo acc rows0 w->KBox bi bk w->acc.length+(Blk.inlsL l).length<=1000000 ->
  Calls Tryz.prog 117 #[v,.pointer (some ⟨bi,0,none⟩),.pointer (some ⟨bk,0,none⟩)] w fun e w'=>e=.returned (.tuple #[])/\InOut B0 B bo bi vo w (acc++Blk.inlsL l) w':=by
 induction n using Nat.strongRecOn with
 | _ n ih=>
  intro l B0 B bo bi bk acc rows0 v vo w hn hnm hrd h0o h0i hoB hiB hoi hkB hko hbd hOL hKB hal
  obtain ⟨a,cap,hv,hs⟩:=Rd.sl_open hrd
  obtain rfl:v=.slice a l.length cap:=by simpa using hv
  have hcap:l.length<=cap:=by simpa using hs.le
  have hll:=Blk.len_le l
  have hmx:=hs.max
  have HS:=hid hs
  have IH:=hid ih
  have HBD:=hid hbd
  have HKB:=hid hKB
  have R0:Hid (IbRel B0 B bo bi vo w acc l (.int .i64 0) w):=⟨0,Nat.zero_le _,rfl,vo,rows0,by rw [List.take_zero,Blk.inlsL,List.append_nil];exact hOL,⟨Nat.le_refl _,rfl,rfl,rfl,fun _ _ _ _=>rfl⟩,.inl rfl⟩
  have hvo:∀ g,vo.ownBlock=some g->B<=g:=fun g hg=>(hOL.own.lt g hg).1
  have HVO:=hid hvo
  have hBw:=hOL.siz
  clear hs hv hrd ih hbd hOL hvo hKB
  unfold maxLen at hmx
  go_enter Tryz.func117,Tryz.ntmps117
  go_wp2
  go_loopw [7] (fun vi wr=>IbRel B0 B bo bi vo w acc l vi wr) (fun i _=>l.length-(intOf i).toNat)
  case atStart=>exact R0.out
  case round=>
   obtain ⟨k,hk,rfl,vo1,rows,hOL,hKO,hor⟩:=hrel
   clear R0
   by_cases hlt:k<l.length
   ·obtain ⟨x,hx⟩:∃ x,l[k]?=some x:=⟨_,List.getElem?_eq_getElem hlt⟩
    obtain ⟨kd,lv,i,t,d,ti,at_,li,ks⟩:=x
    have hbel:Below B0 w wr:=hKO.below h0o (by omega) HVO.out (by omega)
    obtain ⟨g,off,vc,vp,vl,vk,rfl,hok,hbl,hc,hR⟩:=q1w (HS.out.below hbel) hx
    have c9:=hc.c9
    have hb1:=Blk.bdL_get l k _ HBD.out hx
    rw [Blk.bd] at hb1
    obtain ⟨hn1,hn2,hn3,hn4,hn5⟩:=hb1
    have hsz:=Blk.szL_get l k _ hx
    rw [Blk.sz] at hsz
    have hln:=Blk.inlsL_len l k _ hx
    rw [Blk.inls,List.length_append] at hln
    have hln2:=Inl.deepL_len li
    obtain ⟨al,nl,cl,rfl⟩:=Rd.sl_form hR.line
    have kb:wr.cell? ⟨bi,0,none⟩=some (inF bo bi):=by
     have:=hOL.fn
     simp [World.cell?,this]
    unfold inF at kb
    have CI:=hid (inls_any (Inl.szL li) li B0 B bo bi (acc++Blk.inlsL (l.take k)) rows (.slice al nl cl) vo1 wr.drew (Nat.le_refl _) hn4 (hR.line.below ⟨rfl,rfl,rfl,Nat.le_refl _,fun _ _=>rfl⟩) h0o h0i hoB hiB hoi hn3 hOL.drew (by rw [List.length_append];omega))
    have HX:=hid hx
    have HKO:=hid hKO.drew
    have HOR:=hid hor
    clear hR hx hOL hKO hor hbel hc hbl
    go_upto_region 3 with (fail)
    go_still_tail 6,(by kernel_rfl)
    change wpList _ _ _ _ _ wr.drew
    go_wp2_with fail
    refine CI.out.mono ?_
    rintro e w1 ⟨rfl,IO1⟩
    obtain ⟨vo2,rows2,OL2,KO2,OR2⟩:=InOut.trans HKO.out HOR.out IO1
    obtain ⟨g7,o7,vc7,vp7,vl7,vk7,hgo,_,_,hc7,hR7⟩:=q1w (HS.out.below (KO2.below h0o (by omega) HVO.out (by omega))) HX.out
    cases hgo
    have k10:=hc7.c10
    have kb2:w1.cell? ⟨bk,0,none⟩=some (inG bi bk):=by
     have:=HKB.out.keep KO2 hko hkB HVO.out
     unfold KBox at this
     simp [World.cell?,this]
    unfold inG at kb2
    obtain ⟨ak7,nk7,ck7,rfl⟩:=Rd.sl_form hR7.kids
    have IK:=hid (IH.out (Blk.szL ks) (by omega) ks B0 B bo bi bk (acc++Blk.inlsL (l.take k)++Inl.deepL li) rows2 (.slice ak7 nk7 ck7) vo2 w1.drew (Nat.le_refl _) (by omega) (hR7.kids.below ⟨rfl,rfl,rfl,Nat.le_refl _,fun _ _=>rfl⟩) h0o h0i hoB hiB hoi hkB hko hn5 OL2.drew (HKB.out.keep KO2.drew hko hkB HVO.out) (by rw [List.length_append,List.length_append];omega))
    have HKO2:=hid KO2.drew
    have HOR2:=hid OR2
    clear CI IO1 OL2 KO2 OR2 hR7 hc7 kb c9 HKO HOR
    go_upto_region 4 with (fail)
    go_still_tail 6,(by kernel_rfl)
    change wpList _ _ _ _ _ w1.drew
    go_wp2_with fail
    refine IK.out.mono ?_
    rintro e w8 ⟨rfl,IO8⟩
    have IO9:=hid (InOut.trans HKO2.out HOR2.out IO8)
    clear IO8 IK HKO2 HOR2 k10 kb2
    go_wp2_with fail
    go_roundw
    case rel=>
     refine ⟨k+1,by omega,by go_num,?_⟩
     rw [Blk.inlsL_take l k _ HX.out,Blk.inls]
     have:=IO9.out
     simp only [List.append_assoc] at this ⊢
     exact this
    case measure=>simp [intOf];omega
   ·have hkl:k=l.length:=by omega
    subst hkl
    rw [List.take_length] at hOL
    have HO:=hid hOL
    clear hOL
    go_wp2
    go_end0
    exact ⟨rfl,vo1,rows,HO.out,hKO,hor⟩
open Go.RowKit
def Box1 (b:Nat) (v:Value) (t:TypeId) (w:World):Prop:=w.heap[b]?=some (.cells #[v] t (0,0))
section
variable {b:Nat} {v:Value} {t:TypeId} {w w':World}
theorem Box1.lt (h:Box1 b v t w):b<w.heap.size:=(Array.getElem?_eq_some_iff.1 h).1
theorem Box1.cell (h:Box1 b v t w):w.cell? ⟨b,0,none⟩=some v:=by unfold Box1 at h;simp [World.cell?,h]
theorem Box1.free (h:Box1 b v t w):w.frozen? ⟨b,0,none⟩=false:=by unfold Box1 at h;simp [World.frozen?,h]
theorem Box1.set (h:Box1 b v t w) (u:Value):Box1 b u t (w.setCell ⟨b,0,none⟩ u):=box_set h
theorem Box1.far (h:Box1 b v t w) {q j:Nat} (hq:b≠q) (u:Value):Box1 b v t (w.setCell ⟨q,j,none⟩ u):=(Below.heap_setCell w ⟨q,j,none⟩ u b hq).trans h
theorem Box1.alloc (h:Box1 b v t w) (o:Obj):Box1 b v t (w.alloc o):=(Below.heap_alloc w o b h.lt).trans h
theorem Box1.new (w:World) (v:Value) (t:TypeId):Box1 w.heap.size v t (w.alloc (.cells #[v] t)):=heap_alloc_new w _
theorem Box1.below (h:Box1 b v t w) {B:Nat} (hB:b<B) (hb:Below B w w'):Box1 b v t w':=(hb.block b hB).trans h
theorem Box1.grown (h:Box1 b v t w) (hg:w.grownBy w' none):Box1 b v t w':=(hg.block b h.lt (by simp)).trans h
theorem Box1.drew (h:Box1 b v t w):Box1 b v t w.drew:=h
end
theorem own_mono2 {w:World} {B B':Nat} {e:TypeId} {k n:Nat} {v:Value} {xs:List Value} (h:w.ownsRow B e k v n xs) (hB:B'<=B):w.ownsRow B' e k v n xs:=
 ⟨h.1,h.2.imp id fun ⟨g,cap,cur,h1,h2,h3⟩=>⟨g,cap,cur,h1,Nat.le_trans hB h2,h3⟩⟩
theorem inlines_any (l:List Blk) (v:Value) (w:World) (h:Rd (·<w.heap.size) w (q0x l) [v]) (hbd:Blk.bdL l) (hsz:Blk.szL l<=1000000) (hln:(Blk.inlsL l).length<=1000000) :
  Calls Tryz.prog 83 #[v] w fun e w'=>∃ v' rows,e=.returned v'/\w'.ownsRow w.heap.size 47 10 v' (Blk.inlsL l).length rows.flatten/\RdL (fun _=>True) w' ((Blk.inlsL l).map Inl.d) rows/\(∀ r∈rows,r.length=10)/\Below w.heap.size w w':=by
 obtain ⟨va,vn,vc,rfl⟩:=Rd.sl_form h
 have HR:=hid h
 have HBD:=hid hbd
 clear h hbd
 obtain ⟨N,hN⟩:∃ N,N=w.heap.size:=⟨_,rfl⟩
 go_enter Tryz.func83,Tryz.ntmps83
 go_upto_region 3 with (fail)
 obtain ⟨wA,hwA⟩:∃ wA,wA=(w.alloc (.cells #[.slice none 0 0] 38)).alloc (.cells #[.nilFunc] 146):=⟨_,rfl⟩
 have b0:Box1 N (.slice none 0 0) 38 wA:=by rw [hwA,hN];exact (Box1.new w _ _).alloc _
 have b1:Box1 (N+1) .nilFunc 146 wA:=by
  rw [hwA,hN]
  have:=Box1.new (w.alloc (.cells #[.slice none 0 0] 38)) .nilFunc 146
  rwa [World.size_alloc] at this
 have bl:Below N w wA:=by rw [hwA,hN];exact ((Below.refl _ _).alloc (Nat.le_refl _) _).alloc (by simp) _
 have sz:wA.heap.size=N+2:=by rw [hwA,hN];simp
 rw [<- hwA,<- hN]
 rw [<- hN] at HR
 have HN:=hid hN
 clear hwA hN
 have c1:=b1.cell
 have f1:=b1.free
 go_upto_region 4 with (fail)
 obtain ⟨wB,hwB⟩:∃ wB,wB=wA.setCell ⟨N+1,0,none⟩ (inF N (N+1)):=⟨_,rfl⟩
 have d0:Box1 N (.slice none 0 0) 38 wB:=by rw [hwB];exact b0.far (by omega) _
 have d1:Box1 (N+1) (inF N (N+1)) 146 wB:=by rw [hwB];exact b1.set _
 have dl:Below N w wB:=by rw [hwB];exact bl.setCell (p:=⟨N+1,0,none⟩) (by show N<=N+1;omega) _
 have dz:wB.heap.size=N+2:=by rw [hwB];simpa [World.setCell] using sz
 unfold inF at hwB
 rw [<- hwB]
 clear hwB b0 b1 bl sz c1 f1
 go_upto_region 5 with (fail)
 obtain ⟨wC,hwC⟩:∃ wC,wC=wB.alloc (.cells #[.nilFunc] 149):=⟨_,rfl⟩
 have b0:Box1 N (.slice none 0 0) 38 wC:=by rw [hwC];exact d0.alloc _
 have b1:Box1 (N+1) (inF N (N+1)) 146 wC:=by rw [hwC];exact d1.alloc _
 have b2:Box1 (N+2) .nilFunc 149 wC:=by rw [hwC,<- dz];exact Box1.new _ _ _
 have bl:Below N w wC:=by rw [hwC];exact dl.alloc (by omega) _
 have sz:wC.heap.size=N+3:=by rw [hwC];simp [dz]
 rw [<- hwC]
 clear hwC d0 d1 dl dz
 have c2:=b2.cell
 have f2:=b2.free
 go_upto_region 6 with (fail)
 obtain ⟨wD,hwD⟩:∃ wD,wD=wC.setCell ⟨N+2,0,none⟩ (inG (N+1) (N+2)):=⟨_,rfl⟩
 have d0:Box1 N (.slice none 0 0) 38 wD:=by rw [hwD];exact b0.far (by omega) _
 have d1:Box1 (N+1) (inF N (N+1)) 146 wD:=by rw [hwD];exact b1.far (by omega) _
 have d2:Box1 (N+2) (inG (N+1) (N+2)) 149 wD:=by rw [hwD];exact b2.set _
 have dl:Below N w wD:=by rw [hwD];exact bl.setCell (p:=⟨N+2,0,none⟩) (by show N<=N+2;omega) _
 have dz:wD.heap.size=N+3:=by rw [hwD];simpa [World.setCell] using sz
 have c2:=d2.cell
 unfold inG at hwD c2
 rw [<- hwD]
 clear hwD b0 b1 b2 bl sz f2
 have OLD:OL N (N+3) N (N+1) N (.slice none 0 0) [] [] wD:=⟨d0,d1,⟨rfl,.inl ⟨rfl,rfl⟩⟩,RdL.none,by simp,by omega⟩
 have CB:=hid (inbs_any (Blk.szL l) l N (N+3) N (N+1) (N+2) [] [] (.slice va vn vc) (.slice none 0 0) wD (Nat.le_refl _) hsz (HR.out.below dl) (Nat.le_refl _) (by omega) (by omega) (by omega) (by omega) (by omega) (by omega) HBD.out OLD d2 (by simpa using hln))
 have HDL:=hid dl
 clear OLD d0 d1 d2 dl
 go_wp2_with fail
 refine CB.out.mono ?_
 rintro e w1 ⟨rfl,vo,rows,OL1,KO1,OR1⟩
 have kb:w1.cell? ⟨N,0,none⟩=some vo:=by
  have:=OL1.bx
  simp [World.cell?,this]
 obtain ⟨ao,co,rfl⟩:=q09 OL1.own
 have HO:=hid OL1
 have HK:Hid (Below N w w1):=HDL.out.trans (KO1.below (B:=N+3) (Nat.le_refl _) (by omega) (by simp [Value.ownBlock]) (by omega))
 clear OL1 KO1 OR1 CB HDL c2
 go_wp2_with fail
 go_ret
 refine ⟨_,rows,rfl,?_,RdL.keep (fun _ _ _=>⟨trivial,rfl⟩) _ _ HO.out.red,HO.out.len,HN.out ▸ HK.out⟩
 have:=own_mono2 HO.out.own (B':=w.heap.size) (by have:=HN.out;omega)
 simpa using this
end Go.Proofs.YtlbioncagkkkoaaGreatDoor
