/- Contracts of publisherref34.table, and of publisherref34.block at a table. Contracts of publisherref34.block and publisherref34.inner: the nodes of blocks. Contract of publisherref34.Blocks: the nodes of blocks, with their notes behind them, or the error. -/
import Derived.Test.YtklhajbpfelliaaGreatDoorKPlNr
set_option maxHeartbeats 8000000
set_option maxRecDepth 100000
open Go.Lib (hid)
namespace Go.Proofs.YtklhajbpfelliaaGreatDoor
open Go.Proofs.Tryz
open Nat renaming le_refl->jFk
open Go.RowKit.Below renaming refl->jFj
open Nat renaming le_trans->jFq
open List renaming length_map->jG1,mem_of_getElem?->jG7,map_append->jGk
open Go.RowKit renaming Below->jIx
open Go.RowKit
set_option linter.unusedVariables false
set_option linter.unusedSimpArgs false
def RD (w1:World) (i:ByteArray) (rs:List ah) (v vi:Value) (wr:World):Prop:=
 ∃ (k:Nat) (rows:List (List Value)),k<=rs.length/\vi=.int .i64 ((k+1:Nat):Int)/\aG 30 4 (fun _=>False) wr.heap.size w1 (((rs.take k).map (fE mO i)).map Nd.d) rows v wr
theorem RG (k lv:Int) (i t d ti:ByteArray) (at_:At) (li:List aj) (ks:List ah) (vc vp vl vk:Value) (w:World) (hR:eT (·<w.heap.size) w at_ li ks vc vp vl vk) (hT:TbR i ks) : Calls prog 108 #[.agg #[.int .i64 k,.int .i64 lv,.string i,.string t,.string d,.string ti,.string at_.id,vc,vp,vl,vk]] w (o8 w (BJ i ks)):=by
 obtain ⟨iN,qG,fF,fG,fH⟩:=info_parts iE;obtain ⟨ac,nc,cc,rfl⟩:=Rd.au hR.at_.cls
 obtain ⟨ap,np,cp,rfl⟩:=Rd.au hR.at_.aF
 obtain ⟨al,nl,cl,rfl⟩:=Rd.au hR.line;obtain ⟨ak,ck,hvk,hs⟩:=Rd.ay hR.kids;obtain ⟨nk,hnk⟩:∃ nk,nk=ks.length:=⟨_,rfl⟩;obtain rfl:vk=.slice ak nk ck:=by rw [hnk];simpa using hvk
 obtain ⟨x0,rs,rfl⟩:∃ x0 rs,ks=x0::rs:=by
  cases ks with
  | nil=>exact absurd rfl hT.ne
  | cons a b=>exact ⟨a,b,rfl⟩
 refine ZX ?_;intro hcap hmx J9 Ka S W0 hS hW0 z0 k0 k1 b0 hs2 hT0 hTR;have HTN:Hid (BJ i (x0::rs)=aH nW [] (aH Bn [] [fE sj i x0]::if rs.isEmpty=true then [] else [aH iY [] (rs.map (fE mO i))])):=rfl;have hro:fE sj i x0=aH jU [] (iq sj i.data.toList x0.kids):=rfl;obtain ⟨xk,MP,xi,xt,xd,MQ,MR,Xc,ny⟩:=x0;obtain ⟨ga,off,xvc,xvp,xvl,xvk,rfl,hok,hbl,hc,hR0⟩:=F7 (k:=0) hs2 rfl;obtain ⟨xac,xnc,xcc,rfl⟩:=Rd.au hR0.at_.cls
 obtain ⟨xap,xnp,xcp,rfl⟩:=Rd.au hR0.at_.aF
 obtain ⟨xal,xnl,xcl,rfl⟩:=Rd.au hR0.line;obtain ⟨xak,xnk,xck,rfl⟩:=Rd.au hR0.kids;refine ZY ?_;intro hc;have CX:Hid (∀ w':World,jIx W0.heap.size W0 w'->w'.cell? ⟨S,2,none⟩=some (.string i)/\w'.cell? ⟨S,10,none⟩=some (.slice (some ⟨ga,off,none⟩) nk ck)/\dA w' ga off xk MP xi xt xd MQ MR.id (.slice xac xnc xcc) (.slice xap xnp xcp) (.slice xal xnl xcl) (.slice xak xnk xck)):=fun w' hb=>
  ⟨(k0.below hb).cell 2 _ rfl,(k0.below hb).cell 10 _ rfl,hc.at2 (hb.block ga hbl)⟩
 have RC:Hid (∀ w':World,jIx W0.heap.size W0 w'->Calls prog 140 #[.agg #[.int .i64 xk,.int .i64 MP,.string xi,.string xt,.string xd,.string MQ,.string MR.id,.slice xac xnc xcc,.slice xap xnp xcp,.slice xal xnl xcl,.slice xak xnk xck],.string i,.string ⟨#[116,104]⟩] w' (o8 w' (aH jU [] (iq sj i.data.toList ny)))):=fun w' hb=>
  GN xk MP xi xt xd MQ MR Xc ny _ _ _ _ sj i w' (eT.sK hR0 (fun b (hb':b<S) hlt=>⟨by show b<w'.heap.size;have:=hb.size;omega,hb.block b (by omega)⟩)) hT0.1 hT0.2.1 hT0.2.2
 have HRO:Hid (fE sj i (.mk xk MP xi xt xd MQ MR Xc ny)=aH jU [] (iq sj i.data.toList ny)):=hro;have HS2:=hid hs2;refine Cy ?_;intro xq HW0 Z0 B0 K1;have Z5:=hid hTR;have uH:=hid J9;have jy7:0<nk:=by omega
 have jy8:(0:Int)<(nk:Int):=by omega
 clear hR hvk hs hs2 hS hW0 z0 k0 k1 b0 hc hT0 hTR hT hnk J9 hR0 hro;go_enter func108,ntmps108;go_upto_region 1 with (fail)
 rw [<- xq.out];refine Cz ?_;refine Jv 10 (fun w'=>jIx W0.heap.size W0 w') (by kernel_rfl) (Below.refl _ _).drew ?_;intro hH;refine Z6 ?_;obtain ⟨y0,hy0⟩:∃ y0,y0=W0.drew:=⟨_,rfl⟩;rw [<- hy0] at hH;rw [<- hy0];clear hy0;have o9:jIx W0.heap.size W0 y0:=hH;refine mP ?_;intro KQ hK;go_at_call 140
 (with_reducible refine (RC.out y0 o9).mono ?_)
 rintro e y1 ⟨va,vk,he,hR,hb⟩;obtain ⟨aA,nA,cA,rfl⟩:=Rd.au hR.at_
 obtain ⟨aK,nK,cK,rfl⟩:=Rd.au hR.ks;refine MS ?_;intro he;subst he;have B1:jIx W0.heap.size W0 y1:=o9.trans (hb.mono o9.size);have HX1:=hid (aG.Kc (x:=aH jU [] (iq sj i.data.toList ny)) B1 ((Nd.dJ jU ⟨#[]⟩ hR).weaken (fun b hb=>jFq o9.size hb)));clear hb hR;refine hK.out _ _ (fun _ _=>B1) (fun hH2=>?_);clear hK KQ hH;refine aN ?_;clear hH2;intro hH;refine GQ ?_;intro KQ hK;obtain ⟨y2,hN⟩:∃ z,z=y1.alloc (.cells #[.string jU,.string ⟨#[]⟩,.slice aA nA cA,.slice aK nK cK] 30):=⟨_,rfl⟩;obtain ⟨f2,hf⟩:∃ z,z=y1.heap.size:=⟨_,rfl⟩;have Xd:=HX1.out;rw [<- hN,<- hf] at Xd;rw [<- hN,<- hf];have lX:jIx W0.heap.size W0 y2:=Xd.aO;have jsj:=hid Xd;clear hN hf Xd HX1;refine hK.out _ _ (fun _ _=>lX) (fun hH2=>?_);clear hK KQ hH;refine aN ?_;clear hH2;intro hH;refine eF (i:=8) rfl (by kernel_rfl) (fun KQ hK=>?_);go_simp;go_at_call 48
 (with_reducible refine (lY ⟨#[116,104,101,97,100]⟩ none (some ⟨f2,0,none⟩) 0 1 0 1 y2).mono ?_)
 rintro e y3 ⟨rfl,hb⟩;have B3:jIx W0.heap.size W0 y3:=lX.trans (hb.mono lX.size);have HX3:=hid (aG.Kc (x:=aH Bn [] [aH jU [] (iq sj i.data.toList ny)]) B3 (Nd.dJ ⟨#[116,104,101,97,100]⟩ ⟨#[]⟩ ⟨Rd.aD _ _ _,(jsj.out.below hb).cu⟩));clear hb jsj;refine hK.out _ _ (fun _ _=>B3) (fun hH2=>?_);clear hK KQ hH;refine aN ?_;clear hH2;intro hH;refine CF ?_;intro KQ hK;obtain ⟨y4,hN⟩:∃ z,z=y3.alloc (.cells #[.string ⟨#[116,104,101,97,100]⟩,.string ⟨#[]⟩,.slice none 0 0,.slice (some ⟨f2,0,none⟩) 1 1] 30):=⟨_,rfl⟩;obtain ⟨g,hf⟩:∃ z,z=y3.heap.size:=⟨_,rfl⟩;have Xe:=HX3.out;rw [<- hN,<- hf] at Xe;rw [<- hN,<- hf];have ng:jIx W0.heap.size W0 y4:=Xe.aO;have jy9:=hid Xe;clear hN hf Xe HX3;refine hK.out _ _ (fun _ _=>ng) (fun hH2=>?_);clear hK KQ hH;refine aN ?_;clear hH2;intro hH;refine eF (i:=10) rfl (by kernel_rfl) (fun KQ hK=>?_);refine nX ?_;clear hK KQ hH;refine OQ (by kernel_rfl) ?_ _;have R0:Hid (RD y4 i rs (.slice none 0 0) (.int .i64 1) y4):=⟨0,[],Nat.zero_le _,rfl,aG.nil _ _ _ _⟩;go_wp2
 go_loopw [4,5] (fun v vi wr=>RD y4 i rs v vi wr) (fun _ vi _=>nk-(intOf vi).toNat)
 case atStart=>exact R0.out
 case round=>
  clear R0;obtain ⟨j,rows,hj,rfl,hrow⟩:=hrel;obtain ⟨ds,hds⟩:∃ ds,ds=((rs.take j).map (fE mO i)).map Nd.d:=⟨_,rfl⟩;rw [<- hds] at hrow;obtain ⟨m,hm⟩:∃ m,m=ds.length:=⟨_,rfl⟩;have Xf:m=j:=by rw [hm,hds,jG1,jG1,List.length_take];omega
  obtain ⟨av,cv,rfl,-,-⟩:=hrow.cap hm.symm;have jDq:m<=900000:=by have:=uH.out;omega
  have HMJ:=hid Xf;have HM:=hid hm.symm;have nC:=hid hds;have bE:=hid hrow;have HB:=hid (ng.trans (hrow.aO.mono ng.size));have HKH:=hid (jy9.out.below hrow.aO);have jDx:=(CX.out wr HB.out).2.1;have hj9:j<=900000:=by have:=uH.out;omega
  clear hrow hm hds Xf;by_cases hlt:j+1<nk
  ·obtain ⟨y,hy⟩:∃ y,rs[j]?=some y:=⟨_,List.getElem?_eq_getElem (by have:=uH.out;omega)⟩;have hsn:(rs.take (j+1)).map (fE mO i)=(rs.take j).map (fE mO i)++[fE mO i y]:=jl _ _ _ _ hy;have F8:=Z5.out y (jG7 hy);have hro:fE mO i y=aH jU [] (iq mO i.data.toList y.kids):=rfl;rw [hro] at hsn;obtain ⟨yk,CG,yi,yt,yd,CJ,Bo,sM,lZ⟩:=y;obtain ⟨g1,off1,yvc,yvp,yvl,yvk,hgo,hok,hbl,hc,hR⟩:=F7 (k:=j+1) HS2.out (by rw [List.getElem?_cons_succ];exact hy);obtain ⟨rfl,rfl⟩:ga=g1/\off=off1:=by have h:=hgo;simp at h;exact h
   obtain ⟨OT,OU,OV,rfl⟩:=Rd.au hR.at_.cls
   obtain ⟨OX,OY,OZ,rfl⟩:=Rd.au hR.at_.aF
   obtain ⟨yT,yU,yV,rfl⟩:=Rd.au hR.line;obtain ⟨Ke,Kg,Kh,rfl⟩:=Rd.au hR.kids;have CY:Hid (∀ w':World,jIx W0.heap.size W0 w'->dA w' ga (off+(j+1)*11) yk CG yi yt yd CJ Bo.id (.slice OT OU OV) (.slice OX OY OZ) (.slice yT yU yV) (.slice Ke Kg Kh)):=fun w' hb=>hc.at2 (hb.block ga hbl)
   have NC:Hid (∀ w':World,jIx W0.heap.size W0 w'->Calls prog 140 #[.agg #[.int .i64 yk,.int .i64 CG,.string yi,.string yt,.string yd,.string CJ,.string Bo.id,.slice OT OU OV,.slice OX OY OZ,.slice yT yU yV,.slice Ke Kg Kh],.string i,.string ⟨#[116,100]⟩] w' (o8 w' (aH jU [] (iq mO i.data.toList lZ)))):=fun w' hb=>
    GN yk CG yi yt yd CJ Bo sM lZ _ _ _ _ mO i w' (eT.sK hR (fun b (hb':b<S) hlt=>⟨by show b<w'.heap.size;have:=hb.size;omega,hb.block b (by omega)⟩)) F8.1 F8.2.1 F8.2.2
   have gZ:=hid (show ((rs.take (j+1)).map (fE mO i)).map Nd.d=ds++[(aH jU [] (iq mO i.data.toList lZ)).d] by rw [hsn,jGk,nC.out];rfl);have t7:(((j+1:Nat):Int))<(nk:Int):=by omega
   have t8:(0:Int)<=(j:Int)+1:=by omega
   clear hok hbl hc hR hsn F8 hy hro hgo;go_upto_region 6 with (fail)
   refine Jv 11 (fun w'=>jIx W0.heap.size W0 w') (by kernel_rfl) HB.out.drew ?_;intro hH;refine fq 0 rfl (by kernel_rfl) hH (by rfl) (by intro wv hSw;obtain ⟨e2,e10,-⟩:=CX.out wv hSw;obtain ⟨c0,c1,c2,c3,c4,c5,c6,c7,c8,c9,c10⟩:=CY.out wv hSw;go_simp;try with_reducible rfl) ?_;refine fq 1 rfl (by kernel_rfl) hH (by rfl) (by intro wv hSw;obtain ⟨e2,e10,-⟩:=CX.out wv hSw;obtain ⟨c0,c1,c2,c3,c4,c5,c6,c7,c8,c9,c10⟩:=CY.out wv hSw;go_simp;try with_reducible rfl) ?_;refine fq 2 rfl (by kernel_rfl) hH (by rfl) (by intro wv hSw;obtain ⟨e2,e10,-⟩:=CX.out wv hSw;obtain ⟨c0,c1,c2,c3,c4,c5,c6,c7,c8,c9,c10⟩:=CY.out wv hSw;go_simp;try with_reducible rfl) ?_;refine fq 3 rfl (by kernel_rfl) hH (by rfl) (by intro wv hSw;obtain ⟨e2,e10,-⟩:=CX.out wv hSw;obtain ⟨c0,c1,c2,c3,c4,c5,c6,c7,c8,c9,c10⟩:=CY.out wv hSw;go_simp;try with_reducible rfl) ?_;refine fq 4 rfl (by kernel_rfl) hH (by rfl) (by intro wv hSw;obtain ⟨e2,e10,-⟩:=CX.out wv hSw;obtain ⟨c0,c1,c2,c3,c4,c5,c6,c7,c8,c9,c10⟩:=CY.out wv hSw;go_simp;try with_reducible rfl) ?_;refine fq 5 rfl (by kernel_rfl) hH (by rfl) (by intro wv hSw;obtain ⟨e2,e10,-⟩:=CX.out wv hSw;obtain ⟨c0,c1,c2,c3,c4,c5,c6,c7,c8,c9,c10⟩:=CY.out wv hSw;go_simp;try with_reducible rfl) ?_;refine fq 6 rfl (by kernel_rfl) hH (by rfl) (by intro wv hSw;obtain ⟨e2,e10,-⟩:=CX.out wv hSw;obtain ⟨c0,c1,c2,c3,c4,c5,c6,c7,c8,c9,c10⟩:=CY.out wv hSw;go_simp;try with_reducible rfl) ?_;refine fq 7 rfl (by kernel_rfl) hH (by rfl) (by intro wv hSw;obtain ⟨e2,e10,-⟩:=CX.out wv hSw;obtain ⟨c0,c1,c2,c3,c4,c5,c6,c7,c8,c9,c10⟩:=CY.out wv hSw;go_simp;try with_reducible rfl) ?_;obtain ⟨y0,hy0⟩:∃ y0,y0=wr.drew:=⟨_,rfl⟩;have MU:jIx wr.heap.size wr y0:=by rw [hy0];exact (Below.refl _ _).drew
   rw [<- hy0] at hH;rw [<- hy0];clear hy0;have o9:jIx W0.heap.size W0 y0:=hH;refine eF (i:=8) rfl (by kernel_rfl) (fun KQ hK=>?_);go_simp;go_at_call 140
   (with_reducible refine (NC.out y0 o9).mono ?_)
   rintro e y5 ⟨va,vk,he,hR,hb⟩;obtain ⟨aA,nA,cA,rfl⟩:=Rd.au hR.at_
   obtain ⟨aK,nK,cK,rfl⟩:=Rd.au hR.ks;refine MS ?_;intro he;subst he;have GR:jIx wr.heap.size wr y5:=MU.trans (hb.mono MU.size);have B1:jIx W0.heap.size W0 y5:=HB.out.trans (GR.mono HB.out.size);have XD:=hid (show Rd (fun b=>False\/wr.heap.size<=b) y5 (aH jU [] (iq mO i.data.toList lZ)).d [.string jU,.string ⟨#[]⟩,.slice aA nA cA,.slice aK nK cK] from (Nd.dJ jU ⟨#[]⟩ hR).weaken (fun b hb=>.inr (jFq MU.size hb)));have U3:=hid (bE.out.below GR);clear hb hR;refine hK.out _ _ (fun _ _=>B1) (fun hH2=>?_);clear hK KQ hH;refine aN ?_;clear hH2;intro hH;refine CF ?_;intro KQ hK;refine hK.out _ _ (fun _ _=>B1.alloc B1.size _) (fun hH2=>?_);clear hK KQ hH;refine aN ?_;clear hH2;intro hH;refine eF (i:=10) rfl (by kernel_rfl) (fun KQ hK=>?_);refine lC rfl (.tmp 23) (.tmp 32) 28 rfl iN _ 80 underlying28 qG fF fG fH rfl (by decide) U3.out (fun _=>False.elim) (aH jU [] (iq mO i.data.toList lZ)).d [.string jU,.string ⟨#[]⟩,.slice aA nA cA,.slice aK nK cK] XD.out rfl F9 HM.out (by omega) (by decide) rfl rfl ?_;intro a5 c5 w5 bC hg5;have B5:jIx W0.heap.size W0 w5:=ng.trans (bC.aO.mono ng.size);have HF:Hid (RD y4 i rs (.slice a5 (m+1) c5) (.int .i64 ((j+1+1:Nat):Int)) w5):=⟨j+1,_,by have:=uH.out;omega,rfl,by rw [gZ.out];exact bC⟩;clear bC hg5;refine hK.out _ _ (fun _ _=>B5) (fun hH2=>?_);clear hK KQ hH;refine aN ?_;clear hH2;intro hH;refine eF (i:=11) rfl (by kernel_rfl) (fun KQ hK=>?_);refine nX ?_;clear hK KQ hH;refine OQ (by kernel_rfl) ?_ _;clear XD U3;exact gN
  ·have hje:j=rs.length:=by have:=uH.out;omega
   subst hje;have t7:¬ (((rs.length+1:Nat):Int))<(nk:Int):=by omega
   have HR2:=hid (show aG 30 4 (fun _=>False) wr.heap.size y4 ((rs.map (fE mO i)).map Nd.d) rows (.slice av m cv) wr by
    have h:=bE.out;rw [nC.out,List.take_length] at h;exact h)
   have hml:m=rs.length:=HMJ.out;by_cases hm0:rs.length=0
   ·have hrs:rs=[]:=List.length_eq_zero_iff.1 hm0;have jm3:=hid (show BJ i (.mk xk MP xi xt xd MQ MR Xc ny::rs)=aH nW [] [aH Bn [] [aH jU [] (iq sj i.data.toList ny)]] by rw [HTN.out,HRO.out,hrs];rfl);have q8:¬ (0:Int)<(m:Int):=by omega
    have Xg:=hid (show Rd (W0.heap.size<=·) wr (gH [aH Bn [] [aH jU [] (iq sj i.data.toList ny)]]) [.slice (some ⟨g,0,none⟩) 1 1] from HKH.out.cu);clear hrs hml;have EC:=hid (lY ⟨#[116,97,98,108,101]⟩ none (some ⟨g,0,none⟩) 0 1 0 1 wr);go_wp2_with fail
    (with_reducible refine EC.out.mono ?_)
    rintro e w3 ⟨rfl,b3⟩;have BL:=hid (q01 HB.out b3);have HN3:=hid (show gP (W0.heap.size<=·) w3 [] [aH Bn [] [aH jU [] (iq sj i.data.toList ny)]] (.slice none 0 0) (.slice (some ⟨g,0,none⟩) 1 1) from ⟨Rd.aD _ _ _,Xg.out.aX b3⟩);obtain ⟨x0,x1,x2,x3,xf⟩:=pq (K1.out.below BL.out);obtain ⟨w9,bZ⟩:∃ w9,w9=jV w3 (S+1) (.string ⟨#[116,97,98,108,101]⟩) (.string ⟨#[]⟩) (.slice none 0 0) (.slice (some ⟨g,0,none⟩) 1 1):=⟨_,rfl⟩;have hf:=uP ⟨#[116,97,98,108,101]⟩ ⟨#[]⟩ [] [aH Bn [] [aH jU [] (iq sj i.data.toList ny)]] xq.out Z0.out B0.out K1.out BL.out HN3.out;rw [<- bZ] at hf;have vT:=hid hf.1;have sN:=hid hf.2;clear hf b3 EC;have hw8:=bZ;simp only [jV] at hw8;clear bZ;go_wp2;refine lD ?_;intro r0 r1 r2 r3;exact bodyPost_ret (v:=.agg #[.string ⟨#[116,97,98,108,101]⟩,.string ⟨#[]⟩,.slice none 0 0,.slice (some ⟨g,0,none⟩) 1 1]) (by simp [results,results108,go_sem,r0,r1,r2,r3]) rfl (by rw [jm3.out];exact sN.out)
   ·have jm3:=hid (show BJ i (.mk xk MP xi xt xd MQ MR Xc ny::rs)=aH nW [] [aH Bn [] [aH jU [] (iq sj i.data.toList ny)],aH iY [] (rs.map (fE mO i))] by
     rw [HTN.out,HRO.out,if_neg (by rw [List.isEmpty_iff];intro h;exact hm0 (by rw [h];rfl))])
    have q8:(0:Int)<(m:Int):=by omega
    clear hml;have EB:=hid (lY ⟨#[116,98,111,100,121]⟩ none av 0 m 0 cv wr);go_wp2_with fail
    (with_reducible refine EB.out.mono ?_)
    rintro e w2 ⟨rfl,b2⟩;have BL2:=hid (q01 HB.out b2);have U2:=hid (HKH.out.below b2);have XD:=hid (show Rd (fun b=>False\/y4.heap.size<=b) w2 (aH iY [] (rs.map (fE mO i))).d [.string ⟨#[116,98,111,100,121]⟩,.string ⟨#[]⟩,.slice none 0 0,.slice av m cv] from Nd.dJ ⟨#[116,98,111,100,121]⟩ ⟨#[]⟩ ⟨Rd.aD _ _ _,((HR2.out.below b2).cu).weaken (fun b hb=>.inr hb)⟩);clear b2 EB;go_wp2_with (at_builtin;refine OP (n:=1) rfl _ _ 28 rfl iN _ 80 underlying28 qG fF fG fH rfl (by decide) U2.out (fun _=>False.elim) (aH iY [] (rs.map (fE mO i))).d [.string ⟨#[116,98,111,100,121]⟩,.string ⟨#[]⟩,.slice none 0 0,.slice av m cv] XD.out rfl F9 rfl (by omega) (by decide) rfl rfl ?_)
    intro a6 c6 w6 dF hg6;have Xg:=hid (show Rd (W0.heap.size<=·) w6 (gH [aH Bn [] [aH jU [] (iq sj i.data.toList ny)],aH iY [] (rs.map (fE mO i))]) [.slice a6 2 c6] from dF.cu);have B6:=hid dF.aO;clear dF hg6 XD U2;have EC:=hid (lY ⟨#[116,97,98,108,101]⟩ none a6 0 2 0 c6 w6);go_wp2_with fail
    (with_reducible refine EC.out.mono ?_)
    rintro e w3 ⟨rfl,b3⟩;have BL:=hid (q01 B6.out b3);have HN3:=hid (show gP (W0.heap.size<=·) w3 [] [aH Bn [] [aH jU [] (iq sj i.data.toList ny)],aH iY [] (rs.map (fE mO i))] (.slice none 0 0) (.slice a6 2 c6) from ⟨Rd.aD _ _ _,Xg.out.aX b3⟩);obtain ⟨x0,x1,x2,x3,xf⟩:=pq (K1.out.below BL.out);obtain ⟨w9,bZ⟩:∃ w9,w9=jV w3 (S+1) (.string ⟨#[116,97,98,108,101]⟩) (.string ⟨#[]⟩) (.slice none 0 0) (.slice a6 2 c6):=⟨_,rfl⟩;have hf:=uP ⟨#[116,97,98,108,101]⟩ ⟨#[]⟩ [] [aH Bn [] [aH jU [] (iq sj i.data.toList ny)],aH iY [] (rs.map (fE mO i))] xq.out Z0.out B0.out K1.out BL.out HN3.out;rw [<- bZ] at hf;have vT:=hid hf.1;have sN:=hid hf.2;clear hf b3 EC;have hw8:=bZ;simp only [jV] at hw8;clear bZ;go_wp2;refine lD ?_;intro r0 r1 r2 r3;exact bodyPost_ret (v:=.agg #[.string ⟨#[116,97,98,108,101]⟩,.string ⟨#[]⟩,.slice none 0 0,.slice a6 2 c6]) (by simp [results,results108,go_sem,r0,r1,r2,r3]) rfl (by rw [jm3.out];exact sN.out)
theorem RJ (lv:Int) (i t d ti:ByteArray) (at_:At) (li:List aj) (ks:List ah) (vc vp vl vk:Value) (w:World) (hR:eT (·<w.heap.size) w at_ li ks vc vp vl vk) (hT:TbR i ks) : Calls prog 80 #[.agg #[.int .i64 10,.int .i64 lv,.string i,.string t,.string d,.string ti,.string at_.id,vc,vp,vl,vk]] w (aQ w [BJ i ks]):=by
 obtain ⟨ac,nc,cc,rfl⟩:=Rd.au hR.at_.cls
 obtain ⟨ap,np,cp,rfl⟩:=Rd.au hR.at_.aF
 obtain ⟨al,nl,cl,rfl⟩:=Rd.au hR.line;obtain ⟨ak,nk,ck,rfl⟩:=Rd.au hR.kids;obtain ⟨S,hS⟩:∃ S,S=w.heap.size:=⟨_,rfl⟩;obtain ⟨W0,hW0⟩:∃ W0,W0=w.alloc (.cells #[.int .i64 10,.int .i64 lv,.string i,.string t,.string d,.string ti,.string at_.id,.slice ac nc cc,.slice ap np cp,.slice al nl cl,.slice ak nk ck] 51):=⟨_,rfl⟩;have k0:CB 51 S [.int .i64 10,.int .i64 lv,.string i,.string t,.string d,.string ti,.string at_.id,.slice ac nc cc,.slice ap np cp,.slice al nl cl,.slice ak nk ck] W0:=by rw [hW0,hS];exact CB.new _ _ w
 refine MV ?_;intro b0;have RC:=hid (RG 10 lv i t d ti at_ li ks (.slice ac nc cc) (.slice ap np cp) (.slice al nl cl) (.slice ak nk ck) W0 (eT.sK hR (fun b (hb':b<w.heap.size) hlt=>⟨by show b<W0.heap.size;have:=b0.size;omega,b0.block b hb'⟩)) hT);have e0:=k0.cell 0 _ rfl;have e1:=k0.cell 1 _ rfl;have e2:=k0.cell 2 _ rfl;have e3:=k0.cell 3 _ rfl;have e4:=k0.cell 4 _ rfl;have e5:=k0.cell 5 _ rfl;have e6:=k0.cell 6 _ rfl;have e7:=k0.cell 7 _ rfl;have e8:=k0.cell 8 _ rfl;have e9:=k0.cell 9 _ rfl;have e10:=k0.cell 10 _ rfl;have B0:=hid b0;obtain ⟨X,hX⟩:∃ X,X=BJ i ks:=⟨_,rfl⟩;rw [<- hX] at RC;rw [<- hX];obtain ⟨xn,xt,xa,ny⟩:=X;clear hR hT k0 b0 hX;go_enter func80,ntmps80;go_upto_region 27 with (fail)
 rw [<- hW0,<- hS];clear hW0 hS;go_wp2_with fail
 (with_reducible refine RC.out.mono ?_)
 rintro e w4 ⟨va,vk,he,hR,hb⟩;obtain ⟨aA,nA,cA,rfl⟩:=Rd.au hR.at_
 obtain ⟨aK,nK,cK,rfl⟩:=Rd.au hR.ks;have he:e=.returned (.agg #[.string xn,.string xt,.slice aA nA cA,.slice aK nK cK]):=he;subst he;have BL:=hid (q01 B0.out hb);have HF:=hid (aG.Kc BL.out ((Nd.dJ xn xt hR).weaken (fun b hb=>jFq B0.out.size hb)));clear hb hR RC;go_wp2;go_ret;exact ⟨_,_,rfl,HF.out⟩
open Go.RowKit
theorem Xh (n:Nat):bq (q2z n)=false:=by
 unfold bq q2z;refine decide_eq_false fun e=>?_
 rw [Lib.decDigits] at e;split at e<;>simp at e
theorem Ki (k lv:Int) (i t d ti:ByteArray) (at_:At) (li:List aj) (ks:List ah) (vc vp vl vk:Value) (w:World) (hR:eT (·<w.heap.size) w at_ li ks vc vp vl vk) (hw:(ah.mk k lv i t d ti at_ li ks).yX) (hl:k≠10->iF w ks vk) : Calls prog 80 #[.agg #[.int .i64 k,.int .i64 lv,.string i,.string t,.string d,.string ti,.string at_.id,vc,vp,vl,vk]] w (aQ w (ah.mk k lv i t d ti at_ li ks).mQ):=by
 rw [ah.yX] at hw;obtain ⟨hs,hv,hT,hi,⟨g1,g2,g3,g4⟩,-⟩:=hw;rcases (by omega:k=1\/k=2\/k=3\/k=4\/k=5\/k=6\/k=7\/k=8\/k=9\/k=10\/k=13\/k=14\/k=15) with rfl | rfl | rfl | rfl | rfl | rfl | rfl | rfl | rfl | rfl | rfl | rfl | rfl
 ·rw [ah.mQ];exact Xi lv i t d ti at_ li ks vc vp vl vk w hR hs (hl (by decide))
 ·obtain ⟨n,rfl⟩:∃ n:Nat,lv=(n:Int):=⟨lv.toNat,by have:=hv (by decide);omega⟩;rw [ah.mQ];exact Xj n i t d ti at_ li ks vc vp vl vk w hR hs (hl (by decide)) n rfl (by have:=hv (by decide);omega)
 ·by_cases he:bq i=true
  ·have h:=RO lv i t d ti at_ li ks vc vp vl vk w hR hs (hl (by decide)) he
   rw [ah.mQ,he];exact h
  ·have he:bq i=false:=by simpa using he
   have h:=RP lv i t d ti at_ li ks vc vp vl vk w hR hs (hl (by decide)) he
   rw [ah.mQ,he];exact h
 ·rw [ah.mQ];exact Xk lv i t d ti at_ li ks vc vp vl vk w hR hs (hl (by decide))
 ·rw [ah.mQ];exact Xl lv i t d ti at_ li ks vc vp vl vk w hR hs (hl (by decide))
 ·rw [ah.mQ];exact Xm lv i t d ti at_ li ks vc vp vl vk w hR hs (hl (by decide))
 ·rw [ah.mQ];exact Xn lv i t d ti at_ li ks vc vp vl vk w hR hs (hl (by decide))
 ·by_cases h1:lv=1
  ·have h:=RQ lv i t d ti at_ li ks vc vp vl vk w hR hs (hl (by decide)) h1
   rw [ah.mQ,h1] at *;exact h
  ·obtain ⟨n,rfl⟩:∃ n:Nat,lv=(n:Int):=⟨lv.toNat,by have:=hv (by decide);omega⟩;have h:=RU n i t d ti at_ li ks vc vp vl vk w hR hs (hl (by decide)) n rfl (by have:=hv (by decide);omega) h1
   rw [ah.mQ];have e:(if (n:Int)=1 then [] else [⟨CO,q2z (n:Int).toNat⟩]:List Pr)=[⟨CO,q2z n⟩]:=by rw [if_neg h1];rfl
   show Calls _ _ _ _ (aQ w [aH Xo (if (n:Int)=1 then [] else [⟨CO,q2z (n:Int).toNat⟩]) (ah.aZ ks)]);have es:cO CO (q2z n)=[⟨CO,q2z n⟩]:=by unfold cO;rw [if_neg (by rw [Xh];decide)]
   rw [es] at h;rw [e];exact h
 ·rw [ah.mQ];exact Xp lv i t d ti at_ li ks vc vp vl vk w hR hs (hl (by decide))
 ·rw [ah.mQ];exact RJ lv i t d ti at_ li ks vc vp vl vk w hR (hT rfl)
 ·rw [ah.mQ];exact RX lv i t d ti at_ li ks vc vp vl vk w hR hs (hl (by decide)) (hi rfl)
 ·rw [ah.mQ];exact CQ 14 lv i t d ti at_ li ks vc vp vl vk w hR (by decide)
 ·rw [ah.mQ];exact CQ 15 lv i t d ti at_ li ks vc vp vl vk w hR (by decide)
def RiR (w:World) (l:List ah) (v vi:Value) (wr:World):Prop:=
 ∃ (k:Nat) (rows:List (List Value)),k<=l.length/\vi=.int .i64 k/\aG 30 4 (fun _=>False) wr.heap.size w ((ah.aZ (l.take k)).map Nd.d) rows v wr
theorem yY (n:Nat):∀ (l:List ah) (v:Value) (w:World),ah.aY l<=n->n<=900000->Rd (·<w.heap.size) w (lu l) [v]->ah.kU l -> Calls prog 46 #[v] w (aQ w (ah.aZ l)):=by
 induction n using Nat.strongRecOn with
 | _ n ih=>
  intro l v w hn hnm hrd hwk;obtain ⟨iN,qG,fF,fG,fH⟩:=info_parts iE;obtain ⟨ak,ck,hvk,hs⟩:=Rd.ay hrd;obtain ⟨nk,hnk⟩:∃ nk,nk=l.length:=⟨_,rfl⟩;obtain rfl:v=.slice ak nk ck:=by rw [hnk];simpa using hvk
  refine MW ?_;intro hcap hmx;have Ka:nk<=900000:=by have:=ah.fK l;omega
  have HS2:=hid hs;have uH:=hid hnk;have HWK:=hid (ah.yZ l hwk);have IH:=hid ih;have RY:=hid (And.intro hn hnm);have R0:Hid (RiR w l (.slice none 0 0) (.int .i64 0) w):=⟨0,[],Nat.zero_le _,rfl,aG.nil _ _ _ _⟩;clear hrd hvk hs hnk hwk ih hn hnm;go_enter func46,ntmps46;go_wp2
  go_loopw [3,4] (fun v vi wr=>RiR w l v vi wr) (fun _ vi _=>nk-(intOf vi).toNat)
  case atStart=>exact R0.out
  case round=>
   clear R0;obtain ⟨j,rows,hj,rfl,hrow⟩:=hrel;obtain ⟨ds,hds⟩:∃ ds,ds=(ah.aZ (l.take j)).map Nd.d:=⟨_,rfl⟩;rw [<- hds] at hrow;obtain ⟨m,hm⟩:∃ m,m=ds.length:=⟨_,rfl⟩;have Xf:m<=1000000:=by exact Z7
   obtain ⟨av,cv,rfl,-,-⟩:=hrow.cap hm.symm;have HM:=hid hm.symm;have nC:=hid hds.symm;have bE:=hid hrow;clear hrow hm hds;by_cases hlt:j<nk
   ·refine Z8 ?_;intro y hy hsn QJ hsz;have hyl:y.mQ.length<=1:=by
     have h:=nY [y];rw [ah.aZ,ah.aZ,List.append_nil] at h;simpa using h
    obtain ⟨yk,CG,yi,yt,yd,CJ,Bo,sM,lZ⟩:=y;obtain ⟨ga,off,vc,vp,vl,vk,rfl,hok,hbl,hc,hR⟩:=F7 HS2.out hy;obtain ⟨c0,c1,c2,c3,c4,c5,c6,c7,c8,c9,c10⟩:=hc.at2 (w':=wr) (bE.out.aO.block ga hok);obtain ⟨OT,OU,OV,rfl⟩:=Rd.au hR.at_.cls
    obtain ⟨OX,OY,OZ,rfl⟩:=Rd.au hR.at_.aF
    obtain ⟨yT,yU,yV,rfl⟩:=Rd.au hR.line;obtain ⟨Ke,Kg,Kh,rfl⟩:=Rd.au hR.kids;have RZ:eT (·<wr.heap.size) wr Bo sM lZ (.slice OT OU OV) (.slice OX OY OZ) (.slice yT yU yV) (.slice Ke Kg Kh):=eT.sK hR (fun b (hb:b<w.heap.size) hlt=>⟨by show b<wr.heap.size;have:=bE.out.aO.size;omega,bE.out.aO.block b hb⟩);have hw2:=QJ;rw [ah.yX] at hw2;obtain ⟨N,hN⟩:∃ N,N=(ah.mk yk CG yi yt yd CJ Bo sM lZ).mQ:=⟨_,rfl⟩;have hcall:=Ki yk CG yi yt yd CJ Bo sM lZ _ _ _ _ wr RZ QJ (fun h10 W hW=>IH.out (ah.aY lZ) (by rw [ah.sz] at hsz;have:=RY.out;omega) lZ _ W (Nat.le_refl _) (by rw [ah.sz] at hsz;have:=RY.out;omega) (Rd.keep (w:=wr) (w':=W) (ok:=(·<wr.heap.size)) (fun b (hb:b<wr.heap.size) hlt=>⟨by show b<W.heap.size;have:=hW.size;omega,hW.block b hb⟩) _ _ RZ.kids) (hw2.2.2.2.2.2 h10));rw [<- hN] at hcall hsn hyl;have gZ:=hid (show (ah.aZ (l.take (j+1))).map Nd.d=ds++N.map Nd.d by rw [hsn,jGk,nC.out]);have R5:=hid hcall;obtain ⟨m2,hm2⟩:∃ m2,m2=(N.map Nd.d).length:=⟨_,rfl⟩;have jyj:m2<=1:=by rw [hm2,jG1];exact hyl
    have HM2:=hid hm2.symm;clear hsn hcall RZ hw2 QJ hsz hN hok hbl hc hR hy hm2 hyl;go_wp2_with fail
    (with_reducible refine R5.out.mono ?_)
    rintro e w2 ⟨bD,v2,rfl,hrow2⟩;obtain ⟨a2,n2,c2',rfl⟩:=hrow2.slice3;have U2:=hid (bE.out.below hrow2.aO);have XD:=hid (show Rd (fun b=>False\/wr.heap.size<=b) w2 (.sl 4 (N.map Nd.d)) [.slice a2 n2 c2'] from hrow2.cu.weaken (fun b hb=>.inr hb));clear R5 hrow2 c0 c1 c2 c3 c4 c5 c6 c7 c8 c9 c10;go_wp2_with (at_builtin;refine iT rfl _ _ 28 rfl iN _ 80 underlying28 qG fF fG fH rfl (by decide) U2.out (fun _=>False.elim) _ XD.out (fun rs ok' h=>EF N rs ok' _ h) HM.out HM2.out (by omega) (by decide) rfl rfl ?_)
    intro a' c' rows' w5 hrow hg5;have HF:Hid (RiR w l (.slice a' (m+m2) c') (.int .i64 ((j+1:Nat):Int)) w5):=⟨j+1,_,by have:=uH.out;omega,rfl,by rw [gZ.out];exact hrow⟩;clear hrow hg5 XD U2 bE;exact gN
   ·exact Z9
open Go.RowKit
def MX (w1:World) (E:List ah) (v vi:Value) (wr:World):Prop:=
 ∃ (k:Nat) (rows:List (List Value)),k<=E.length/\vi=.int .i64 k/\aG 30 4 (fun _=>False) wr.heap.size w1 (((E.take k).flatMap qH).map Nd.d) rows v wr
theorem Xq (l:List ah) (v:Value) (w:World) (hrd:Rd (·<w.heap.size) w (lu l) [v]) (hsm:ah.aC l) (hsz:ah.aY l<=900000) (hil:(ah.aR l).length<=1000) : Calls prog 21 #[v] w (bM w (xK l) (O5 l)):=by
 obtain ⟨iN,qG,fF,fG,fH⟩:=info_parts iE;obtain ⟨a,cap,hv,-⟩:=Rd.ay hrd;obtain rfl:v=.slice a l.length cap:=by simpa using hv
 clear hv;have LC:=hid (vU l a cap w hsm hrd);have O6:=hid hrd;have dw:=hid hsm;refine ja0 ?_;intro hee hnn;have HW:=hid (fun h:xK l=0=>O7 l h hsm hsz);obtain ⟨E0,hE0⟩:∃ E0,E0=ah.aT gG 0 0 l:=⟨_,rfl⟩;obtain ⟨EE,vV⟩:∃ EE,EE=xK l:=⟨_,rfl⟩;obtain ⟨NN,Jw⟩:∃ NN,NN=O5 l:=⟨_,rfl⟩;rw [<- hE0] at LC hee;rw [<- vV] at hee hnn HW;rw [<- Jw] at hnn;rw [<- vV,<- Jw];have BK:=hid hee;have QK:=hid hnn;have HE0:=hid hE0;clear hrd hee hnn hE0 vV Jw;go_enter func21,ntmps21;go_wp2_with fail
 (with_reducible refine LC.out.mono ?_)
 rintro e w1 ⟨rfl,b1⟩;have B1:=hid b1;clear b1 LC;by_cases h0:E0=0
 ·have q1:((E0:Int) != 0)=false:=by rw [h0];rfl
  have y8:Hid (EE=if (ah.aR l).any eB=true then 5 else 0):=by show _=_;rw [BK.out,if_neg (by simp [h0])]
  have IL:=hid (CU l (.slice a l.length cap) w1 (by omega) (by omega) (O6.out.up B1.out));clear h0;go_wp2_with fail
  (with_reducible refine IL.out.mono ?_)
  rintro e w2 ⟨v2,rfl,xu,b2⟩;have UC:=y9 (ah.aR l) v2 w2 xu (GU l hil);rw [CZ] at UC;obtain ⟨a2,n2,c2,rfl⟩:=Rd.au xu;have UL:=hid UC;have B2:=hid (q01 B1.out b2);clear xu b2 UC IL;go_wp2_with fail
  (with_reducible refine UL.out.mono ?_)
  rintro e w3 ⟨rfl,b3⟩;have B3:=hid (q01 B2.out b3);obtain ⟨u,hu⟩:∃ u,u=(ah.aR l).any eB:=⟨_,rfl⟩;rw [<- hu] at y8;rw [<- hu];have HU:=hid hu;clear b3 UL hu;cases u with
  | true=>
   have HF:Hid (bM w EE NN (.returned (.tuple #[.slice none 0 0,.int .i64 5])) w3):=by
    have h5:EE=5:=by rw [y8.out];rfl
    rw [h5];exact bM.nil (by rw [QK.out,h5];rfl) B3.out
   go_wp2
   go_ret2
   exact HF.out
  | false=>
   have hE:EE=0:=by rw [y8.out];rfl
   obtain ⟨hw2,hw3⟩:=HW.out hE;have R8:=hid (show NN=fZ l by rw [QK.out,hE];rfl);have HE:=hid hE;have HC:=hid (yY 900000 l (.slice a l.length cap) w3 hsz (by omega) (O6.out.up B3.out) hw2);have HWN:=hid hw3;clear hE hw2 hw3;go_wp2_with fail
   (with_reducible refine HC.out.mono ?_)
   rintro e w4 ⟨bG,v4,rfl,hrow4⟩;obtain ⟨n4,hn4⟩:∃ n4,n4=((ah.aZ l).map Nd.d).length:=⟨_,rfl⟩;have jDz:n4<=900000:=by have h:=nY l;have h2:=ah.fK l;rw [hn4,jG1];omega
   obtain ⟨a4,c4,rfl,-,-⟩:=hrow4.cap hn4.symm;have HN4:=hid hn4.symm;have ja1:=hid hrow4;have LS:=hid (GV _ l w.heap.size (.slice a l.length cap) w4 (Nat.le_refl _) (by omega) (O6.out.below (B3.out.trans (hrow4.aO.mono B3.out.size))) (by have:=B3.out.size;have:=hrow4.aO.size;omega));have B4:=hid (B3.out.trans (hrow4.aO.mono B3.out.size));obtain ⟨E,hEq⟩:∃ E,E=ah.aV l:=⟨_,rfl⟩;have hpg:fZ l=ah.aZ l++if (E.flatMap qH).isEmpty=true then [] else [aH R9 [⟨dD,eU⟩] (E.flatMap qH)]:=by rw [hEq];rfl
   have Jy:=hid hpg;have hEl:E.length<=900000:=by rw [hEq,pE];exact hsz
   have HIN:=hid (show ∀ x∈E,x.iOf.size<=300 from fun x hx=>by rw [hEq] at hx;exact za (ah.iU l dw.out x hx));rw [<- hEq] at LS HWN;clear hrow4 hn4 HC hEq hpg;go_wp2_with fail
   (with_reducible refine LS.out.mono ?_)
   rintro e w5 ⟨v5,nZ,rfl,hr5⟩;have b5:=hr5.aO;have hE5:Rd (·<w5.heap.size) w5 (lu E) [v5]:=
    Rd.fM (l:=E.map ah.d) (rows:=nZ) (B:=w4.heap.size) (e:=51) hr5.own (aU.keep (fun b h1 h2=>⟨h2,rfl⟩) _ _ hr5.red) hr5.len (fun g hg=>(hr5.own.lt g hg).2)
   obtain ⟨a5,c5,hv5,hs5⟩:=Rd.ay hE5;obtain ⟨nE,hnE⟩:∃ nE,nE=E.length:=⟨_,rfl⟩;obtain rfl:v5=.slice a5 nE c5:=by rw [hnE];simpa using hv5
   have QL:nE<=c5:=by rw [hnE];simpa using hs5.le
   have hm5:=hs5.max;unfold maxLen at hm5;have jE0:nE<=900000:=by rw [hnE];exact hEl
   have HNE:=hid hnE;have HS:=hid hs5;have B5:=hid (q01 B4.out b5);have HZ5:=hid b5.size;have HR5:=hid (ja1.out.below b5);have R0:Hid (MX w5 E (.slice none 0 0) (.int .i64 0) w5):=⟨0,[],Nat.zero_le _,rfl,aG.nil _ _ _ _⟩;clear hr5 hE5 hv5 hs5 b5 LS hnE hEl ja1;go_wp2
   go_loopw [7,8] (fun v vi wr=>MX w5 E v vi wr) (fun _ vi _=>nE-(intOf vi).toNat)
   case atStart=>exact R0.out
   case round=>
    clear R0;obtain ⟨j,rows,hj,rfl,hrow⟩:=hrel;obtain ⟨ds,hds⟩:∃ ds,ds=((E.take j).flatMap qH).map Nd.d:=⟨_,rfl⟩;rw [<- hds] at hrow;obtain ⟨m,hm⟩:∃ m,m=ds.length:=⟨_,rfl⟩;have Xf:m<=1000000:=by have h:=l6 (E.take j);have h2:(E.take j).length<=E.length:=List.length_take_le' _ _;rw [hm,hds,jG1];have:=HNE.out;omega
    obtain ⟨av,cv,rfl,-,-⟩:=hrow.cap hm.symm;have HM:=hid hm.symm;have nC:=hid hds.symm;have bE:=hid hrow;have HB:=hid hrow.aO;clear hrow hm hds;by_cases hlt:j<nE
    ·obtain ⟨y,hy⟩:∃ y,E[j]?=some y:=⟨_,List.getElem?_eq_getElem (by have:=HNE.out;omega)⟩;have hsn:=GX E j y hy;have QJ:=HWN.out y (jG7 hy);have hiy:=HIN.out y (jG7 hy);obtain ⟨yk,CG,yi,yt,yd,CJ,Bo,sM,lZ⟩:=y;obtain ⟨ga,off,vc,vp,vl,vk,rfl,hok,hbl,hc,hR⟩:=F7 HS.out hy;obtain ⟨OT,OU,OV,rfl⟩:=Rd.au hR.at_.cls
     obtain ⟨OX,OY,OZ,rfl⟩:=Rd.au hR.at_.aF
     obtain ⟨yT,yU,yV,rfl⟩:=Rd.au hR.line;obtain ⟨Ke,Kg,Kh,rfl⟩:=Rd.au hR.kids;have hiy:yi.size<=300:=hiy;have CY:Hid (∀ w':World,jIx w5.heap.size w5 w'->w'.cell? ⟨ga,off+j*11,none⟩=some (.int .i64 yk)/\w'.cell? ⟨ga,off+j*11+2,none⟩=some (.string yi)/\w'.cell? ⟨ga,off+j*11+10,none⟩=some (.slice Ke Kg Kh)):=fun w' hb=>by
      obtain ⟨c0,c1,c2,c3,c4,c5,c6,c7,c8,c9,c10⟩:=hc.at2 (w':=w') (hb.block ga hbl);exact ⟨c0,c2,c10⟩
     have e0:=(CY.out wr HB.out).1;by_cases Jz:yk=14
     ·obtain rfl:=Jz;obtain ⟨hk2,hk3⟩:=QJ rfl;have IC:Hid (∀ w':World,jIx w5.heap.size w5 w'->Calls prog 46 #[.slice Ke Kg Kh] w' (aQ w' (ah.aZ lZ))):=fun w' hb=>
       yY 900000 lZ _ w' hk3 (by omega) (Rd.keep (w:=w5) (w':=w') (ok:=(·<w5.heap.size)) (fun b (hb':b<w5.heap.size) hlt=>⟨by show b<w'.heap.size;have:=hb.size;omega,hb.block b hlt⟩) _ _ hR.kids) hk2
      have gZ:=hid (show ((E.take (j+1)).flatMap qH).map Nd.d=ds++[(aH jW [⟨jX,BM++yi⟩,⟨dD,dR⟩] (ah.aZ lZ)).d] by rw [hsn,jGk,nC.out];rfl);have q5:(⟨#[110,111,116,101,45]⟩:ByteArray).size+yi.size<=9223372036854775807:=by have:(⟨#[110,111,116,101,45]⟩:ByteArray).size=5:=rfl;omega
      have q6:5+yi.size<=9223372036854775807:=by omega
      have hadd:∀ w:World,(Op.stringOp .add (⟨#[110,111,116,101,45]⟩:ByteArray) yi).run prog w=.ok (.string (⟨#[110,111,116,101,45]⟩++yi)) w:=fun w=>run_string_add_sum w _ _ q5
      clear QJ hk2 hk3 hok hbl hc hR hsn hy;go_upto_region 13 with (fail)
      clear e0;refine Jv 19 (fun w'=>jIx w5.heap.size w5 w') (by kernel_rfl) HB.out.drew ?_;intro hH;refine fq 0 rfl (by kernel_rfl) hH (by rfl) (by intro wv hSw;obtain ⟨c0,c2,c8⟩:=CY.out wv hSw;go_simp;try with_reducible rfl) ?_;refine fq 1 rfl (by kernel_rfl) hH (by rfl) (by intro wv hSw;obtain ⟨c0,c2,c8⟩:=CY.out wv hSw;go_simp;try with_reducible rfl) ?_;refine fq 2 rfl (by kernel_rfl) hH (by rfl) (by intro wv hSw;obtain ⟨c0,c2,c8⟩:=CY.out wv hSw;go_simp;try with_reducible rfl) ?_;refine fq 3 rfl (by kernel_rfl) hH (by rfl) (by intro wv hSw;obtain ⟨c0,c2,c8⟩:=CY.out wv hSw;go_simp;try with_reducible rfl) ?_;refine fq 4 rfl (by kernel_rfl) hH (by rfl) (by intro wv hSw;obtain ⟨c0,c2,c8⟩:=CY.out wv hSw;go_simp;try with_reducible rfl) ?_;refine fq 5 rfl (by kernel_rfl) hH (by rfl) (by intro wv hSw;obtain ⟨c0,c2,c8⟩:=CY.out wv hSw;go_simp;try with_reducible rfl) ?_;refine fq 6 rfl (by kernel_rfl) hH (by rfl) (by intro wv hSw;obtain ⟨c0,c2,c8⟩:=CY.out wv hSw;go_simp;try with_reducible rfl) ?_;refine fq 7 rfl (by kernel_rfl) hH (by rfl) (by intro wv hSw;obtain ⟨c0,c2,c8⟩:=CY.out wv hSw;go_simp;try with_reducible rfl) ?_;refine fq 8 rfl (by kernel_rfl) hH (by rfl) (by intro wv hSw;obtain ⟨c0,c2,c8⟩:=CY.out wv hSw;go_simp;try with_reducible rfl) ?_;refine fq 10 rfl (by kernel_rfl) hH (by rfl) (by intro wv hSw;obtain ⟨c0,c2,c8⟩:=CY.out wv hSw;go_simp;try with_reducible rfl) ?_;refine fq 11 rfl (by kernel_rfl) hH (by rfl) (by intro wv hSw;obtain ⟨c0,c2,c8⟩:=CY.out wv hSw;go_simp;try with_reducible rfl) ?_;refine fq 12 rfl (by kernel_rfl) hH (by rfl) (by intro wv hSw;obtain ⟨c0,c2,c8⟩:=CY.out wv hSw;go_simp;try with_reducible rfl) ?_;refine fq 13 rfl (by kernel_rfl) hH (by rfl) (by intro wv hSw;obtain ⟨c0,c2,c8⟩:=CY.out wv hSw;go_simp;try with_reducible rfl) ?_;refine fq 14 rfl (by kernel_rfl) hH (by rfl) (by intro wv hSw;obtain ⟨c0,c2,c8⟩:=CY.out wv hSw;go_simp;try with_reducible rfl) ?_;obtain ⟨y0,hy0⟩:∃ y0,y0=wr.drew:=⟨_,rfl⟩;have MU:jIx wr.heap.size wr y0:=by rw [hy0];exact (Below.refl _ _).drew
      rw [<- hy0] at hH;rw [<- hy0];clear hy0;have o9:jIx w5.heap.size w5 y0:=hH;refine MZ (i:=9) (j:=15) rfl rfl (by kernel_rfl) (fun KQ hK=>?_) (fun KQ hK=>?_)
      case' refine_1=>
       go_simp;obtain ⟨y1,hN⟩:∃ z,z=y0.alloc (.cells #[.string ⟨#[105,100]⟩,.string (⟨#[110,111,116,101,45]⟩++yi),.string ⟨#[99,108,97,115,115]⟩,.string ⟨#[110,111,116,101]⟩] 37):=⟨_,rfl⟩;obtain ⟨pp,hf⟩:∃ z,z=y0.heap.size:=⟨_,rfl⟩;have PRX:=(aG.aF [⟨jX,BM++yi⟩,⟨dD,dR⟩] (fun _=>False) y0 (by simp) (by simp));have GY:jIx y0.heap.size y0 y1/\Rd (y0.heap.size<=·) y1 (fJ [⟨jX,BM++yi⟩,⟨dD,dR⟩]) [.slice (some ⟨pp,0,none⟩) 2 2]:=by rw [hN,hf];exact ⟨PRX.aO,PRX.cu⟩
       clear PRX;rw [<- hN,<- hf];have GR:jIx wr.heap.size wr y1:=MU.trans (GY.1.mono MU.size);have B1:jIx w5.heap.size w5 y1:=HB.out.trans (GR.mono HB.out.size);have jsq:=hid (GY.2.weaken (ok':=(wr.heap.size<=·)) (fun b hb=>jFq MU.size hb));clear GY hN hf;refine hK.out _ _ (fun _ _=>B1) (fun hH2=>?_);clear hK KQ hH;refine aN ?_;clear hH2;intro hH;refine eF (i:=15) rfl (by kernel_rfl) (fun KQ hK=>?_);go_simp;go_at_call 46
       (with_reducible refine (IC.out y1 B1).mono ?_)
       rintro e y2 ⟨dH,v3,rfl,hrow3⟩;obtain ⟨a3,n3,c3,rfl⟩:=hrow3.slice3;have Xr:jIx wr.heap.size wr y2:=GR.trans (hrow3.aO.mono GR.size);have B2:jIx w5.heap.size w5 y2:=HB.out.trans (Xr.mono HB.out.size);have ja2:=hid (show Rd (wr.heap.size<=·) y2 (gH (ah.aZ lZ)) [.slice a3 n3 c3] from hrow3.cu.weaken (fun b hb=>jFq GR.size hb));have GZ:=hid (jsq.out.aX hrow3.aO);clear hrow3
      case' refine_2=>
       go_simp;go_at_call 46
       (with_reducible refine (IC.out y0 o9).mono ?_)
       rintro e y1 ⟨dH,v3,rfl,hrow3⟩;obtain ⟨a3,n3,c3,rfl⟩:=hrow3.slice3;have GR:jIx wr.heap.size wr y1:=MU.trans (hrow3.aO.mono MU.size);have B1:jIx w5.heap.size w5 y1:=HB.out.trans (GR.mono HB.out.size);have jsx:=hid (show Rd (wr.heap.size<=·) y1 (gH (ah.aZ lZ)) [.slice a3 n3 c3] from hrow3.cu.weaken (fun b hb=>jFq MU.size hb));clear hrow3;refine hK.out _ _ (fun _ _=>B1) (fun hH2=>?_);clear hK KQ hH;refine aN ?_;clear hH2;intro hH;refine CF ?_;intro KQ hK;obtain ⟨y2,hN⟩:∃ z,z=y1.alloc (.cells #[.string ⟨#[105,100]⟩,.string (⟨#[110,111,116,101,45]⟩++yi),.string ⟨#[99,108,97,115,115]⟩,.string ⟨#[110,111,116,101]⟩] 37):=⟨_,rfl⟩;obtain ⟨pp,hf⟩:∃ z,z=y1.heap.size:=⟨_,rfl⟩;have PRX:=(aG.aF [⟨jX,BM++yi⟩,⟨dD,dR⟩] (fun _=>False) y1 (by simp) (by simp));have GY:jIx y1.heap.size y1 y2/\Rd (y1.heap.size<=·) y2 (fJ [⟨jX,BM++yi⟩,⟨dD,dR⟩]) [.slice (some ⟨pp,0,none⟩) 2 2]:=by rw [hN,hf];exact ⟨PRX.aO,PRX.cu⟩
       clear PRX;rw [<- hN,<- hf];have Xr:jIx wr.heap.size wr y2:=GR.trans (GY.1.mono GR.size);have B2:jIx w5.heap.size w5 y2:=HB.out.trans (Xr.mono HB.out.size);have GZ:=hid (GY.2.weaken (ok':=(wr.heap.size<=·)) (fun b hb=>jFq GR.size hb));have ja2:=hid (jsx.out.aX GY.1);clear GY hN hf
      all_goals
       refine hK.out _ _ (fun _ _=>B2) (fun hH2=>?_);clear hK KQ hH;refine aN ?_;clear hH2;intro hH;refine eF (i:=16) rfl (by kernel_rfl) (fun KQ hK=>?_);go_simp;go_at_call 48
       (with_reducible refine (lY ⟨#[100,105,118]⟩ (some ⟨pp,0,none⟩) a3 2 n3 2 c3 y2).mono ?_)
       rintro e y3 ⟨rfl,hb⟩;have B3r:jIx wr.heap.size wr y3:=Xr.trans (hb.mono Xr.size);have B3:jIx w5.heap.size w5 y3:=HB.out.trans (B3r.mono HB.out.size);have XD:=hid (show Rd (fun b=>False\/wr.heap.size<=b) y3 (aH jW [⟨jX,BM++yi⟩,⟨dD,dR⟩] (ah.aZ lZ)).d [.string ⟨#[100,105,118]⟩,.string ⟨#[]⟩,.slice (some ⟨pp,0,none⟩) 2 2,.slice a3 n3 c3] from (Nd.dJ ⟨#[100,105,118]⟩ ⟨#[]⟩ ⟨GZ.out.aX hb,ja2.out.aX hb⟩).weaken (fun b hb=>.inr hb));have U3:=hid (bE.out.below B3r);clear hb;refine hK.out _ _ (fun _ _=>B3) (fun hH2=>?_);clear hK KQ hH;refine aN ?_;clear hH2;intro hH;refine eF (i:=17) rfl (by kernel_rfl) (fun KQ hK=>?_);go_simp;refine hK.out _ _ (fun _ _=>B3.alloc B3.size _) (fun hH2=>?_);clear hK KQ hH;refine aN ?_;clear hH2;intro hH;refine eF (i:=18) rfl (by kernel_rfl) (fun KQ hK=>?_);refine lC rfl (.tmp 33) (.tmp 50) 28 rfl iN _ 80 underlying28 qG fF fG fH rfl (by decide) U3.out (fun _=>False.elim) (aH jW [⟨jX,BM++yi⟩,⟨dD,dR⟩] (ah.aZ lZ)).d [.string ⟨#[100,105,118]⟩,.string ⟨#[]⟩,.slice (some ⟨pp,0,none⟩) 2 2,.slice a3 n3 c3] XD.out rfl F9 HM.out (by omega) (by decide) rfl rfl ?_;intro a6 c6 w6 dF hg6;have B6:jIx w5.heap.size w5 w6:=dF.aO;have HF:Hid (MX w5 E (.slice a6 (m+1) c6) (.int .i64 ((j+1:Nat):Int)) w6):=⟨j+1,_,by have:=HNE.out;omega,rfl,by rw [gZ.out];exact dF⟩;clear dF hg6;refine hK.out _ _ (fun _ _=>B6) (fun hH2=>?_);clear hK KQ hH;refine aN ?_;clear hH2;intro hH;refine eF (i:=19) rfl (by kernel_rfl) (fun KQ hK=>?_);refine nX ?_;clear hK KQ hH;refine OQ (by kernel_rfl) ?_ _;clear XD U3;exact gN
     ·have q14:(yk==14)=false:=by rw [beq_eq_false_iff_ne];exact Jz
      have gZ:=hid (show ((E.take (j+1)).flatMap qH).map Nd.d=ds by
       have hno:qH (.mk yk CG yi yt yd CJ Bo sM lZ)=[]:=by unfold qH;exact if_neg Jz
       rw [hsn,hno,List.append_nil,nC.out])
      have HF:Hid (MX w5 E (.slice av m cv) (.int .i64 ((j+1:Nat):Int)) wr):=⟨j+1,_,by have:=HNE.out;omega,rfl,by rw [gZ.out];exact bE.out⟩;clear QJ hok hbl hc hR hsn hy;exact gN
    ·have hje:j=E.length:=by have:=HNE.out;omega
     have Xt:=nC.out;rw [hje,List.take_length] at Xt;have jyk:=hid Xt;have hm2:(E.flatMap qH).length=m:=by rw [<- HM.out,<- Xt,jG1]
     have BB:=hid (q01 B5.out HB.out);have HO:=hid (HR5.out.below HB.out);clear hje Xt;by_cases hm0:m=0
     ·have q8:¬ (0:Int)<(m:Int):=by omega
      have hN:NN=ah.aZ l:=by rw [R8.out,Jy.out,if_pos (by rw [List.isEmpty_iff,<- List.length_eq_zero_iff,hm2];exact hm0),List.append_nil]
      have HF:Hid (bM w EE NN (.returned (.tuple #[.slice a4 n4 c4,.int .i64 0])) wr):=by rw [HE.out,hN];exact ⟨_,_,rfl,(HO.out.l7 B3.out.size BB.out).top⟩
      clear hN hm2;go_wp2
      go_ret2
      exact HF.out
     ·have q8:(0:Int)<(m:Int):=by omega
      have hN:NN=ah.aZ l++[aH R9 [⟨dD,eU⟩] (E.flatMap qH)]:=by rw [R8.out,Jy.out,if_neg (by rw [List.isEmpty_iff,<- List.length_eq_zero_iff,hm2];exact hm0)]
      have HN:=hid hN;have SC:=q24 ⟨#[99,108,97,115,115]⟩ ⟨#[110,111,116,101,115]⟩ wr;rw [show cO ⟨#[99,108,97,115,115]⟩ ⟨#[110,111,116,101,115]⟩=[⟨dD,eU⟩] from rfl] at SC;have HSC:=hid SC;have HKN:=hid (show Rd (w5.heap.size<=·) wr (gH (E.flatMap qH)) [.slice av m cv] by have h:=bE.out.cu;rw [<- jyk.out] at h;exact h);clear hN hm2 SC;go_wp2_with fail
      (with_reducible refine HSC.out.mono ?_)
      rintro e w6 ⟨ja3,v6,rfl,dF⟩;obtain ⟨a6,c6,rfl,-,-⟩:=dF.cap (n:=1) rfl;have B6r:=hid dF.aO;have Xu:=hid (show Rd (wr.heap.size<=·) w6 (fJ [⟨dD,eU⟩]) [.slice a6 1 c6] from dF.cu);have EC:=hid (lY ⟨#[115,101,99,116,105,111,110]⟩ a6 av 1 m c6 cv w6);clear dF HSC;go_wp2_with fail
      (with_reducible refine EC.out.mono ?_)
      rintro e w7 ⟨rfl,b7⟩;have B7r:=hid (q01 B6r.out b7);have XD:=hid (show Rd (fun b=>False\/w4.heap.size<=b) w7 (aH R9 [⟨dD,eU⟩] (E.flatMap qH)).d [.string ⟨#[115,101,99,116,105,111,110]⟩,.string ⟨#[]⟩,.slice a6 1 c6,.slice av m cv] from
       (Nd.dJ ⟨#[115,101,99,116,105,111,110]⟩ ⟨#[]⟩ ⟨(Xu.out.aX b7).weaken (fun b hb=>jFq HB.out.size hb),HKN.out.aX B7r.out⟩).weaken (fun b hb=>.inr (jFq HZ5.out hb)))
      have U7:=hid (HO.out.below B7r.out);clear b7 EC;go_wp2_with (at_builtin;refine OP (n:=n4) rfl _ _ 28 rfl iN _ 80 underlying28 qG fF fG fH rfl (by decide) U7.out (fun _=>False.elim) (aH R9 [⟨dD,eU⟩] (E.flatMap qH)).d [.string ⟨#[115,101,99,116,105,111,110]⟩,.string ⟨#[]⟩,.slice a6 1 c6,.slice av m cv] XD.out rfl F9 HN4.out (by omega) (by decide) rfl rfl ?_)
      intro a8 c8 w8 og hg8;have HF:Hid (bM w EE NN (.returned (.tuple #[.slice a8 (n4+1) c8,.int .i64 0])) w8):=by rw [HE.out,HN.out];refine ⟨bG++[[.string ⟨#[115,101,99,116,105,111,110]⟩,.string ⟨#[]⟩,.slice a6 1 c6,.slice av m cv]],_,rfl,?_⟩;rw [jGk];exact og.l7 B3.out.size (q01 B3.out og.aO)
      clear og hg8 XD U7;go_wp2
      go_ret2
      exact HF.out
 ·have q1:((E0:Int) != 0)=true:=by rw [bne_iff_ne];omega
  have HF:Hid (bM w EE NN (.returned (.tuple #[.slice none 0 0,.int .i64 (E0:Int)])) w1):=by exact ja4
  clear h0;go_wp2
  go_ret2
  exact HF.out
end Go.Proofs.YtklhajbpfelliaaGreatDoor

