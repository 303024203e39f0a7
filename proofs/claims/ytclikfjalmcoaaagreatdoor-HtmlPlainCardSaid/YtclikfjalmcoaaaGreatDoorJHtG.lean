/- Contract of html.Page: the page of a document, or the error. -/
import Derived.Test.YtclikfjalmcoaaaGreatDoorJHtZ
set_option maxHeartbeats 4000000
set_option maxRecDepth 100000
open Go.Lib (hid)
namespace Go.Proofs.YtclikfjalmcoaaaGreatDoor
open List renaming setIfInBounds_toArray->jc3,set_cons_zero->jc4,set_cons_succ->jc5
open Go.RowKit.Below renaming refl->jc7
open Nat renaming le_trans->jc9
open Go.RowKit
set_option linter.unusedVariables false
set_option linter.unusedSimpArgs false
theorem Ip (me:List Pr) (l:List au) (title lang:ByteArray) (vm vb:Value) (w:World) (hm:Rd (·<w.heap.size) w (dQ me) [vm]) (hb:Rd (·<w.heap.size) w (dB l) [vb]) (hme:me.length<=1000) (BQ:∀ p∈me,p.key.size<=1000/\p.val.size<=1000) (hall:au.bY l<=32768) (hsm:au.aC l) (hsz:au.aU l<=900000) (hil:(au.aV l).length<=1000) (hbd:au.qI l) (hti:title.size<=300) (hla:lang.size<=300) (ht:PT w) : Calls Tryz.prog 22 #[.agg #[vm,vb],.string title,.string lang] w (mh w (Uw me l title lang) (Pn me l title lang)):=by
 obtain ⟨am,cm,Ux,-⟩:=Rd.aD hm;obtain ⟨nm,hnm⟩:∃ nm,nm=me.length:=⟨_,rfl⟩;obtain rfl:vm=.slice am nm cm:=by rw [hnm];simpa using Ux
 obtain ⟨ab,nb,cb,rfl⟩:=Rd.aj hb;clear Ux;obtain ⟨S,W0,hS,hW0,z0,k0,k1,b0⟩:=pF 32 w [.slice am nm cm,.slice ab nb cb];have Rl:Below w.heap.size w W0:=by rw [<- hS];exact b0
 have CK:=El qU me l am ab cm nb cb W0 hme BQ hall hsm (fun _=>CO) (by rw [<- hnm];exact hm.up Rl) (hb.up Rl);rw [<- hnm] at CK;have BC:Hid (∀ W:World,Below W0.heap.size W0 W->Calls Tryz.prog 20 #[.slice ab nb cb] W (bI W (DZ l) (Po l))):=fun W hW=>zL l _ W (hb.up (Rl.trans (hW.mono Rl.size))) hsm hsz hil hbd (ht.below (Rl.trans (hW.mono Rl.size)))
 have LC:Hid (∀ W:World,Calls Tryz.prog 66 #[.string title] W (dJ (.bool (fP title)) W)):=fun W=>by
  have h:=CF title W (by omega);rw [Iq] at h;exact h
 have NC:Hid (∀ W:World,Calls Tryz.prog 67 #[.string lang] W (fun e w'=>e=.returned (.bool (iQ lang))/\W=w')):=fun W=>Gb lang W (by omega)
 obtain ⟨EE,Jp⟩:∃ EE,EE=Uw me l title lang:=⟨_,rfl⟩;obtain ⟨E0,hE0⟩:∃ E0,E0=iR qU me l:=⟨_,rfl⟩;obtain ⟨T,hT⟩:∃ T,T=fP title:=⟨_,rfl⟩;obtain ⟨G,hG⟩:∃ G,G=iQ lang:=⟨_,rfl⟩;obtain ⟨EB,Rm⟩:∃ EB,EB=DZ l:=⟨_,rfl⟩;obtain ⟨NB,Yo⟩:∃ NB,NB=Po l:=⟨_,rfl⟩;have hee:EE=if E0≠0 then E0 else if T=false then 17 else if G=false then 6 else EB:=by
  rw [Jp,hE0,hT,hG,Rm];unfold Uw;by_cases h0:iR qU me l≠0
  ·rw [if_pos h0,if_pos h0]
  ·rw [if_neg h0,if_neg h0];have h1:DZ l=if (au.aV l).any iw=true then 5 else 0:=by
    unfold DZ;rw [if_neg (by rw [Rn (Classical.not_not.1 h0)];simp)]
   rw [h1]
 have hpn:Pn me l title lang=if EE=0 then EL title lang (jZ l) else yB:=by rw [Jp];rfl
 have hnb:EB=0->NB=jZ l:=fun h=>by rw [Yo];unfold Po;rw [if_pos (Rm.symm.trans h)]
 rw [<- hE0] at CK;rw [<- hT] at LC;rw [<- hG] at NC;rw [<- Rm,<- Yo] at BC;rw [<- Jp];have WM:=hid CK;have Nq:=hid hee;have Uy:=hid hpn;have HNB:=hid hnb;have EM:=hid hS;have HW0:=hid hW0;have Z0:=hid z0;have B0:=hid b0;have K1:=hid k1;have X0:Hid (∀ W:World,Below W0.heap.size W0 W->W.cell? ⟨S,1,none⟩=some (.slice ab nb cb)):=fun W hW=>(k0.below hW).cell 1 _ rfl
 have x0:=k0.cell 0 _ rfl;have x1:=k0.cell 1 _ rfl;clear CK hm hb hme BQ hall hsm hsz hil hbd hti hla ht Jp hE0 hT hG Rm Yo hee hpn hnb hS hW0 z0 b0 k1 k0 Rl hnm;go_enter Tryz.func22,Tryz.ntmps22;go_upto_region 1 with (fail)
 rw [<- EM.out];have hk0:=HW0.out;simp only [lu] at hk0;rw [<- hk0];clear hk0;go_wp2_with fail
 (with_reducible refine WM.out.mono ?_)
 rintro e w1 ⟨rfl,b1⟩;have B1:=hid b1;clear b1 WM x0 x1;by_cases h0:E0=0
 ·have q1:((E0:Int) != 0)=false:=by rw [h0];rfl
  have Uz:Hid (EE=if T=false then 17 else if G=false then 6 else EB):=by show _=_;rw [Nq.out,if_neg (by simp [h0])]
  have LT:=hid (LC.out w1);clear h0 Nq;go_wp2_with fail
  (with_reducible refine LT.out.mono ?_)
  rintro e w2 ⟨rfl,b2⟩;have B2:=hid (aQ B1.out b2);clear b2 LT;cases T with
  | false=>
   have UA:=hid (show EE=17 by rw [Uz.out];rfl);have Ro:=hid (show Pn me l title lang=yB by rw [Uy.out,UA.out];rfl);obtain ⟨x0,x1,x2,x3,xf⟩:=gX (K1.out.below B2.out);obtain ⟨w9,aS⟩:∃ w9,w9=bZ w2 (S+1) (.string ⟨#[]⟩) (.string ⟨#[]⟩) (.slice none 0 0) (.slice none 0 0):=⟨_,rfl⟩;have hf:=lM ⟨#[]⟩ ⟨#[]⟩ [] [] EM.out Z0.out B0.out K1.out B2.out ⟨Rd.ay _ _ _,Rd.ay _ _ _⟩;rw [<- aS] at hf;have iy:=hid hf.1;have zM:=hid hf.2;clear hf;have hw8:=aS;simp only [bZ] at hw8;clear aS;go_wp2;rw [<- hw8];have r0:=iy.out.cell 0 _ rfl;have r1:=iy.out.cell 1 _ rfl;have r2:=iy.out.cell 2 _ rfl;have r3:=iy.out.cell 3 _ rfl;exact bodyPost_ret (v:=.tuple #[.agg #[.string ⟨#[]⟩,.string ⟨#[]⟩,.slice none 0 0,.slice none 0 0],.int .i64 (17)]) (by simp [results,Tryz.results22,go_sem,r0,r1,r2,r3]) rfl (by rw [Ro.out,UA.out];exact mh.of zM.out (by simp))
  | true=>
   have NT:=hid (NC.out w2);go_wp2_with fail
   (with_reducible refine NT.out.mono ?_)
   rintro e w3 ⟨rfl,hw3⟩;rw [<- hw3];clear NT hw3 w3;cases G with
   | false=>
    have HE6:=hid (show EE=6 by rw [Uz.out];rfl);have Ro:=hid (show Pn me l title lang=yB by rw [Uy.out,HE6.out];rfl);obtain ⟨x0,x1,x2,x3,xf⟩:=gX (K1.out.below B2.out);obtain ⟨w9,aS⟩:∃ w9,w9=bZ w2 (S+1) (.string ⟨#[]⟩) (.string ⟨#[]⟩) (.slice none 0 0) (.slice none 0 0):=⟨_,rfl⟩;have hf:=lM ⟨#[]⟩ ⟨#[]⟩ [] [] EM.out Z0.out B0.out K1.out B2.out ⟨Rd.ay _ _ _,Rd.ay _ _ _⟩;rw [<- aS] at hf;have iy:=hid hf.1;have zM:=hid hf.2;clear hf;have hw8:=aS;simp only [bZ] at hw8;clear aS;go_wp2;rw [<- hw8];have r0:=iy.out.cell 0 _ rfl;have r1:=iy.out.cell 1 _ rfl;have r2:=iy.out.cell 2 _ rfl;have r3:=iy.out.cell 3 _ rfl;exact bodyPost_ret (v:=.tuple #[.agg #[.string ⟨#[]⟩,.string ⟨#[]⟩,.slice none 0 0,.slice none 0 0],.int .i64 (6)]) (by simp [results,Tryz.results22,go_sem,r0,r1,r2,r3]) rfl (by rw [Ro.out,HE6.out];exact mh.of zM.out (by simp))
   | true=>
    have WO:=hid (show EE=EB by rw [Uz.out];rfl);have BT:=hid (BC.out w2 B2.out);have x1:=X0.out w2 B2.out;go_wp2_with fail
    (with_reducible refine BT.out.mono ?_)
    rintro e w3 ⟨dD,v3,rfl,hrow3⟩;obtain ⟨a3,n3,c3,rfl⟩:=hrow3.slice3;have B3:=hid (aQ B2.out hrow3.aJ);have KB3:=hid (show Rd (W0.heap.size<=·) w3 (bU NB) [.slice a3 n3 c3] from hrow3.eD.weaken (fun b (hb:w2.heap.size<=b)=>jc9 B2.out.size hb));clear hrow3 BT x1;by_cases hB0:EB=0
    ·have q2:((EB:Int) != 0)=false:=by rw [hB0];rfl
     have WQ:=hid (show Pn me l title lang=EL title lang (jZ l) by rw [Uy.out,if_pos (by rw [WO.out,hB0])]);have H0:=hid (show EE=0 by rw [WO.out,hB0]);have KP3:=hid (show Rd (W0.heap.size<=·) w3 (bU (jZ l)) [.slice a3 n3 c3] by rw [<- HNB.out hB0];exact KB3.out);clear hB0 KB3;have PC:Hid (Calls Tryz.prog 58 #[.slice (some ⟨w3.heap.size,0,none⟩) 2 2] (w3.alloc (.cells #[.string ⟨#[99,104,97,114,115,101,116]⟩,.string ⟨#[117,116,102,45,56]⟩] 9)) (bE (w3.alloc (.cells #[.string ⟨#[99,104,97,114,115,101,116]⟩,.string ⟨#[117,116,102,45,56]⟩] 9)) [⟨Ir,j3⟩])):=JY Ir j3 w3;have bA:Below w3.heap.size w3 (w3.alloc (.cells #[.string ⟨#[99,104,97,114,115,101,116]⟩,.string ⟨#[117,116,102,45,56]⟩] 9)):=(jc7 _ _).alloc (Nat.le_refl _) _;go_wp2_with fail
     (with_reducible refine PC.out.mono ?_)
     rintro e w4 ⟨dF,v4,rfl,hrow4⟩;obtain ⟨a4,c4,rfl,-,-⟩:=hrow4.cap (n:=1) rfl;have Yp:Below w3.heap.size w3 w4:=bA.trans (hrow4.aJ.mono bA.size);have B4:=hid (aQ B3.out Yp);have PR4:=hid (show Rd (W0.heap.size<=·) w4 (dQ [⟨Ir,j3⟩]) [.slice a4 1 c4] from hrow4.eD.weaken (fun b hb=>jc9 B3.out.size (jc9 bA.size hb)));have KP4:=hid (KP3.out.aZ Yp);have EC1:=hid (gL ⟨#[109,101,116,97]⟩ a4 none 1 0 c4 0 w4);clear hrow4 bA Yp PC KP3;go_wp2_with fail
     (with_reducible refine EC1.out.mono ?_)
     rintro e w5 ⟨rfl,b5⟩;have B5:=hid (aQ B4.out b5);have XM5:=hid (show Rd (W0.heap.size<=·) w5 (aL nR [⟨Ir,j3⟩] []).d [.string ⟨#[109,101,116,97]⟩,.string ⟨#[]⟩,.slice a4 1 c4,.slice none 0 0] from Nd.fK ⟨#[109,101,116,97]⟩ ⟨#[]⟩ ⟨PR4.out.aZ b5,Rd.ay _ _ _⟩);have KP5:=hid (KP4.out.aZ b5);have DC:=hid (fF title w5);clear b5 EC1 PR4 KP4;go_wp2_with fail
     (with_reducible refine DC.out.mono ?_)
     rintro e w6 ⟨UF,v6,rfl,dn⟩;obtain ⟨a6,n6,c6,rfl⟩:=dn.slice3;have B6:=hid (aQ B5.out dn.aJ);have XM6:=hid (XM5.out.aZ dn.aJ);have KP6:=hid (KP5.out.aZ dn.aJ);have KT6:=hid (show Rd (W0.heap.size<=·) w6 (bU (bJ title)) [.slice a6 n6 c6] from dn.eD.weaken (fun b (hb:w5.heap.size<=b)=>jc9 B5.out.size hb));have Pj:=hid (gL ⟨#[116,105,116,108,101]⟩ none a6 0 n6 0 c6 w6);clear dn DC XM5 KP5;go_wp2_with fail
     (with_reducible refine Pj.out.mono ?_)
     rintro e w7 ⟨rfl,b7⟩;have B7:=hid (aQ B6.out b7);have Yq:=hid (GI (ok:=(W0.heap.size<=·)) (w:=w7) (x:=(aL nR [⟨Ir,j3⟩] [])) (y:=(aL kN [] (bJ title))) B7.out.size (XM6.out.aZ b7) (Nd.fK ⟨#[116,105,116,108,101]⟩ ⟨#[]⟩ ⟨Rd.ay _ _ _,KT6.out.aZ b7⟩));have bA:Below w7.heap.size w7 (w7.alloc (.cells #[.string ⟨#[109,101,116,97]⟩,.string ⟨#[]⟩,.slice a4 1 c4,.slice none 0 0,.string ⟨#[116,105,116,108,101]⟩,.string ⟨#[]⟩,.slice none 0 0,.slice a6 n6 c6] 43)):=(jc7 _ _).alloc (Nat.le_refl _) _;have BA7:=hid (aQ B7.out bA);have KP7:=hid ((KP6.out.aZ b7).aZ bA);obtain ⟨p7,Yr⟩:∃ p7,p7=w7.heap.size:=⟨_,rfl⟩;have HP7:=hid Yr;have WT:=gL ⟨#[104,101,97,100]⟩ none (some ⟨p7,0,none⟩) 0 2 0 2 (w7.alloc (.cells #[.string ⟨#[109,101,116,97]⟩,.string ⟨#[]⟩,.slice a4 1 c4,.slice none 0 0,.string ⟨#[116,105,116,108,101]⟩,.string ⟨#[]⟩,.slice none 0 0,.slice a6 n6 c6] 43));rw [<- Yr] at Yq;have WT:=hid WT;clear b7 Pj XM6 KP6 KT6 bA Yr;go_wp2_with fail
     rw [<- HP7.out]
     (with_reducible refine WT.out.mono ?_)
     rintro e w8 ⟨rfl,b8⟩;have B8:=hid (aQ BA7.out b8);have XH8:=hid (show Rd (W0.heap.size<=·) w8 (aL rV [] [(aL nR [⟨Ir,j3⟩] []),(aL kN [] (bJ title))]).d [.string ⟨#[104,101,97,100]⟩,.string ⟨#[]⟩,.slice none 0 0,.slice (some ⟨p7,0,none⟩) 2 2] from Nd.fK ⟨#[104,101,97,100]⟩ ⟨#[]⟩ ⟨Rd.ay _ _ _,Yq.out.aZ b8⟩);have KP8:=hid (KP7.out.aZ b8);obtain ⟨Bh,Yt⟩:∃ Bh,Bh=w8.heap.size:=⟨_,rfl⟩;obtain ⟨wH,WU⟩:∃ wH,wH=w8.alloc (.cells #[.string ⟨#[104,101,97,100]⟩,.string ⟨#[]⟩,.slice none 0 0,.slice (some ⟨p7,0,none⟩) 2 2] 43):=⟨_,rfl⟩;have bH:Below w8.heap.size w8 wH:=by rw [WU];exact (jc7 _ _).alloc (Nat.le_refl _) _
     have kH:CB 43 Bh [.string ⟨#[104,101,97,100]⟩,.string ⟨#[]⟩,.slice none 0 0,.slice (some ⟨p7,0,none⟩) 2 2] wH:=by rw [WU,Yt];exact CB.new _ _ _
     have BH:=hid (aQ B8.out bH);have XHH:=hid (XH8.out.aZ bH);have KPH:=hid (KP8.out.aZ bH);have Yu:Hid (∀ y:World,Below wH.heap.size wH y->y.cell? ⟨Bh,0,none⟩=some (.string ⟨#[104,101,97,100]⟩)/\y.cell? ⟨Bh,1,none⟩=some (.string ⟨#[]⟩)/\y.cell? ⟨Bh,2,none⟩=some (.slice none 0 0)/\y.cell? ⟨Bh,3,none⟩=some (.slice (some ⟨p7,0,none⟩) 2 2)):=fun y hy=>⟨(kH.below hy).cell 0 _ rfl,(kH.below hy).cell 1 _ rfl,(kH.below hy).cell 2 _ rfl,(kH.below hy).cell 3 _ rfl⟩
     clear b8 WT Yq KP7 XH8 KP8 bH kH;go_upto_region 12 with (fail)
     rw [<- WU,<- Yt];clear WU Yt;refine gJ 8 (fun w'=>Below wH.heap.size wH w') (by kernel_rfl) (jc7 _ _).drew ?_;intro hH;refine lY (i:=0) (v:=?_) rfl (by kernel_rfl) (by kernel_rfl) (by kernel_rfl) (by kernel_rfl) (by kernel_rfl) (fun _ _ _ h=>h) hH (Or.inl ⟨by rfl,?_⟩) ?_;rotate_left
     ·(intro wv hSw;obtain ⟨c0,c1,c2,c3⟩:=Yu.out wv hSw;go_simp;try with_reducible rfl)
     try simp only [Act.put,jc3,jc4,jc5]
     refine lY (i:=3) (v:=?_) rfl (by kernel_rfl) (by kernel_rfl) (by kernel_rfl) (by kernel_rfl) (by kernel_rfl) (fun _ _ _ h=>h) hH (Or.inl ⟨by rfl,?_⟩) ?_;rotate_left
     ·(intro wv hSw;obtain ⟨c0,c1,c2,c3⟩:=Yu.out wv hSw;go_simp;try with_reducible rfl)
     try simp only [Act.put,jc3,jc4,jc5]
     refine lY (i:=4) (v:=?_) rfl (by kernel_rfl) (by kernel_rfl) (by kernel_rfl) (by kernel_rfl) (by kernel_rfl) (fun _ _ _ h=>h) hH (Or.inl ⟨by rfl,?_⟩) ?_;rotate_left
     ·(intro wv hSw;obtain ⟨c0,c1,c2,c3⟩:=Yu.out wv hSw;go_simp;try with_reducible rfl)
     try simp only [Act.put,jc3,jc4,jc5]
     obtain ⟨y0,hy0⟩:∃ y0,y0=wH.drew:=⟨_,rfl⟩;have UG:Below wH.heap.size wH y0:=by rw [hy0];exact (jc7 _ _).drew
     rw [<- hy0] at hH;rw [<- hy0];clear hy0;have LC2:Hid (Calls Tryz.prog 58 #[.slice (some ⟨y0.heap.size,0,none⟩) 2 2] (y0.alloc (.cells #[.string ⟨#[108,97,110,103]⟩,.string lang] 9)) (bE (y0.alloc (.cells #[.string ⟨#[108,97,110,103]⟩,.string lang] 9)) [⟨ow,lang⟩])):=JY ow lang y0;refine q01 (i:=1) rfl (by kernel_rfl) (fun KQ hK=>?_);go_simp;have WV:Below wH.heap.size wH (y0.alloc (.cells #[.string ⟨#[108,97,110,103]⟩,.string lang] 9)):=UG.alloc UG.size _;refine hK.out _ _ (fun _ _=>WV) (fun hH2=>?_);clear hK KQ hH;have hH:=hH2 (by decide) (by kernel_rfl);clear hH2;try simp only [Act.put,jc3,jc4,jc5]
     refine q01 (i:=2) rfl (by kernel_rfl) (fun KQ hK=>?_);go_simp;go_at_call 58
     (with_reducible refine (LC2.out).mono ?_)
     rintro e y2 ⟨bg,v2,rfl,hrow2⟩;obtain ⟨a9,c9,rfl,-,-⟩:=hrow2.cap (n:=1) rfl;have Yv:Below wH.heap.size wH y2:=WV.trans (hrow2.aJ.mono WV.size);have UH:=hid (show Rd (W0.heap.size<=·) y2 (dQ [⟨ow,lang⟩]) [.slice a9 1 c9] from hrow2.eD.weaken (fun b hb=>jc9 BH.out.size (jc9 WV.size hb)));clear hrow2 LC2;refine hK.out _ _ (fun _ _=>Yv) (fun hH2=>?_);clear hK KQ hH;have hH:=hH2 (by decide) (by kernel_rfl);clear hH2;try simp only [Act.put,jc3,jc4,jc5]
     refine q01 (i:=5) rfl (by kernel_rfl) (fun KQ hK=>?_);go_simp;go_at_call 57
     (with_reducible refine (gL ⟨#[98,111,100,121]⟩ none a3 0 n3 0 c3 y2).mono ?_)
     rintro e y3 ⟨rfl,hb⟩;have SY:Below wH.heap.size wH y3:=Yv.trans (hb.mono Yv.size);have PR3:=hid (UH.out.aZ hb);have Yw:=hid (GI (ok:=(W0.heap.size<=·)) (w:=y3) (x:=(aL rV [] [(aL nR [⟨Ir,j3⟩] []),(aL kN [] (bJ title))])) (y:=(aL uQ [] (jZ l))) (jc9 BH.out.size SY.size) (XHH.out.aZ SY) (Nd.fK ⟨#[98,111,100,121]⟩ ⟨#[]⟩ ⟨Rd.ay _ _ _,KPH.out.aZ SY⟩));clear hb UH;refine hK.out _ _ (fun _ _=>SY) (fun hH2=>?_);clear hK KQ hH;have hH:=hH2 (by decide) (by kernel_rfl);clear hH2;try simp only [Act.put,jc3,jc4,jc5]
     refine q01 (i:=6) rfl (by kernel_rfl) (fun KQ hK=>?_);go_simp;have bA:Below y3.heap.size y3 (y3.alloc (.cells #[.string ⟨#[104,101,97,100]⟩,.string ⟨#[]⟩,.slice none 0 0,.slice (some ⟨p7,0,none⟩) 2 2,.string ⟨#[98,111,100,121]⟩,.string ⟨#[]⟩,.slice none 0 0,.slice a3 n3 c3] 43)):=(jc7 _ _).alloc (Nat.le_refl _) _;have WW:Below wH.heap.size wH (y3.alloc (.cells #[.string ⟨#[104,101,97,100]⟩,.string ⟨#[]⟩,.slice none 0 0,.slice (some ⟨p7,0,none⟩) 2 2,.string ⟨#[98,111,100,121]⟩,.string ⟨#[]⟩,.slice none 0 0,.slice a3 n3 c3] 43)):=SY.trans (bA.mono SY.size);have Yx:=hid (PR3.out.aZ bA);obtain ⟨y6,hN⟩:∃ y6,y6=y3.alloc (.cells #[.string ⟨#[104,101,97,100]⟩,.string ⟨#[]⟩,.slice none 0 0,.slice (some ⟨p7,0,none⟩) 2 2,.string ⟨#[98,111,100,121]⟩,.string ⟨#[]⟩,.slice none 0 0,.slice a3 n3 c3] 43):=⟨_,rfl⟩;obtain ⟨p3,hf⟩:∃ p3,p3=y3.heap.size:=⟨_,rfl⟩;rw [<- hN,<- hf] at Yw;rw [<- hN] at Yx WW;rw [<- hN,<- hf];clear hN hf bA PR3;refine hK.out _ _ (fun _ _=>WW) (fun hH2=>?_);clear hK KQ hH;have hH:=hH2 (by decide) (by kernel_rfl);clear hH2;try simp only [Act.put,jc3,jc4,jc5]
     refine q01 (i:=7) rfl (by kernel_rfl) (fun KQ hK=>?_);go_simp;go_at_call 57
     (with_reducible refine (gL ⟨#[104,116,109,108]⟩ a9 (some ⟨p3,0,none⟩) 1 2 c9 2 y6).mono ?_)
     rintro e y7 ⟨rfl,hb⟩;have B7y:Below wH.heap.size wH y7:=WW.trans (hb.mono WW.size);have HN:=hid (show jK (W0.heap.size<=·) y7 [⟨ow,lang⟩] [(aL rV [] [(aL nR [⟨Ir,j3⟩] []),(aL kN [] (bJ title))]),(aL uQ [] (jZ l))] (.slice a9 1 c9) (.slice (some ⟨p3,0,none⟩) 2 2) from ⟨Yx.out.aZ hb,Yw.out.aZ hb⟩);have BL:=hid (aQ BH.out B7y);clear hb Yx Yw;refine hK.out _ _ (fun _ _=>B7y) (fun hH2=>?_);clear hK KQ hH;have hH:=hH2 (by decide) (by kernel_rfl);clear hH2;try simp only [Act.put,jc3,jc4,jc5]
     refine q01 (i:=8) rfl (by kernel_rfl) (fun KQ hK=>?_);obtain ⟨x0,x1,x2,x3,xf⟩:=gX (K1.out.below BL.out);go_simp;clear x0 x1 x2 x3 xf;refine hK.out _ _ (fun h=>absurd rfl h) (fun _=>?_);clear hK KQ hH;try simp only [Act.put,jc3,jc4,jc5]
     refine q01 (i:=9) rfl (by kernel_rfl) (fun KQ hK=>?_);go_simp;refine hK.out _ _ (fun _ h=>absurd h (by decide)) (fun _=>?_);clear hK KQ;try simp only [Act.put,jc3,jc4,jc5]
     refine rQ (by kernel_rfl) ?_ _;obtain ⟨w9,aS⟩:∃ w9,w9=bZ y7 (S+1) (.string ⟨#[104,116,109,108]⟩) (.string ⟨#[]⟩) (.slice a9 1 c9) (.slice (some ⟨p3,0,none⟩) 2 2):=⟨_,rfl⟩;have hf:=lM ⟨#[104,116,109,108]⟩ ⟨#[]⟩ [⟨ow,lang⟩] [(aL rV [] [(aL nR [⟨Ir,j3⟩] []),(aL kN [] (bJ title))]),(aL uQ [] (jZ l))] EM.out Z0.out B0.out K1.out BL.out HN.out;rw [<- aS] at hf;have iy:=hid hf.1;have zM:=hid hf.2;clear hf;have hw8:=aS;simp only [bZ] at hw8;clear aS;rw [<- hw8];clear hw8;go_wp2;have r0:=iy.out.cell 0 _ rfl;have r1:=iy.out.cell 1 _ rfl;have r2:=iy.out.cell 2 _ rfl;have r3:=iy.out.cell 3 _ rfl;exact bodyPost_ret (v:=.tuple #[.agg #[.string ⟨#[104,116,109,108]⟩,.string ⟨#[]⟩,.slice a9 1 c9,.slice (some ⟨p3,0,none⟩) 2 2],.int .i64 (0)]) (by simp [results,Tryz.results22,go_sem,r0,r1,r2,r3]) rfl (by rw [WQ.out,H0.out];exact mh.of zM.out (by simp))
    ·have q2:((EB:Int) != 0)=true:=by rw [bne_iff_ne];omega
     have Ro:=hid (show Pn me l title lang=yB by rw [Uy.out,if_neg (by rw [WO.out];exact hB0)]);obtain ⟨x0,x1,x2,x3,xf⟩:=gX (K1.out.below B3.out);obtain ⟨w9,aS⟩:∃ w9,w9=bZ w3 (S+1) (.string ⟨#[]⟩) (.string ⟨#[]⟩) (.slice none 0 0) (.slice none 0 0):=⟨_,rfl⟩;have hf:=lM ⟨#[]⟩ ⟨#[]⟩ [] [] EM.out Z0.out B0.out K1.out B3.out ⟨Rd.ay _ _ _,Rd.ay _ _ _⟩;rw [<- aS] at hf;have iy:=hid hf.1;have zM:=hid hf.2;clear hf;have hw8:=aS;simp only [bZ] at hw8;clear aS;go_wp2;rw [<- hw8];have r0:=iy.out.cell 0 _ rfl;have r1:=iy.out.cell 1 _ rfl;have r2:=iy.out.cell 2 _ rfl;have r3:=iy.out.cell 3 _ rfl;exact bodyPost_ret (v:=.tuple #[.agg #[.string ⟨#[]⟩,.string ⟨#[]⟩,.slice none 0 0,.slice none 0 0],.int .i64 (EB)]) (by simp [results,Tryz.results22,go_sem,r0,r1,r2,r3]) rfl (by rw [Ro.out,WO.out];exact mh.of zM.out (by simp))
 ·have q1:((E0:Int) != 0)=true:=by rw [bne_iff_ne];omega
  have HE9:=hid (show EE=E0 by rw [Nq.out,if_pos h0]);have Ro:=hid (show Pn me l title lang=yB by rw [Uy.out,if_neg (by rw [HE9.out];exact h0)]);obtain ⟨x0,x1,x2,x3,xf⟩:=gX (K1.out.below B1.out);obtain ⟨w9,aS⟩:∃ w9,w9=bZ w1 (S+1) (.string ⟨#[]⟩) (.string ⟨#[]⟩) (.slice none 0 0) (.slice none 0 0):=⟨_,rfl⟩;have hf:=lM ⟨#[]⟩ ⟨#[]⟩ [] [] EM.out Z0.out B0.out K1.out B1.out ⟨Rd.ay _ _ _,Rd.ay _ _ _⟩;rw [<- aS] at hf;have iy:=hid hf.1;have zM:=hid hf.2;clear hf;have hw8:=aS;simp only [bZ] at hw8;clear aS;go_wp2;rw [<- hw8];have r0:=iy.out.cell 0 _ rfl;have r1:=iy.out.cell 1 _ rfl;have r2:=iy.out.cell 2 _ rfl;have r3:=iy.out.cell 3 _ rfl;exact bodyPost_ret (v:=.tuple #[.agg #[.string ⟨#[]⟩,.string ⟨#[]⟩,.slice none 0 0,.slice none 0 0],.int .i64 (E0)]) (by simp [results,Tryz.results22,go_sem,r0,r1,r2,r3]) rfl (by rw [Ro.out,HE9.out];exact mh.of zM.out (by simp))
end Go.Proofs.YtclikfjalmcoaaaGreatDoor

