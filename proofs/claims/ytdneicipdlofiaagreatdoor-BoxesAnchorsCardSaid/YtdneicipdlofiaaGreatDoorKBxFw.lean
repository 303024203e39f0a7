/- Contract of (*maker).float: a figure. Contract of (*maker).table. Contracts of (*maker).block, kind by kind: figures and tables. -/
import Derived.Test.YtdneicipdlofiaaGreatDoorKBxTd
set_option maxHeartbeats 8000000
set_option maxRecDepth 100000
open Go.Lib (hid)
namespace Go.Proofs.YtdneicipdlofiaaGreatDoor
open List renaming setIfInBounds_toArray->jo9,set_cons_zero->joj,set_cons_succ->jok,getElem?_eq_getElem->joq,length_append->jp4,length_map->jp5,mem_of_getElem?->jpk,append_nil->jrx
open Go.RowKit.Below renaming refl->jox
open Nat renaming le_refl->joz
open Go renaming World->js1
open Go.RowKit renaming Below->js2
open Go.RowKit Go.Shelf
set_option linter.unusedVariables false
set_option linter.unusedSimpArgs false
attribute [local go_sem] Oper.semAt_some
theorem KV (m:Nat) (W:Int) (w0:js1) (st:St) (vp:Value) (p:Px) (lv:Int) (i t d ti:ByteArray) (at_:At) (li:List aj) (ks:List ah) (vc dO vl vk:Value) (w:js1) (hin:jH m W w0 st vp p (ah.mk 13 lv i t d ti at_ li ks).bM w) (hR:rQ (·<w0.heap.size) w0 at_ li ks vc dO vl vk) (hB:gV m W w0 ks) (hi:i=D5) (hT:iP (ah.aK ks) (ah.bX W { st with aV:=true } p ks).1) (DF:∀ b∈(ah.mk 13 lv i t d ti at_ li ks).each,BX b) : Calls Tryz.prog 138 #[.pointer (some ⟨m,0,none⟩),.agg #[.int .i64 13,.int .i64 lv,.string i,.string t,.string d,.string ti,.string at_.id,vc,dO,vl,vk],.agg #[.string p.first,.string p.rest,.slice none 0 0]] w (aI m W w vp (ah.dG W st p (.mk 13 lv i t d ti at_ li ks))):=by
 obtain ⟨iS,Hl,oV,oW,oZ⟩:=info_parts ku;obtain ⟨ac,nc,cc,rfl⟩:=Rd.au hR.at_.cls
 obtain ⟨ap,np,cp,rfl⟩:=Rd.au hR.at_.aJ
 obtain ⟨al,nl,cl,rfl⟩:=Rd.au hR.line;obtain ⟨ak,nk,ck,rfl⟩:=Rd.au hR.kids;obtain ⟨S,w2,hS,hw2,kb,kl,b2,z2⟩:=NP w [.int .i64 13,.int .i64 lv,.string i,.string t,.string d,.string ti,.string at_.id,.slice ac nc cc,.slice ap np cp,.slice al nl cl,.slice ak nk ck] p.first p.rest
 have hv:(ah.mk 13 lv i t d ti at_ li ks).bM=30+i.size+2*t.size+2*(aj.ay li).length+(bJ (aj.aA li)).length+ah.aK ks:=by rw [ah.bM]
 have hfit:=hin.fit;rw [hv] at hfit;have HUS:=hid DF;obtain ⟨g1,g2,g3,g4,g5⟩:=hfit;have hmk:=hin.l8;have hm2:=hmk.below b2;have vV:m<S:=by rw [hS];exact hmk.cb.lt
 have NQ:∀ b,vp.ownBlock=some b->b<S:=fun b e=>by rw [hS];exact (hmk.own.lt b e).2
 have sw:vp.ownBlock≠some m:=oz hmk.own hmk.cb (by decide);obtain ⟨r,hr⟩:∃ r,r=ah.bX W { st with aV:=true } p ks:=⟨_,rfl⟩;have HE:Hid (ah.dG W st p (.mk 13 lv i t d ti at_ li ks)=if r.2.err≠0 then ([],{ r.2 with aV:=st.aV }) else bO { r.2 with aV:=st.aV } [fV p r.1] (aW at_ li++ah.aN ks)):=by show _=_;rw [ah.dG,hr];simp only [if_pos hi];rfl
 have HT:=hid hT;rw [<- hr] at HT;have MX:=hid (jo W hin.wd ks { st with aV:=true } p);rw [<- hr] at MX;have ZE:=hid (lY W hin.wd ks { st with aV:=true } p);rw [<- hr] at ZE
 -- the ZF flag is set
 obtain ⟨w3,hw3⟩:∃ w3,w3=w2.setCell ⟨m,4,none⟩ (.bool true):=⟨_,rfl⟩;have M3:mo m W { st with aV:=true } vp w3:=by rw [hw3];exact ⟨rY hm2.cb 4 _,dh hm2.own (aM.set w2 m 4 _) (fun g e e'=>sw (by rw [<- e'];exact e))⟩
 have F23:aM (fun b=>b=m) w2 w3:=by rw [hw3];exact aM.set w2 m 4 _
 have kb3:=kb.fr F23 (fun e=>by omega);have kl3:=kl.fr F23 (fun e=>by omega);have F3:aM (fun b=>b=m\/vp.ownBlock=some b) w w3:=by rw [hw3];exact (aM.of_below b2 _).trans (aM.set w2 m 4 _) (fun _ _ e=>.inl e)
 have b03:js2 w0.heap.size w0 w3:=hin.lH F3 (fun b e=>by
  rcases e with e | e
  ·omega
  ·exact (hin.l8.own.lt b e).1)
 have BC:=hid (hB (.slice ak nk ck) hR.kids { st with aV:=true } vp p w3 ⟨hin.m0,b03,M3,hin.wd,⟨by omega,by omega,by show st.groups+_<=_;omega,by show st.count+_<=_;omega,by show st.pend.length+_<=_;omega⟩,hin.tab,hin.ml⟩);rw [<- hr] at BC;have qE:=hid hin;have HR:=hid hR;have HS:=hid hS;have j6:=hid (And.intro vV NQ);have YF:=hid sw;have HF3:=hid F3;have KB3:=hid kb3;have KL3:=hid kl3;have ZG:=hid b03;have m4:=hm2.cb.cell 4 _ rfl;have f4:=tN hm2.cb 4;have d10:=kb3.cell 10 _ rfl;have l0:=kl3.cell 0 _ rfl;have l1:=kl3.cell 1 _ rfl;have HG:=hid (show st.groups+ah.aK ks+30<=1000000/\st.count+ah.aK ks+30<=1000000/\st.pend.length+ah.aK ks+(bJ (aj.aA li)).length+30<=1000000 from ⟨by omega,by omega,by omega⟩);have Gs:=hid hv;have YC:Hid (S+1+1=w3.heap.size):=by show _=_;rw [hw3];simp [World.setCell];omega
 obtain ⟨V,hV⟩:∃ V,V=ah.dG W st p (.mk 13 lv i t d ti at_ li ks):=⟨_,rfl⟩;rw [<- hV] at HE ⊢;clear F23 hV hr hT DF hv hmk hm2 vV NQ sw M3 F3 b03 hin hR hB kb kl kb3 kl3 b2 z2 hi hS;refine (callsIn_wide (n:=3)).1 ?_;refine callsIn_of_wp_marks Tryz.func138 rfl trivial ?_ rfl;simp only [Tryz.ntmps138,List.size_toArray,List.length_cons,List.length_nil,Nat.reduceAdd,Nat.reduceSub,Array.replicate_succ,Array.replicate_zero,List.push_toArray,List.append_toArray,List.nil_append,List.cons_append];refine wpIn_wide.2 ?_;go_upto_region 1 with (fail)
 rw [<- HS.out,<- hw2];clear hw2;go_upto_region 3 with (fail)
 rw [<- hw3];clear hw3 m4 f4;go_wp2_with fail
 (with_reducible refine BC.out.mono ?_)
 rintro e w4 ⟨v4,ZH,UH,rfl,hr4,BK,ZI,ZJ,hf4⟩;obtain ⟨n4,Wu⟩:∃ n4,n4=(r.1.map Bx.d).length:=⟨_,rfl⟩;obtain ⟨a4,c4,hv4⟩:=q01 hr4.own;rw [<- Wu] at hv4;subst hv4;have hx4:n4=r.1.length:=by rw [Wu,jp5]
 have ZK:UH.ownBlock≠some m:=oz BK.own BK.cb (by decide);obtain ⟨w5,vR⟩:∃ w5,w5=w4.setCell ⟨m,4,none⟩ (.bool st.aV):=⟨_,rfl⟩;have M5:mo m W { r.2 with aV:=st.aV } UH w5:=by rw [vR];exact ⟨rY BK.cb 4 _,dh BK.own (aM.set w4 m 4 _) (fun g e e'=>ZK (by rw [<- e'];exact e))⟩
 have ZL:aM (fun b=>b=m\/vp.ownBlock=some b) w3 w5:=by rw [vR];exact hf4.trans (aM.set w4 m 4 _) (fun _ _ e=>.inl e)
 have F5:aM (fun b=>b=m\/vp.ownBlock=some b) w w5:=HF3.out.trans ZL (fun _ _ e=>e);have Rw:=KB3.out.fr ZL (fun e=>by
  rcases e with e | e
  ·have:=j6.out.1;omega
  ·have:=j6.out.2 _ e;omega)
 have KL5:=KL3.out.fr ZL (fun e=>by
  rcases e with e | e
  ·have:=j6.out.1;omega
  ·have:=j6.out.2 _ e;omega)
 have R5:aO 54 6 (fun b=>vp.ownBlock=some b/\UH.ownBlock≠some b) w3.heap.size w4.heap.size (r.1.map Bx.d) ZH (.slice a4 n4 c4) w5:=by
  rw [vR];exact hr4.fr (aM.set w4 m 4 _) (fun _ h=>h) (fun b hb h e=>by
   rcases h with h | h
   ·rw [e] at h;exact YF.out h.1
   ·have:=j6.out.1;have:=YC.out;omega)
 have vX:∀ g,UH.ownBlock=some g->vp.ownBlock=some g\/w.heap.size<=g:=fun g e=>(ZJ g e).imp id (fun h=>Nat.le_trans HF3.out.size h)
 have q4:=BK.cb.cell 4 _ rfl;have f4:=tN BK.cb 4;have q5:=M5.cb.cell 5 _ rfl;have zi:=hid M5;have yL:=hid F5;have Wv:=hid Rw;have jh3:=hid KL5;have Rx:=hid R5;have Ho:=hid vX;have HVP:=hid ZI;have NR:=hid hx4;have Ry:=hid (ZG.out.trans (ZL.below _ ZG.out.size (fun b e=>by
  rcases e with e | e
  ·have:=qE.out.m0;omega
  ·have:=(qE.out.l8.own.lt b e).1;have:=qE.out.m0;omega)))
 clear Wu hx4 ZK M5 ZL F5 Rw KL5 R5 vX ZI ZJ BK hr4 hf4 BC d10 l0 l1;go_upto_region 5 with (fail)
 rw [<- vR];clear vR q4 f4;by_cases he:r.2.err=0;case neg=>
  have e1:(((r.2.err:Nat):Int) != 0)=true:=by simp;omega
  have HP:Hid (aI m W w vp V (.returned (.slice none 0 0)) w5):=by show aI _ _ _ _ _ _ _;rw [HE.out,if_pos he];exact ⟨_,[],UH,rfl,(aO.nil _ _ _ yL.out.size).top,zi.out,fun e=>absurd e he,Ho.out,yL.out⟩
  clear he;go_wp2;exact ZM rfl (by simp [results,Tryz.results138,go_sem]) HP.out
 have e1:(((r.2.err:Nat):Int) != 0)=false:=by rw [he];rfl
 have HE2:Hid (V=bO { r.2 with aV:=st.aV } [fV p r.1] (aW at_ li++ah.aN ks)):=by show _=_;rw [HE.out,if_neg (by rw [he];simp)]
 have cK:=hid he;have HPD:Hid (r.2.pend=st.pend):=(ZE.out he).2 rfl;clear he HE;obtain ⟨Q,hQ⟩:∃ Q,Q=w5.heap.size:=⟨_,rfl⟩;obtain ⟨w6,y8⟩:∃ w6,w6=w5.alloc (.cells #[.string p.first,.int .i64 1,.int .i64 0,.bool false,.bool true,.slice none 0 0] 54):=⟨_,rfl⟩;have k6:CB 54 Q (tL p.first 1 0 false true (.slice none 0 0)) w6:=by rw [y8,hQ];exact CB.new _ _ _
 have b6:js2 Q w5 w6:=by rw [y8,hQ];exact (jox _ _).alloc (joz _) _
 have z6:w6.heap.size=Q+1:=by rw [y8,hQ];simp
 have y0:=jh3.out.cell 0 _ rfl;have K6:=hid k6;have B6:=hid b6;have Z6:=hid z6;have HQ:=hid hQ;clear k6 b6 z6;go_upto_region 8 with (fail)
 rw [<- y8,<- hQ];clear y8 hQ y0 q5
 go_upto_if 43 with (fail)
 go_cut [10,12] from 43 to 65 (fun _ _ wx=>CB 54 Q (tL (fV p r.1).text (fV p r.1).ht 0 false true (.slice none 0 0)) wx/\js2 Q w5 wx)
 case first=>
  by_cases h0:n4=0
  ·have q1:decide ((0:Int)<(n4:Int))=false:=by simp;omega
   have q2:decide (0<n4)=false:=by simp;omega
   have hfg:fV p r.1=⟨p.first,1,0,false,true,[]⟩:=by unfold fV;rw [if_pos (List.length_eq_zero_iff.1 (by have:=NR.out;omega))]
   have UJ:=hid hfg;clear hfg h0
   (try simp only [q1,q2])
   go_wp2_with fail
   go_meet
   rw [UJ.out];exact ⟨K6.out,B6.out⟩
  ·have q1:decide ((0:Int)<(n4:Int))=true:=by simp;omega
   have q2:decide (0<n4)=true:=by simp;omega
   have hfg:fV p r.1=⟨lV (r.1.map Bx.text) [10],bE r.1,0,false,true,[]⟩:=by unfold fV;rw [if_neg (fun e=>h0 (by have:=NR.out;rw [e] at this;exact this)),qF]
   have UJ:=hid hfg;have jn1:n4<=1000000:=by have h1:=MX.out.len;have h2:=HG.out;have:=NR.out;omega
   obtain ⟨g4,cap4,UK,hcap4⟩:=eB Rx.out.own (by rw [jp5,<- NR.out];omega);obtain ⟨rfl,rfl⟩:a4=some ⟨g4,0,none⟩/\c4=cap4:=by simp at UK;exact ⟨UK.1,UK.2.2⟩
   have hgQ:g4<Q:=by rw [HQ.out];exact (Rx.out.own.lt g4 rfl).2
   have x1:=K6.out.cell 1 _ rfl;have f1:=tN K6.out 1;have R0:Hid (FlR Q w5 p r.1 (.slice none 0 0) (.int .i64 0) (w6.setCell ⟨Q,1,none⟩ (.int .i64 0))):=by refine ⟨0,Nat.zero_le _,rfl,by simpa using Nv _ _ _ _,rY K6.out 1 _,B6.out.setCell (joz _) _,by simp [World.setCell,Z6.out]⟩
   have jh4:n4<=c4:=by rw [jp5,<- NR.out] at hcap4;exact hcap4
   clear hfg UK hcap4
   (try simp only [q1,q2])
   go_wp2;clear x1 f1
   go_loopw [10,47] (fun vt vi wr=>FlR Q w5 p r.1 vt vi wr) (fun _ vi _=>n4-(intOf vi).toNat)
   case atStart=>exact R0.out
   case round=>
    clear R0;obtain ⟨k,hk,rfl,hown,hcb,hbel,hQz⟩:=hrel;by_cases hlt:k<n4
    ·obtain ⟨x,hx⟩:∃ x,r.1[k]?=some x:=⟨_,joq (by have:=NR.out;omega)⟩;obtain ⟨row,hrow,hd⟩:=Rx.out.red.get k x.d (by rw [List.getElem?_map,hx];rfl);have hget:=(Rx.out.get hrow (by rw [List.getElem?_map,hx];rfl)).2;obtain ⟨va,rfl,hva⟩:=Bx.open_ hd;obtain ⟨aa,na,ca,rfl⟩:=Rd.au hva;have MZ:∀ (j:Nat) (u:Value),(tL x.text x.ht x.gr x.keep x.fl (.slice aa na ca))[j]?=some u->wr.cell? ⟨g4,k*6+j,none⟩=some u:=fun j u hu=>by rw [hbel.cell (p:=⟨g4,k*6+j,none⟩) hgQ];exact hget j u hu
     have c0:wr.cell? ⟨g4,k*6,none⟩=some (.string x.text):=MZ 0 _ rfl;have c1:=MZ 1 _ rfl;have c2:=MZ 2 _ rfl;have c3:=MZ 3 _ rfl;have c4':=MZ 4 _ rfl;have c5:=MZ 5 _ rfl;obtain ⟨q,hq⟩:∃ q,q=wr.heap.size:=⟨_,rfl⟩;obtain ⟨wA,dX⟩:∃ wA,wA=wr.alloc (.cells #[.string x.text,.int .i64 x.ht,.int .i64 x.gr,.bool x.keep,.bool x.fl,.slice aa na ca] 54):=⟨_,rfl⟩;have kA:CB 54 q (tL x.text x.ht x.gr x.keep x.fl (.slice aa na ca)) wA:=by rw [dX,hq];exact CB.new _ _ _
     have bA:js2 wr.heap.size wr wA:=by rw [dX];exact (jox _ _).alloc (joz _) _
     have zA:wA.heap.size=q+1:=by rw [dX,hq];simp
     have e0:=kA.cell 0 _ rfl;have hQA:=hid (hcb.below bA);obtain ⟨av,cv,rfl⟩:=q01 hown;have HO:=hid (zY hown bA);have hQq:Q<q:=by rw [hq];exact hQz
     have Ww:Hid (Reads (wA.alloc (.cells #[.string x.text] 9)) (wA.alloc (.cells #[.string x.text] 9)).heap.size 1 (some ⟨wA.heap.size,0,none⟩) 1 [.string x.text]):=by exact ⟨rfl,fun _=>⟨_,rfl,by simp,lu _ _ _⟩⟩
     have htot:bE (r.1.take (k+1))=bE (r.1.take k)+x.ht:=by rw [List.take_add_one,hx,qG];simp [bE]
     have hb1:0<=bE (r.1.take k)/\bE (r.1.take (k+1))<=2000000/\0<=bE (r.1.take (k+1)):=by
      have h1:=nQ (fun b hb=>HT.out.h1 b (List.mem_of_mem_take hb):∀ b∈r.1.take k,1<=b.ht);have h2:=nQ (fun b hb=>HT.out.h1 b (List.mem_of_mem_drop hb):∀ b∈r.1.drop (k+1),1<=b.ht);have h6:=nQ (fun b hb=>HT.out.h1 b (List.mem_of_mem_take hb):∀ b∈r.1.take (k+1),1<=b.ht);have h3:bE r.1=bE (r.1.take (k+1))+bE (r.1.drop (k+1)):=by rw [<- qG,List.take_append_drop]
      have h4:=HT.out.ht;have h5:=HG.out;omega
     have hwrap:IntKind.i64.wrap (bE (r.1.take k)+x.ht)=bE (r.1.take (k+1)):=by rw [<- htot];exact IntWalk.i64_in _ ⟨by omega,by omega⟩
     have hsn:(r.1.take (k+1)).map (fun x=>Value.string x.text)=(r.1.take k).map (fun x=>Value.string x.text)++[.string x.text]:=by rw [List.take_add_one,hx];simp
     obtain ⟨T0,hT0⟩:∃ T0,T0=bE (r.1.take k):=⟨_,rfl⟩;obtain ⟨T1,hT1⟩:∃ T1,T1=bE (r.1.take (k+1)):=⟨_,rfl⟩;rw [<- hT0] at hwrap hQA;rw [<- hT1] at hwrap;have HT1:=hid hT1;have Wx:=hid hlt;have rZ:=hid hsn;have Rz:=hid (hbel.trans (bA.mono (by omega)));have HKA:=hid kA;have HZA:=hid zA;clear hx hrow hd hget hva MZ hown hcb hbel hQz kA bA zA htot hb1 hsn hT0 hT1;go_upto_region 14 with (fail)
     rw [<- dX,<- hq];clear dX hq c0 c1 c2 c3 c4' c5;go_wp2_with (at_builtin;(refine Dy _ rfl _ _ 35 rfl (Q+1) 9 iS _ 1 16 Tryz.underlying35 Hl oV oW oZ rfl (by decide) _ _ _ rfl (HO.out.alloc _) _ _ _ _ _ rfl Ww.out ?c1 ?c2 ?c3 ?c4 ?_))
     case c1=>intro u hu;simp at hu;subst hu;rfl
     case c2=>unfold maxLen;omega
     case c3=>omega
     case c4=>have:=HZA.out;simp;omega
     intro v7 w7 jK Wy Wz;have bx:js2 wA.heap.size wA (wA.alloc (.cells #[.string x.text] 9)):=(jox _ _).alloc (joz _) _;have hvq:(Value.slice av k cv).ownBlock≠some q:=oz HO.out HKA.out (by decide);have hvQ:∀ b,b<=Q->(Value.slice av k cv).ownBlock≠some b:=fun b hb e=>by
      have:=(HO.out.lt b e).1;omega
     have kq7:=(HKA.out.below bx).fr (aM.grown Wy) (fun e=>hvq e);have ZN:=(hQA.out.below bx).fr (aM.grown Wy) (fun e=>hvQ Q (joz _) e);have b7:js2 Q w5 w7:=(Rz.out.trans (bx.mono (by have:=HZA.out;omega))).grown Wy (by simp;have:=HZA.out;omega) (fun j hj=>by
      rcases Nat.lt_or_ge j Q with h1 | h1
      ·exact absurd hj (hvQ j (Nat.le_of_lt h1))
      ·exact h1)
     obtain ⟨a7,c7,rfl⟩:=q01 jK;have e1:=kq7.cell 1 _ rfl;have y1:=ZN.cell 1 _ rfl;have f1:=tN ZN 1;have hz7:Q<w7.heap.size:=by have:=ZN.lt;exact this
     have hn7:∀ b,(Value.slice a7 (k+1) c7).ownBlock=some b->b≠Q:=fun b hb e=>by
      have:=(jK.lt b hb).1;omega
     have HR7:Hid (FlR Q w5 p r.1 (.slice a7 (k+1) c7) (.int .i64 ((k+1:Nat):Int)) (w7.setCell ⟨Q,1,none⟩ (.int .i64 T1))):=by
      refine ⟨k+1,by have:=NR.out;omega,rfl,?_,?_,b7.setCell (joz _) _,by simpa [World.setCell] using hz7⟩
      ·rw [rZ.out,List.map_take];exact dh jK (aM.set w7 Q 1 _) (fun b hb e=>hn7 b hb e)
      ·have:=rY ZN 1 (.int .i64 T1);rw [HT1.out] at this ⊢;exact this
     clear jK Wy Wz bx kq7 ZN b7 hn7 e0 HKA hQA Ww HO;go_wp2;go_roundw;case rel=>exact HR7.out
     case measure=>have:=Wx.out;simp [intOf];omega
    ·have hkn:k=n4:=by have:=NR.out;omega
     subst hkn;rw [NR.out,List.take_length] at hown hcb;obtain ⟨av,cv,rfl⟩:=q01 hown;have hown2:wr.ownsRow (Q+1) 9 1 (.slice av r.1.length cv) (r.1.map Bx.text).length ((r.1.map Bx.text).map Value.string):=by rw [jp5,List.map_map];exact hown
     have hsz:(Lib.join ((r.1.map Bx.text).map (·.data.toList)) (⟨#[10]⟩:ByteArray).data.toList).length<=140737488355328:=by
      have h1:=sD [10] (r.1.map Bx.text);rw [List.map_map] at h1;have h2:(r.1.map ((fun x:ByteArray=>x.size+[(10:UInt8)].length) ∘ Bx.text)).sum=ttl r.1:=rfl;rw [h2] at h1;have h3:(lV (r.1.map Bx.text) [10]).size=(Lib.join ((r.1.map Bx.text).map (·.data.toList)) [10]).length:=by show (Lib.join ((r.1.map Bx.text).map (·.data.toList)) [10]).toArray.size=_;rw [List.size_toArray]
      have h4:=HT.out.tt;have h5:=HG.out;show (Lib.join ((r.1.map Bx.text).map (·.data.toList)) [10]).length<=_;omega
     have hsl:=gQ.bV hown2;have JC:=hid (Ej (r.1.map Bx.text) ⟨#[10]⟩ _ wr hsl hsz (by rw [jp5,<- NR.out];omega));rw [<- NR.out] at JC ⊢;have WA:=hid hcb;have El:=hid hbel;clear hown hcb hbel hown2 hsz hsl;go_wp2_with fail
     (with_reducible refine JC.out.mono ?_)
     rintro e w8 ⟨rfl,b8⟩;have k8:=WA.out.below b8;have y0:=k8.cell 0 _ rfl;have f0:=tN k8 0;have HB8:=hid (El.out.trans (b8.mono (by omega)));have HK8:=hid k8;clear k8 b8 JC;go_wp2_with fail
     go_meet
     rw [UJ.out];have hj:lV (r.1.map Bx.text) [10]=⟨(Lib.join (List.map ((fun x:ByteArray=>x.data.toList) ∘ Bx.text) r.1) [10]).toArray⟩:=by unfold lV;rw [List.map_map]
     refine ⟨?_,HB8.out.setCell (joz _) _⟩;show CB _ Q (tL (lV (r.1.map Bx.text) [10]) (bE r.1) 0 false true _) _;rw [hj];exact rY HK8.out 0 _
 case rest=>
  obtain ⟨kF,bF⟩:=hcut;obtain ⟨w9,Hq⟩:∃ w9:js1,w9=wc:=⟨_,rfl⟩;subst Hq;have YG:(fV p r.1).an=[]/\(fV p r.1).gr=0/\(fV p r.1).keep=false/\(fV p r.1).fl=true:=by unfold fV;split<;>exact ⟨rfl,rfl,rfl,rfl⟩
  obtain ⟨fb,hfb⟩:∃ fb,fb=fV p r.1:=⟨_,rfl⟩;rw [<- hfb] at kF YG HE2;have hrw:bG fb=tL fb.text fb.ht 0 false true (.slice none 0 0):=by unfold bG;rw [YG.2.1,YG.2.2.1,YG.2.2.2]
  have HFT:=hid YG;have HRW:=hid hrw;have KF:=hid kF;have BF:=hid bF;have hQ9:=kF.lt;obtain ⟨o,ho⟩:∃ o,o=w9.heap.size:=⟨_,rfl⟩;obtain ⟨wB,Ah⟩:∃ wB,wB=w9.alloc (.cells #[.slice none 0 0] 35):=⟨_,rfl⟩;have kO:aH o (.slice none 0 0) 35 wB:=by rw [Ah,ho];exact aH.new _ _ _
  have zB:wB.heap.size=o+1:=by rw [Ah,ho];simp
  have b9B:js2 o w9 wB:=by rw [Ah,ho];exact (jox _ _).alloc (joz _) _
  have hQo:Q<o:=by rw [ho];exact hQ9
  have kFB:CB 54 Q _ wB:=kF.below (by rw [<- ho];exact b9B);have hb5:js2 w5.heap.size w5 wB:=by rw [<- HQ.out];exact bF.trans (b9B.mono (by omega))
  have MB:=zi.out.below hb5;have m4:=MB.cb.cell 4 _ rfl;have YE:=hid MB;have KFB:=hid kFB;have NS:=hid kO;have HZB:=hid zB;have uU:=hid hb5;have HFW:Hid (aM (fun b=>b=m\/vp.ownBlock=some b) w wB):=yL.out.trans (aM.of_below hb5 (fun _=>False)) (fun _ _ e=>e.elim);clear kF bF hfb YG hrw hQ9 kO zB b9B kFB hb5 MB;have hcs:∀ (W':js1),js2 wB.heap.size wB W'->W'.cell? ⟨Q,0,none⟩=some (.string fb.text)/\W'.cell? ⟨Q,1,none⟩=some (.int .i64 fb.ht)/\W'.cell? ⟨Q,2,none⟩=some (.int .i64 0)/\W'.cell? ⟨Q,3,none⟩=some (.bool false)/\W'.cell? ⟨Q,4,none⟩=some (.bool true)/\W'.cell? ⟨Q,5,none⟩=some (.slice none 0 0):=fun W' hW'=>by
   have h:=KFB.out.below hW';exact ⟨h.cell 0 _ rfl,h.cell 1 _ rfl,h.cell 2 _ rfl,h.cell 3 _ rfl,h.cell 4 _ rfl,h.cell 5 _ rfl⟩
  have Jw:=hid hcs;have HLF:Hid (∀ (wx:js1) (vo:Value) (own:List ByteArray) (okO:Nat->Prop),mo m W { r.2 with aV:=st.aV } UH wx->aM (fun b=>b=m\/vp.ownBlock=some b) w wx->Rd okO wx (dZ own) [vo]->(∀ b,okO b->b<wx.heap.size)->own.length<=1000000-r.2.pend.length-1 ->
    bO { r.2 with aV:=st.aV } [fb] own=V->Calls Tryz.prog 141 #[.pointer (some ⟨m,0,none⟩),.slice (some ⟨wx.heap.size,0,none⟩) 1 1,vo] (wx.alloc (.cells #[.string fb.text,.int .i64 fb.ht,.int .i64 0,.bool false,.bool true,.slice none 0 0] 54)) (fun e w'=>aI m W w vp V e w'/\∀ (D:Nat) (x:Obj),wx.heap[D]?=some x->x.isCells=false->w'.heap[D]?=some x)):=by
   intro wx vo own okO hmx hfx hox hol hlen Jy;have bx:js2 wx.heap.size wx (wx.alloc (.cells (bG fb).toArray 54)):=(jox _ _).alloc (joz _) _;have hg5:=MX.out.rR;have e1:=hg5.g;have e2:=hg5.c;have e3:=hg5.p;have hG:=HG.out;have h:=kG m W { r.2 with aV:=st.aV } UH wx.heap.size (wx.heap.size+1) (.slice (some ⟨wx.heap.size,0,none⟩) 1 1) vo [fb] own okO _ (hmx.below bx) (by simp) (aO.lit wx fb HFT.out.1) (fun y hy=>by rw [List.mem_singleton] at hy;subst hy;exact HFT.out.1)
    (Rd.keep (fun b hb hlt=>⟨hb,bx.block b hlt⟩) _ _ hox) (fun b hb e=>by have h1:=hol b hb;have h2:wx.heap.size=b:=(by simpa [Value.ownBlock] using e);omega)
    (by show r.2.groups<=_;simp only at e1;omega) (by show r.2.count<=_;simp only at e2;omega) (by simp) (by show r.2.pend.length+_<=_;simp only at e3;omega) hmx.cb.lt (fun b e=>(hmx.own.lt b e).2)
   have hra:(bG fb).toArray=#[.string fb.text,.int .i64 fb.ht,.int .i64 0,.bool false,.bool true,.slice none 0 0]:=by rw [HRW.out];rfl
   rw [hra] at h bx;refine h.mono ?_;intro e w' hlp;refine ⟨?_,fun D x hD hx=>?_⟩;case refine_2=>
    obtain ⟨rows',bS,rfl,-,-,-,hF'⟩:=hlp;have hlt:D<wx.heap.size:=(Array.getElem?_eq_some_iff.1 hD).1;refine ((hF'.blk D (Nat.lt_of_lt_of_le hlt bx.size) (fun e=>?_)).trans (bx.block D hlt)).trans hD;rcases e with e | e | e
    ·have h1:=hmx.cb;unfold CB at h1;rw [<- e,hD] at h1;cases h1;cases hx
    ·obtain ⟨cc,fz,h1⟩:=Lib.ownsRow_kind hmx.own D e;rw [hD] at h1;cases h1;cases hx
    ·have e:wx.heap.size=D:=by simpa [Value.ownBlock] using e
     omega
   rw [<- Jy];refine aI.ofV hlp (hfx.trans (aM.of_below bx (fun _=>False)) (fun _ _ e=>e.elim)) hfx.size Ho.out ?_;rcases HVP.out cK.out with h | h
   ·exact .inl h
   ·exact .inr (.inl h)
  clear hcs;go_upto_region 19 with (fail)
  rw [<- Ah,<- ho];clear Ah ho;cases hfg:st.aV with
  | true=>
   have m4':wB.cell? ⟨m,4,none⟩=some (.bool true):=by rw [<- hfg];exact m4
   obtain ⟨y0,y1,y2,y3,y4,y5⟩:=Jw.out wB (jox _ _);have yo:=NS.out.cell;have BZ:o<wB.heap.size:=NS.out.lt;have LF:=hid (HLF.out wB (.slice none 0 0) [] (fun _=>False) YE.out HFW.out (Rd.aR _ _ _) (fun _ h=>h.elim) (by simp) (by
    rw [HE2.out,nR (st:={ r.2 with aV:=st.aV }) hfg,nR (st:={ r.2 with aV:=st.aV }) hfg]))
   clear m4 hfg;go_wp2_with fail
   (with_reducible refine LF.out.mono ?_)
   rintro e w7 ⟨hp7,-⟩;have RA:=hid hp7;obtain ⟨v7,Aj,YH,rfl,-⟩:=hp7;clear LF;go_wp2;exact ZM rfl (by simp [results,Tryz.results138,go_sem]) RA.out
  | false=>
   have m4':wB.cell? ⟨m,4,none⟩=some (.bool false):=by rw [<- hfg];exact m4
   have NU:=Wv.out.below uU.out;have d0:=NU.cell 0 _ rfl;have d1:=NU.cell 1 _ rfl;have d2:=NU.cell 2 _ rfl;have d3:=NU.cell 3 _ rfl;have d4:=NU.cell 4 _ rfl;have d5:=NU.cell 5 _ rfl;have d6:=NU.cell 6 _ rfl;have d7:=NU.cell 7 _ rfl;have d8:=NU.cell 8 _ rfl;have d9:=NU.cell 9 _ rfl;have d10:=NU.cell 10 _ rfl;obtain ⟨wC,vY⟩:∃ wC,wC=wB.alloc (.cells #[.int .i64 13,.int .i64 lv,.string i,.string t,.string d,.string ti,.string at_.id,.slice ac nc cc,.slice ap np cp,.slice al nl cl,.slice ak nk ck] 40):=⟨_,rfl⟩;have kC:CB 40 (o+1) [.int .i64 13,.int .i64 lv,.string i,.string t,.string d,.string ti,.string at_.id,.slice ac nc cc,.slice ap np cp,.slice al nl cl,.slice ak nk ck] wC:=by rw [vY,<- HZB.out];exact CB.new _ _ _
   have bC:js2 wB.heap.size wB wC:=by rw [vY];exact (jox _ _).alloc (joz _) _
   have zC:wC.heap.size=o+1+1:=by rw [vY,World.size_alloc,HZB.out]
   obtain ⟨W0,hW0⟩:∃ W0,W0=wC.alloc (.cells #[.slice (some ⟨o+1,0,none⟩) 1 1] 23):=⟨_,rfl⟩;have bL:aH (o+1+1) (.slice (some ⟨o+1,0,none⟩) 1 1) 23 W0:=by rw [hW0,<- zC];exact aH.new _ _ _
   have z0:W0.heap.size=o+1+1+1:=by rw [hW0,World.size_alloc,zC]
   have bW:js2 wC.heap.size wC W0:=by rw [hW0];exact (jox _ _).alloc (joz _) _
   have NV:js2 w0.heap.size w0 wC:=(Ry.out.trans (uU.out.mono Ry.out.size)).trans (bC.mono (by have:=Ry.out.size;have:=uU.out.size;omega));have Jz:w0.heap.size<=o:=by have:=Ry.out.size;have:=HQ.out;omega
   have hRC:rQ (fun b=>b<o+1+1/\b≠o) wC at_ li ks (.slice ac nc cc) (.slice ap np cp) (.slice al nl cl) (.slice ak nk ck):=
    ⟨⟨Rd.keep (fun b hb _=>⟨⟨by omega,by omega⟩,NV.block b hb⟩) _ _ HR.out.at_.cls,Rd.keep (fun b hb _=>⟨⟨by omega,by omega⟩,NV.block b hb⟩) _ _ HR.out.at_.aJ⟩,Rd.keep (fun b hb _=>⟨⟨by omega,by omega⟩,NV.block b hb⟩) _ _ HR.out.line,Rd.keep (fun b hb _=>⟨⟨by omega,by omega⟩,NV.block b hb⟩) _ _ HR.out.kids⟩
   have hrd:Rd (fun b=>b<o+1+1/\b≠o) wC (om [.mk 13 lv i t d ti at_ li ks]) [.slice (some ⟨o+1,0,none⟩) 1 1]:=
    Rd.slB (rows:=[[.int .i64 13,.int .i64 lv,.string i,.string t,.string d,.string ti,.string at_.id,.slice ac nc cc,.slice ap np cp,.slice al nl cl,.slice ak nk ck]]) (l:=[(ah.mk 13 lv i t d ti at_ li ks).d]) (joz _) (by decide) (aL.one (ah.l6 13 lv i t d ti hRC)) (by simp) ⟨by omega,by omega⟩ (by omega) (fun j u hu=>kC.cell j u (by simpa using hu))
   have DF:∀ b∈ah.aS [.mk 13 lv i t d ti at_ li ks],BX b:=fun b hb=>HUS.out b (by rw [ah.aS,ah.aS,jrx] at hb;exact hb)
   have hb0:js2 wB.heap.size wB W0:=bC.trans (bW.mono bC.size);have kO0:aH o (.slice none 0 0) 35 W0:=(hb0.block o NS.out.lt).trans NS.out;have N0:ZO o W0.heap.size W0 (ok:=fun b=>b<o+1+1/\b≠o) (w:=wC) [] W0:=⟨_,kO0,World.ownsRow_nil _ _ _ _,zk.refl _ _ _⟩;have hnf:∀ (x:Nat) (wx:js1),Sem.run Tryz.prog (binOp BinOp.eql 94 (Value.func (Fn.func 107) #[] #[Value.pointer (some ⟨x,0,none⟩)]) Value.nilFunc) wx=.ok (.bool false) wx:=fun x wx=>by rfl
   have EC:=hid (NW (some ⟨o+1,0,none⟩) 1 1 wC);rw [<- hW0,zC] at EC;have HB0:=hid hb0;have zZ:=hid bW;have HZ0:=hid z0;have HZC:=hid zC;clear m4 kC bC NV hRC hb0 kO0 hW0;go_upto_region 20 with (fail)
   go_wp2_with (rw [HZB.out,<- vY];(with_reducible refine EC.out.mono ?_);rintro e w7 ⟨rfl,hw7⟩;rw [hw7];clear EC hw7 w7)
   refine RB (fun TM UL=>?_);have WC:=hid UL;have ZP:=hid hrd;have HUX:=hid DF;clear UL hrd DF vY d0 d1 d2 d3 d4 d5 d6 d7 d8 d9 d10 hnf;dsimp only;refine wpIn_wide (n:=3) |>.1 ?_
   refine wpIn_rangeFunc_ownH (α:=zl (fun b=>b<o+1+1/\b≠o) wC BX) rfl (by decide) (gf:=107) (lb:=#[.pointer (some ⟨o+1+1,0,none⟩)]) (by rw [WC.out];rfl) trivial (enters_of Tryz.func107 (by kernel_rfl) rfl)
    (Em 2 (o+1+1) (fun b=>b<o+1+1/\b≠o) BX [.mk 13 lv i t d ti at_ li ks] _ wC W0 (zk o W0.heap.size) (zk.ok (fun b hb=>⟨by have:=HZ0.out;omega,hb.2⟩)) HUX.out ZP.out (Gt.of zZ.out (fun b hb=>by have:=HZC.out;omega)) (fun b hb=>by have:=HZ0.out;omega) bL) (fun h k=>h.trans k) (fun W l x x' h1 h2 h3 _=>zk.obj o W0.heap.size W l x x' h1 h2 h3) (jox _ _) (fun _=>rfl)
    (ZO o W0.heap.size W0) (fun _ _ _=>False) (ZO.own rfl) (fun c s A B row h _ _=>h) N0
    (fun x a' W=>FoX W0.heap.size TM x.1 a' W) (fun x a'=>FoX.own) ?assign ?body ?done ?stop
   case stop=>rintro D c pre W _ _ h _;exact h.elim
   case assign=>
    rintro l0 pre ⟨⟨kd,lv,i,t,d,ti,at_,li,ks,vc,vp,vl,vk⟩,hR,jn2⟩ W K hi hK;dsimp only at hR hK;obtain ⟨ac,nc,cc,rfl⟩:=Rd.au hR.at_.cls
    obtain ⟨ap,np,cp,rfl⟩:=Rd.au hR.at_.aJ
    obtain ⟨al,nl,cl,rfl⟩:=Rd.au hR.line;obtain ⟨ak,nk,ck,rfl⟩:=Rd.au hR.kids;have HI:=hid hi;have HK:=hid hK;have UL:=WC.out;clear hi hK WC;subst UL;dsimp only [BV.enc]
    gi_wp2
    obtain ⟨v,hF⟩:=HI.out;have hsz:W0.heap.size<=W.heap.size:=hF.kp.size;exact HK.out _ _ ((KeepsOthers.alloc _ _).from _) (zk.grown (World.grownBy_alloc _ _ none) hsz (fun r e=>by cases e)) ⟨v,hF.UM hsz (World.grownBy_alloc _ _ none) (fun r e=>by cases e)⟩ ⟨W.heap.size,hsz,heap_alloc_new W _,rfl⟩
   case body=>
    rintro l0 pre x a' W hl0 _ ⟨v,hF⟩ ⟨Bx,hBx,KW,rfl⟩ hlen;have hR:=x.2.1;have hU:(bJ (aj.aA x.1.li)).length<=100000:=x.2.2;have En:pre.length<=1000000:=by
     have h1:=sF [ah.mk 13 lv i t d ti at_ li ks];rw [JA,Gs.out] at h1;have h2:ah.aK ([]:List ah)=0:=by rw [ah.aK]
     have h3:=qE.out.fit.f;rw [Gs.out] at h3;omega
    have hpl:=Ak pre;have ZQ:Hid (mq (iQ (pre++[x]))=mq (iQ pre)++aW x.1.at_ x.1.li):=by show _=_;rw [jq];unfold mq;rw [List.flatMap_append];show _++(aW x.1.at_ x.1.li++[])=_;rw [jrx]
    obtain ⟨y,hy⟩:∃ y,y=x.1:=⟨_,rfl⟩;rw [<- hy] at hR KW hU ZQ ⊢;obtain ⟨kd,lv,i,t,d,ti,at_,li,ks,vc,vp,vl,vk⟩:=y;dsimp only at hR hU ZQ;obtain ⟨ac,nc,cc,rfl⟩:=Rd.au hR.at_.cls
    obtain ⟨ap,np,cp,rfl⟩:=Rd.au hR.at_.aJ
    obtain ⟨al,nl,cl,rfl⟩:=Rd.au hR.line;obtain ⟨ak,nk,ck,rfl⟩:=Rd.au hR.kids;obtain ⟨av,cv,rfl⟩:=q01 hF.own;have hst:∀ b,(b<o+1+1/\b≠o)->W.drew.heap[b]?=wC.heap[b]?:=fun b hb=>(hF.kp.blk b (by have:=HZ0.out;omega) hb.2).trans (zZ.out.block b (by have:=HZC.out;omega))
    have hzW:o+1+1+1<=W.heap.size:=by have:=hF.kp.size;have:=HZ0.out;omega
    have hRW:rQ (·<W.drew.heap.size) W.drew at_ li ks (.slice ac nc cc) (.slice ap np cp) (.slice al nl cl) (.slice ak nk ck):=
     ⟨⟨Rd.keep (fun b hb _=>⟨by show b<W.heap.size;omega,hst b hb⟩) _ _ hR.at_.cls,Rd.keep (fun b hb _=>⟨by show b<W.heap.size;omega,hst b hb⟩) _ _ hR.at_.aJ⟩,Rd.keep (fun b hb _=>⟨by show b<W.heap.size;omega,hst b hb⟩) _ _ hR.line,Rd.keep (fun b hb _=>⟨by show b<W.heap.size;omega,hst b hb⟩) _ _ hR.kids⟩
    have ZR:=hid (oN kd lv i t d ti at_ li ks (.slice ac nc cc) (.slice ap np cp) (.slice al nl cl) (.slice ak nk ck) W.drew hRW hU);have HOL:=hid (Eo at_ li hU);have BJ:=hid (Nat.le_trans hpl (Nat.mul_le_mul_left 100001 En));have WG:=hid (show o<W0.heap.size by have:=HZ0.out;omega);have cu:W.drew.cell? ⟨o,0,none⟩=some (.slice av (mq (iQ pre)).length cv):=hF.bx.cell;have c0:W.drew.cell? ⟨Bx,0,none⟩=some (.int .i64 kd):=KW.cell 0 _ rfl;have c1:W.drew.cell? ⟨Bx,1,none⟩=some (.int .i64 lv):=KW.cell 1 _ rfl;have c2:W.drew.cell? ⟨Bx,2,none⟩=some (.string i):=KW.cell 2 _ rfl;have c3:W.drew.cell? ⟨Bx,3,none⟩=some (.string t):=KW.cell 3 _ rfl;have c4:W.drew.cell? ⟨Bx,4,none⟩=some (.string d):=KW.cell 4 _ rfl;have c5:W.drew.cell? ⟨Bx,5,none⟩=some (.string ti):=KW.cell 5 _ rfl;have c6:W.drew.cell? ⟨Bx,6,none⟩=some (.string at_.id):=KW.cell 6 _ rfl;have c7:W.drew.cell? ⟨Bx,7,none⟩=some (.slice ac nc cc):=KW.cell 7 _ rfl;have c8:W.drew.cell? ⟨Bx,8,none⟩=some (.slice ap np cp):=KW.cell 8 _ rfl;have c9:W.drew.cell? ⟨Bx,9,none⟩=some (.slice al nl cl):=KW.cell 9 _ rfl;have c10:W.drew.cell? ⟨Bx,10,none⟩=some (.slice ak nk ck):=KW.cell 10 _ rfl;have HF:=hid hF;have UL:=WC.out;clear hR hU hlen En hpl hy hF hst hzW hRW KW WC;subst UL;unfold UO;dsimp only [BV.enc]
    (try simp only [jo9,joj,jok])
    gi_upto_region 22 with (fail)
    refine wpIn_region_any (by kernel_rfl) ?_;change wpAnyIn _ _ _ _ _ _ _ _ _ (World.drew _);refine wpAnyIn_ready (rs:=[0,1]) (by kernel_rfl) (by simp) ?_;refine AllReadyIn.cons rfl (fun K hK=>?_) (AllReadyIn.cons rfl (fun K hK=>?_) AllReadyIn.nil)
    ·
     go_simp;refine hK _ _ ?_;clear hK K
     (try simp only [Act.put,jo9,joj,jok])
     refine wpAnyIn_ready (rs:=[1]) (by kernel_rfl) (by simp) ?_;refine AllReadyIn.cons rfl (fun K hK=>?_) AllReadyIn.nil;go_simp;refine hK _ _ ?_;clear hK K
     (try simp only [Act.put,jo9,joj,jok])
     refine wpAnyIn_ready (rs:=[2]) (by kernel_rfl) (by simp) ?_;refine AllReadyIn.cons rfl (fun K hK=>?_) AllReadyIn.nil;go_simp;refine ⟨trivial,?_⟩;refine (CallsIn.inRound l0 (callsIn_wide.2 ZR.out)).mono ?_;rintro e w1 ⟨v1,rfl,hown1,hb1⟩;obtain ⟨a1,e1,rfl⟩:=q01 hown1;have NY:=Reads.bV hown1;have cu1:w1.cell? ⟨o,0,none⟩=some (.slice av (mq (iQ pre)).length cv):=(hb1.cell (p:=⟨o,0,none⟩) HF.out.bx.lt).trans cu;have vZ:aH o (.slice av (mq (iQ pre)).length cv) 35 w1:=(hb1.block o HF.out.bx.lt).trans HF.out.bx;have Ep:w1.ownsRow W0.heap.size 9 1 (.slice av (mq (iQ pre)).length cv) (mq (iQ pre)).length ((mq (iQ pre)).map Value.string):=zY HF.out.own ((jox _ W).drew.trans hb1);dsimp only;refine hK _ _ ?_;clear hK K
     (try simp only [Act.put,jo9,joj,jok])
     refine wpAnyIn_ready (rs:=[3]) (by kernel_rfl) (by simp) ?_;refine AllReadyIn.cons rfl (fun K hK=>?_) AllReadyIn.nil;refine fB rfl (.tmp 75) (.tmp 77) 35 rfl W0.heap.size 9 iS _ 1 16 Tryz.underlying35 Hl oV oW oZ rfl (by decide) _ (mq (iQ pre)).length ((mq (iQ pre)).map Value.string) rfl Ep _ a1 _ e1 _ rfl NY ?o1 ?o2 ?o3 ?o4 ?_;case o1=>intro u hu;obtain ⟨s,_,rfl⟩:=List.mem_map.1 hu;rfl
     case o2=>have:=BJ.out;have:=HOL.out;unfold maxLen;omega
     case o3=>have:=BJ.out;have:=HOL.out;omega
     case o4=>have:=HF.out.kp.size;have:=hb1.size;have e:W.drew.heap.size=W.heap.size:=rfl;omega
     intro v' w2 hown' hgrow hat;have hb1':js2 W.heap.size W w1:=(jox _ W).drew.trans hb1;have hP:=HF.out.push WG.out (by have:=HF.out.kp.size;exact this) hb1' hown' hgrow hat W0.heap.size;obtain ⟨g',c',rfl⟩:=q01 hown';have hb2:aH o (.slice av (mq (iQ pre)).length cv) 35 w2:=(hgrow.block o vZ.lt (fun e=>oz (T':=35) (cs:=[_]) Ep vZ (by decide) e.symm)).trans vZ;have k1:=hb2.cell;have k2:=hb2.free;refine hK _ _ ?_;clear hK K
     (try simp only [Act.put,jo9,joj,jok])
     refine wpAnyIn_ready (rs:=[4]) (by kernel_rfl) (by simp) ?_;refine AllReadyIn.cons rfl (fun K hK=>?_) AllReadyIn.nil;go_simp;refine hK _ _ ?_;clear hK K
     (try simp only [Act.put,jo9,joj,jok])
     refine wpAnyIn_done (by kernel_rfl) ?_ _
     gi_wp2_with fail
     exact ⟨hP.2.2,hP.2.1,⟨_,by rw [ZQ.out];exact hP.1⟩⟩
    ·
     go_simp;refine hK _ _ ?_;clear hK K
     (try simp only [Act.put,jo9,joj,jok])
     refine wpAnyIn_ready (rs:=[0,2]) (by kernel_rfl) (by simp) ?_;refine AllReadyIn.cons rfl (fun K hK=>?_) (AllReadyIn.cons rfl (fun K hK=>?_) AllReadyIn.nil)
     ·
      go_simp;refine hK _ _ ?_;clear hK K
      (try simp only [Act.put,jo9,joj,jok])
      refine wpAnyIn_ready (rs:=[2]) (by kernel_rfl) (by simp) ?_;refine AllReadyIn.cons rfl (fun K hK=>?_) AllReadyIn.nil;go_simp;refine ⟨trivial,?_⟩;refine (CallsIn.inRound l0 (callsIn_wide.2 ZR.out)).mono ?_;rintro e w1 ⟨v1,rfl,hown1,hb1⟩;obtain ⟨a1,e1,rfl⟩:=q01 hown1;have NY:=Reads.bV hown1;have cu1:w1.cell? ⟨o,0,none⟩=some (.slice av (mq (iQ pre)).length cv):=(hb1.cell (p:=⟨o,0,none⟩) HF.out.bx.lt).trans cu;have vZ:aH o (.slice av (mq (iQ pre)).length cv) 35 w1:=(hb1.block o HF.out.bx.lt).trans HF.out.bx;have Ep:w1.ownsRow W0.heap.size 9 1 (.slice av (mq (iQ pre)).length cv) (mq (iQ pre)).length ((mq (iQ pre)).map Value.string):=zY HF.out.own ((jox _ W).drew.trans hb1);dsimp only;refine hK _ _ ?_;clear hK K
      (try simp only [Act.put,jo9,joj,jok])
      refine wpAnyIn_ready (rs:=[3]) (by kernel_rfl) (by simp) ?_;refine AllReadyIn.cons rfl (fun K hK=>?_) AllReadyIn.nil;refine fB rfl (.tmp 75) (.tmp 77) 35 rfl W0.heap.size 9 iS _ 1 16 Tryz.underlying35 Hl oV oW oZ rfl (by decide) _ (mq (iQ pre)).length ((mq (iQ pre)).map Value.string) rfl Ep _ a1 _ e1 _ rfl NY ?o1 ?o2 ?o3 ?o4 ?_;case o1=>intro u hu;obtain ⟨s,_,rfl⟩:=List.mem_map.1 hu;rfl
      case o2=>have:=BJ.out;have:=HOL.out;unfold maxLen;omega
      case o3=>have:=BJ.out;have:=HOL.out;omega
      case o4=>have:=HF.out.kp.size;have:=hb1.size;have e:W.drew.heap.size=W.heap.size:=rfl;omega
      intro v' w2 hown' hgrow hat;have hb1':js2 W.heap.size W w1:=(jox _ W).drew.trans hb1;have hP:=HF.out.push WG.out (by have:=HF.out.kp.size;exact this) hb1' hown' hgrow hat W0.heap.size;obtain ⟨g',c',rfl⟩:=q01 hown';have hb2:aH o (.slice av (mq (iQ pre)).length cv) 35 w2:=(hgrow.block o vZ.lt (fun e=>oz (T':=35) (cs:=[_]) Ep vZ (by decide) e.symm)).trans vZ;have k1:=hb2.cell;have k2:=hb2.free;refine hK _ _ ?_;clear hK K
      (try simp only [Act.put,jo9,joj,jok])
      refine wpAnyIn_ready (rs:=[4]) (by kernel_rfl) (by simp) ?_;refine AllReadyIn.cons rfl (fun K hK=>?_) AllReadyIn.nil;go_simp;refine hK _ _ ?_;clear hK K
      (try simp only [Act.put,jo9,joj,jok])
      refine wpAnyIn_done (by kernel_rfl) ?_ _
      gi_wp2_with fail
      exact ⟨hP.2.2,hP.2.1,⟨_,by rw [ZQ.out];exact hP.1⟩⟩
     ·
      go_simp;refine ⟨trivial,?_⟩;refine (CallsIn.inRound l0 (callsIn_wide.2 ZR.out)).mono ?_;rintro e w1 ⟨v1,rfl,hown1,hb1⟩;obtain ⟨a1,e1,rfl⟩:=q01 hown1;have NY:=Reads.bV hown1;have cu1:w1.cell? ⟨o,0,none⟩=some (.slice av (mq (iQ pre)).length cv):=(hb1.cell (p:=⟨o,0,none⟩) HF.out.bx.lt).trans cu;have vZ:aH o (.slice av (mq (iQ pre)).length cv) 35 w1:=(hb1.block o HF.out.bx.lt).trans HF.out.bx;have Ep:w1.ownsRow W0.heap.size 9 1 (.slice av (mq (iQ pre)).length cv) (mq (iQ pre)).length ((mq (iQ pre)).map Value.string):=zY HF.out.own ((jox _ W).drew.trans hb1);dsimp only;refine hK _ _ ?_;clear hK K
      (try simp only [Act.put,jo9,joj,jok])
      refine wpAnyIn_ready (rs:=[0]) (by kernel_rfl) (by simp) ?_;refine AllReadyIn.cons rfl (fun K hK=>?_) AllReadyIn.nil;go_simp;refine hK _ _ ?_;clear hK K
      (try simp only [Act.put,jo9,joj,jok])
      refine wpAnyIn_ready (rs:=[3]) (by kernel_rfl) (by simp) ?_;refine AllReadyIn.cons rfl (fun K hK=>?_) AllReadyIn.nil;refine fB rfl (.tmp 75) (.tmp 77) 35 rfl W0.heap.size 9 iS _ 1 16 Tryz.underlying35 Hl oV oW oZ rfl (by decide) _ (mq (iQ pre)).length ((mq (iQ pre)).map Value.string) rfl Ep _ a1 _ e1 _ rfl NY ?o1 ?o2 ?o3 ?o4 ?_;case o1=>intro u hu;obtain ⟨s,_,rfl⟩:=List.mem_map.1 hu;rfl
      case o2=>have:=BJ.out;have:=HOL.out;unfold maxLen;omega
      case o3=>have:=BJ.out;have:=HOL.out;omega
      case o4=>have:=HF.out.kp.size;have:=hb1.size;have e:W.drew.heap.size=W.heap.size:=rfl;omega
      intro v' w2 hown' hgrow hat;have hb1':js2 W.heap.size W w1:=(jox _ W).drew.trans hb1;have hP:=HF.out.push WG.out (by have:=HF.out.kp.size;exact this) hb1' hown' hgrow hat W0.heap.size;obtain ⟨g',c',rfl⟩:=q01 hown';have hb2:aH o (.slice av (mq (iQ pre)).length cv) 35 w2:=(hgrow.block o vZ.lt (fun e=>oz (T':=35) (cs:=[_]) Ep vZ (by decide) e.symm)).trans vZ;have k1:=hb2.cell;have k2:=hb2.free;refine hK _ _ ?_;clear hK K
      (try simp only [Act.put,jo9,joj,jok])
      refine wpAnyIn_ready (rs:=[4]) (by kernel_rfl) (by simp) ?_;refine AllReadyIn.cons rfl (fun K hK=>?_) AllReadyIn.nil;go_simp;refine hK _ _ ?_;clear hK K
      (try simp only [Act.put,jo9,joj,jok])
      refine wpAnyIn_done (by kernel_rfl) ?_ _
      gi_wp2_with fail
      exact ⟨hP.2.2,hP.2.1,⟨_,by rw [ZQ.out];exact hP.1⟩⟩
   case done=>
    rintro D pre W hD hpre ⟨v,hF⟩ hK;rw [hpre,mU] at hF;have KX:ah.aN [ah.mk 13 lv i t d ti at_ li ks]=aW at_ li++ah.aN ks:=by rw [ah.aN,ah.ids,ah.aN,jrx];rfl
    rw [KX] at hF;obtain ⟨OW,hOW⟩:∃ OW,OW=aW at_ li++ah.aN ks:=⟨_,rfl⟩
    obtain ⟨nO,hnO⟩:∃ nO,nO=OW.length:=⟨_,rfl⟩;rw [<- hOW] at hF HE2;have hDW:D<W.heap.size:=(Array.getElem?_eq_some_iff.1 hK).1;have ZT:∀ b,b<wB.heap.size->b≠o->W.heap[b]?=wB.heap[b]?:=fun b hb hne=>(hF.kp.blk b (by have:=HB0.out.size;omega) hne).trans (HB0.out.block b hb)
    have hfr:aM (fun b=>b=o) wB W:=⟨hF.kp.os.trans HB0.out.os,hF.kp.tape.trans HB0.out.tape,hF.kp.output.trans HB0.out.output,Nat.le_trans HB0.out.size hF.kp.size,fun b hb hne=>ZT b hb hne⟩;have Al:∀ b,UH.ownBlock=some b->b≠o:=fun b hb e=>by
     subst e;exact oz (T':=35) (cs:=[.slice none 0 0]) YE.out.own NS.out (by decide) hb
    have hmo:m≠o:=fun e=>by
     have h1:=YE.out.cb;have h2:=NS.out;rw [e] at h1;unfold CB at h1;unfold aH at h2;rw [h1] at h2;cases h2
    have MW:=YE.out.fr hfr (fun e=>hmo e) (fun b hb e=>Al b hb e);have WH:=KFB.out.fr hfr (fun e=>by have e:Q=o:=e;omega);have FW:=HFW.out.trans hfr (fun b hb e=>by have e:b=o:=e;have:=yL.out.size;have:=HQ.out;omega);obtain ⟨av,cv,rfl⟩:=q01 hF.own;have hown:=hF.own;have uH:OW.length<=(bJ (aj.aA li)).length+1+ah.aK ks:=by
     rw [hOW];have h1:(aW at_ li).length<=(bJ (aj.aA li)).length+1:=by unfold aW ig;rw [jp4];split<;>simp<;>omega
     have h2:=wh ks;rw [jp4];omega
    have LF:=hid (HLF.out W (.slice av OW.length cv) OW (fun b=>(Value.slice av OW.length cv).ownBlock=some b) MW FW (Rd.qH hown (fun g hg=>hg)) (fun b hb=>(hown.lt b hb).2) (by
     have h2:=HG.out;rw [HPD.out];omega) HE2.out.symm)
    have yo:=hF.bx.cell;rw [<- hnO] at LF yo;have y0:=WH.cell 0 _ rfl;have y1:=WH.cell 1 _ rfl;have y2:=WH.cell 2 _ rfl;have y3:=WH.cell 3 _ rfl;have y4:=WH.cell 4 _ rfl;have y5:=WH.cell 5 _ rfl;have hoW:o<W.heap.size:=hF.bx.lt;have HK:=hid hK;have hDw:w.heap.size<=D:=by have:=yL.out.size;have:=HQ.out;have:=HZ0.out;omega
    have HDW:=hid hDW;have UL:=WC.out;clear hK hF KX hOW hnO ZT hfr Al hmo MW WH FW hown uH hpre WC;subst UL;go_wp2_with fail
    (with_reducible refine LF.out.mono ?_)
    rintro e w8 ⟨hp8,ZU⟩;have HP8:=hid hp8;obtain ⟨v8,jm8,vp8,rfl,-⟩:=hp8;have hD8:w8.heap[D]?=some (.deferred (some [])):=ZU D _ HK.out rfl;clear LF ZU;go_wp2;exact jh5 rfl hD8 (fun w'=>by simp [results,Tryz.results138,go_sem]) (HP8.out.jh6 hDw hD8 rfl)
open Go.RowKit Go.Shelf
theorem ZV (w:js1) (cs:List Value) (f r:ByteArray):∃ S w2,S=w.heap.size/\w2=(w.alloc (.cells cs.toArray 40)).alloc (.cells #[.string f,.string r,.slice none 0 0] 153) /\ CB 40 S cs w2/\CB 153 (S+1) [.string f,.string r,.slice none 0 0] w2/\js2 w.heap.size w w2/\w2.heap.size=S+1+1:=NP w cs f r
def TcR (N:Nat) (wA:js1) (cs:List ah) (vt vi:Value) (wr:js1):Prop:=
 ∃ j:Nat,j<=cs.length/\vi=.int .i64 j/\wr.ownsRow N 9 1 vt j ((cs.take j).map fun c=>Value.string (fq (kZ c)))/\js2 N wA wr
def kH (n:Nat):Nat->Bool:=fun i=>decide (i=0)&&decide (1<n)
theorem KY (m:Nat) (W:Int) (w0:js1) (st:St) (vp:Value) (p:Px) (lv:Int) (i t d ti:ByteArray) (at_:At) (li:List aj) (ks:List ah) (vc dO vl vk:Value) (w:js1) (hin:jH m W w0 st vp p (ah.mk 10 lv i t d ti at_ li ks).bM w) (hR:rQ (·<w0.heap.size) w0 at_ li ks vc dO vl vk) (hne:ks≠[]) (hsm:∀ r∈ks,∀ c∈ze r,(aj.ay (kZ c)).length<=100000/\(bJ (aj.aA (kZ c))).length<=1000) (hvs:(ah.mk 10 lv i t d ti at_ li ks).bM<=1000000) : Calls Tryz.prog 136 #[.pointer (some ⟨m,0,none⟩),.agg #[.int .i64 10,.int .i64 lv,.string i,.string t,.string d,.string ti,.string at_.id,vc,dO,vl,vk],.agg #[.string p.first,.string p.rest,.slice none 0 0]] w (aI m W w vp (ah.dG W st p (.mk 10 lv i t d ti at_ li ks))):=by
 obtain ⟨iS,Hl,oV,oW,oZ⟩:=info_parts ku;obtain ⟨ac,nc,cc,rfl⟩:=Rd.au hR.at_.cls
 obtain ⟨ap,np,cp,rfl⟩:=Rd.au hR.at_.aJ
 obtain ⟨al,nl,cl,rfl⟩:=Rd.au hR.line;obtain ⟨ak,ck,hkv,hks⟩:=Rd.aC hR.kids;obtain ⟨n,hn⟩:∃ n,n=ks.length:=⟨_,rfl⟩;obtain rfl:vk=.slice ak n ck:=by rw [hn];simpa using hkv
 have hcap:n<=ck:=by have:=hks.le;rw [jp5] at this;omega
 have hmx:=hks.max;unfold maxLen at hmx;obtain ⟨S,w2,hS,hw2,kb,kl,b2,z2⟩:=ZV w [.int .i64 10,.int .i64 lv,.string i,.string t,.string d,.string ti,.string at_.id,.slice ac nc cc,.slice ap np cp,.slice al nl cl,.slice ak n ck] p.first p.rest
 have hv:(ah.mk 10 lv i t d ti at_ li ks).bM=30+i.size+2*t.size+2*(aj.ay li).length+(bJ (aj.aA li)).length+ah.aK ks:=by rw [ah.bM]
 have hfit:=hin.fit;rw [hv] at hfit hvs;obtain ⟨g1,g2,g3,g4,g5⟩:=hfit;have hlv:=iR ks;have hn1:1<=n:=by
  rcases Nat.eq_zero_or_pos n with h | h
  ·exact absurd (List.length_eq_zero_iff.1 (by omega)) hne
  ·exact h
 have hnm:n<=1000000:=by omega
 have hmk:=hin.l8;have hm2:=hmk.below b2;have vV:m<S:=by rw [hS];exact hmk.cb.lt
 have NQ:∀ b,vp.ownBlock=some b->b<S:=fun b e=>by rw [hS];exact (hmk.own.lt b e).2
 have gy:Hid (ah.dG W st p (.mk 10 lv i t d ti at_ li ks)=iy st p ks):=by show _=_;rw [ah.dG];rfl
 have b02:=aP hin.b0 b2;obtain ⟨T,hT⟩:∃ T,T=ks.map jh:=⟨_,rfl⟩;have Zd:T.length=n:=by rw [hT,jp5,hn]
 have WJ:Hid (∀ (k:Nat) (r:ah),ks[k]?=some r->T[k]?=some (jh r)):=fun k r h=>by rw [hT,List.getElem?_map,h];rfl
 have HTE:Hid (iy st p ks=(let r:=bO st (bK p 1 (kH n) T) [];if st.aV=true then r else (bQ r.1 ks,r.2))):=by show _=_;unfold iy;rw [hT,hn];rfl
 have qE:=hid hin;have HR:=hid hR;have ZW:=hid hks;have HN:=hid hn;have HS:=hid hS;have j6:=hid (And.intro vV NQ);have HSM:=hid hsm;have KB:=hid kb;have KL:=hid kl;have B2:=hid b2;have B02:=hid b02;have HTL:=hid Zd;have M2:=hid hm2;have Gs:=hid (show ah.aK ks<=1000000 by omega);have HG:=hid (show st.groups+ah.aK ks+30<=1000000/\st.count+ah.aK ks+30<=1000000/\st.pend.length+ah.aK ks+30<=1000000/\p.first.size<=1000000/\p.rest.size<=1000000 from ⟨by omega,by omega,by omega,by omega,by omega⟩);have d10:=kb.cell 10 _ rfl;have Z2:=hid z2;have R0:Hid (dw (S+1) w2.heap.size w2 p 1 (kH n) T (.int .i64 0) w2):=dw.zero p 1 (kH n) T kl;obtain ⟨V,hV⟩:∃ V,V=ah.dG W st p (.mk 10 lv i t d ti at_ li ks):=⟨_,rfl⟩;rw [<- hV] at gy ⊢;clear hin hR hkv hks hn hne hsm hvs kb kl b2 z2 hv g1 g2 g3 g4 g5 hlv hmk hm2 vV NQ b02 hT Zd hV;go_enter Tryz.func136,Tryz.ntmps136;go_upto_region 1 with (fail)
 rw [<- hw2,<- hS];clear hw2 hS;go_wp2
 go_loopw [20] (fun vi wr=>dw (S+1) w2.heap.size w2 p 1 (kH n) T vi wr) (fun vi _=>n-(intOf vi).toNat)
 case atStart=>exact R0.out
 case round=>
  clear R0;obtain ⟨k,v,hk,rfl,hcl,hrow,hfr⟩:=hrel;have hkn:k<=n:=by have:=HTL.out;omega
  have hb0:js2 w0.heap.size w0 wr:=B02.out.trans (hfr.below _ B02.out.size (fun b e=>by have e:b=S+1:=e;have:=j6.out.1;have:=qE.out.m0;omega));by_cases hlt:k<n
  ·obtain ⟨y,hy⟩:∃ y,ks[k]?=some y:=⟨_,joq (by have:=HN.out;omega)⟩;have hTk:=WJ.out k y hy;have hrv:=Am y;have hyv:=ah.qI ks k y hy;have NZ:=HSM.out y (jpk hy);obtain ⟨yk,yM,yi,yt,yd,uI,uJ,JB,iC⟩:=y;obtain ⟨ga,off,vc,dO,vl,vk,rfl,hok,hbl,hc,hRy⟩:=dH ZW.out hy;obtain ⟨c0,c1,c2,c3,c4,c5,c6,c7,c8,c9,c10⟩:=hc.at2 (w':=wr) (hb0.block ga hok);obtain ⟨KZ,K7,K8,rfl⟩:=Rd.au hRy.at_.cls
   obtain ⟨La,Lb,Lc,rfl⟩:=Rd.au hRy.at_.aJ
   obtain ⟨Ld,Le,Lf,rfl⟩:=Rd.au hRy.line;obtain ⟨Er,Ca,N7,o8⟩:=Rd.aC hRy.kids;obtain ⟨nk,hnk⟩:∃ nk,nk=iC.length:=⟨_,rfl⟩;obtain rfl:vk=.slice Er nk Ca:=by rw [hnk];simpa using N7
   have ZX:nk<=Ca:=by have:=o8.le;rw [jp5] at this;omega
   have WK:=o8.max;unfold maxLen at WK;obtain ⟨Q,hQ⟩:∃ Q,Q=wr.heap.size:=⟨_,rfl⟩;obtain ⟨wA,dX⟩:∃ wA,wA=wr.alloc (.cells #[.int .i64 yk,.int .i64 yM,.string yi,.string yt,.string yd,.string uI,.string uJ.id,.slice KZ K7 K8,.slice La Lb Lc,.slice Ld Le Lf,.slice Er nk Ca] 40):=⟨_,rfl⟩;have kQ:CB 40 Q [.int .i64 yk,.int .i64 yM,.string yi,.string yt,.string yd,.string uI,.string uJ.id,.slice KZ K7 K8,.slice La Lb Lc,.slice Ld Le Lf,.slice Er nk Ca] wA:=by rw [dX,hQ];exact CB.new _ _ _
   have bA:js2 wr.heap.size wr wA:=by rw [dX];exact (jox _ _).alloc (joz _) _
   have zA:wA.heap.size=Q+1:=by rw [dX,hQ];simp
   have e10:=kQ.cell 10 _ rfl;have ZY:nk<=1000000:=by rw [ah.bM] at hyv;have:=iR iC;have:=Gs.out;omega
   have R1:Hid (TcR wA.heap.size wA iC (.slice none 0 0) (.int .i64 0) wA):=⟨0,Nat.zero_le _,rfl,by simpa using Nv _ _ _ _,jox _ _⟩;have Jv:=hid hTk;have HRV:=hid (Nat.le_trans hrv hyv);have RD:=hid NZ;have WL:=hid o8;have JD:=hid hnk;have HB0:=hid hb0;have BA:=hid bA;have ZA:=hid zA;have YI:=hid hcl;have qJ:=hid hrow;have V7:=hid hfr;have HQ:=hid hQ;have HY:=hid hy;have HRT:Hid (jh (.mk yk yM yi yt yd uI uJ JB iC)=lV (iC.map fun c=>fq (kZ c)) [32,124,32]):=rfl;clear hTk hrv hyv NZ o8 hnk hb0 bA zA hcl hrow hfr kQ hy hc hRy N7 hok;go_upto_region 4 with (fail)
   rw [<- dX,<- hQ];clear dX hQ c0 c1 c2 c3 c4 c5 c6 c7 c8 c9 c10;have Z0:=hid hlt;obtain ⟨wO,hwO⟩:∃ wO:js1,wO=wr:=⟨_,rfl⟩;subst hwO;go_wp2
   go_loopw [9,28] (fun vt vi wr=>TcR (Q+1) wA iC vt vi wr) (fun _ vi _=>nk-(intOf vi).toNat)
   case atStart=>have:=R1.out;rw [ZA.out] at this;exact this
   case round=>
    clear R1;obtain ⟨j,hj,rfl,hown,hbel⟩:=hrel;have N8:js2 w0.heap.size w0 wr:=(HB0.out.trans (BA.out.mono HB0.out.size)).trans (hbel.mono (by have:=HB0.out.size;have:=HQ.out;omega));by_cases hjt:j<nk
    ·obtain ⟨c,hc⟩:∃ c,iC[j]?=some c:=⟨_,joq (by have:=JD.out;omega)⟩;have Lg:=RD.out c (jpk hc);obtain ⟨ck,RF,ci,ct,cd,RG,uK,cli,cks⟩:=c;obtain ⟨gc,jh7,wvc,wvp,wvl,wvk,rfl,hok,hbl,hcc,Lh⟩:=dH WL.out hc;obtain ⟨c0,c1,c2,c3,c4,c5,c6,c7,c8,c9,c10⟩:=hcc.at2 (w':=wr) (N8.block gc hok);obtain ⟨b1,b2,b3,rfl⟩:=Rd.au Lh.at_.cls
     obtain ⟨b4,b5,b6,rfl⟩:=Rd.au Lh.at_.aJ
     obtain ⟨b7,b8,b9,rfl⟩:=Rd.au Lh.line;obtain ⟨b10,b11,b12,rfl⟩:=Rd.au Lh.kids;obtain ⟨q,hq⟩:∃ q,q=wr.heap.size:=⟨_,rfl⟩;obtain ⟨wC,vY⟩:∃ wC,wC=wr.alloc (.cells #[.int .i64 ck,.int .i64 RF,.string ci,.string ct,.string cd,.string RG,.string uK.id,.slice b1 b2 b3,.slice b4 b5 b6,.slice b7 b8 b9,.slice b10 b11 b12] 40):=⟨_,rfl⟩;have kC:CB 40 q [.int .i64 ck,.int .i64 RF,.string ci,.string ct,.string cd,.string RG,.string uK.id,.slice b1 b2 b3,.slice b4 b5 b6,.slice b7 b8 b9,.slice b10 b11 b12] wC:=by rw [vY,hq];exact CB.new _ _ _
     have bC:js2 wr.heap.size wr wC:=by rw [vY];exact (jox _ _).alloc (joz _) _
     have e9:=kC.cell 9 _ rfl;have jm9:(aj.ay cli).length<=100000:=Lg.1;have SC:=hid (rX cli (.slice b7 b8 b9) wC (Lh.line.up (N8.trans (bC.mono N8.size))) (by omega));obtain ⟨av,cv,rfl⟩:=q01 hown;have HO:=hid (zY hown bC);have UQ:=hid (hbel.trans (bC.mono (by have:=(HO.out).lt;have:=hbel.size;have:=ZA.out;omega)));have hsn:(iC.take (j+1)).map (fun c=>Value.string (fq (kZ c)))=(iC.take j).map (fun c=>Value.string (fq (kZ c)))++[.string (fq cli)]:=by rw [List.take_add_one,hc];simp [kZ]
     have rZ:=hid hsn;have Z4:=hid hjt;clear hc Lg hcc Lh hown hbel N8 hsn kC bC hok;go_upto_region 8 with (fail)
     rw [<- vY,<- hq];clear vY hq c0 c1 c2 c3 c4 c5 c6 c7 c8 c9 c10;go_wp2_with fail
     (with_reducible refine SC.out.mono ?_)
     rintro e w5 ⟨rfl,h5⟩;have Rn:=hid (zY HO.out h5);have uU:=hid (UQ.out.trans (h5.mono (by have:=UQ.out.size;have:=ZA.out;omega)));have Ww:Hid (Reads (w5.alloc (.cells #[.string (fq cli)] 9)) (w5.alloc (.cells #[.string (fq cli)] 9)).heap.size 1 (some ⟨w5.heap.size,0,none⟩) 1 [.string (fq cli)]):=by exact ⟨rfl,fun _=>⟨_,rfl,by simp,lu _ _ _⟩⟩
     clear h5 SC e9;generalize fq cli=tx at *;go_wp2_with (at_builtin;(refine Dy _ rfl _ _ 35 rfl (Q+1) 9 iS _ 1 16 Tryz.underlying35 Hl oV oW oZ rfl (by decide) _ _ _ rfl (Rn.out.alloc _) _ _ _ _ _ rfl Ww.out ?c1 ?c2 ?c3 ?c4 ?_))
     case c1=>intro u hu;simp at hu;subst hu;rfl
     case c2=>unfold maxLen;omega
     case c3=>omega
     case c4=>have:=uU.out.size;have:=ZA.out;simp;omega
     intro v7 w7 jK Wy Wz;have b7:js2 (Q+1) wA w7:=(uU.out.alloc (by have:=uU.out.size;have:=ZA.out;omega) _).grown Wy (by have:=uU.out.size;have:=ZA.out;simp;omega) (fun b hb=>(Rn.out.lt b hb).1);obtain ⟨a7,c7,rfl⟩:=q01 jK;have HR7:Hid (TcR (Q+1) wA iC (.slice a7 (j+1) c7) (.int .i64 ((j+1:Nat):Int)) w7):=⟨j+1,by have:=JD.out;have:=Z4.out;omega,rfl,by rw [rZ.out,List.map_take];exact jK,b7⟩;clear jK Wy Wz b7 Ww HO Rn;go_wp2;go_roundw;case rel=>exact HR7.out
     case measure=>have:=Z4.out;simp [intOf];omega
    ·have hjn:j=nk:=by have:=JD.out;omega
     subst hjn;rw [JD.out,List.take_length] at hown;obtain ⟨av,cv,rfl⟩:=q01 hown;have hown2:wr.ownsRow (Q+1) 9 1 (.slice av iC.length cv) (iC.map fun c=>fq (kZ c)).length ((iC.map fun c=>fq (kZ c)).map Value.string):=by rw [jp5,List.map_map];exact hown
     have hrt:(jh (.mk yk yM yi yt yd uI uJ JB iC)).size<=1000000:=by have:=HRV.out;have:=Gs.out;omega
     have hsz:(Lib.join ((iC.map fun c=>fq (kZ c)).map (·.data.toList)) (⟨#[32,124,32]⟩:ByteArray).data.toList).length<=140737488355328:=by
      rw [HRT.out] at hrt;have h3:(lV (iC.map fun c=>fq (kZ c)) [32,124,32]).size=(Lib.join ((iC.map fun c=>fq (kZ c)).map (·.data.toList)) [32,124,32]).length:=by show (Lib.join ((iC.map fun c=>fq (kZ c)).map (·.data.toList)) [32,124,32]).toArray.size=_;rw [List.size_toArray]
      show (Lib.join ((iC.map fun c=>fq (kZ c)).map (·.data.toList)) [32,124,32]).length<=_;omega
     have JC:=hid (Ej (iC.map fun c=>fq (kZ c)) ⟨#[32,124,32]⟩ _ wr (gQ.bV hown2) hsz (by rw [jp5,<- JD.out];omega));have hJT:(⟨(Lib.join ((iC.map fun c=>fq (kZ c)).map (·.data.toList)) (⟨#[32,124,32]⟩:ByteArray).data.toList).toArray⟩:ByteArray)=jh (.mk yk yM yi yt yd uI uJ JB iC):=by rw [HRT.out];rfl
     rw [hJT] at JC;rw [<- JD.out] at JC ⊢;have hbO:js2 wO.heap.size wO wr:=BA.out.trans (hbel.mono (by have:=ZA.out;have:=HQ.out;omega));have HBO:=hid hbO;have Z5:=hid hrt;obtain ⟨tx,htx⟩:∃ tx,tx=jh (.mk yk yM yi yt yd uI uJ JB iC):=⟨_,rfl⟩;rw [<- htx] at JC Jv Z5;clear hown hown2 hrt hsz hJT hbel N8 hbO htx HRT;go_wp2_with fail
     (with_reducible refine JC.out.mono ?_)
     rintro e w8 ⟨rfl,b8⟩;have UR:=aP HBO.out b8;have hal:=N9 p 1 (kH n) T k;have Z7:=YI.out.below UR;have Oa:=qJ.out.below UR;have A1:=hid (fun (b:Bool)=>iT (S+1) p (q0z p 1 (kH n) T k) v w2.heap.size wO.heap.size tx 1 b w8 HG.out.2.2.2.1 HG.out.2.2.2.2 (by have:=Z5.out;omega) (by omega) Z7 (by have:=Z2.out;omega) Oa);have HST:=hid (fun (b:Bool) (hb:kH n k=b) e w' ha=>dw.step (e:=e) (w':=w') (by have:=HTL.out;have:=Z0.out;omega) Jv.out hb Oa (V7.out.trans (aM.of_below UR (fun _=>False)) (fun _ _ e=>e.elim)) ha);have KB8:=hid ((KB.out.fr V7.out (fun e=>by have e:S=S+1:=e;omega)).below UR);have d8:=KB8.out.cell 10 _ rfl;clear b8 UR hal Z7 Oa JC;rcases (by unfold kH;rcases Nat.eq_zero_or_pos k with h1 | h1;rotate_left;exact .inl ⟨by omega,by simp;omega⟩;rcases Nat.lt_or_ge 1 n with h2 | h2;exact .inr (.inl ⟨h1,h2,by simp [h1,h2]⟩);exact .inr (.inr ⟨h1,by omega,by simp;omega⟩):(k≠0/\kH n k=false)\/(k=0/\1<n/\kH n k=true)\/(k=0/\¬ 1<n/\kH n k=false)) with ⟨h1,hb⟩ | ⟨h1,h2,hb⟩ | ⟨h1,h2,hb⟩
     case' inl=>
      have q1:((k:Int)==0)=false:=by simp;omega
      have A2:=hid (A1.out false);have H2:=hid (HST.out false hb)
     case' inr.inl=>
      have q1:((k:Int)==0)=true:=by simp;omega
      have q2:decide ((1:Int)<(n:Int))=true:=by simp;omega
      have q3:decide (1<n)=true:=by simpa using h2
      have A2:=hid (A1.out true);have H2:=hid (HST.out true hb)
     case' inr.inr=>
      have q1:((k:Int)==0)=true:=by simp;omega
      have q2:decide ((1:Int)<(n:Int))=false:=by simp;omega
      have q3:decide (1<n)=false:=by simpa using h2
      have A2:=hid (A1.out false);have H2:=hid (HST.out false hb)
     all_goals
      have HHB:=hid hb;clear A1 HST h1 hb;go_wp2_with fail
      (with_reducible refine A2.out.mono ?_)
      rintro e w6 ha;have HF:=hid (H2.out _ _ ha);obtain ⟨rfl,-⟩:=ha;clear A2 H2;go_wp2;go_roundw;case rel=>exact HF.out
      case measure=>have:=Z0.out;simp [intOf];omega
  ·have hkn2:k=n:=by omega
   rw [hkn2] at hrow;obtain ⟨LL,iq⟩:∃ LL,LL=q0z p 1 (kH n) T n:=⟨_,rfl⟩;have hadd:bK p 1 (kH n) T=LL:=by rw [iq];unfold bK;rw [HTL.out];rfl
   have hln:LL.length=n:=by rw [iq];exact N9 _ _ _ _ _
   have han:∀ y∈LL,y.an=[]:=by rw [iq];exact kI _ _ _ _ _
   rw [<- iq] at hrow;obtain ⟨av,cv,rfl⟩:=q01 hrow.own;rw [jp5,hln] at hrow hcl;have l2:=hcl.cell 2 _ rfl;have FR:aM (fun b=>b=m\/vp.ownBlock=some b) w wr:=(aM.of_below B2.out _).trans hfr (fun b hb e=>by have e:b=S+1:=e;have:=HS.out;omega);have M5:=M2.out.fr hfr (fun e=>by have e:m=S+1:=e;have:=j6.out.1;omega) (fun b hb e=>by have e:b=S+1:=e;have:=j6.out.2 b hb;omega);have Rw:=KB.out.fr hfr (fun e=>by have e:S=S+1:=e;omega);have WM:Hid (V=(let r:=bO st LL [];if st.aV=true then r else (bQ r.1 ks,r.2))):=by show _=_;rw [gy.out,HTE.out,hadd]
   have RH:m<w2.heap.size:=by have:=j6.out.1;have:=Z2.out;omega
   have M4:∀ b,vp.ownBlock=some b->b<w2.heap.size:=fun b e=>by have:=j6.out.2 b e;have:=Z2.out;omega
   have hwN:w.heap.size<=w2.heap.size:=B2.out.size;have hvN:∀ b,(Value.slice av n cv).ownBlock=some b->w2.heap.size<=b:=fun b e=>(hrow.own.lt b e).1
   have QW:=hid hln;have ZR:=hid han;have Z8:=hid FR;have Wv:=hid Rw;have HG2:=HG.out;have hne:LL≠[]:=fun e=>by rw [e] at hln;simp at hln;omega
   clear iq hadd HTE gy;cases hfg:st.aV with
   | true=>
    have LF:=hid (kG m W st vp w2.heap.size wr.heap.size (.slice av n cv) (.slice none 0 0) LL [] (fun _=>False) wr M5 hne hrow han (Rd.aR _ _ _) (fun _ h=>h.elim) (by omega) (by omega) (by omega) (by simp;omega) RH M4);have HV:Hid (V=bO st LL []):=by show _=_;rw [WM.out];simp only;rw [if_pos hfg]
    have hst:(bO st LL []).2=st:=by rw [nR hfg]
    clear hcl hrow hfr FR M5 Rw hne hln han;go_wp2_with fail
    (with_reducible refine LF.out.mono ?_)
    rintro e w7 hlp;have HP:Hid (aI m W w vp V e w7):=by show aI _ _ _ _ _ _ _;rw [HV.out];exact aI.of hlp Z8.out hwN
    obtain ⟨Aj,YH,rfl,-,UU,-⟩:=hlp;rw [hst] at UU;have m4:=UU.cb.cell 4 _ rfl;rw [hfg] at m4;clear UU LF hst hfg;go_wp2;go_ret;exact HP.out
   | false=>
    obtain ⟨x0,L0,hx0⟩:∃ x0 L0,LL=x0::L0:=by
     cases LL with
     | nil=>exact absurd rfl hne
     | cons x L=>exact ⟨x,L,rfl⟩
    rw [hx0] at hrow han;have LF:=hid (Es m W st vp w2.heap.size wr.heap.size (.slice av n cv) (.slice none 0 0) x0 L0 [] (fun _=>False) wr M5 hfg hrow han (Rd.aR _ _ _) (fun _ h=>h.elim) (by omega) (by omega) (by rw [hx0] at hln;simp at hln;omega) (by simp;omega) RH M4);have HL0:=hid (show ∀ y∈L0,y.an=[] from fun y hy=>han y (List.mem_cons_of_mem _ hy));have HV:Hid (V=(bQ (bO st LL []).1 ks,(bO st LL []).2)):=by show _=_;rw [WM.out];simp only;rw [if_neg (by rw [hfg];decide)]
    have HX0:=hid hx0;have UJ:=hid hfg;clear hcl hrow hfr FR M5 Rw hne hln han hx0 WM;go_wp2_with fail
    (with_reducible refine LF.out.mono ?_)
    rintro e w7 ⟨rfl,va,JE,Z9,ja0,Cb,hf7⟩;obtain ⟨g,cap,hgv,-⟩:=eB JE.own (by rw [<- HX0.out];show 0<((bO st LL []).1.map Bx.d).length;rw [jp5,sG,QW.out];omega);obtain ⟨rfl,rfl⟩:av=some ⟨g,0,none⟩/\cv=cap:=by simp at hgv;exact ⟨hgv.1,hgv.2.2⟩
    obtain ⟨T0,UW⟩:=yN.RJ hwN Z8.out Cb UJ.out HL0.out JE Z9 (fun b hb=>ja0 b hb) hf7;rw [<- HX0.out] at T0 UW Cb;obtain ⟨L1,hL1⟩:∃ L1,L1=(bO st LL []).1:=⟨_,rfl⟩;obtain ⟨st1,Cc⟩:∃ st1,st1=(bO st LL []).2:=⟨_,rfl⟩;have Ob:st1.aV=false/\st1.pend=[]:=by rw [Cc];unfold bO;rw [if_neg (by rw [UJ.out];decide)];exact ⟨UJ.out,rfl⟩
    rw [<- hL1] at T0 UW HV;rw [<- Cc] at Cb HV;have hpl:∀ x∈L1,x.an.length<=1000000:=by
     intro x hx;rw [hL1,HX0.out] at hx;unfold bO at hx;rw [if_neg (by rw [UJ.out];decide)] at hx;rcases List.mem_cons.1 hx with rfl | hx
     ·show (st.pend++[]).length<=_;rw [jrx];omega
     ·obtain ⟨y,hy,rfl⟩:=List.mem_map.1 hx;show y.an.length<=_;rw [HL0.out y hy];exact Nat.zero_le _
    have m4:=Cb.cb.cell 4 _ rfl;rw [Ob.1] at m4;have KB7:=Wv.out.fr hf7 (fun e=>by
     have h1:=j6.out;rcases e with e | e | e
     ·omega
     ·have:=h1.2 _ e;omega
     ·have:=hvN _ e;have:=Z2.out;omega)
    have d10:=KB7.cell 10 _ rfl;obtain ⟨Oc,WO⟩:∃ Oc,Oc=[Value.int .i64 W,.int .i64 (st1.groups:Int),.slice none 0 0,.int .i64 (st1.count:Int),.bool st1.aV,.int .i64 (st1.err:Int)]:=⟨_,rfl⟩;have ja1:CB 84 m Oc w7:=by rw [WO];exact Cb.cb
    have ja2:L1.length=ks.length:=by have:=HN.out;omega
    have R3:Hid (TdR m w2.heap.size g cv w vp Oc L1 ks (.int .i64 0) w7):=⟨0,_,Nat.zero_le _,rfl,by rw [Od];exact T0,ja1⟩;have BJ:=hid hpl;have Ce:=hid ja2;have jh8:=hid Ob;have jh9:=hid WO;have HMW:Hid (m<w.heap.size):=by have:=j6.out.1;have:=HS.out;show m<w.heap.size;omega
    have HCV:Hid (n<=cv):=by
     rcases JE.own.2 with ⟨h,_⟩ | ⟨g',cap',cur,h,_,_,h5,_⟩
     ·simp at h
     ·simp only [Value.slice.injEq] at h;rw [jp5,sG,<- HX0.out,QW.out] at h5;show n<=cv;omega
    clear JE Z9 ja0 Cb hf7 hgv T0 UW hL1 Cc Ob hpl KB7 WO ja1 ja2 LF hfg;have hcv:=HCV.out;go_wp2;obtain ⟨w7',jn3⟩:∃ w7':js1,w7'=w7:=⟨_,rfl⟩;obtain ⟨wq0,jhj⟩:∃ wq0:js1,wq0=wr:=⟨_,rfl⟩;subst jhj
    go_loopw [63] (fun vi wr=>TdR m w2.heap.size g cv w vp Oc L1 ks vi wr) (fun vi _=>n-(intOf vi).toNat)
    case atStart=>exact R3.out
    case round=>
     clear R3;obtain ⟨k2,dY,hk2,rfl,hT,hmc⟩:=hrel;have jn4:k2<=n:=by have:=HN.out;omega
     have hb2:js2 w0.heap.size w0 wr:=qE.out.lH hT.fr (fun b e=>by
      rcases e with e | e
      ·omega
      ·exact (qE.out.l8.own.lt b e).1)
     by_cases hlt2:k2<n
     ·obtain ⟨y,hy⟩:∃ y,ks[k2]?=some y:=⟨_,joq (by have:=HN.out;omega)⟩;obtain ⟨x2,hx2⟩:∃ x2,L1[k2]?=some x2:=⟨_,joq (by have:=HN.out;have:=Ce.out;omega)⟩;have NZ:=HSM.out y (jpk hy);have hyv:=ah.qI ks k2 y hy;have WQ:=Oe Ce.out hx2 hy;have hxK:=RN Ce.out hx2;have hxa:=BJ.out x2 (jpk hx2);obtain ⟨yk,yM,yi,yt,yd,uI,uJ,JB,iC⟩:=y;obtain ⟨ga,off,vc,dO,vl,vk,rfl,hok,hbl,hc,hRy⟩:=dH ZW.out hy;obtain ⟨c0,c1,c2,c3,c4,c5,c6,c7,c8,c9,c10⟩:=hc.at2 (w':=wr) (hb2.block ga hok);obtain ⟨KZ,K7,K8,rfl⟩:=Rd.au hRy.at_.cls
      obtain ⟨La,Lb,Lc,rfl⟩:=Rd.au hRy.at_.aJ
      obtain ⟨Ld,Le,Lf,rfl⟩:=Rd.au hRy.line;obtain ⟨Er,Ca,N7,o8⟩:=Rd.aC hRy.kids;obtain ⟨nk,hnk⟩:∃ nk,nk=iC.length:=⟨_,rfl⟩;obtain rfl:vk=.slice Er nk Ca:=by rw [hnk];simpa using N7
      have ZX:nk<=Ca:=by have:=o8.le;rw [jp5] at this;omega
      have WK:=o8.max;unfold maxLen at WK;have ZY:nk<=1000000:=by rw [ah.bM] at hyv;have:=iR iC;have:=Gs.out;omega
      obtain ⟨Q,hQ⟩:∃ Q,Q=wr.heap.size:=⟨_,rfl⟩;obtain ⟨wA,dX⟩:∃ wA,wA=wr.alloc (.cells #[.int .i64 yk,.int .i64 yM,.string yi,.string yt,.string yd,.string uI,.string uJ.id,.slice KZ K7 K8,.slice La Lb Lc,.slice Ld Le Lf,.slice Er nk Ca] 40):=⟨_,rfl⟩;have kQ:CB 40 Q [.int .i64 yk,.int .i64 yM,.string yi,.string yt,.string yd,.string uI,.string uJ.id,.slice KZ K7 K8,.slice La Lb Lc,.slice Ld Le Lf,.slice Er nk Ca] wA:=by rw [dX,hQ];exact CB.new _ _ _
      have bA:js2 wr.heap.size wr wA:=by rw [dX];exact (jox _ _).alloc (joz _) _
      have e10:=kQ.cell 10 _ rfl;obtain ⟨K2,hK2⟩:∃ K2,K2=M6 L1 ks k2:=⟨_,rfl⟩;rw [<- hK2] at WQ hxK hT;have hKl:K2.length=n:=by rw [hK2,RO _ _ Ce.out,Ce.out,HN.out]
      have UY:K2.set k2 { x2 with an:=x2.an++lZ (iC.take 0) }=K2:=by
       have e:({ x2 with an:=x2.an++lZ (iC.take 0) }:Bx)=x2:=by obtain ⟨t1,t2,t3,t4,t5,t6⟩:=x2;simp [lZ]
       rw [e];have h1:=(List.getElem?_eq_some_iff.1 hxK);obtain ⟨h1,h2⟩:=h1;rw [<- h2];exact List.set_getElem_self h1
      have R4:Hid (TeR m w2.heap.size g cv w vp Oc K2 k2 x2 iC (.int .i64 0) wA):=⟨0,dY,Nat.zero_le _,rfl,by rw [UY];exact hT.below bA,hmc.below bA⟩;have jhk:=hid WQ;have HXA:=hid hxa;have RD:=hid NZ;have WL:=hid o8;have JD:=hid hnk;have HKL:=hid hKl;have HK2:=hid hK2;have ja3:=hid hlt2;have jhq:=hid ZY;clear WQ hxK hxa NZ o8 hnk hKl hK2 UY hy hx2 hyv hc hRy N7 hok hb2 hT hmc kQ bA hbl;go_upto_region 18 with (fail)
      rw [<- dX,<- hQ];clear dX hQ c0 c1 c2 c3 c4 c5 c6 c7 c8 c9 c10;obtain ⟨wO2,jhx⟩:∃ wO2:js1,wO2=wr:=⟨_,rfl⟩;subst jhx;go_wp2
      go_loopw [71] (fun vi wr=>TeR m w2.heap.size g cv w vp Oc K2 k2 x2 iC vi wr) (fun vi _=>nk-(intOf vi).toNat)
      case atStart=>exact R4.out
      case round=>
       clear R4;obtain ⟨j,WT,hj,rfl,hT,hmc⟩:=hrel;by_cases hjt:j<nk
       ·obtain ⟨c,hc⟩:∃ c,iC[j]?=some c:=⟨_,joq (by have:=JD.out;omega)⟩;have hb3:js2 w0.heap.size w0 wr:=qE.out.lH hT.fr (fun b e=>by
         rcases e with e | e
         ·omega
         ·exact (qE.out.l8.own.lt b e).1)
        have Lg:=RD.out c (jpk hc);have hcs:=Hr hc;have jhz:=Li iC (fun c hc=>(RD.out c hc).2) j;obtain ⟨ck,RF,ci,ct,cd,RG,uK,cli,cks⟩:=c;obtain ⟨gc,jh7,wvc,wvp,wvl,wvk,rfl,hok,hbl,hcc,Lh⟩:=dH WL.out hc;obtain ⟨c0,c1,c2,c3,c4,c5,c6,c7,c8,c9,c10⟩:=hcc.at2 (w':=wr) (hb3.block gc hok);obtain ⟨b1,b2,b3,rfl⟩:=Rd.au Lh.at_.cls
        obtain ⟨b4,b5,b6,rfl⟩:=Rd.au Lh.at_.aJ
        obtain ⟨b7,YJ,b9,rfl⟩:=Rd.au Lh.line;obtain ⟨b10,b11,b12,rfl⟩:=Rd.au Lh.kids;obtain ⟨q2,hq2⟩:∃ q2,q2=wr.heap.size:=⟨_,rfl⟩;obtain ⟨wC,vY⟩:∃ wC,wC=wr.alloc (.cells #[.int .i64 ck,.int .i64 RF,.string ci,.string ct,.string cd,.string RG,.string uK.id,.slice b1 b2 b3,.slice b4 b5 b6,.slice b7 YJ b9,.slice b10 b11 b12] 40):=⟨_,rfl⟩;have kC:CB 40 q2 [.int .i64 ck,.int .i64 RF,.string ci,.string ct,.string cd,.string RG,.string uK.id,.slice b1 b2 b3,.slice b4 b5 b6,.slice b7 YJ b9,.slice b10 b11 b12] wC:=by rw [vY,hq2];exact CB.new _ _ _
        have bC:js2 wr.heap.size wr wC:=by rw [vY];exact (jox _ _).alloc (joz _) _
        obtain ⟨WU,RQ⟩:∃ WU,WU=x2.an++lZ (iC.take j):=⟨_,rfl⟩;rw [<- RQ] at hT;have hkx:(K2.set k2 { x2 with an:=WU })[k2]?=some { x2 with an:=WU }:=List.getElem?_set_self (by have:=HKL.out;omega);obtain ⟨va,hvk⟩:∃ va,WT[k2]?=some va:=⟨_,joq (by have h:=hT.len;rw [List.length_set] at h;have:=HKL.out;omega)⟩;have bD:js2 wr.heap.size wr wC.drew:=bC.drew;have TBC:=hid (hT.below bD);have HKC:=hid (show CB 40 q2 _ wC.drew from kC);have ji0:=hid (hmc.below bD);have RS:=hid hkx;have zm:=hid hvk;have AC:=hid (oN ck RF ci ct cd RG uK cli cks (.slice b1 b2 b3) (.slice b4 b5 b6) (.slice b7 YJ b9) (.slice b10 b11 b12) wC.drew (Lh.to (hb3.trans (bD.mono hb3.size))) (by have:=Lg.2;simp only [kZ] at this;omega));have HOWN:=hid (show (aW uK cli).length<=1001 by
         have:=Lg.2;simp only [kZ] at this;unfold aW ig;rw [jp4];split<;>simp<;>omega)
        have HXL:=hid (show WU.length<=2000000000 by rw [RQ,jp4];have:=HXA.out;have:=jhq.out;omega);have SF:=hid (fun (w':js1) (h5:w'.cell? ⟨g,k2*6+5,none⟩=some va) (hb:CB 40 q2 [.int .i64 ck,.int .i64 RF,.string ci,.string ct,.string cd,.string RG,.string uK.id,.slice b1 b2 b3,.slice b4 b5 b6,.slice b7 YJ b9,.slice b10 b11 b12] w')=>(⟨h5,hb.cell 0 _ rfl,hb.cell 1 _ rfl,hb.cell 2 _ rfl,hb.cell 3 _ rfl,hb.cell 4 _ rfl,hb.cell 5 _ rfl,hb.cell 6 _ rfl,hb.cell 7 _ rfl,hb.cell 8 _ rfl,hb.cell 9 _ rfl,hb.cell 10 _ rfl⟩:(fun w'=>w'.cell? ⟨g,k2*6+5,none⟩=some va/\w'.cell? ⟨q2,0,none⟩=some (.int .i64 ck)/\w'.cell? ⟨q2,1,none⟩=some (.int .i64 RF)/\w'.cell? ⟨q2,2,none⟩=some (.string ci)/\w'.cell? ⟨q2,3,none⟩=some (.string ct)/\w'.cell? ⟨q2,4,none⟩=some (.string cd)/\w'.cell? ⟨q2,5,none⟩=some (.string RG)/\w'.cell? ⟨q2,6,none⟩=some (.string uK.id)/\w'.cell? ⟨q2,7,none⟩=some (.slice b1 b2 b3)/\w'.cell? ⟨q2,8,none⟩=some (.slice b4 b5 b6)/\w'.cell? ⟨q2,9,none⟩=some (.slice b7 YJ b9)/\w'.cell? ⟨q2,10,none⟩=some (.slice b10 b11 b12)) w'));have S0:=SF.out wC.drew (TBC.out.cell RS.out zm.out) HKC.out;have Jw:=hid hcs;have ji1:=hid RQ;have Z4:=hid hjt;have hn2:=hlt2;clear hc hb3 Lg hcs jhz hcc Lh hok hbl kC bC bD hT hmc hkx hvk RQ;go_upto_region 21 with (fail)
        rw [<- vY,<- hq2];clear vY hq2 c0 c1 c2 c3 c4 c5 c6 c7 c8 c9 c10;refine gW 12 (fun w'=>w'.cell? ⟨g,k2*6+5,none⟩=some va/\w'.cell? ⟨q2,0,none⟩=some (.int .i64 ck)/\w'.cell? ⟨q2,1,none⟩=some (.int .i64 RF)/\w'.cell? ⟨q2,2,none⟩=some (.string ci)/\w'.cell? ⟨q2,3,none⟩=some (.string ct)/\w'.cell? ⟨q2,4,none⟩=some (.string cd)/\w'.cell? ⟨q2,5,none⟩=some (.string RG)/\w'.cell? ⟨q2,6,none⟩=some (.string uK.id)/\w'.cell? ⟨q2,7,none⟩=some (.slice b1 b2 b3)/\w'.cell? ⟨q2,8,none⟩=some (.slice b4 b5 b6)/\w'.cell? ⟨q2,9,none⟩=some (.slice b7 YJ b9)/\w'.cell? ⟨q2,10,none⟩=some (.slice b10 b11 b12)) (by kernel_rfl) S0 ?_;intro hH;refine gI 0 rfl (by kernel_rfl) hH (by rfl) (by intro wv hSw;(obtain ⟨e5,z0,z1,z2,z3,z4,z5,z6,z7,z8,z9,RU⟩:=hSw);go_simp;try with_reducible rfl) ?_;refine gI 1 rfl (by kernel_rfl) hH (by rfl) (by intro wv hSw;(obtain ⟨e5,z0,z1,z2,z3,z4,z5,z6,z7,z8,z9,RU⟩:=hSw);go_simp;try with_reducible rfl) ?_;refine gI 2 rfl (by kernel_rfl) hH (by rfl) (by intro wv hSw;(obtain ⟨e5,z0,z1,z2,z3,z4,z5,z6,z7,z8,z9,RU⟩:=hSw);go_simp;try with_reducible rfl) ?_;refine gI 3 rfl (by kernel_rfl) hH (by rfl) (by intro wv hSw;(obtain ⟨e5,z0,z1,z2,z3,z4,z5,z6,z7,z8,z9,RU⟩:=hSw);go_simp;try with_reducible rfl) ?_;refine gI 4 rfl (by kernel_rfl) hH (by rfl) (by intro wv hSw;(obtain ⟨e5,z0,z1,z2,z3,z4,z5,z6,z7,z8,z9,RU⟩:=hSw);go_simp;try with_reducible rfl) ?_;refine gI 5 rfl (by kernel_rfl) hH (by rfl) (by intro wv hSw;(obtain ⟨e5,z0,z1,z2,z3,z4,z5,z6,z7,z8,z9,RU⟩:=hSw);go_simp;try with_reducible rfl) ?_;refine gI 6 rfl (by kernel_rfl) hH (by rfl) (by intro wv hSw;(obtain ⟨e5,z0,z1,z2,z3,z4,z5,z6,z7,z8,z9,RU⟩:=hSw);go_simp;try with_reducible rfl) ?_;refine gI 7 rfl (by kernel_rfl) hH (by rfl) (by intro wv hSw;(obtain ⟨e5,z0,z1,z2,z3,z4,z5,z6,z7,z8,z9,RU⟩:=hSw);go_simp;try with_reducible rfl) ?_;try simp only [Act.put,jo9,joj,jok]
        refine Gu (i:=8) rfl (by kernel_rfl) (fun KQ hK=>?_);go_simp;go_at_call 142
        (with_reducible refine AC.out.mono ?_)
        rintro e w8 ⟨v8,rfl,Ao,b8⟩;obtain ⟨a8,c8,rfl⟩:=q01 Ao;have ji2:=Reads.bV Ao;have TB8:=TBC.out.below b8;have KC8:=HKC.out.below b8;have S8:=SF.out w8 (TB8.cell RS.out zm.out) KC8;have sH:=hid TB8;have ja4:=hid KC8;have ji3:=hid (ji0.out.below b8);have HB8:=hid b8;refine hK.out _ _ (fun _ _=>S8) (fun hH2=>?_);clear hK KQ hH;have hH:=hH2 (by decide) (by kernel_rfl);clear hH2;try simp only [Act.put,jo9,joj,jok]
        try simp only [Act.put,jo9,joj,jok]
        refine Gu (i:=9) rfl (by kernel_rfl) (fun KQ hK=>?_);refine uE _ rfl (.tmp 81) (.tmp 83) 35 rfl m 9 iS _ 1 16 Tryz.underlying35 Hl oV oW oZ rfl (by decide) va WU.length (WU.map Value.string) rfl (sH.out.each k2 _ va RS.out zm.out) _ a8 (aW uK cli).length c8 _ rfl ji2 ?c1 ?c2 ?c3 ?c4 ?_;case c1=>intro u hu;obtain ⟨s,_,rfl⟩:=List.mem_map.1 hu;rfl
        case c2=>have:=HXL.out;have:=HOWN.out;unfold maxLen;omega
        case c3=>have:=HXL.out;have:=HOWN.out;omega
        case c4=>have:=sH.out.fr.size;have:=HMW.out;omega
        intro v9 w9 Og YK ja5;have TB9:=sH.out.push (M:=aW uK cli) RS.out zm.out (jox _ _) Og YK ja5;have MC9:=sH.out.maker (zn:=v9) RS.out zm.out (jox _ _) YK ji3.out;have c5w:w9.cell? ⟨g,k2*6+5,none⟩=some va:=by have h1:=sH.out.cell RS.out zm.out;have hg1:=sH.out.gl;have WV:=sH.out.each k2 _ va RS.out zm.out;rw [iZ (YK.block g hg1.2 (fun e=>iM WV sH.out.own (by decide) g e.symm rfl))];exact h1
        have f5w:w9.frozen? ⟨g,k2*6+5,none⟩=false:=by have hg1:=sH.out.gl;have WV:=sH.out.each k2 _ va RS.out zm.out;rw [D9 (YK.block g hg1.2 (fun e=>iM WV sH.out.own (by decide) g e.symm rfl))];exact sH.out.own.frozenAt (k2*6+5)
        have KC9:=ja4.out.fr (aM.grown YK) (fun e=>oz (sH.out.each k2 _ va RS.out zm.out) ja4.out (by decide) e);have S9:=SF.out w9 c5w KC9;obtain ⟨g9,n9,c9,rfl⟩:∃ a n c,v9=.slice a n c:=by obtain ⟨a,c,e⟩:=q01 Og;exact ⟨a,_,c,e⟩
        clear Og YK ja5 KC9;refine hK.out _ _ (fun _ _=>S9) (fun hH2=>?_);clear hK KQ hH;have hH:=hH2 (by decide) (by kernel_rfl);clear hH2;try simp only [Act.put,jo9,joj,jok]
        refine gI 10 rfl (by kernel_rfl) hH (by rfl) (by intro wv hSw;(obtain ⟨e5,z0,z1,z2,z3,z4,z5,z6,z7,z8,z9,RU⟩:=hSw);go_simp;try with_reducible rfl) ?_;refine gI 11 rfl (by kernel_rfl) hH (by rfl) (by intro wv hSw;(obtain ⟨e5,z0,z1,z2,z3,z4,z5,z6,z7,z8,z9,RU⟩:=hSw);go_simp;try with_reducible rfl) ?_;try simp only [Act.put,jo9,joj,jok]
        refine Gu (i:=12) rfl (by kernel_rfl) (fun KQ hK=>?_);go_simp;refine hK.out _ _ (fun h _=>absurd rfl h) (fun _=>?_);clear hK KQ;refine gX (by kernel_rfl) ?_ _;have HF:=hid TB9;have HF2:=hid MC9;clear TB9 MC9 c5w f5w S9 S8 S0;go_wp2;go_roundw;case rel=>
         refine ⟨j+1,WT.set k2 (.slice g9 n9 c9),by have:=Z4.out;have:=JD.out;omega,rfl,?_,HF2.out⟩;have h:=HF.out;rw [List.set_set] at h;rw [Jw.out,<- List.append_assoc,<- ji1.out];exact h
        case measure=>have:=Z4.out;simp [intOf];omega
       ·have hjn:j=nk:=by have:=JD.out;omega
        have hT2:=hT;rw [hjn,JD.out,List.take_length,show lZ iC=uG (.mk yk yM yi yt yd uI uJ JB iC) from rfl,jhk.out] at hT2;have HF:=hid hT2;have HF2:=hid hmc;clear hT hT2 hmc;go_wp2;go_roundw;case rel=>exact ⟨k2+1,WT,by have:=ja3.out;have:=HN.out;omega,rfl,HF.out,HF2.out⟩
        case measure=>have:=ja3.out;simp [intOf];omega
     ·have ji4:k2=ks.length:=by have:=HN.out;omega
      rw [ji4,<- Ce.out,RX L1 ks Ce.out] at hT;have hlen:(bQ L1 ks).length=n:=by rw [nS _ _ Ce.out,Ce.out,HN.out]
      have hrw:=hT.row;rw [hlen] at hrw;have HP:Hid (aI m W w vp V (.returned (.slice (some ⟨g,0,none⟩) n cv)) wr):=by show aI _ _ _ _ _ _ _;rw [HV.out];refine ⟨_,_,.slice none 0 0,rfl,hrw.weaken (fun b h=>⟨h,by simp [Value.ownBlock]⟩),⟨by rw [<- jh9.out];exact hmc,?_⟩,fun _=>.inr rfl,fun b e=>by simp [Value.ownBlock] at e,hT.fr⟩;rw [jh8.out.2];exact Nv _ _ _ _
      clear hT hmc hrw hlen;go_wp2;go_ret;exact HP.out
open Go.RowKit
theorem RY (m:Nat) (W:Int) (w0:js1) (st:St) (vp:Value) (p:Px) (lv:Int) (i t d ti:ByteArray) (at_:At) (li:List aj) (ks:List ah) (vc dO vl vk:Value) (w:js1) (hin:jH m W w0 st vp p (ah.mk 13 lv i t d ti at_ li ks).bM w) (hR:rQ (·<w0.heap.size) w0 at_ li ks vc dO vl vk) (hB:gV m W w0 ks) (hi:i=D5) (hT:iP (ah.aK ks) (ah.bX W { st with aV:=true } p ks).1) (DF:∀ b∈(ah.mk 13 lv i t d ti at_ li ks).each,BX b) : Calls Tryz.prog 99 #[.pointer (some ⟨m,0,none⟩),.agg #[.int .i64 13,.int .i64 lv,.string i,.string t,.string d,.string ti,.string at_.id,vc,dO,vl,vk],.agg #[.string p.first,.string p.rest]] w (aI m W w vp (ah.dG W st p (.mk 13 lv i t d ti at_ li ks))):=by
 obtain ⟨ac,nc,cc,rfl⟩:=Rd.au hR.at_.cls
 obtain ⟨ap,np,cp,rfl⟩:=Rd.au hR.at_.aJ
 obtain ⟨al,nl,cl,rfl⟩:=Rd.au hR.line;obtain ⟨ak,nk,ck,rfl⟩:=Rd.au hR.kids;obtain ⟨S,q,w3,hS,hq,hw3,kb,kp,kl,b3,z3⟩:=qK w [.int .i64 13,.int .i64 lv,.string i,.string t,.string d,.string ti,.string at_.id,.slice ac nc cc,.slice ap np cp,.slice al nl cl,.slice ak nk ck] p.first p.rest
 have hv:(ah.mk 13 lv i t d ti at_ li ks).bM=30+i.size+2*t.size+2*(aj.ay li).length+(bJ (aj.aA li)).length+ah.aK ks:=by rw [ah.bM]
 have hfit:=hin.fit;rw [hv] at hfit;obtain ⟨g1,g2,g3,g4,g5⟩:=hfit;have Lj:=hid (hin.up b3);have HR:=hid hR;have KB:=hid kb;have KP:=hid kp;have B3:=hid b3;have HS:=hid hS;have d0:=kb.cell 0 _ rfl;have e0:=kp.cell 0 _ rfl;have e1:=kp.cell 1 _ rfl;have DV:=hid (KV m W w0 st vp p lv i t d ti at_ li ks (.slice ac nc cc) (.slice ap np cp) (.slice al nl cl) (.slice ak nk ck) w3 (hin.up b3) hR hB hi hT DF);have d1:=kb.cell 1 _ rfl;have d2:=kb.cell 2 _ rfl;have d3:=kb.cell 3 _ rfl;have d4:=kb.cell 4 _ rfl;have d5:=kb.cell 5 _ rfl;have d6:=kb.cell 6 _ rfl;have d7:=kb.cell 7 _ rfl;have d8:=kb.cell 8 _ rfl;have d9:=kb.cell 9 _ rfl;have d10:=kb.cell 10 _ rfl;have l0:=kl.cell 0 _ rfl;have l1:=kl.cell 1 _ rfl;have l2:=kl.cell 2 _ rfl;have hif:(i.toList==[102,105,103,117,114,101])=true:=by rw [hi,Lib.toList_data];rfl
 clear hB hi hT DF;clear kb kp kl b3 z3 hv g3 g4 g5 hR hin;go_enter Tryz.func99,Tryz.ntmps99;go_upto_region 2 with (fail)
 rw [<- hw3,<- hS,<- hq];clear hw3 hS hq;go_wp2_with fail
 (with_reducible refine DV.out.mono ?_)
 rintro e w5 h5;have HP:=hid (h5.from_ B3.out);obtain ⟨v5,kJ,gJ,rfl,qL,-⟩:=h5;obtain ⟨a5,n5,c5,hv5⟩:∃ a n c,v5=.slice a n c:=by obtain ⟨a,c,e⟩:=q01 qL.own;exact ⟨a,_,c,e⟩
 subst hv5;clear qL;go_wp2;go_ret;exact HP.out
theorem Ll (m:Nat) (W:Int) (w0:js1) (st:St) (vp:Value) (p:Px) (lv:Int) (i t d ti:ByteArray) (at_:At) (li:List aj) (ks:List ah) (vc dO vl vk:Value) (w:js1) (hin:jH m W w0 st vp p (ah.mk 10 lv i t d ti at_ li ks).bM w) (hR:rQ (·<w0.heap.size) w0 at_ li ks vc dO vl vk) (hne:ks≠[]) (hsm:∀ r∈ks,∀ c∈ze r,(aj.ay (kZ c)).length<=100000/\(bJ (aj.aA (kZ c))).length<=1000) : Calls Tryz.prog 99 #[.pointer (some ⟨m,0,none⟩),.agg #[.int .i64 10,.int .i64 lv,.string i,.string t,.string d,.string ti,.string at_.id,vc,dO,vl,vk],.agg #[.string p.first,.string p.rest]] w (aI m W w vp (ah.dG W st p (.mk 10 lv i t d ti at_ li ks))):=by
 obtain ⟨ac,nc,cc,rfl⟩:=Rd.au hR.at_.cls
 obtain ⟨ap,np,cp,rfl⟩:=Rd.au hR.at_.aJ
 obtain ⟨al,nl,cl,rfl⟩:=Rd.au hR.line;obtain ⟨ak,nk,ck,rfl⟩:=Rd.au hR.kids;obtain ⟨S,q,w3,hS,hq,hw3,kb,kp,kl,b3,z3⟩:=qK w [.int .i64 10,.int .i64 lv,.string i,.string t,.string d,.string ti,.string at_.id,.slice ac nc cc,.slice ap np cp,.slice al nl cl,.slice ak nk ck] p.first p.rest
 have hv:(ah.mk 10 lv i t d ti at_ li ks).bM=30+i.size+2*t.size+2*(aj.ay li).length+(bJ (aj.aA li)).length+ah.aK ks:=by rw [ah.bM]
 have hfit:=hin.fit;rw [hv] at hfit;obtain ⟨g1,g2,g3,g4,g5⟩:=hfit;have Lj:=hid (hin.up b3);have HR:=hid hR;have KB:=hid kb;have KP:=hid kp;have B3:=hid b3;have HS:=hid hS;have d0:=kb.cell 0 _ rfl;have e0:=kp.cell 0 _ rfl;have e1:=kp.cell 1 _ rfl;have DV:=hid (KY m W w0 st vp p lv i t d ti at_ li ks (.slice ac nc cc) (.slice ap np cp) (.slice al nl cl) (.slice ak nk ck) w3 (hin.up b3) hR hne hsm (by rw [hv];omega));have d1:=kb.cell 1 _ rfl;have d2:=kb.cell 2 _ rfl;have d3:=kb.cell 3 _ rfl;have d4:=kb.cell 4 _ rfl;have d5:=kb.cell 5 _ rfl;have d6:=kb.cell 6 _ rfl;have d7:=kb.cell 7 _ rfl;have d8:=kb.cell 8 _ rfl;have d9:=kb.cell 9 _ rfl;have d10:=kb.cell 10 _ rfl;have l0:=kl.cell 0 _ rfl;have l1:=kl.cell 1 _ rfl;have l2:=kl.cell 2 _ rfl;clear hne hsm;clear kb kp kl b3 z3 hv g3 g4 g5 hR hin;go_enter Tryz.func99,Tryz.ntmps99;go_upto_region 2 with (fail)
 rw [<- hw3,<- hS,<- hq];clear hw3 hS hq;go_wp2_with fail
 (with_reducible refine DV.out.mono ?_)
 rintro e w5 h5;have HP:=hid (h5.from_ B3.out);obtain ⟨v5,kJ,gJ,rfl,qL,-⟩:=h5;obtain ⟨a5,n5,c5,hv5⟩:∃ a n c,v5=.slice a n c:=by obtain ⟨a,c,e⟩:=q01 qL.own;exact ⟨a,_,c,e⟩
 subst hv5;clear qL;go_wp2;go_ret;exact HP.out
end Go.Proofs.YtdneicipdlofiaaGreatDoor

