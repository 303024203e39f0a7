/- Contract of html.Blocks: the nodes of blocks, with their notes behind them, or the error. -/
import Derived.Test.YtclikfjalmcoaaaGreatDoorJHtY
import Derived.Test.YtclikfjalmcoaaaGreatDoorJHwL
set_option maxHeartbeats 8000000
set_option maxRecDepth 100000
open Go.Lib (hid)
namespace Go.Proofs.YtclikfjalmcoaaaGreatDoor
open List renaming setIfInBounds_toArray->jc3,set_cons_zero->jc4,set_cons_succ->jc5,length_map->jcx
open Go.World renaming size_alloc->jd5
open Go.RowKit Go.Shelf
set_option linter.unusedVariables false
set_option linter.unusedSimpArgs false
attribute [local go_sem] Oper.semAt_some
theorem sS.ok {S Bb N0:Nat} (h1:S<=Bb) (h2:Bb<N0):Kv S (sS Bb N0) where
 below h:=h.below h1 h2
 S9 h hb:=(h.UK _ _ _ _ hb (by decide) (by decide)).trans hb
 Rv h hb:=(h.UK _ _ _ _ hb (by decide) (by decide)).trans hb
theorem Rs.yE {Bb N0:Nat} {L:List Nd} {W W':World} {row:Option Nat} (h:Rs Bb N0 L W) (hB:Bb<N0) (hg:W.grownBy W' row) (hr:∀ r,row=some r->N0<=r/\∃ o:Obj,W.heap[r]?=some o/\o.isCells=false):Rs Bb N0 L W':=by obtain ⟨wB,rows,v,h1,h2,h3⟩:=h;refine ⟨wB,rows,v,h1,(h2.yE hg (fun r e=>⟨by have:=(hr r e).1;omega,(hr r e).2⟩)).up hg.size (Nat.le_refl _),?_⟩;exact (hg.block Bb h3.lt (fun e=>by have:=(hr Bb e.symm).1;omega)).trans h3
theorem EO {c:Code} {Q:Exit->Act->World->Prop} {a:Act} {w:World} (h:c.wp Tryz.prog (fun e a w=>(∀ x,e≠Exit.panic x)/\Q e a w) a w):c.wp Tryz.prog Q a w:=Code.wp_mono (fun _ _ _ h=>h.2) h
def Nv (b:au):Prop:=b.iOf.size<=300/\(b.Ta=14->au.jT b.kids/\au.aU b.kids<=900000)
def BV.cs (x:BV):List Value:=[.int .i64 x.kd,.int .i64 x.lv,.string x.i,.string x.t,.string x.d,.string x.ti,.string x.at_.id,x.vc,x.vp,x.vl,x.vk]
def UQ (Bb:Nat):Value:=.func (.func 56) #[] #[.pointer (some ⟨Bb,0,none⟩)]
def Pw (Bb Bf Bl:Nat) (s o v2:Value) (E:Int) (x:BV) (Bx:Nat):Act:={ tmps:=#[s,undef,.slice none 0 0,.int .i64 0,.int .i64 E,.pointer (some ⟨Bb,0,none⟩),o,.pointer (some ⟨Bf,0,none⟩),.pointer (some ⟨Bx,0,none⟩),s,.int .i64 E,.int .i64 E,.bool false,undef,s,v2,.bool false,s,o,UQ Bb,s,.func (.func 107) #[] #[.pointer (some ⟨Bl,0,none⟩)],x.enc,undef,undef,undef,undef,undef,undef,undef,undef,undef,undef,undef,undef,undef,undef,undef,undef,undef,undef,undef,undef,undef],defers:=[] }
def W9 (N0 Bb Bf Bl:Nat) (s o v2:Value) (E:Int) (x:BV) (a':Act) (W:World):Prop:=∃ Bx,N0<=Bx/\CB 30 Bx x.cs W/\a'=Pw Bb Bf Bl s o v2 E x Bx
theorem W9.own {N0 Bb Bf Bl B:Nat} {s o v2:Value} {E:Int} {x:BV} {a':Act}:OwnFrom B (fun (_:Unit) W=>W9 N0 Bb Bf Bl s o v2 E x a' W):=fun _ W W' row ⟨Bx,h1,h2,h3⟩ hg hr=>
 ⟨Bx,h1,(hg.block Bx h2.lt (fun e=>by
  obtain ⟨_,o,k1,k2⟩:=hr Bx e.symm;unfold CB at h2;rw [h2] at k1;cases k1;cases k2)).trans h2,h3⟩
def Px (Bb N0 S:Nat) (w W0:World) (pre:List (BW S w Nv)) (W:World):Prop:=Rs Bb N0 ((tH pre).flatMap gZ) W/\sS Bb N0 W0 W
theorem Px.own {Bb N0 S:Nat} {w W0:World} (hB:Bb<N0) (hz:N0=W0.heap.size):OwnFrom N0 (Px Bb N0 S w W0):=fun s W W' row h hg hr=>
 ⟨h.1.yE hB hg hr,h.2.trans (sS.grown hg (by have:=h.2.size;omega) hr)⟩
theorem Kw {fn:Func} {R:Ending->World->Prop} {a:Act} {w:World} {v:Value} (hd:a.defers=[]) (hr:(results fn a.tmps).run Tryz.prog w=.ok v w) (h:R (.returned v) w):bodyPostM Fence.wide 3 Tryz.prog fn R .ret a w:=by show LeavesInM _ _ _ _ _ _ a.defers _ _;rw [hd];unfold LeavesInM LeavesIn;exact ⟨v,hr,h⟩
theorem KD {n:Nat} {fn:Func} {R:Ending->World->Prop} {a:Act} {w:World} {v:Value} {D:Nat} (hd:a.defers=[{ target:=.collected D,args:=#[] }]) (hf:w.heap[D]?=some (.deferred (some []))) (hr:∀ w',(results fn a.tmps).run Tryz.prog w'=.ok v w') (h:R (.returned v) (w.putObj D (.deferred none))):bodyPostM Fence.wide n Tryz.prog fn R .ret a w:=by show LeavesInM _ _ _ _ _ _ a.defers _ _;rw [hd];refine ⟨by simp,.inl ⟨D,_,rfl,run_takeDeferred hf,?_⟩⟩;exact ⟨v,hr _,h⟩
theorem bI.UR {w W:World} {E:Nat} {L:List Nd} {v:Value} {D:Nat} (h:bI w E L (.returned v) W) (hD:w.heap.size<=D) (hf:W.heap[D]?=some (.deferred (some []))):bI w E L (.returned v) (W.putObj D (.deferred none)):=by obtain ⟨rows,v',he,hr⟩:=h;have hg:=grownBy_putObj' W D (.deferred none);exact ⟨rows,v',he,(hr.yE hg (fun r e=>by cases e;exact ⟨hD,_,hf,rfl⟩)).up hg.size (Nat.le_refl _)⟩
theorem zL (l:List au) (v:Value) (w:World) (hrd:Rd (·<w.heap.size) w (dB l) [v]) (hsm:au.aC l) (hsz:au.aU l<=900000) (hil:(au.aV l).length<=1000) (hbd:au.qI l) (ht:PT w) : Calls Tryz.prog 20 #[v] w (bI w (DZ l) (Po l)):=by
 obtain ⟨iN,wG,jh,ji,jk⟩:=info_parts og;obtain ⟨a,cap,hv,-⟩:=Rd.aD hrd;obtain ⟨nl,hnl⟩:∃ nl,nl=l.length:=⟨_,rfl⟩;obtain rfl:v=.slice a nl cap:=by rw [hnl];simpa using hv
 have LC:=rP qU l a cap w hsm (fun _=>CO) (by rw [<- hnl];exact hrd);rw [<- hnl] at LC;have lq:=hid LC;clear hv LC hnl;obtain ⟨S,hS⟩:∃ S,S=w.heap.size:=⟨_,rfl⟩;have UU:=hid hrd;have iT:=hid hsm;have pG:Hid (∀ W:World,Below S w W->PT W):=fun W hW=>ht.below (by rw [<- hS];exact hW)
 have hee:DZ l=if au.aP qU 0 0 l≠0 then au.aP qU 0 0 l else if (au.aV l).any iw=true then 5 else 0:=rfl
 have hnn:Po l=if DZ l=0 then jZ l else []:=rfl
 have HW:=hid (fun h:DZ l=0=>KE l h hsm hsz);have IC:Hid (∀ W:World,Below S w W->Calls Tryz.prog 49 #[.slice a nl cap] W (fun e w'=>∃ v',e=.returned v'/\Rd (fun _=>True) w' (bC (au.aV l)) [v']/\Below W.heap.size W w')):=fun W hW=>by
  refine (rY l (.slice a nl cap) W (hrd.up (by rw [<- hS];exact hW)) hbd (by omega) (by omega)).mono ?_;rintro e w2 ⟨v2,bg,rfl,hown2,GN,pW,b2⟩;exact ⟨v2,rfl,Rd.fZ (by rw [jcx];exact hown2) GN pW (fun _ _=>trivial),b2⟩
 obtain ⟨E0,hE0⟩:∃ E0,E0=au.aP qU 0 0 l:=⟨_,rfl⟩;obtain ⟨EE,Jp⟩:∃ EE,EE=DZ l:=⟨_,rfl⟩;obtain ⟨NN,Jr⟩:∃ NN,NN=Po l:=⟨_,rfl⟩;rw [<- hE0] at lq hee;rw [<- Jp] at hee hnn HW;rw [<- Jr] at hnn;rw [<- Jp,<- Jr];have Nq:=hid hee;have Rw:=hid hnn;have HS:=hid hS;clear hrd hee hnn hE0 Jp Jr ht hS;refine (callsIn_wide (n:=3)).1 ?_;refine callsIn_of_wp_marks Tryz.func20 rfl trivial ?_ rfl;simp only [Tryz.ntmps20,List.size_toArray,List.length_cons,List.length_nil,Nat.reduceAdd,Nat.reduceSub,Array.replicate_succ,Array.replicate_zero,List.push_toArray,List.append_toArray,List.nil_append,List.cons_append];refine wpIn_wide.2 ?_;go_wp2_with fail
 (with_reducible refine lq.out.mono ?_)
 rintro e w1 ⟨rfl,b1⟩;have B1:Hid (Below S w w1):=by rw [HS.out];exact b1
 clear b1 lq;by_cases h0:E0=0
 ·have q1:((E0:Int) != 0)=false:=by rw [h0];rfl
  have EP:Hid (EE=if (au.aV l).any iw=true then 5 else 0):=by show _=_;rw [Nq.out,if_neg (by simp [h0])]
  have IL:=hid (IC.out w1 B1.out);clear h0;go_wp2_with fail
  (with_reducible refine IL.out.mono ?_)
  rintro e w2 ⟨v2,rfl,C8,b2⟩;have UL:=hid (uI (au.aV l) _ v2 w2 C8);obtain ⟨a2,n2,c2,rfl⟩:=Rd.aj C8;have B2:=hid (B1.out.trans (b2.mono (by have:=B1.out.size;have:=HS.out;omega)));clear C8 b2 IL;go_wp2_with fail
  (with_reducible refine UL.out.mono ?_)
  rintro e w3 ⟨rfl,b3⟩;have B3:=hid (B2.out.trans (b3.mono (by have:=B2.out.size;have:=HS.out;omega)));obtain ⟨u,hu⟩:∃ u,u=(au.aV l).any iw:=⟨_,rfl⟩;rw [<- hu] at EP;rw [<- hu];clear b3 UL hu;cases u with
  | true=>
   have HF:Hid (bI w EE NN (.returned (.tuple #[.slice none 0 0,.int .i64 5])) w3):=by
    have h5:EE=5:=by rw [EP.out];rfl
    rw [h5];exact bI.nil (by rw [Rw.out,h5];rfl) (by rw [<- HS.out];exact B3.out)
   go_wp2;exact Kw rfl (by simp [results,Tryz.results20,go_sem]) HF.out
  | false=>
   have hE:EE=0:=by rw [EP.out];rfl
   obtain ⟨hw1,hw3⟩:=HW.out hE;have Py:=hid (show NN=jZ l by rw [Rw.out,hE];rfl);have HE:=hid hE;have HWN:=hid (show ∀ b∈au.aT l,Nv b from fun b hb=>⟨ER (au.jw l iT.out b hb),fun hk=>hw3 b hb hk⟩);have HEL:=hid (show (au.aT l).length<=900000 by rw [qV];exact hsz);have Ew:=hid (show (au.aR l).length<=900000 from Nat.le_trans (uL l) (Nat.le_trans (au.gU l) hsz));obtain ⟨Bb,hBb⟩:∃ Bb,Bb=w3.heap.size:=⟨_,rfl⟩;obtain ⟨w4,hw4⟩:∃ w4,w4=w3.alloc (.cells #[.slice none 0 0] 84):=⟨_,rfl⟩;have k4:aF Bb (.slice none 0 0) 84 w4:=by rw [hw4,hBb];exact aF.new _ _ _
   have b4:Below S w w4:=by rw [hw4];exact B3.out.alloc (by have:=B3.out.size;have:=HS.out;omega) _
   have Yz:S<=Bb:=by have:=B3.out.size;have:=HS.out;omega
   have z4:w4.heap.size=Bb+1:=by rw [hw4,jd5,hBb]
   have HC:=hid (rR (.pointer (some ⟨Bb,0,none⟩)) 900000 l (.slice a nl cap) w4 hsz (by omega) (UU.out.up (by rw [<- HS.out];exact b4)) hw1 (pG.out w4 b4));have K4:=hid k4;have B4:=hid b4;have Z4:=hid z4;clear hE hw1 hw3 k4 b4 z4;go_upto_region 7 with (fail)
   rw [<- hw4,<- hBb];clear hw4 hBb;go_wp2_with fail
   (with_reducible refine HC.out.mono ?_)
   rintro e w5 ⟨nQ,v5,rfl,aN⟩;obtain ⟨n5,Pz⟩:∃ n5,n5=((au.aR l).map Nd.d).length:=⟨_,rfl⟩;have jb2:n5<=900000:=by rw [Pz,jcx];exact Ew.out
   obtain ⟨a5,c5,rfl,-,-⟩:=aN.cap Pz.symm;have HN5:=hid Pz.symm;have PD:=hid aN;have YA:=hid aN.aJ;clear aN Pz HC;obtain ⟨Bf,UW⟩:∃ Bf,Bf=w5.heap.size:=⟨_,rfl⟩;obtain ⟨w6,dh⟩:∃ w6,w6=w5.alloc (.cells #[UQ Bb] 88):=⟨_,rfl⟩;obtain ⟨W0,hW0⟩:∃ W0,W0=w6.alloc (.cells #[.slice a nl cap] 28):=⟨_,rfl⟩;have z6:w6.heap.size=Bf+1:=by rw [dh,jd5,UW]
   have zz:W0.heap.size=Bf+2:=by rw [hW0,jd5,z6]
   have YB:=YA.out.size;have jb3:Bb<Bf:=by have:=Z4.out;omega
   have g5:Below w5.heap.size w5 W0:=by rw [hW0,dh];exact ((Below.refl _ _).alloc (Nat.le_refl _) _).alloc (by rw [jd5];omega) _
   have bF:aF Bf (UQ Bb) 88 W0:=by rw [hW0,dh,UW];exact (aF.new _ _ _).alloc _
   have bL:aF (Bf+1) (.slice a nl cap) 28 W0:=by rw [hW0,<- z6];exact aF.new _ _ _
   have bB:aF Bb (.slice none 0 0) 84 W0:=(K4.out.below (B:=w4.heap.size) (by have:=Z4.out;omega) YA.out).below (B:=w5.heap.size) (by omega) g5;have YC:Below S w W0:=(B4.out.trans (YA.out.mono (by have:=Z4.out;omega))).trans (g5.mono (by have:=Z4.out;omega));have HR5:=hid (PD.out.below g5);have hU5:w5.heap.size=Bf:=UW.symm;have N0:Px Bb W0.heap.size S w W0 [] W0:=⟨⟨W0,[],.slice none 0 0,rfl,aI.nil _ _ _ _,bB⟩,sS.refl _ _ _⟩;have HFB:=hid (show aF Bf (UQ Bb) 88 W0 from bF);have hnf:∀ (x:Nat) (wx:World),Sem.run Tryz.prog (binOp BinOp.eql 90 (Value.func (Fn.func 107) #[] #[Value.pointer (some ⟨x,0,none⟩)]) Value.nilFunc) wx=.ok (.bool false) wx:=fun x wx=>by rfl
   have HBS:=hid (show Rd (·<S) w (dB l) [.slice a nl cap] by rw [HS.out];exact UU.out);have EC:=hid (KF a nl cap w6);rw [<- hW0,z6] at EC;have HU5:=hid hU5;have HZZ:=hid zz;clear bF bB g5 z6 YB PD hU5 hW0;have UY:UQ Bb=.func (.func 56) #[] #[.pointer (some ⟨Bb,0,none⟩)]:=rfl;rw [UY] at dh;go_upto_region 9 with (fail)
   rw [<- dh,<- UW];clear dh UW UY;go_wp2_with fail
   (with_reducible refine EC.out.mono ?_)
   rintro e w7 ⟨rfl,hw7⟩;rw [hw7];clear EC hw7 w7;go_wp2_with fail
   obtain ⟨s0,hs0⟩:∃ s0,s0=Value.slice a nl cap:=⟨_,rfl⟩;have hN0:W0.heap.size=Bf+2:=HZZ.out;have hBN:Bb<W0.heap.size:=by omega
   refine wpIn_wide (n:=3) |>.1 ?_
   refine wpIn_rangeFunc_ownH (α:=BW S w Nv) rfl (by decide) (gf:=107) (lb:=#[.pointer (some ⟨Bf+1,0,none⟩)]) rfl trivial (enters_of Tryz.func107 (by kernel_rfl) rfl)
    (ES 2 (Bf+1) S Nv l (.slice a nl cap) w W0 (sS Bb W0.heap.size) (sS.ok Yz hBN) HWN.out HBS.out YC (by omega) bL) (fun h k=>h.trans k) (fun W l o o' h1 h2 h3 _=>sS.obj Bb W0.heap.size W l o o' h1 h2 h3) (Below.refl _ _) (fun _=>rfl)
    (Px Bb W0.heap.size S w W0) (fun _ _ _=>False) (Px.own hBN rfl) (fun c s A B row h _ _=>h) N0
    (fun x a' W=>W9 W0.heap.size Bb Bf (Bf+1) (.slice a nl cap) (.slice a5 n5 c5) (.slice a2 n2 c2) (E0:Int) x.1 a' W) (fun x a'=>W9.own) ?assign ?body ?done ?stop
   case stop=>rintro D c pre W _ _ h _;exact h.elim
   case assign=>
    rintro l0 pre ⟨⟨kd,lv,i,t,d,ti,at_,li,ks,vc,vp,vl,vk⟩,hR,jb4⟩ W K hi hK;dsimp only at hR hK;obtain ⟨ac,nc,cc,rfl⟩:=Rd.aj hR.at_.cls
    obtain ⟨ap,np,cp,rfl⟩:=Rd.aj hR.at_.aH
    obtain ⟨al,Xa,cl,rfl⟩:=Rd.aj hR.line;obtain ⟨ak,nk,ck,rfl⟩:=Rd.aj hR.kids;have HI:=hid hi;have HK:=hid hK;clear hi hK;dsimp only [BV.enc]
    gi_wp2
    have hsz:=HI.out.2.size;exact HK.out _ _ ((KeepsOthers.alloc _ _).from _) (sS.grown (World.grownBy_alloc _ _ none) hsz (fun r e=>by cases e)) ⟨HI.out.1.yE hBN (World.grownBy_alloc _ _ none) (fun r e=>by cases e),HI.out.2.trans (sS.grown (World.grownBy_alloc _ _ none) hsz (fun r e=>by cases e))⟩ ⟨W.heap.size,hsz,heap_alloc_new W _,rfl⟩
   case body=>
    rintro l0 pre x a' W hl0 _ hN ⟨Bx,hBx,GQ,rfl⟩ hlen;have hR:=x.2.1;have PE:=x.2.2;obtain ⟨y,hy⟩:∃ y,y=x.1:=⟨_,rfl⟩;rw [<- hy] at hR GQ PE ⊢;have HEQ:Hid ((tH (pre++[x])).flatMap gZ=(tH pre).flatMap gZ++gZ y.blk):=by show _=_;rw [iZ,List.flatMap_append,hy];show _++List.flatMap gZ [x.1.blk]=_;rw [List.flatMap_cons,List.flatMap_nil,List.append_nil]
    have UZ:((tH pre).flatMap gZ).length<=1000000:=by have h1:=oC (tH pre);rw [uW] at h1;have:=HEL.out;omega
    obtain ⟨kd,lv,i,t,d,ti,at_,li,ks,vc,vp,vl,vk⟩:=y;dsimp only at hR;have PE:i.size<=300/\(kd=14->au.jT ks/\au.aU ks<=900000):=PE;obtain ⟨ac,nc,cc,rfl⟩:=Rd.aj hR.at_.cls
    obtain ⟨ap,np,cp,rfl⟩:=Rd.aj hR.at_.aH
    obtain ⟨al,Xa,cl,rfl⟩:=Rd.aj hR.line;obtain ⟨ak,nk,ck,rfl⟩:=Rd.aj hR.kids;have c0:=GQ.cell 0 _ rfl;have hSW:=hN.2.size;have hbW:Below S w W:=YC.trans (hN.2.below (S:=S) Yz hBN);have HN:=hid hN;dsimp only at c0;clear hlen hy hN;unfold Pw;dsimp only [BV.enc];by_cases hk:kd=14
    ·subst hk;have q1:((14:Int)==14)=true:=rfl;have c1:=GQ.cell 1 _ rfl;have c2:=GQ.cell 2 _ rfl;have c3:=GQ.cell 3 _ rfl;have c4:=GQ.cell 4 _ rfl;have c5:=GQ.cell 5 _ rfl;have c6:=GQ.cell 6 _ rfl;have c7:=GQ.cell 7 _ rfl;have c8:=GQ.cell 8 _ rfl;have c9:=GQ.cell 9 _ rfl;have c10:=GQ.cell 10 _ rfl;dsimp only at c1 c2 c3 c4 c5 c6 c7 c8 c9 c10;have bxF:W.cell? ⟨Bf,0,none⟩=some (.func (.func 56) #[] #[.pointer (some ⟨Bb,0,none⟩)]):=aF.cell (t:=88) ((HN.out.2.blk Bf (by omega) (by omega)).trans HFB.out);have hCA:=CY Bb W0.heap.size ((tH pre).flatMap gZ) 14 lv i t d ti at_ li ks (.slice ac nc cc) (.slice ap np cp) (.slice al Xa cl) (.slice ak nk ck) W hBN (hR.Cr (fun b (hb:b<S) hlt=>⟨by omega,hbW.block b hb⟩)) (PE.2 rfl).1 (PE.2 rfl).2 PE.1 (pG.out W hbW) UZ HN.out.1
     have HCA:=hid hCA;have hno:gZ (BV.blk ⟨14,lv,i,t,d,ti,at_,li,ks,.slice ac nc cc,.slice ap np cp,.slice al Xa cl,.slice ak nk ck⟩)=[aL jS [⟨jX,xD++i⟩,⟨eY,dG⟩] (au.aR ks)]:=rfl;have DY:=hid hno;clear hno hCA GQ hR PE
     gi_wp2_with fail
     refine ⟨trivial,?_⟩;refine (CallsIn.inRound l0 (callsIn_wide.2 HCA.out)).mono ?_;rintro e W2 ⟨rfl,hBu,Xb,hSt⟩;have HP:Hid (Px Bb W0.heap.size S w W0 (pre++[x]) W2):=by refine ⟨?_,HN.out.2.trans Xb⟩;rw [HEQ.out,DY.out];exact hBu
     have HKF:Hid (KeepsFrom W0.heap.size W W2):=⟨Xb.size,fun k o hk' ho hc=>hSt k o ho hc⟩;have Tc:=hid Xb;clear hBu Xb hSt c0 c1 c2 c3 c4 c5 c6 c7 c8 c9 c10 bxF HCA;dsimp only
     gi_wp2
     exact ⟨HKF.out,Tc.out,HP.out⟩
    ·have q1:(kd==14)=false:=by rw [beq_eq_false_iff_ne];exact hk
     have HP:Hid (Px Bb W0.heap.size S w W0 (pre++[x]) W):=by
      have hno:gZ (BV.blk ⟨kd,lv,i,t,d,ti,at_,li,ks,.slice ac nc cc,.slice ap np cp,.slice al Xa cl,.slice ak nk ck⟩)=[]:=by show gZ (.mk kd lv i t d ti at_ li ks)=_;unfold gZ;exact if_neg hk
      refine ⟨?_,HN.out.2⟩;rw [HEQ.out,hno,List.append_nil];exact HN.out.1
     clear hk GQ hR PE
     gi_wp2
     exact ⟨(KeepsOthers.refl _).from _,sS.refl _ _ _,HP.out⟩
   case done=>
    rintro D pre W hD hpre hN hK;rw [Px,hpre] at hN;obtain ⟨⟨wB,rows,vN,O9,hrow,hbx⟩,hkp⟩:=hN;have hnt:(au.aT l).flatMap gZ=mq l:=rfl;rw [hnt] at hrow;obtain ⟨m,hm⟩:∃ m,m=((mq l).map Nd.d).length:=⟨_,rfl⟩;have hm1:m<=900000:=by rw [hm,jcx];exact Nat.le_trans (oC (au.aT l)) HEL.out
    obtain ⟨av,cv,rfl,-,-⟩:=hrow.cap hm.symm;have hbl:Below S w W:=YC.trans (hkp.below (S:=S) Yz hBN);have hDW:D<W.heap.size:=(Array.getElem?_eq_some_iff.1 hK).1;have hBZ:w5.heap.size=Bf:=HU5.out;obtain ⟨wO,hzO,hrO⟩:=HR5.out.reU (w':=W) hkp.size (fun b h1 h2=>hkp.blk b (by omega) (by have:=Z4.out;omega));have HO:=hid hrO;have U0:=hid hzO;have HK:=hid hK;have Ee:=hid hbl;have aY:=hid hrow;have lK:=hid O9;have HSW:=hid hkp.size;have x0:=hbx.cell;have Td:Hid (∀ y:World,Below W.heap.size W y->y.cell? ⟨Bb,0,none⟩=some (.slice av m cv)):=fun y hy=>(hbx.below (by have:=hkp.size;omega) hy).cell
    have hml:(mq l).length=m:=by rw [hm,jcx]
    have HML:=hid hml;clear hrO hzO hK hbl hrow O9 hbx hpre hm hkp hml hnt;by_cases hm0:m=0
    ·have q8:¬ (0:Int)<(m:Int):=by omega
     have HF:Hid (bI w EE NN (.returned (.tuple #[.slice a5 n5 c5,.int .i64 0])) W):=by
      have Jr:NN=au.aR l:=by rw [Py.out];unfold jZ;rw [if_pos (by rw [List.isEmpty_iff,<- List.length_eq_zero_iff,HML.out];exact hm0),List.append_nil]
      rw [HE.out,Jr];exact ⟨_,_,rfl,(HO.out.qL (by have:=U0.out;have:=HS.out;have:=Z4.out;omega) (by rw [<- HS.out];exact Ee.out)).top⟩
     have Us:=hid (HF.out.UR (by have:=HS.out;omega) HK.out);clear HF;go_wp2;exact KD rfl HK.out (fun w'=>by simp [results,Tryz.results20,go_sem]) Us.out
    ·have q8:(0:Int)<(m:Int):=by omega
     have Jr:NN=au.aR l++[aL jc [⟨eY,jH⟩] (mq l)]:=by rw [Py.out];unfold jZ;rw [if_neg (by rw [List.isEmpty_iff,<- List.length_eq_zero_iff,HML.out];exact hm0)]
     have YD:=hid Jr;clear Jr;go_upto_region 14 with (fail)
     refine EO ?_;refine gJ 9 (fun w'=>w'.cell? ⟨Bb,0,none⟩=some (.slice av m cv)) (by kernel_rfl) (Td.out W.drew (Below.refl _ _).drew) ?_;intro hH;refine lY (i:=0) (v:=?_) rfl (by kernel_rfl) (by kernel_rfl) (by kernel_rfl) (by kernel_rfl) (by kernel_rfl) (fun _ _ _ h=>absurd rfl (h.1 _)) hH (Or.inl ⟨by rfl,?_⟩) ?_;rotate_left
     ·(intro wv hSw;(try dsimp only at hSw);go_simp;try with_reducible rfl)
     try simp only [Act.put,jc3,jc4,jc5]
     refine lY (i:=3) (v:=?_) rfl (by kernel_rfl) (by kernel_rfl) (by kernel_rfl) (by kernel_rfl) (by kernel_rfl) (fun _ _ _ h=>absurd rfl (h.1 _)) hH (Or.inl ⟨by rfl,?_⟩) ?_;rotate_left
     ·(intro wv hSw;(try dsimp only at hSw);go_simp;try with_reducible rfl)
     try simp only [Act.put,jc3,jc4,jc5]
     refine lY (i:=4) (v:=?_) rfl (by kernel_rfl) (by kernel_rfl) (by kernel_rfl) (by kernel_rfl) (by kernel_rfl) (fun _ _ _ h=>absurd rfl (h.1 _)) hH (Or.inl ⟨by rfl,?_⟩) ?_;rotate_left
     ·(intro wv hSw;(try dsimp only at hSw);go_simp;try with_reducible rfl)
     try simp only [Act.put,jc3,jc4,jc5]
     refine lY (i:=5) (v:=?_) rfl (by kernel_rfl) (by kernel_rfl) (by kernel_rfl) (by kernel_rfl) (by kernel_rfl) (fun _ _ _ h=>absurd rfl (h.1 _)) hH (Or.inl ⟨by rfl,?_⟩) ?_;rotate_left
     ·(intro wv hSw;(try dsimp only at hSw);go_simp;try with_reducible rfl)
     try simp only [Act.put,jc3,jc4,jc5]
     obtain ⟨y0,hy0⟩:∃ y0,y0=W.drew:=⟨_,rfl⟩;have UG:Below W.heap.size W y0:=by rw [hy0];exact (Below.refl _ _).drew
     rw [<- hy0] at hH;rw [<- hy0];clear hy0;have PC:Hid (Calls Tryz.prog 58 #[.slice (some ⟨y0.heap.size,0,none⟩) 2 2] (y0.alloc (.cells #[.string ⟨#[99,108,97,115,115]⟩,.string ⟨#[110,111,116,101,115]⟩] 9)) (bE (y0.alloc (.cells #[.string ⟨#[99,108,97,115,115]⟩,.string ⟨#[110,111,116,101,115]⟩] 9)) [⟨eY,jH⟩])):=JY eY jH y0;refine q01 (i:=1) rfl (by kernel_rfl) (fun KQ hK=>?_);go_simp;have B1:Below W.heap.size W (y0.alloc (.cells #[.string ⟨#[99,108,97,115,115]⟩,.string ⟨#[110,111,116,101,115]⟩] 9)):=UG.alloc UG.size _;refine hK.out _ _ (fun _ _=>Td.out _ B1) (fun hH2=>?_);clear hK KQ hH;have hH:=hH2 (by decide) (by kernel_rfl);clear hH2;try simp only [Act.put,jc3,jc4,jc5]
     refine q01 (i:=2) rfl (by kernel_rfl) (fun KQ hK=>?_);go_simp;go_at_call 58
     (with_reducible refine (PC.out).mono ?_)
     rintro e y2 ⟨bg,v2,rfl,hrow2⟩;obtain ⟨a9,c9,rfl,-,-⟩:=hrow2.cap (n:=1) rfl;have B2:Below W.heap.size W y2:=B1.trans (hrow2.aJ.mono B1.size);have UH:=hid (show Rd (W.heap.size<=·) y2 (dQ [⟨eY,jH⟩]) [.slice a9 1 c9] from hrow2.eD.weaken (fun b hb=>Nat.le_trans B1.size hb));clear hrow2 PC;refine hK.out _ _ (fun _ _=>Td.out _ B2) (fun hH2=>?_);clear hK KQ hH;have hH:=hH2 (by decide) (by kernel_rfl);clear hH2;try simp only [Act.put,jc3,jc4,jc5]
     refine q01 (i:=6) rfl (by kernel_rfl) (fun KQ hK=>?_);go_simp;go_at_call 57
     (with_reducible refine (gL ⟨#[115,101,99,116,105,111,110]⟩ a9 av 1 m c9 cv y2).mono ?_)
     rintro e y3 ⟨rfl,hb⟩;have B3:Below W.heap.size W y3:=B2.trans (hb.mono B2.size);have XD:=hid (show Rd (fun b=>False\/w5.heap.size<=b) y3 (aL jc [⟨eY,jH⟩] (mq l)).d [.string ⟨#[115,101,99,116,105,111,110]⟩,.string ⟨#[]⟩,.slice a9 1 c9,.slice av m cv] from (Nd.fK ⟨#[115,101,99,116,105,111,110]⟩ ⟨#[]⟩ ⟨(UH.out.aZ hb).weaken (fun b (hb:W.heap.size<=b)=>by have:=HSW.out;show w5.heap.size<=b;omega),(aY.out.eD.aZ B3).weaken (fun b (hb:wB.heap.size<=b)=>by have:=lK.out;show w5.heap.size<=b;omega)⟩).weaken (fun b hb=>.inr hb));have U3:=hid (HO.out.below B3);have K3:=hid (show y3.heap[D]?=some (.deferred (some [])) from (B3.block D hDW).trans HK.out);have hD3:D<y3.heap.size:=Nat.lt_of_lt_of_le hDW B3.size;clear hb;refine hK.out _ _ (fun _ _=>Td.out _ B3) (fun hH2=>?_);clear hK KQ hH;have hH:=hH2 (by decide) (by kernel_rfl);clear hH2;try simp only [Act.put,jc3,jc4,jc5]
     refine q01 (i:=7) rfl (by kernel_rfl) (fun KQ hK=>?_);go_simp;refine hK.out _ _ (fun _ _=>Td.out _ (B3.alloc B3.size _)) (fun hH2=>?_);clear hK KQ hH;have hH:=hH2 (by decide) (by kernel_rfl);clear hH2;try simp only [Act.put,jc3,jc4,jc5]
     refine q01 (i:=8) rfl (by kernel_rfl) (fun KQ hK=>?_);refine jV (n:=n5) rfl (.tmp 34) (.tmp 41) 34 rfl iN _ 80 Tryz.underlying34 wG jh ji jk rfl (by decide) U3.out (fun _=>False.elim) (aL jc [⟨eY,jH⟩] (mq l)).d [.string ⟨#[115,101,99,116,105,111,110]⟩,.string ⟨#[]⟩,.slice a9 1 c9,.slice av m cv] XD.out rfl fE HN5.out (by omega) (by decide) rfl rfl ?_;intro a6 c6 w8 uX Xc;have hoD:some D≠(Value.slice a5 n5 c5).ownBlock:=fun e=>by have:=U3.out.oU D e.symm;omega
     have K8:w8.heap[D]?=some (.deferred (some [])):=(Xc.block D (by rw [jd5];omega) hoD).trans ((Below.heap_alloc y3 _ D hD3).trans K3.out);have B8:Below w.heap.size w w8:=by have h1:Below S wO w8:=uX.aJ.mono (by have:=U0.out;have:=Z4.out;omega);have h2:Below S w y3:=Ee.out.trans (B3.mono (by have:=Ee.out.size;have:=HS.out;omega));rw [<- HS.out];exact (h2.alloc (by have:=h2.size;have:=HS.out;omega) _).grown Xc (by rw [jd5];have:=h2.size;have:=HS.out;omega) (fun j hj=>by have:=U3.out.own.lt j hj;have:=U0.out;have:=Z4.out;omega)
     have HF:bI w EE NN (.returned (.tuple #[.slice a6 (n5+1) c6,.int .i64 0])) w8:=by rw [HE.out,YD.out];refine ⟨nQ++[[.string ⟨#[115,101,99,116,105,111,110]⟩,.string ⟨#[]⟩,.slice a9 1 c9,.slice av m cv]],_,rfl,?_⟩;rw [List.map_append];exact uX.qL (by have:=U0.out;have:=HS.out;have:=Z4.out;omega) B8
     have Us:=hid (HF.UR (by have:=HS.out;omega) K8);have HK8:=hid K8;have cb8:w8.cell? ⟨Bb,0,none⟩=some (.slice av m cv):=by
      have hBl:Bb<y3.heap.size:=by omega
      rw [fJ (Xc.block Bb (by rw [jd5];omega) (fun e=>by have:=(U3.out.own.lt Bb e.symm).1;have:=U0.out;have:=Z4.out;omega))];exact Td.out _ (B3.alloc B3.size _)
     clear uX Xc HF B8 K8 hoD;refine hK.out _ _ (fun _ _=>cb8) (fun hH2=>?_);clear hK KQ hH;have hH:=hH2 (by decide) (by kernel_rfl);clear hH2;try simp only [Act.put,jc3,jc4,jc5]
     refine q01 (i:=9) rfl (by kernel_rfl) (fun KQ hK=>?_);go_simp;refine hK.out _ _ (fun h=>absurd rfl h) (fun _=>?_);clear hK KQ hH;try simp only [Act.put,jc3,jc4,jc5]
     refine rQ (by kernel_rfl) ?_ _;refine ⟨fun _ h=>(by cases h),?_⟩;clear XD U3 UH;go_wp2;exact KD rfl HK8.out (fun w'=>by simp [results,Tryz.results20,go_sem]) Us.out
 ·have q1:((E0:Int) != 0)=true:=by rw [bne_iff_ne];omega
  have HF:Hid (bI w EE NN (.returned (.tuple #[.slice none 0 0,.int .i64 (E0:Int)])) w1):=by
   have h5:EE=E0:=by rw [Nq.out,if_pos (by simpa using h0)]
   rw [h5];exact bI.nil (by rw [Rw.out,h5,if_neg h0]) (by rw [<- HS.out];exact B1.out)
  clear h0;go_wp2;exact Kw rfl (by simp [results,Tryz.results20,go_sem]) HF.out
end Go.Proofs.YtclikfjalmcoaaaGreatDoor

