/- Contract of html.Blocks: the nodes of blocks, with their notes behind them, or the error. -/
import Derived.Test.YtclikfjalmcoaaaGreatDoorKHtY
import Derived.Test.YtclikfjalmcoaaaGreatDoorKHwL
set_option maxHeartbeats 8000000
set_option maxRecDepth 100000
open Go.Lib (hid)
namespace Go.Proofs.YtclikfjalmcoaaaGreatDoor
open List renaming setIfInBounds_toArray->jgq,set_cons_zero->jgx,set_cons_succ->jgz,length_map->jh7
open Go.World renaming size_alloc->jhz
open Go.RowKit Go.Shelf
set_option linter.unusedVariables false
set_option linter.unusedSimpArgs false
attribute [local go_sem] Oper.semAt_some
theorem uY.ok {S Bb N0:Nat} (h1:S<=Bb) (h2:Bb<N0):NU S (uY Bb N0) where
 below h:=h.below h1 h2
 Xe h hb:=(h.YI _ _ _ _ hb (by decide) (by decide)).trans hb
 VX h hb:=(h.YI _ _ _ _ hb (by decide) (by decide)).trans hb
theorem VT.AA {Bb N0:Nat} {L:List Nd} {W W':World} {row:Option Nat} (h:VT Bb N0 L W) (hB:Bb<N0) (hg:W.grownBy W' row) (hr:∀ r,row=some r->N0<=r/\∃ o:Obj,W.heap[r]?=some o/\o.isCells=false):VT Bb N0 L W':=by obtain ⟨wB,rows,v,h1,h2,h3⟩:=h;refine ⟨wB,rows,v,h1,(h2.AA hg (fun r e=>⟨by have:=(hr r e).1;omega,(hr r e).2⟩)).up hg.size (Nat.le_refl _),?_⟩;exact (hg.block Bb h3.lt (fun e=>by have:=(hr Bb e.symm).1;omega)).trans h3
theorem Hz {c:Code} {Q:Exit->Act->World->Prop} {a:Act} {w:World} (h:c.wp Tryz.prog (fun e a w=>(∀ x,e≠Exit.panic x)/\Q e a w) a w):c.wp Tryz.prog Q a w:=Code.wp_mono (fun _ _ _ h=>h.2) h
def Q6 (b:au):Prop:=b.iOf.size<=300/\(b.Xf=14->au.lg b.kids/\au.aZ b.kids<=900000)
def BV.cs (x:BV):List Value:=[.int .i64 x.kd,.int .i64 x.lv,.string x.i,.string x.t,.string x.d,.string x.ti,.string x.at_.id,x.vc,x.vp,x.vl,x.vk]
def YL (Bb:Nat):Value:=.func (.func 56) #[] #[.pointer (some ⟨Bb,0,none⟩)]
def TG (Bb Bf Bl:Nat) (s o v2:Value) (E:Int) (x:BV) (Bx:Nat):Act:={ tmps:=#[s,undef,.slice none 0 0,.int .i64 0,.int .i64 E,.pointer (some ⟨Bb,0,none⟩),o,.pointer (some ⟨Bf,0,none⟩),.pointer (some ⟨Bx,0,none⟩),s,.int .i64 E,.int .i64 E,.bool false,undef,s,v2,.bool false,s,o,YL Bb,s,.func (.func 107) #[] #[.pointer (some ⟨Bl,0,none⟩)],x.enc,undef,undef,undef,undef,undef,undef,undef,undef,undef,undef,undef,undef,undef,undef,undef,undef,undef,undef,undef,undef,undef],defers:=[] }
def BtX (N0 Bb Bf Bl:Nat) (s o v2:Value) (E:Int) (x:BV) (a':Act) (W:World):Prop:=∃ Bx,N0<=Bx/\CB 30 Bx x.cs W/\a'=TG Bb Bf Bl s o v2 E x Bx
theorem BtX.own {N0 Bb Bf Bl B:Nat} {s o v2:Value} {E:Int} {x:BV} {a':Act}:OwnFrom B (fun (_:Unit) W=>BtX N0 Bb Bf Bl s o v2 E x a' W):=fun _ W W' row ⟨Bx,h1,h2,h3⟩ hg hr=>
 ⟨Bx,h1,(hg.block Bx h2.lt (fun e=>by
  obtain ⟨_,o,k1,k2⟩:=hr Bx e.symm;unfold CB at h2;rw [h2] at k1;cases k1;cases k2)).trans h2,h3⟩
def TH (Bb N0 S:Nat) (w W0:World) (pre:List (BW S w Q6)) (W:World):Prop:=VT Bb N0 ((vJ pre).flatMap jg) W/\uY Bb N0 W0 W
theorem TH.own {Bb N0 S:Nat} {w W0:World} (hB:Bb<N0) (hz:N0=W0.heap.size):OwnFrom N0 (TH Bb N0 S w W0):=fun s W W' row h hg hr=>
 ⟨h.1.AA hB hg hr,h.2.trans (uY.grown hg (by have:=h.2.size;omega) hr)⟩
theorem NV {fn:Func} {R:Ending->World->Prop} {a:Act} {w:World} {v:Value} (hd:a.defers=[]) (hr:(results fn a.tmps).run Tryz.prog w=.ok v w) (h:R (.returned v) w):bodyPostM Fence.wide 3 Tryz.prog fn R .ret a w:=by show LeavesInM _ _ _ _ _ _ a.defers _ _;rw [hd];unfold LeavesInM LeavesIn;exact ⟨v,hr,h⟩
theorem NW {n:Nat} {fn:Func} {R:Ending->World->Prop} {a:Act} {w:World} {v:Value} {D:Nat} (hd:a.defers=[{ target:=.collected D,args:=#[] }]) (hf:w.heap[D]?=some (.deferred (some []))) (hr:∀ w',(results fn a.tmps).run Tryz.prog w'=.ok v w') (h:R (.returned v) (w.putObj D (.deferred none))):bodyPostM Fence.wide n Tryz.prog fn R .ret a w:=by show LeavesInM _ _ _ _ _ _ a.defers _ _;rw [hd];refine ⟨by simp,.inl ⟨D,_,rfl,run_takeDeferred hf,?_⟩⟩;exact ⟨v,hr _,h⟩
theorem bG.YM {w W:World} {E:Nat} {L:List Nd} {v:Value} {D:Nat} (h:bG w E L (.returned v) W) (hD:w.heap.size<=D) (hf:W.heap[D]?=some (.deferred (some []))):bG w E L (.returned v) (W.putObj D (.deferred none)):=by obtain ⟨rows,v',he,hr⟩:=h;have hg:=grownBy_putObj' W D (.deferred none);exact ⟨rows,v',he,(hr.AA hg (fun r e=>by cases e;exact ⟨hD,_,hf,rfl⟩)).up hg.size (Nat.le_refl _)⟩
theorem CG (l:List au) (v:Value) (w:World) (hrd:Rd (·<w.heap.size) w (dS l) [v]) (hsm:au.aC l) (hsz:au.aZ l<=900000) (hil:(au.bD l).length<=1000) (hbd:au.sP l) (ht:PT w) : Calls Tryz.prog 20 #[v] w (bG w (Gg l) (TI l)):=by
 obtain ⟨iN,qG,fZ,gq,gu⟩:=info_parts lW;obtain ⟨a,cap,hv,-⟩:=Rd.aB hrd;obtain ⟨nl,hnl⟩:∃ nl,nl=l.length:=⟨_,rfl⟩;obtain rfl:v=.slice a nl cap:=by rw [hnl];simpa using hv
 have LC:=uh tq l a cap w hsm (fun _=>EX) (by rw [<- hnl];exact hrd);rw [<- hnl] at LC;have gQ:=hid LC;clear hv LC hnl;obtain ⟨S,hS⟩:∃ S,S=w.heap.size:=⟨_,rfl⟩;have TJ:=hid hrd;have eG:=hid hsm;have sW:Hid (∀ W:World,Below S w W->PT W):=fun W hW=>ht.below (by rw [<- hS];exact hW)
 have hee:Gg l=if au.aS tq 0 0 l≠0 then au.aS tq 0 0 l else if (au.bD l).any fA=true then 5 else 0:=rfl
 have hnn:TI l=if Gg l=0 then lD l else []:=rfl
 have HW:=hid (fun h:Gg l=0=>NY l h hsm hsz);have IC:Hid (∀ W:World,Below S w W->Calls Tryz.prog 49 #[.slice a nl cap] W (fun e w'=>∃ v',e=.returned v'/\Rd (fun _=>True) w' (bC (au.bD l)) [v']/\Below W.heap.size W w')):=fun W hW=>by
  refine (uz l (.slice a nl cap) W (hrd.up (by rw [<- hS];exact hW)) hbd (by omega) (by omega)).mono ?_;rintro e w2 ⟨v2,bq,rfl,hown2,JY,rF,b2⟩;exact ⟨v2,rfl,Rd.ig (by rw [jh7];exact hown2) JY rF (fun _ _=>trivial),b2⟩
 obtain ⟨E0,hE0⟩:∃ E0,E0=au.aS tq 0 0 l:=⟨_,rfl⟩;obtain ⟨EE,Gh⟩:∃ EE,EE=Gg l:=⟨_,rfl⟩;obtain ⟨NN,Gi⟩:∃ NN,NN=TI l:=⟨_,rfl⟩;rw [<- hE0] at gQ hee;rw [<- Gh] at hee hnn HW;rw [<- Gi] at hnn;rw [<- Gh,<- Gi];have DK:=hid hee;have KZ:=hid hnn;have HS:=hid hS;clear hrd hee hnn hE0 Gh Gi ht hS;refine (callsIn_wide (n:=3)).1 ?_;refine callsIn_of_wp_marks Tryz.func20 rfl trivial ?_ rfl;simp only [Tryz.ntmps20,List.size_toArray,List.length_cons,List.length_nil,Nat.reduceAdd,Nat.reduceSub,Array.replicate_succ,Array.replicate_zero,List.push_toArray,List.append_toArray,List.nil_append,List.cons_append];refine wpIn_wide.2 ?_;go_wp2_with fail
 (with_reducible refine gQ.out.mono ?_)
 rintro e w1 ⟨rfl,b1⟩;have B1:Hid (Below S w w1):=by rw [HS.out];exact b1
 clear b1 gQ;by_cases h0:E0=0
 ·have q1:((E0:Int) != 0)=false:=by rw [h0];rfl
  have xG:Hid (EE=if (au.bD l).any fA=true then 5 else 0):=by show _=_;rw [DK.out,if_neg (by simp [h0])]
  have IL:=hid (IC.out w1 B1.out);clear h0;go_wp2_with fail
  (with_reducible refine IL.out.mono ?_)
  rintro e w2 ⟨v2,rfl,EY,b2⟩;have UL:=hid (xA (au.bD l) _ v2 w2 EY);obtain ⟨a2,n2,c2,rfl⟩:=Rd.ah EY;have B2:=hid (B1.out.trans (b2.mono (by have:=B1.out.size;have:=HS.out;omega)));clear EY b2 IL;go_wp2_with fail
  (with_reducible refine UL.out.mono ?_)
  rintro e w3 ⟨rfl,b3⟩;have B3:=hid (B2.out.trans (b3.mono (by have:=B2.out.size;have:=HS.out;omega)));obtain ⟨u,hu⟩:∃ u,u=(au.bD l).any fA:=⟨_,rfl⟩;rw [<- hu] at xG;rw [<- hu];clear b3 UL hu;cases u with
  | true=>
   have HF:Hid (bG w EE NN (.returned (.tuple #[.slice none 0 0,.int .i64 5])) w3):=by
    have h5:EE=5:=by rw [xG.out];rfl
    rw [h5];exact bG.nil (by rw [KZ.out,h5];rfl) (by rw [<- HS.out];exact B3.out)
   go_wp2;exact NV rfl (by simp [results,Tryz.results20,go_sem]) HF.out
  | false=>
   have hE:EE=0:=by rw [xG.out];rfl
   obtain ⟨hw1,hw3⟩:=HW.out hE;have TK:=hid (show NN=lD l by rw [KZ.out,hE];rfl);have HE:=hid hE;have HWN:=hid (show ∀ b∈au.aY l,Q6 b from fun b hb=>⟨H6 (au.kC l eG.out b hb),fun hk=>hw3 b hb hk⟩);have HEL:=hid (show (au.aY l).length<=900000 by rw [tu];exact hsz);have Eu:=hid (show (au.aX l).length<=900000 from Nat.le_trans (xu l) (Nat.le_trans (au.gZ l) hsz));obtain ⟨Bb,hBb⟩:∃ Bb,Bb=w3.heap.size:=⟨_,rfl⟩;obtain ⟨w4,hw4⟩:∃ w4,w4=w3.alloc (.cells #[.slice none 0 0] 84):=⟨_,rfl⟩;have k4:aG Bb (.slice none 0 0) 84 w4:=by rw [hw4,hBb];exact aG.new _ _ _
   have b4:Below S w w4:=by rw [hw4];exact B3.out.alloc (by have:=B3.out.size;have:=HS.out;omega) _
   have hSB:S<=Bb:=by have:=B3.out.size;have:=HS.out;omega
   have z4:w4.heap.size=Bb+1:=by rw [hw4,jhz,hBb]
   have HC:=hid (uo (.pointer (some ⟨Bb,0,none⟩)) 900000 l (.slice a nl cap) w4 hsz (by omega) (TJ.out.up (by rw [<- HS.out];exact b4)) hw1 (sW.out w4 b4));have K4:=hid k4;have B4:=hid b4;have Z4:=hid z4;clear hE hw1 hw3 k4 b4 z4;go_upto_region 7 with (fail)
   rw [<- hw4,<- hBb];clear hw4 hBb;go_wp2_with fail
   (with_reducible refine HC.out.mono ?_)
   rintro e w5 ⟨kW,v5,rfl,aH⟩;obtain ⟨n5,TM⟩:∃ n5,n5=((au.aX l).map Nd.d).length:=⟨_,rfl⟩;have jf7:n5<=900000:=by rw [TM,jh7];exact Eu.out
   obtain ⟨a5,c5,rfl,-,-⟩:=aH.cap TM.symm;have HN5:=hid TM.symm;have TN:=hid aH;have B45:=hid aH.aL;clear aH TM HC;obtain ⟨Bf,YN⟩:∃ Bf,Bf=w5.heap.size:=⟨_,rfl⟩;obtain ⟨w6,dK⟩:∃ w6,w6=w5.alloc (.cells #[YL Bb] 88):=⟨_,rfl⟩;obtain ⟨W0,hW0⟩:∃ W0,W0=w6.alloc (.cells #[.slice a nl cap] 28):=⟨_,rfl⟩;have z6:w6.heap.size=Bf+1:=by rw [dK,jhz,YN]
   have zz:W0.heap.size=Bf+2:=by rw [hW0,jhz,z6]
   have jb8:=B45.out.size;have jf8:Bb<Bf:=by have:=Z4.out;omega
   have g5:Below w5.heap.size w5 W0:=by rw [hW0,dK];exact ((Below.refl _ _).alloc (Nat.le_refl _) _).alloc (by rw [jhz];omega) _
   have bF:aG Bf (YL Bb) 88 W0:=by rw [hW0,dK,YN];exact (aG.new _ _ _).alloc _
   have bL:aG (Bf+1) (.slice a nl cap) 28 W0:=by rw [hW0,<- z6];exact aG.new _ _ _
   have bB:aG Bb (.slice none 0 0) 84 W0:=(K4.out.below (B:=w4.heap.size) (by have:=Z4.out;omega) B45.out).below (B:=w5.heap.size) (by omega) g5;have bl0:Below S w W0:=(B4.out.trans (B45.out.mono (by have:=Z4.out;omega))).trans (g5.mono (by have:=Z4.out;omega));have HR5:=hid (TN.out.below g5);have hU5:w5.heap.size=Bf:=YN.symm;have N0:TH Bb W0.heap.size S w W0 [] W0:=⟨⟨W0,[],.slice none 0 0,rfl,aI.nil _ _ _ _,bB⟩,uY.refl _ _ _⟩;have HFB:=hid (show aG Bf (YL Bb) 88 W0 from bF);have hnf:∀ (x:Nat) (wx:World),Sem.run Tryz.prog (binOp BinOp.eql 90 (Value.func (Fn.func 107) #[] #[Value.pointer (some ⟨x,0,none⟩)]) Value.nilFunc) wx=.ok (.bool false) wx:=fun x wx=>by rfl
   have Q7:=hid (show Rd (·<S) w (dS l) [.slice a nl cap] by rw [HS.out];exact TJ.out);have EC:=hid (NZ a nl cap w6);rw [<- hW0,z6] at EC;have HU5:=hid hU5;have HZZ:=hid zz;clear bF bB g5 z6 jb8 TN hU5 hW0;have YO:YL Bb=.func (.func 56) #[] #[.pointer (some ⟨Bb,0,none⟩)]:=rfl;rw [YO] at dK;go_upto_region 9 with (fail)
   rw [<- dK,<- YN];clear dK YN YO;go_wp2_with fail
   (with_reducible refine EC.out.mono ?_)
   rintro e w7 ⟨rfl,hw7⟩;rw [hw7];clear EC hw7 w7;go_wp2_with fail
   obtain ⟨s0,hs0⟩:∃ s0,s0=Value.slice a nl cap:=⟨_,rfl⟩;have hN0:W0.heap.size=Bf+2:=HZZ.out;have hBN:Bb<W0.heap.size:=by omega
   refine wpIn_wide (n:=3) |>.1 ?_
   refine wpIn_rangeFunc_ownH (α:=BW S w Q6) rfl (by decide) (gf:=107) (lb:=#[.pointer (some ⟨Bf+1,0,none⟩)]) rfl trivial (enters_of Tryz.func107 (by kernel_rfl) rfl)
    (H7 2 (Bf+1) S Q6 l (.slice a nl cap) w W0 (uY Bb W0.heap.size) (uY.ok hSB hBN) HWN.out Q7.out bl0 (by omega) bL) (fun h k=>h.trans k) (fun W l o o' h1 h2 h3 _=>uY.obj Bb W0.heap.size W l o o' h1 h2 h3) (Below.refl _ _) (fun _=>rfl)
    (TH Bb W0.heap.size S w W0) (fun _ _ _=>False) (TH.own hBN rfl) (fun c s A B row h _ _=>h) N0
    (fun x a' W=>BtX W0.heap.size Bb Bf (Bf+1) (.slice a nl cap) (.slice a5 n5 c5) (.slice a2 n2 c2) (E0:Int) x.1 a' W) (fun x a'=>BtX.own) ?assign ?body ?done ?stop
   case stop=>rintro D c pre W _ _ h _;exact h.elim
   case assign=>
    rintro l0 pre ⟨⟨kd,lv,i,t,d,ti,at_,li,ks,vc,vp,vl,vk⟩,hR,jf9⟩ W K hi hK;dsimp only at hR hK;obtain ⟨ac,nc,cc,rfl⟩:=Rd.ah hR.at_.cls
    obtain ⟨ap,np,cp,rfl⟩:=Rd.ah hR.at_.aF
    obtain ⟨al,nl2,cl,rfl⟩:=Rd.ah hR.line;obtain ⟨ak,nk,ck,rfl⟩:=Rd.ah hR.kids;have HI:=hid hi;have HK:=hid hK;clear hi hK;dsimp only [BV.enc]
    gi_wp2
    have hsz:=HI.out.2.size;exact HK.out _ _ ((KeepsOthers.alloc _ _).from _) (uY.grown (World.grownBy_alloc _ _ none) hsz (fun r e=>by cases e)) ⟨HI.out.1.AA hBN (World.grownBy_alloc _ _ none) (fun r e=>by cases e),HI.out.2.trans (uY.grown (World.grownBy_alloc _ _ none) hsz (fun r e=>by cases e))⟩ ⟨W.heap.size,hsz,heap_alloc_new W _,rfl⟩
   case body=>
    rintro l0 pre x a' W hl0 _ hN ⟨Bx,hBx,JZ,rfl⟩ hlen;have hR:=x.2.1;have TP:=x.2.2;obtain ⟨y,hy⟩:∃ y,y=x.1:=⟨_,rfl⟩;rw [<- hy] at hR JZ TP ⊢;have HEQ:Hid ((vJ (pre++[x])).flatMap jg=(vJ pre).flatMap jg++jg y.blk):=by show _=_;rw [jK,List.flatMap_append,hy];show _++List.flatMap jg [x.1.blk]=_;rw [List.flatMap_cons,List.flatMap_nil,List.append_nil]
    have YP:((vJ pre).flatMap jg).length<=1000000:=by have h1:=qw (vJ pre);rw [xH] at h1;have:=HEL.out;omega
    obtain ⟨kd,lv,i,t,d,ti,at_,li,ks,vc,vp,vl,vk⟩:=y;dsimp only at hR;have TP:i.size<=300/\(kd=14->au.lg ks/\au.aZ ks<=900000):=TP;obtain ⟨ac,nc,cc,rfl⟩:=Rd.ah hR.at_.cls
    obtain ⟨ap,np,cp,rfl⟩:=Rd.ah hR.at_.aF
    obtain ⟨al,nl2,cl,rfl⟩:=Rd.ah hR.line;obtain ⟨ak,nk,ck,rfl⟩:=Rd.ah hR.kids;have c0:=JZ.cell 0 _ rfl;have hSW:=hN.2.size;have hbW:Below S w W:=bl0.trans (hN.2.below (S:=S) hSB hBN);have HN:=hid hN;dsimp only at c0;clear hlen hy hN;unfold TG;dsimp only [BV.enc];by_cases hk:kd=14
    ·subst hk;have q1:((14:Int)==14)=true:=rfl;have c1:=JZ.cell 1 _ rfl;have c2:=JZ.cell 2 _ rfl;have c3:=JZ.cell 3 _ rfl;have c4:=JZ.cell 4 _ rfl;have c5:=JZ.cell 5 _ rfl;have c6:=JZ.cell 6 _ rfl;have c7:=JZ.cell 7 _ rfl;have c8:=JZ.cell 8 _ rfl;have c9:=JZ.cell 9 _ rfl;have c10:=JZ.cell 10 _ rfl;dsimp only at c1 c2 c3 c4 c5 c6 c7 c8 c9 c10;have bxF:W.cell? ⟨Bf,0,none⟩=some (.func (.func 56) #[] #[.pointer (some ⟨Bb,0,none⟩)]):=aG.cell (t:=88) ((HN.out.2.blk Bf (by omega) (by omega)).trans HFB.out);have hCA:=EU Bb W0.heap.size ((vJ pre).flatMap jg) 14 lv i t d ti at_ li ks (.slice ac nc cc) (.slice ap np cp) (.slice al nl2 cl) (.slice ak nk ck) W hBN (hR.EK (fun b (hb:b<S) hlt=>⟨by omega,hbW.block b hb⟩)) (TP.2 rfl).1 (TP.2 rfl).2 TP.1 (sW.out W hbW) YP HN.out.1
     have HCA:=hid hCA;have hno:jg (BV.blk ⟨14,lv,i,t,d,ti,at_,li,ks,.slice ac nc cc,.slice ap np cp,.slice al nl2 cl,.slice ak nk ck⟩)=[aN kZ [⟨jQ,zI++i⟩,⟨dh,dU⟩] (au.aX ks)]:=rfl;have yZ:=hid hno;clear hno hCA JZ hR TP
     gi_wp2_with fail
     refine ⟨trivial,?_⟩;refine (CallsIn.inRound l0 (callsIn_wide.2 HCA.out)).mono ?_;rintro e W2 ⟨rfl,hBu,hKp,hSt⟩;have HP:Hid (TH Bb W0.heap.size S w W0 (pre++[x]) W2):=by refine ⟨?_,HN.out.2.trans hKp⟩;rw [HEQ.out,yZ.out];exact hBu
     have HKF:Hid (KeepsFrom W0.heap.size W W2):=⟨hKp.size,fun k o hk' ho hc=>hSt k o ho hc⟩;have Xg:=hid hKp;clear hBu hKp hSt c0 c1 c2 c3 c4 c5 c6 c7 c8 c9 c10 bxF HCA;dsimp only
     gi_wp2
     exact ⟨HKF.out,Xg.out,HP.out⟩
    ·have q1:(kd==14)=false:=by rw [beq_eq_false_iff_ne];exact hk
     have HP:Hid (TH Bb W0.heap.size S w W0 (pre++[x]) W):=by
      have hno:jg (BV.blk ⟨kd,lv,i,t,d,ti,at_,li,ks,.slice ac nc cc,.slice ap np cp,.slice al nl2 cl,.slice ak nk ck⟩)=[]:=by show jg (.mk kd lv i t d ti at_ li ks)=_;unfold jg;exact if_neg hk
      refine ⟨?_,HN.out.2⟩;rw [HEQ.out,hno,List.append_nil];exact HN.out.1
     clear hk JZ hR TP
     gi_wp2
     exact ⟨(KeepsOthers.refl _).from _,uY.refl _ _ _,HP.out⟩
   case done=>
    rintro D pre W hD hpre hN hK;rw [TH,hpre] at hN;obtain ⟨⟨wB,rows,vN,Te,hrow,hbx⟩,hkp⟩:=hN;have hnt:(au.aY l).flatMap jg=nZ l:=rfl;rw [hnt] at hrow;obtain ⟨m,hm⟩:∃ m,m=((nZ l).map Nd.d).length:=⟨_,rfl⟩;have hm1:m<=900000:=by rw [hm,jh7];exact Nat.le_trans (qw (au.aY l)) HEL.out
    obtain ⟨av,cv,rfl,-,-⟩:=hrow.cap hm.symm;have hbl:Below S w W:=bl0.trans (hkp.below (S:=S) hSB hBN);have hDW:D<W.heap.size:=(Array.getElem?_eq_some_iff.1 hK).1;have hBZ:w5.heap.size=Bf:=HU5.out;obtain ⟨wO,hzO,hrO⟩:=HR5.out.reU (w':=W) hkp.size (fun b h1 h2=>hkp.blk b (by omega) (by have:=Z4.out;omega));have HO:=hid hrO;have YQ:=hid hzO;have HK:=hid hK;have qc:=hid hbl;have aV:=hid hrow;have mX:=hid Te;have HSW:=hid hkp.size;have x0:=hbx.cell;have Xh:Hid (∀ y:World,Below W.heap.size W y->y.cell? ⟨Bb,0,none⟩=some (.slice av m cv)):=fun y hy=>(hbx.below (by have:=hkp.size;omega) hy).cell
    have hml:(nZ l).length=m:=by rw [hm,jh7]
    have HML:=hid hml;clear hrO hzO hK hbl hrow Te hbx hpre hm hkp hml hnt;by_cases hm0:m=0
    ·have q8:¬ (0:Int)<(m:Int):=by omega
     have HF:Hid (bG w EE NN (.returned (.tuple #[.slice a5 n5 c5,.int .i64 0])) W):=by
      have Gi:NN=au.aX l:=by rw [TK.out];unfold lD;rw [if_pos (by rw [List.isEmpty_iff,<- List.length_eq_zero_iff,HML.out];exact hm0),List.append_nil]
      rw [HE.out,Gi];exact ⟨_,_,rfl,(HO.out.nO (by have:=YQ.out;have:=HS.out;have:=Z4.out;omega) (by rw [<- HS.out];exact qc.out)).top⟩
     have HF2:=hid (HF.out.YM (by have:=HS.out;omega) HK.out);clear HF;go_wp2;exact NW rfl HK.out (fun w'=>by simp [results,Tryz.results20,go_sem]) HF2.out
    ·have q8:(0:Int)<(m:Int):=by omega
     have Gi:NN=au.aX l++[aN jL [⟨dh,kI⟩] (nZ l)]:=by rw [TK.out];unfold lD;rw [if_neg (by rw [List.isEmpty_iff,<- List.length_eq_zero_iff,HML.out];exact hm0)]
     have jb9:=hid Gi;clear Gi;go_upto_region 14 with (fail)
     refine Hz ?_;refine iO 9 (fun w'=>w'.cell? ⟨Bb,0,none⟩=some (.slice av m cv)) (by kernel_rfl) (Xh.out W.drew (Below.refl _ _).drew) ?_;intro hH;refine nM (i:=0) (v:=?_) rfl (by kernel_rfl) (by kernel_rfl) (by kernel_rfl) (by kernel_rfl) (by kernel_rfl) (fun _ _ _ h=>absurd rfl (h.1 _)) hH (Or.inl ⟨by rfl,?_⟩) ?_;rotate_left
     ·(intro wv hSw;(try dsimp only at hSw);go_simp;try with_reducible rfl)
     try simp only [Act.put,jgq,jgx,jgz]
     refine nM (i:=3) (v:=?_) rfl (by kernel_rfl) (by kernel_rfl) (by kernel_rfl) (by kernel_rfl) (by kernel_rfl) (fun _ _ _ h=>absurd rfl (h.1 _)) hH (Or.inl ⟨by rfl,?_⟩) ?_;rotate_left
     ·(intro wv hSw;(try dsimp only at hSw);go_simp;try with_reducible rfl)
     try simp only [Act.put,jgq,jgx,jgz]
     refine nM (i:=4) (v:=?_) rfl (by kernel_rfl) (by kernel_rfl) (by kernel_rfl) (by kernel_rfl) (by kernel_rfl) (fun _ _ _ h=>absurd rfl (h.1 _)) hH (Or.inl ⟨by rfl,?_⟩) ?_;rotate_left
     ·(intro wv hSw;(try dsimp only at hSw);go_simp;try with_reducible rfl)
     try simp only [Act.put,jgq,jgx,jgz]
     refine nM (i:=5) (v:=?_) rfl (by kernel_rfl) (by kernel_rfl) (by kernel_rfl) (by kernel_rfl) (by kernel_rfl) (fun _ _ _ h=>absurd rfl (h.1 _)) hH (Or.inl ⟨by rfl,?_⟩) ?_;rotate_left
     ·(intro wv hSw;(try dsimp only at hSw);go_simp;try with_reducible rfl)
     try simp only [Act.put,jgq,jgx,jgz]
     obtain ⟨y0,hy0⟩:∃ y0,y0=W.drew:=⟨_,rfl⟩;have YR:Below W.heap.size W y0:=by rw [hy0];exact (Below.refl _ _).drew
     rw [<- hy0] at hH;rw [<- hy0];clear hy0;have PC:Hid (Calls Tryz.prog 58 #[.slice (some ⟨y0.heap.size,0,none⟩) 2 2] (y0.alloc (.cells #[.string ⟨#[99,108,97,115,115]⟩,.string ⟨#[110,111,116,101,115]⟩] 9)) (aR (y0.alloc (.cells #[.string ⟨#[99,108,97,115,115]⟩,.string ⟨#[110,111,116,101,115]⟩] 9)) [⟨dh,kI⟩])):=Nh dh kI y0;refine q01 (i:=1) rfl (by kernel_rfl) (fun KQ hK=>?_);go_simp;have B1:Below W.heap.size W (y0.alloc (.cells #[.string ⟨#[99,108,97,115,115]⟩,.string ⟨#[110,111,116,101,115]⟩] 9)):=YR.alloc YR.size _;refine hK.out _ _ (fun _ _=>Xh.out _ B1) (fun hH2=>?_);clear hK KQ hH;have hH:=hH2 (by decide) (by kernel_rfl);clear hH2;try simp only [Act.put,jgq,jgx,jgz]
     refine q01 (i:=2) rfl (by kernel_rfl) (fun KQ hK=>?_);go_simp;go_at_call 58
     (with_reducible refine (PC.out).mono ?_)
     rintro e y2 ⟨bq,v2,rfl,hrow2⟩;obtain ⟨a9,c9,rfl,-,-⟩:=hrow2.cap (n:=1) rfl;have B2:Below W.heap.size W y2:=B1.trans (hrow2.aL.mono B1.size);have YS:=hid (show Rd (W.heap.size<=·) y2 (cZ [⟨dh,kI⟩]) [.slice a9 1 c9] from hrow2.cu.weaken (fun b hb=>Nat.le_trans B1.size hb));clear hrow2 PC;refine hK.out _ _ (fun _ _=>Xh.out _ B2) (fun hH2=>?_);clear hK KQ hH;have hH:=hH2 (by decide) (by kernel_rfl);clear hH2;try simp only [Act.put,jgq,jgx,jgz]
     refine q01 (i:=6) rfl (by kernel_rfl) (fun KQ hK=>?_);go_simp;go_at_call 57
     (with_reducible refine (iR ⟨#[115,101,99,116,105,111,110]⟩ a9 av 1 m c9 cv y2).mono ?_)
     rintro e y3 ⟨rfl,hb⟩;have B3:Below W.heap.size W y3:=B2.trans (hb.mono B2.size);have XD:=hid (show Rd (fun b=>False\/w5.heap.size<=b) y3 (aN jL [⟨dh,kI⟩] (nZ l)).d [.string ⟨#[115,101,99,116,105,111,110]⟩,.string ⟨#[]⟩,.slice a9 1 c9,.slice av m cv] from (Nd.fJ ⟨#[115,101,99,116,105,111,110]⟩ ⟨#[]⟩ ⟨(YS.out.aW hb).weaken (fun b (hb:W.heap.size<=b)=>by have:=HSW.out;show w5.heap.size<=b;omega),(aV.out.cu.aW B3).weaken (fun b (hb:wB.heap.size<=b)=>by have:=mX.out;show w5.heap.size<=b;omega)⟩).weaken (fun b hb=>.inr hb));have U3:=hid (HO.out.below B3);have K3:=hid (show y3.heap[D]?=some (.deferred (some [])) from (B3.block D hDW).trans HK.out);have hD3:D<y3.heap.size:=Nat.lt_of_lt_of_le hDW B3.size;clear hb;refine hK.out _ _ (fun _ _=>Xh.out _ B3) (fun hH2=>?_);clear hK KQ hH;have hH:=hH2 (by decide) (by kernel_rfl);clear hH2;try simp only [Act.put,jgq,jgx,jgz]
     refine q01 (i:=7) rfl (by kernel_rfl) (fun KQ hK=>?_);go_simp;refine hK.out _ _ (fun _ _=>Xh.out _ (B3.alloc B3.size _)) (fun hH2=>?_);clear hK KQ hH;have hH:=hH2 (by decide) (by kernel_rfl);clear hH2;try simp only [Act.put,jgq,jgx,jgz]
     refine q01 (i:=8) rfl (by kernel_rfl) (fun KQ hK=>?_);refine kT (n:=n5) rfl (.tmp 34) (.tmp 41) 34 rfl iN _ 80 Tryz.underlying34 qG fZ gq gu rfl (by decide) U3.out (fun _=>False.elim) (aN jL [⟨dh,kI⟩] (nZ l)).d [.string ⟨#[115,101,99,116,105,111,110]⟩,.string ⟨#[]⟩,.slice a9 1 c9,.slice av m cv] XD.out rfl Ev HN5.out (by omega) (by decide) rfl rfl ?_;intro a6 c6 w8 xI hg8;have hoD:some D≠(Value.slice a5 n5 c5).ownBlock:=fun e=>by have:=U3.out.oU D e.symm;omega
     have K8:w8.heap[D]?=some (.deferred (some [])):=(hg8.block D (by rw [jhz];omega) hoD).trans ((Below.heap_alloc y3 _ D hD3).trans K3.out);have B8:Below w.heap.size w w8:=by have h1:Below S wO w8:=xI.aL.mono (by have:=YQ.out;have:=Z4.out;omega);have h2:Below S w y3:=qc.out.trans (B3.mono (by have:=qc.out.size;have:=HS.out;omega));rw [<- HS.out];exact (h2.alloc (by have:=h2.size;have:=HS.out;omega) _).grown hg8 (by rw [jhz];have:=h2.size;have:=HS.out;omega) (fun j hj=>by have:=U3.out.own.lt j hj;have:=YQ.out;have:=Z4.out;omega)
     have HF:bG w EE NN (.returned (.tuple #[.slice a6 (n5+1) c6,.int .i64 0])) w8:=by rw [HE.out,jb9.out];refine ⟨kW++[[.string ⟨#[115,101,99,116,105,111,110]⟩,.string ⟨#[]⟩,.slice a9 1 c9,.slice av m cv]],_,rfl,?_⟩;rw [List.map_append];exact xI.nO (by have:=YQ.out;have:=HS.out;have:=Z4.out;omega) B8
     have HF2:=hid (HF.YM (by have:=HS.out;omega) K8);have HK8:=hid K8;have cb8:w8.cell? ⟨Bb,0,none⟩=some (.slice av m cv):=by
      have hBl:Bb<y3.heap.size:=by omega
      rw [gy (hg8.block Bb (by rw [jhz];omega) (fun e=>by have:=(U3.out.own.lt Bb e.symm).1;have:=YQ.out;have:=Z4.out;omega))];exact Xh.out _ (B3.alloc B3.size _)
     clear xI hg8 HF B8 K8 hoD;refine hK.out _ _ (fun _ _=>cb8) (fun hH2=>?_);clear hK KQ hH;have hH:=hH2 (by decide) (by kernel_rfl);clear hH2;try simp only [Act.put,jgq,jgx,jgz]
     refine q01 (i:=9) rfl (by kernel_rfl) (fun KQ hK=>?_);go_simp;refine hK.out _ _ (fun h=>absurd rfl h) (fun _=>?_);clear hK KQ hH;try simp only [Act.put,jgq,jgx,jgz]
     refine uj (by kernel_rfl) ?_ _;refine ⟨fun _ h=>(by cases h),?_⟩;clear XD U3 YS;go_wp2;exact NW rfl HK8.out (fun w'=>by simp [results,Tryz.results20,go_sem]) HF2.out
 ·have q1:((E0:Int) != 0)=true:=by rw [bne_iff_ne];omega
  have HF:Hid (bG w EE NN (.returned (.tuple #[.slice none 0 0,.int .i64 (E0:Int)])) w1):=by
   have h5:EE=E0:=by rw [DK.out,if_pos (by simpa using h0)]
   rw [h5];exact bG.nil (by rw [KZ.out,h5,if_neg h0]) (by rw [<- HS.out];exact B1.out)
  clear h0;go_wp2;exact NV rfl (by simp [results,Tryz.results20,go_sem]) HF.out
end Go.Proofs.YtclikfjalmcoaaaGreatDoor

