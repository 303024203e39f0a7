/- Contract of html.Blocks: the nodes of blocks, with their notes behind them, or the error. Contract of html.Page: the page of a document, or the error. -/
import Derived.Test.YtkfnkeflalcphaaGreatDoorKHtY
import Derived.Test.YtkfnkeflalcphaaGreatDoorKHrI
set_option maxHeartbeats 8000000
set_option maxRecDepth 100000
open Go.Lib (hid)
namespace Go.Proofs.YtkfnkeflalcphaaGreatDoor
open Go.RowKit.Below renaming refl->jD7
open Nat renaming le_refl->jD8,le_trans->jD9
open List renaming length_map->jDx
open Go.World renaming size_alloc->jE5
open Go renaming World->jG9
open Go.RowKit renaming Below->jGj
open Go.RowKit Go.Shelf
set_option linter.unusedVariables false
set_option linter.unusedSimpArgs false
attribute [local go_sem] Oper.semAt_some
theorem wS.ok {S Bb N0:Nat} (h1:S<=Bb) (h2:Bb<N0):SL S (wS Bb N0) where
 below h:=h.below h1 h2
 yld h hb:=(h.cel _ _ _ _ hb (by decide) (by decide)).trans hb
 wlk h hb:=(h.cel _ _ _ _ hb (by decide) (by decide)).trans hb
theorem BuI.Da {Bb N0:Nat} {L:List Nd} {W W':jG9} {row:Option Nat} (h:BuI Bb N0 L W) (hB:Bb<N0) (hg:W.grownBy W' row) (hr:∀ r,row=some r->N0<=r/\∃ o:Obj,W.heap[r]?=some o/\o.isCells=false):BuI Bb N0 L W':=by obtain ⟨wB,rows,v,h1,h2,h3⟩:=h;refine ⟨wB,rows,v,h1,(h2.Da hg (fun r e=>⟨by have:=(hr r e).1;omega,(hr r e).2⟩)).up hg.size (jD8 _),?_⟩;exact (hg.block Bb h3.lt (fun e=>by have:=(hr Bb e.symm).1;omega)).trans h3
theorem Km {c:Code} {Q:Exit->Act->jG9->Prop} {a:Act} {w:jG9} (h:c.wp Tryz.prog (fun e a w=>(∀ x,e≠Exit.panic x)/\Q e a w) a w):c.wp Tryz.prog Q a w:=Code.wp_mono (fun _ _ _ h=>h.2) h
def Xq (b:ah):Prop:=b.iOf.size<=300/\(b.kOf=14->ah.lC b.kids/\ah.aY b.kids<=900000)
def BV.cs (x:BV):List Value:=[.int .i64 x.kd,.int .i64 x.lv,.string x.i,.string x.t,.string x.d,.string x.ti,.string x.at_.id,x.vc,x.vp,x.vl,x.vk]
def clF (Bb:Nat):Value:=.func (.func 39) #[] #[.pointer (some ⟨Bb,0,none⟩)]
def jb3 (Bb Bf Bl:Nat) (s o v2:Value) (E:Int) (x:BV) (Bx:Nat):Act:={ tmps:=#[s,undef,.slice none 0 0,.int .i64 0,.int .i64 E,.pointer (some ⟨Bb,0,none⟩),o,.pointer (some ⟨Bf,0,none⟩),.pointer (some ⟨Bx,0,none⟩),s,.int .i64 E,.int .i64 E,.bool false,undef,s,v2,.bool false,s,o,clF Bb,s,.func (.func 87) #[] #[.pointer (some ⟨Bl,0,none⟩)],x.enc,undef,undef,undef,undef,undef,undef,undef,undef,undef,undef,undef,undef,undef,undef,undef,undef,undef,undef,undef,undef,undef],defers:=[] }
def BtX (N0 Bb Bf Bl:Nat) (s o v2:Value) (E:Int) (x:BV) (a':Act) (W:jG9):Prop:=∃ Bx,N0<=Bx/\CB 48 Bx x.cs W/\a'=jb3 Bb Bf Bl s o v2 E x Bx
theorem BtX.own {N0 Bb Bf Bl B:Nat} {s o v2:Value} {E:Int} {x:BV} {a':Act}:OwnFrom B (fun (_:Unit) W=>BtX N0 Bb Bf Bl s o v2 E x a' W):=fun _ W W' row ⟨Bx,h1,h2,h3⟩ hg hr=>
 ⟨Bx,h1,(hg.block Bx h2.lt (fun e=>by
  obtain ⟨_,o,k1,k2⟩:=hr Bx e.symm;unfold CB at h2;rw [h2] at k1;cases k1;cases k2)).trans h2,h3⟩
def BtI (Bb N0 S:Nat) (w W0:jG9) (pre:List (BW S w Xq)) (W:jG9):Prop:=BuI Bb N0 ((xu pre).flatMap qA) W/\wS Bb N0 W0 W
theorem BtI.own {Bb N0 S:Nat} {w W0:jG9} (hB:Bb<N0) (hz:N0=W0.heap.size):OwnFrom N0 (BtI Bb N0 S w W0):=fun s W W' row h hg hr=>
 ⟨h.1.Da hB hg hr,h.2.trans (wS.grown hg (by have:=h.2.size;omega) hr)⟩
theorem SN {fn:Func} {R:Ending->jG9->Prop} {a:Act} {w:jG9} {v:Value} (hd:a.defers=[]) (hr:(results fn a.tmps).run Tryz.prog w=.ok v w) (h:R (.returned v) w):bodyPostM Fence.wide 3 Tryz.prog fn R .ret a w:=by show LeavesInM _ _ _ _ _ _ a.defers _ _;rw [hd];unfold LeavesInM LeavesIn;exact ⟨v,hr,h⟩
theorem SQ {n:Nat} {fn:Func} {R:Ending->jG9->Prop} {a:Act} {w:jG9} {v:Value} {D:Nat} (hd:a.defers=[{ target:=.collected D,args:=#[] }]) (hf:w.heap[D]?=some (.deferred (some []))) (hr:∀ w',(results fn a.tmps).run Tryz.prog w'=.ok v w') (h:R (.returned v) (w.putObj D (.deferred none))):bodyPostM Fence.wide n Tryz.prog fn R .ret a w:=by show LeavesInM _ _ _ _ _ _ a.defers _ _;rw [hd];refine ⟨by simp,.inl ⟨D,_,rfl,run_takeDeferred hf,?_⟩⟩;exact ⟨v,hr _,h⟩
theorem bJ.js2 {w W:jG9} {E:Nat} {L:List Nd} {v:Value} {D:Nat} (h:bJ w E L (.returned v) W) (hD:w.heap.size<=D) (hf:W.heap[D]?=some (.deferred (some []))):bJ w E L (.returned v) (W.putObj D (.deferred none)):=by obtain ⟨rows,v',he,hr⟩:=h;have hg:=grownBy_putObj' W D (.deferred none);exact ⟨rows,v',he,(hr.Da hg (fun r e=>by cases e;exact ⟨hD,_,hf,rfl⟩)).up hg.size (jD8 _)⟩
theorem Na{P:Prop}(h:P:=by
 (intro wv hSw;(try dsimp only at hSw);go_simp;try with_reducible rfl)):P:=h
theorem jb4{P Q:Prop}(q:Q)(h:Nonempty Q->P:=by
 intro qQ;have hee:Bo l=if ah.aQ iT 0 0 l≠0 then ah.aQ iT 0 0 l else if (ah.aS l).any eH=true then 5 else 0:=rfl
 have hnn:Q7 l=if Bo l=0 then jB l else []:=rfl
 revert hee hnn;exact qQ.elim fun x=>x):P:=h ⟨q⟩
theorem xw (l:List ah) (v:Value) (w:jG9) (hrd:Rd (·<w.heap.size) w (nN l) [v]) (hsm:ah.aB l) (hsz:ah.aY l<=900000) (hil:(ah.aS l).length<=1000) (hbd:ah.uw l) (ht:PT w) : Calls Tryz.prog 13 #[v] w (bJ w (Bo l) (Q7 l)):=by
 obtain ⟨iN,qB,fC,fD,fE⟩:=info_parts gY;obtain ⟨a,cap,hv,-⟩:=Rd.ay hrd;obtain ⟨nl,hnl⟩:∃ nl,nl=l.length:=⟨_,rfl⟩;obtain rfl:v=.slice a nl cap:=by rw [hnl];simpa using hv
 have LC:=vG iT l a cap w hsm (fun _=>G7) (by rw [<- hnl];exact hrd);rw [<- hnl] at LC;have dR:=hid LC;clear hv LC hnl;obtain ⟨S,hS⟩:∃ S,S=w.heap.size:=⟨_,rfl⟩;have Oi:=hid hrd;have cO:=hid hsm;have pJ:Hid (∀ W:jG9,jGj S w W->PT W):=fun W hW=>ht.below (by rw [<- hS];exact hW)
 refine jb4 ?_;intro hee hnn;have HW:=hid (fun h:Bo l=0=>Rh l h hsm hsz);have IC:Hid (∀ W:jG9,jGj S w W->Calls Tryz.prog 37 #[.slice a nl cap] W (fun e w'=>∃ v',e=.returned v'/\Rd (fun _=>True) w' (bG (ah.aS l)) [v']/\jGj W.heap.size W w')):=fun W hW=>by
  refine (vH l (.slice a nl cap) W (hrd.up (by rw [<- hS];exact hW)) hbd (by omega) (by omega)).mono ?_;rintro e w2 ⟨v2,aZ,rfl,hown2,Ms,sH,b2⟩;exact ⟨v2,rfl,Rd.fG (by rw [jDx];exact hown2) Ms sH (fun _ _=>trivial),b2⟩
 obtain ⟨E0,hE0⟩:∃ E0,E0=ah.aQ iT 0 0 l:=⟨_,rfl⟩;obtain ⟨EE,Jb⟩:∃ EE,EE=Bo l:=⟨_,rfl⟩;obtain ⟨NN,Jc⟩:∃ NN,NN=Q7 l:=⟨_,rfl⟩;rw [<- hE0] at dR hee;rw [<- Jb] at hee hnn HW;rw [<- Jc] at hnn;rw [<- Jb,<- Jc];have Gl:=hid hee;have Qh:=hid hnn;have HS:=hid hS;clear hrd hee hnn hE0 Jb Jc ht hS;refine (callsIn_wide (n:=3)).1 ?_;refine callsIn_of_wp_marks Tryz.func13 rfl trivial ?_ rfl;simp only [Tryz.ntmps13,List.size_toArray,List.length_cons,List.length_nil,Nat.reduceAdd,Nat.reduceSub,Array.replicate_succ,Array.replicate_zero,List.push_toArray,List.append_toArray,List.nil_append,List.cons_append];refine wpIn_wide.2 ?_;go_wp2_with fail
 (with_reducible refine dR.out.mono ?_)
 rintro e w1 ⟨rfl,b1⟩;have B1:Hid (jGj S w w1):=by rw [HS.out];exact b1
 clear b1 dR;by_cases h0:E0=0
 ·have q1:((E0:Int) != 0)=false:=by rw [h0];rfl
  have yu:Hid (EE=if (ah.aS l).any eH=true then 5 else 0):=by show _=_;rw [Gl.out,if_neg (by simp [h0])]
  have IL:=hid (IC.out w1 B1.out);clear h0;go_wp2_with fail
  (with_reducible refine IL.out.mono ?_)
  rintro e w2 ⟨v2,rfl,wK,b2⟩;have UL:=hid (yw (ah.aS l) _ v2 w2 wK);obtain ⟨a2,n2,c2,rfl⟩:=Rd.au wK;have B2:=hid (B1.out.trans (b2.mono (by have:=B1.out.size;have:=HS.out;omega)));clear wK b2 IL;go_wp2_with fail
  (with_reducible refine UL.out.mono ?_)
  rintro e w3 ⟨rfl,b3⟩;have B3:=hid (B2.out.trans (b3.mono (by have:=B2.out.size;have:=HS.out;omega)));obtain ⟨u,hu⟩:∃ u,u=(ah.aS l).any eH:=⟨_,rfl⟩;rw [<- hu] at yu;rw [<- hu];clear b3 UL hu;cases u with
  | true=>
   have HF:Hid (bJ w EE NN (.returned (.tuple #[.slice none 0 0,.int .i64 5])) w3):=by
    have h5:EE=5:=by rw [yu.out];rfl
    rw [h5];exact bJ.nil (by rw [Qh.out,h5];rfl) (by rw [<- HS.out];exact B3.out)
   go_wp2;exact SN rfl (by simp [results,Tryz.results13,go_sem]) HF.out
  | false=>
   have hE:EE=0:=by rw [yu.out];rfl
   obtain ⟨hw1,hw3⟩:=HW.out hE;have SV:=hid (show NN=jB l by rw [Qh.out,hE];rfl);have HE:=hid hE;have HWN:=hid (show ∀ b∈ah.aT l,Xq b from fun b hb=>⟨yF (ah.iL l cO.out b hb),fun hk=>hw3 b hb hk⟩);have HEL:=hid (show (ah.aT l).length<=900000 by rw [o9];exact hsz);have Gz:=hid (show (ah.aV l).length<=900000 from jD9 (nW l) (jD9 (ah.fF l) hsz));obtain ⟨Bb,hBb⟩:∃ Bb,Bb=w3.heap.size:=⟨_,rfl⟩;obtain ⟨w4,hw4⟩:∃ w4,w4=w3.alloc (.cells #[.slice none 0 0] 75):=⟨_,rfl⟩;have k4:aH Bb (.slice none 0 0) 75 w4:=by rw [hw4,hBb];exact aH.new _ _ _
   have b4:jGj S w w4:=by rw [hw4];exact B3.out.alloc (by have:=B3.out.size;have:=HS.out;omega) _
   have hSB:S<=Bb:=by have:=B3.out.size;have:=HS.out;omega
   have z4:w4.heap.size=Bb+1:=by rw [hw4,jE5,hBb]
   have HC:=hid (vT (.pointer (some ⟨Bb,0,none⟩)) 900000 l (.slice a nl cap) w4 hsz (by omega) (Oi.out.up (by rw [<- HS.out];exact b4)) hw1 (pJ.out w4 b4));have K4:=hid k4;have B4:=hid b4;have Z4:=hid z4;clear hE hw1 hw3 k4 b4 z4;go_upto_region 7 with (fail)
   rw [<- hw4,<- hBb];clear hw4 hBb;go_wp2_with fail
   (with_reducible refine HC.out.mono ?_)
   rintro e w5 ⟨nY,v5,rfl,aX⟩;obtain ⟨n5,hn5⟩:∃ n5,n5=((ah.aV l).map Nd.d).length:=⟨_,rfl⟩;have jC2:n5<=900000:=by rw [hn5,jDx];exact Gz.out
   obtain ⟨a5,c5,rfl,-,-⟩:=aX.cap hn5.symm;have HN5:=hid hn5.symm;have jb5:=hid aX;have B45:=hid aX.aM;clear aX hn5 HC;obtain ⟨Bf,hBf⟩:∃ Bf,Bf=w5.heap.size:=⟨_,rfl⟩;obtain ⟨w6,pG⟩:∃ w6,w6=w5.alloc (.cells #[clF Bb] 79):=⟨_,rfl⟩;obtain ⟨W0,hW0⟩:∃ W0,W0=w6.alloc (.cells #[.slice a nl cap] 22):=⟨_,rfl⟩;have z6:w6.heap.size=Bf+1:=by rw [pG,jE5,hBf]
   have zz:W0.heap.size=Bf+2:=by rw [hW0,jE5,z6]
   have jy0:=B45.out.size;have jC3:Bb<Bf:=by have:=Z4.out;omega
   have g5:jGj w5.heap.size w5 W0:=by rw [hW0,pG];exact ((jD7 _ _).alloc (jD8 _) _).alloc (by rw [jE5];omega) _
   have bF:aH Bf (clF Bb) 79 W0:=by rw [hW0,pG,hBf];exact (aH.new _ _ _).alloc _
   have bL:aH (Bf+1) (.slice a nl cap) 22 W0:=by rw [hW0,<- z6];exact aH.new _ _ _
   have bB:aH Bb (.slice none 0 0) 75 W0:=(K4.out.below (B:=w4.heap.size) (by have:=Z4.out;omega) B45.out).below (B:=w5.heap.size) (by omega) g5;have bl0:jGj S w W0:=(B4.out.trans (B45.out.mono (by have:=Z4.out;omega))).trans (g5.mono (by have:=Z4.out;omega));have HR5:=hid (jb5.out.below g5);have hU5:w5.heap.size=Bf:=hBf.symm;have N0:BtI Bb W0.heap.size S w W0 [] W0:=⟨⟨W0,[],.slice none 0 0,rfl,aF.nil _ _ _ _,bB⟩,wS.refl _ _ _⟩;have HFB:=hid (show aH Bf (clF Bb) 79 W0 from bF);have hnf:∀ (x:Nat) (wx:jG9),Sem.run Tryz.prog (binOp BinOp.eql 81 (Value.func (Fn.func 87) #[] #[Value.pointer (some ⟨x,0,none⟩)]) Value.nilFunc) wx=.ok (.bool false) wx:=fun x wx=>by rfl
   have Xr:=hid (show Rd (·<S) w (nN l) [.slice a nl cap] by rw [HS.out];exact Oi.out);have EC:=hid (SY a nl cap w6);rw [<- hW0,z6] at EC;have HU5:=hid hU5;have HZZ:=hid zz;clear bF bB g5 z6 jy0 jb5 hU5 hW0;have js3:clF Bb=.func (.func 39) #[] #[.pointer (some ⟨Bb,0,none⟩)]:=rfl;rw [js3] at pG;go_upto_region 9 with (fail)
   rw [<- pG,<- hBf];clear pG hBf js3;go_wp2_with fail
   (with_reducible refine EC.out.mono ?_)
   rintro e w7 ⟨rfl,hw7⟩;rw [hw7];clear EC hw7 w7;go_wp2_with fail
   obtain ⟨s0,hs0⟩:∃ s0,s0=Value.slice a nl cap:=⟨_,rfl⟩;have hN0:W0.heap.size=Bf+2:=HZZ.out;have hBN:Bb<W0.heap.size:=by omega
   refine wpIn_wide (n:=3) |>.1 ?_
   refine wpIn_rangeFunc_ownH (α:=BW S w Xq) rfl (by decide) (gf:=87) (lb:=#[.pointer (some ⟨Bf+1,0,none⟩)]) rfl trivial (enters_of Tryz.func87 (by kernel_rfl) rfl)
    (Kn 2 (Bf+1) S Xq l (.slice a nl cap) w W0 (wS Bb W0.heap.size) (wS.ok hSB hBN) HWN.out Xr.out bl0 (by omega) bL) (fun h k=>h.trans k) (fun W l o o' h1 h2 h3 _=>wS.obj Bb W0.heap.size W l o o' h1 h2 h3) (jD7 _ _) (fun _=>rfl)
    (BtI Bb W0.heap.size S w W0) (fun _ _ _=>False) (BtI.own hBN rfl) (fun c s A B row h _ _=>h) N0
    (fun x a' W=>BtX W0.heap.size Bb Bf (Bf+1) (.slice a nl cap) (.slice a5 n5 c5) (.slice a2 n2 c2) (E0:Int) x.1 a' W) (fun x a'=>BtX.own) ?assign ?body ?done ?stop
   case stop=>rintro D c pre W _ _ h _;exact h.elim
   case assign=>
    rintro l0 pre ⟨⟨kd,lv,i,t,d,ti,at_,li,ks,vc,vp,vl,vk⟩,hR,jC4⟩ W K hi hK;dsimp only at hR hK;obtain ⟨ac,nc,cc,rfl⟩:=Rd.au hR.at_.cls
    obtain ⟨ap,np,cp,rfl⟩:=Rd.au hR.at_.aD
    obtain ⟨al,nl2,cl,rfl⟩:=Rd.au hR.line;obtain ⟨ak,nk,ck,rfl⟩:=Rd.au hR.kids;have HI:=hid hi;have HK:=hid hK;clear hi hK;dsimp only [BV.enc]
    gi_wp2
    have hsz:=HI.out.2.size;exact HK.out _ _ ((KeepsOthers.alloc _ _).from _) (wS.grown (World.grownBy_alloc _ _ none) hsz (fun r e=>by cases e)) ⟨HI.out.1.Da hBN (World.grownBy_alloc _ _ none) (fun r e=>by cases e),HI.out.2.trans (wS.grown (World.grownBy_alloc _ _ none) hsz (fun r e=>by cases e))⟩ ⟨W.heap.size,hsz,heap_alloc_new W _,rfl⟩
   case body=>
    rintro l0 pre x a' W hl0 _ hN ⟨Bx,hBx,Nb,rfl⟩ hlen;have hR:=x.2.1;have hNK:=x.2.2;obtain ⟨y,hy⟩:∃ y,y=x.1:=⟨_,rfl⟩;rw [<- hy] at hR Nb hNK ⊢;have HEQ:Hid ((xu (pre++[x])).flatMap qA=(xu pre).flatMap qA++qA y.blk):=by show _=_;rw [jI,List.flatMap_append,hy];show _++List.flatMap qA [x.1.blk]=_;rw [List.flatMap_cons,List.flatMap_nil,List.append_nil]
    have js4:((xu pre).flatMap qA).length<=1000000:=by have h1:=lW (xu pre);rw [zx] at h1;have:=HEL.out;omega
    obtain ⟨kd,lv,i,t,d,ti,at_,li,ks,vc,vp,vl,vk⟩:=y;dsimp only at hR;have hNK:i.size<=300/\(kd=14->ah.lC ks/\ah.aY ks<=900000):=hNK;obtain ⟨ac,nc,cc,rfl⟩:=Rd.au hR.at_.cls
    obtain ⟨ap,np,cp,rfl⟩:=Rd.au hR.at_.aD
    obtain ⟨al,nl2,cl,rfl⟩:=Rd.au hR.line;obtain ⟨ak,nk,ck,rfl⟩:=Rd.au hR.kids;have c0:=Nb.cell 0 _ rfl;have hSW:=hN.2.size;have hbW:jGj S w W:=bl0.trans (hN.2.below (S:=S) hSB hBN);have HN:=hid hN;dsimp only at c0;clear hlen hy hN;unfold jb3;dsimp only [BV.enc];by_cases hk:kd=14
    ·subst hk;have q1:((14:Int)==14)=true:=rfl;have c1:=Nb.cell 1 _ rfl;have c2:=Nb.cell 2 _ rfl;have c3:=Nb.cell 3 _ rfl;have c4:=Nb.cell 4 _ rfl;have c5:=Nb.cell 5 _ rfl;have c6:=Nb.cell 6 _ rfl;have c7:=Nb.cell 7 _ rfl;have c8:=Nb.cell 8 _ rfl;have c9:=Nb.cell 9 _ rfl;have c10:=Nb.cell 10 _ rfl;dsimp only at c1 c2 c3 c4 c5 c6 c7 c8 c9 c10;have bxF:W.cell? ⟨Bf,0,none⟩=some (.func (.func 39) #[] #[.pointer (some ⟨Bb,0,none⟩)]):=aH.cell (t:=79) ((HN.out.2.blk Bf (by omega) (by omega)).trans HFB.out);have hCA:=G8 Bb W0.heap.size ((xu pre).flatMap qA) 14 lv i t d ti at_ li ks (.slice ac nc cc) (.slice ap np cp) (.slice al nl2 cl) (.slice ak nk ck) W hBN (hR.sM (fun b (hb:b<S) hlt=>⟨by omega,hbW.block b hb⟩)) (hNK.2 rfl).1 (hNK.2 rfl).2 hNK.1 (pJ.out W hbW) js4 HN.out.1
     have HCA:=hid hCA;have hno:qA (BV.blk ⟨14,lv,i,t,d,ti,at_,li,ks,.slice ac nc cc,.slice ap np cp,.slice al nl2 cl,.slice ak nk ck⟩)=[aJ jS [⟨jT,Bw++i⟩,⟨dx,dO⟩] (ah.aV ks)]:=rfl;have Js:=hid hno;clear hno hCA Nb hR hNK
     gi_wp2_with fail
     refine ⟨trivial,?_⟩;refine (CallsIn.inRound l0 (callsIn_wide.2 HCA.out)).mono ?_;rintro e W2 ⟨rfl,hBu,hKp,hSt⟩;have HP:Hid (BtI Bb W0.heap.size S w W0 (pre++[x]) W2):=by refine ⟨?_,HN.out.2.trans hKp⟩;rw [HEQ.out,Js.out];exact hBu
     have HKF:Hid (KeepsFrom W0.heap.size W W2):=⟨hKp.size,fun k o hk' ho hc=>hSt k o ho hc⟩;have HKP:=hid hKp;clear hBu hKp hSt c0 c1 c2 c3 c4 c5 c6 c7 c8 c9 c10 bxF HCA;dsimp only
     gi_wp2
     exact ⟨HKF.out,HKP.out,HP.out⟩
    ·have q1:(kd==14)=false:=by rw [beq_eq_false_iff_ne];exact hk
     have HP:Hid (BtI Bb W0.heap.size S w W0 (pre++[x]) W):=by
      have hno:qA (BV.blk ⟨kd,lv,i,t,d,ti,at_,li,ks,.slice ac nc cc,.slice ap np cp,.slice al nl2 cl,.slice ak nk ck⟩)=[]:=by show qA (.mk kd lv i t d ti at_ li ks)=_;unfold qA;exact if_neg hk
      refine ⟨?_,HN.out.2⟩;rw [HEQ.out,hno,List.append_nil];exact HN.out.1
     clear hk Nb hR hNK
     gi_wp2
     exact ⟨(KeepsOthers.refl _).from _,wS.refl _ _ _,HP.out⟩
   case done=>
    rintro D pre W hD hpre hN hK;rw [BtI,hpre] at hN;obtain ⟨⟨wB,rows,vN,ZP,hrow,hbx⟩,hkp⟩:=hN;have hnt:(ah.aT l).flatMap qA=oq l:=rfl;rw [hnt] at hrow;obtain ⟨m,hm⟩:∃ m,m=((oq l).map Nd.d).length:=⟨_,rfl⟩;have hm1:m<=900000:=by rw [hm,jDx];exact jD9 (lW (ah.aT l)) HEL.out
    obtain ⟨av,cv,rfl,-,-⟩:=hrow.cap hm.symm;have hbl:jGj S w W:=bl0.trans (hkp.below (S:=S) hSB hBN);have hDW:D<W.heap.size:=(Array.getElem?_eq_some_iff.1 hK).1;have hBZ:w5.heap.size=Bf:=HU5.out;obtain ⟨wO,hzO,hrO⟩:=HR5.out.reU (w':=W) hkp.size (fun b h1 h2=>hkp.blk b (by omega) (by have:=Z4.out;omega));have HO:=hid hrO;have HZO:=hid hzO;have HK:=hid hK;have rR:=hid hbl;have bg:=hid hrow;have FE:=hid ZP;have HSW:=hid hkp.size;have x0:=hbx.cell;have BXF:Hid (∀ y:jG9,jGj W.heap.size W y->y.cell? ⟨Bb,0,none⟩=some (.slice av m cv)):=fun y hy=>(hbx.below (by have:=hkp.size;omega) hy).cell
    have hml:(oq l).length=m:=by rw [hm,jDx]
    have HML:=hid hml;clear hrO hzO hK hbl hrow ZP hbx hpre hm hkp hml hnt;by_cases hm0:m=0
    ·have q8:¬ (0:Int)<(m:Int):=by omega
     have HF:Hid (bJ w EE NN (.returned (.tuple #[.slice a5 n5 c5,.int .i64 0])) W):=by
      have Jc:NN=ah.aV l:=by rw [SV.out];unfold jB;rw [if_pos (by rw [List.isEmpty_iff,<- List.length_eq_zero_iff,HML.out];exact hm0),List.append_nil]
      rw [HE.out,Jc];exact ⟨_,_,rfl,(HO.out.lV (by have:=HZO.out;have:=HS.out;have:=Z4.out;omega) (by rw [<- HS.out];exact rR.out)).top⟩
     have HF2:=hid (HF.out.js2 (by have:=HS.out;omega) HK.out);clear HF;go_wp2;exact SQ rfl HK.out (fun w'=>by simp [results,Tryz.results13,go_sem]) HF2.out
    ·have q8:(0:Int)<(m:Int):=by omega
     have Jc:NN=ah.aV l++[aJ Q9 [⟨dx,eO⟩] (oq l)]:=by rw [SV.out];unfold jB;rw [if_neg (by rw [List.isEmpty_iff,<- List.length_eq_zero_iff,HML.out];exact hm0)]
     have jy1:=hid Jc;clear Jc;go_upto_region 14 with (fail)
     refine Km ?_;refine Je 9 (fun w'=>w'.cell? ⟨Bb,0,none⟩=some (.slice av m cv)) (by kernel_rfl) (BXF.out W.drew (jD7 _ _).drew) ?_;intro hH;refine gI (i:=0) (v:=?_) rfl (by kernel_rfl) (by kernel_rfl) (by kernel_rfl) (by kernel_rfl) (by kernel_rfl) (fun _ _ _ h=>absurd rfl (h.1 _)) hH (Or.inl ⟨by rfl,?_⟩) ?_;rotate_left
     ·exact Na
     refine gI (i:=3) (v:=?_) rfl (by kernel_rfl) (by kernel_rfl) (by kernel_rfl) (by kernel_rfl) (by kernel_rfl) (fun _ _ _ h=>absurd rfl (h.1 _)) hH (Or.inl ⟨by rfl,?_⟩) ?_;rotate_left
     ·exact Na
     refine gI (i:=4) (v:=?_) rfl (by kernel_rfl) (by kernel_rfl) (by kernel_rfl) (by kernel_rfl) (by kernel_rfl) (fun _ _ _ h=>absurd rfl (h.1 _)) hH (Or.inl ⟨by rfl,?_⟩) ?_;rotate_left
     ·exact Na
     refine gI (i:=5) (v:=?_) rfl (by kernel_rfl) (by kernel_rfl) (by kernel_rfl) (by kernel_rfl) (by kernel_rfl) (fun _ _ _ h=>absurd rfl (h.1 _)) hH (Or.inl ⟨by rfl,?_⟩) ?_;rotate_left
     ·exact Na
     obtain ⟨y0,hy0⟩:∃ y0,y0=W.drew:=⟨_,rfl⟩;have pE:jGj W.heap.size W y0:=by rw [hy0];exact (jD7 _ _).drew
     rw [<- hy0] at hH;rw [<- hy0];clear hy0;have PC:Hid (Calls Tryz.prog 41 #[.slice (some ⟨y0.heap.size,0,none⟩) 2 2] (y0.alloc (.cells #[.string ⟨#[99,108,97,115,115]⟩,.string ⟨#[110,111,116,101,115]⟩] 9)) (aU (y0.alloc (.cells #[.string ⟨#[99,108,97,115,115]⟩,.string ⟨#[110,111,116,101,115]⟩] 9)) [⟨dx,eO⟩])):=Xj dx eO y0;refine fH (i:=1) rfl (by kernel_rfl) (fun KQ hK=>?_);go_simp;have B1:jGj W.heap.size W (y0.alloc (.cells #[.string ⟨#[99,108,97,115,115]⟩,.string ⟨#[110,111,116,101,115]⟩] 9)):=pE.alloc pE.size _;refine hK.out _ _ (fun _ _=>BXF.out _ B1) (fun hH2=>?_);clear hK KQ hH;refine aL ?_;clear hH2;intro hH;refine fH (i:=2) rfl (by kernel_rfl) (fun KQ hK=>?_);go_simp;go_at_call 41
     (with_reducible refine (PC.out).mono ?_)
     rintro e y2 ⟨aZ,v2,rfl,hrow2⟩;obtain ⟨a9,c9,rfl,-,-⟩:=hrow2.cap (n:=1) rfl;have B2:jGj W.heap.size W y2:=B1.trans (hrow2.aM.mono B1.size);have PR2:=hid (show Rd (W.heap.size<=·) y2 (q32 [⟨dx,eO⟩]) [.slice a9 1 c9] from hrow2.bZ.weaken (fun b hb=>jD9 B1.size hb));clear hrow2 PC;refine hK.out _ _ (fun _ _=>BXF.out _ B2) (fun hH2=>?_);clear hK KQ hH;refine aL ?_;clear hH2;intro hH;refine mJ ?_;intro KQ hK;go_at_call 40
     (with_reducible refine (l7 ⟨#[115,101,99,116,105,111,110]⟩ a9 av 1 m c9 cv y2).mono ?_)
     rintro e y3 ⟨rfl,hb⟩;have B3:jGj W.heap.size W y3:=B2.trans (hb.mono B2.size);have XD:=hid (show Rd (fun b=>False\/w5.heap.size<=b) y3 (aJ Q9 [⟨dx,eO⟩] (oq l)).d [.string ⟨#[115,101,99,116,105,111,110]⟩,.string ⟨#[]⟩,.slice a9 1 c9,.slice av m cv] from (Nd.dJ ⟨#[115,101,99,116,105,111,110]⟩ ⟨#[]⟩ ⟨(PR2.out.bC hb).weaken (fun b (hb:W.heap.size<=b)=>by have:=HSW.out;show w5.heap.size<=b;omega),(bg.out.bZ.bC B3).weaken (fun b (hb:wB.heap.size<=b)=>by have:=FE.out;show w5.heap.size<=b;omega)⟩).weaken (fun b hb=>.inr hb));have U3:=hid (HO.out.below B3);have K3:=hid (show y3.heap[D]?=some (.deferred (some [])) from (B3.block D hDW).trans HK.out);have hD3:D<y3.heap.size:=Nat.lt_of_lt_of_le hDW B3.size;clear hb;refine hK.out _ _ (fun _ _=>BXF.out _ B3) (fun hH2=>?_);clear hK KQ hH;refine aL ?_;clear hH2;intro hH;refine yL ?_;intro KQ hK;refine hK.out _ _ (fun _ _=>BXF.out _ (B3.alloc B3.size _)) (fun hH2=>?_);clear hK KQ hH;refine aL ?_;clear hH2;intro hH;refine fH (i:=8) rfl (by kernel_rfl) (fun KQ hK=>?_);refine lq (n:=n5) rfl (.tmp 34) (.tmp 41) 28 rfl iN _ 80 Tryz.underlying28 qB fC fD fE rfl (by decide) U3.out (fun _=>False.elim) (aJ Q9 [⟨dx,eO⟩] (oq l)).d [.string ⟨#[115,101,99,116,105,111,110]⟩,.string ⟨#[]⟩,.slice a9 1 c9,.slice av m cv] XD.out rfl Fz HN5.out (by omega) (by decide) rfl rfl ?_;intro a6 c6 w8 ou hg8;have hoD:some D≠(Value.slice a5 n5 c5).ownBlock:=fun e=>by have:=U3.out.oU D e.symm;omega
     have K8:w8.heap[D]?=some (.deferred (some [])):=(hg8.block D (by rw [jE5];omega) hoD).trans ((Below.heap_alloc y3 _ D hD3).trans K3.out);have B8:jGj w.heap.size w w8:=by have h1:jGj S wO w8:=ou.aM.mono (by have:=HZO.out;have:=Z4.out;omega);have h2:jGj S w y3:=rR.out.trans (B3.mono (by have:=rR.out.size;have:=HS.out;omega));rw [<- HS.out];exact (h2.alloc (by have:=h2.size;have:=HS.out;omega) _).grown hg8 (by rw [jE5];have:=h2.size;have:=HS.out;omega) (fun j hj=>by have:=U3.out.own.lt j hj;have:=HZO.out;have:=Z4.out;omega)
     have HF:bJ w EE NN (.returned (.tuple #[.slice a6 (n5+1) c6,.int .i64 0])) w8:=by rw [HE.out,jy1.out];refine ⟨nY++[[.string ⟨#[115,101,99,116,105,111,110]⟩,.string ⟨#[]⟩,.slice a9 1 c9,.slice av m cv]],_,rfl,?_⟩;rw [List.map_append];exact ou.lV (by have:=HZO.out;have:=HS.out;have:=Z4.out;omega) B8
     have HF2:=hid (HF.js2 (by have:=HS.out;omega) K8);have HK8:=hid K8;have cb8:w8.cell? ⟨Bb,0,none⟩=some (.slice av m cv):=by
      have hBl:Bb<y3.heap.size:=by omega
      rw [jq (hg8.block Bb (by rw [jE5];omega) (fun e=>by have:=(U3.out.own.lt Bb e.symm).1;have:=HZO.out;have:=Z4.out;omega))];exact BXF.out _ (B3.alloc B3.size _)
     clear ou hg8 HF B8 K8 hoD;refine hK.out _ _ (fun _ _=>cb8) (fun hH2=>?_);clear hK KQ hH;refine aL ?_;clear hH2;intro hH;refine fH (i:=9) rfl (by kernel_rfl) (fun KQ hK=>?_);refine nV ?_;clear hK KQ hH;refine Om (by kernel_rfl) ?_ _;refine ⟨fun _ h=>(by cases h),?_⟩;clear XD U3 PR2;go_wp2;exact SQ rfl HK8.out (fun w'=>by simp [results,Tryz.results13,go_sem]) HF2.out
 ·have q1:((E0:Int) != 0)=true:=by rw [bne_iff_ne];omega
  have HF:Hid (bJ w EE NN (.returned (.tuple #[.slice none 0 0,.int .i64 (E0:Int)])) w1):=by
   have h5:EE=E0:=by rw [Gl.out,if_pos (by simpa using h0)]
   rw [h5];exact bJ.nil (by rw [Qh.out,h5,if_neg h0]) (by rw [<- HS.out];exact B1.out)
  clear h0;go_wp2;exact SN rfl (by simp [results,Tryz.results13,go_sem]) HF.out
open Go.RowKit
theorem Xt {ok:Nat->Prop} {w:jG9} {n t:ByteArray} {a:List Pr} {ks:List Nd} {va vk:Value} (h:Rd ok w (Nd.mk n t a ks).d [.string n,.string t,va,vk]):Rd ok w (gD ks) [vk]:=by obtain ⟨va',vk',e,hR⟩:=Nd.open_ h;simp only [List.cons.injEq,and_true,true_and] at e;obtain ⟨rfl,rfl⟩:=e;exact hR.ks
def PgX (w w':jG9) (title:ByteArray) (at_:List Pr) (va vk:Value):Prop:=
 ∃ (p3:Nat) (kh bv:Value),vk=.slice (some ⟨p3,0,none⟩) 2 2/\w.heap.size<=p3/\CB 35 p3 [.string sI,.string ⟨#[]⟩,.slice none 0 0,kh,.string vI,.string ⟨#[]⟩,.slice none 0 0,bv] w' /\
  Rd (fun b=>w.heap.size<=b/\b<p3) w' (gD [aJ lu [⟨Jd,iY⟩] [],aJ iU [] (bI title)]) [kh]/\Rd (fun b=>w.heap.size<=b/\b<p3) w' (q32 at_) [va]
def kD (w:jG9) (title:ByteArray) (E:Nat) (x:Nd) (e:Ending) (w':jG9):Prop:=
 ∃ va vk,e=.returned (.tuple #[.agg #[.string x.nm,.string x.tx,va,vk],.int .i64 (E:Int)])/\gZ (w.heap.size<=·) w' x.at_ x.ks va vk/\jGj w.heap.size w w'/\(E=0->PgX w w' title x.at_ va vk)
theorem kD.of {w w':jG9} {title:ByteArray} {E:Nat} {E':Int} {x:Nd} {v:Value} (h:qc w x (.returned v) w') (hE:E'=(E:Int)) (hx:E=0->∀ va vk,v=.agg #[.string x.nm,.string x.tx,va,vk]->PgX w w' title x.at_ va vk):kD w title E x (.returned (.tuple #[v,.int .i64 E'])) w':=by
 obtain ⟨va,vk,he,h1,h2⟩:=h;subst hE;injection he with he
 exact ⟨va,vk,by rw [he],h1,h2,fun h0=>hx h0 va vk he⟩
theorem jb6{P Q:Prop}(q:Q)(h:Nonempty Q->P:=by
 intro qQ;obtain ⟨x0,x1,x2,x3,xf⟩:=qC (K1.out.below B2.out);obtain ⟨w9,dn⟩:∃ w9,w9=kX w2 (S+1) (.string ⟨#[]⟩) (.string ⟨#[]⟩) (.slice none 0 0) (.slice none 0 0):=⟨_,rfl⟩;have hf:=vL ⟨#[]⟩ ⟨#[]⟩ [] [] AO.out Z0.out B0.out K1.out B2.out ⟨Rd.aC _ _ _,Rd.aC _ _ _⟩;rw [<- dn] at hf;revert x0 x1 x2 x3 xf w9 dn hf;exact qQ.elim fun x=>x):P:=h ⟨q⟩
theorem Ko (me:List Pr) (l:List ah) (title lang:ByteArray) (vm vb:Value) (w:jG9) (hm:Rd (·<w.heap.size) w (q32 me) [vm]) (hb:Rd (·<w.heap.size) w (nN l) [vb]) (hme:me.length<=1000) (xY:∀ p∈me,p.key.size<=1000/\p.val.size<=1000) (hall:ah.dA l<=32768) (hsm:ah.aB l) (hsz:ah.aY l<=900000) (hil:(ah.aS l).length<=1000) (hbd:ah.uw l) (hti:title.size<=300) (hla:lang.size<=300) (ht:PT w) : Calls Tryz.prog 16 #[.agg #[vm,vb],.string title,.string lang] w (kD w title (pgE me l title lang) (Ws me l title lang)):=by
 obtain ⟨am,cm,hvm,-⟩:=Rd.ay hm;obtain ⟨nm,hnm⟩:∃ nm,nm=me.length:=⟨_,rfl⟩;obtain rfl:vm=.slice am nm cm:=by rw [hnm];simpa using hvm
 obtain ⟨ab,nb,cb,rfl⟩:=Rd.au hb;clear hvm;obtain ⟨S,W0,hS,hW0,z0,k0,k1,b0⟩:=zk 26 w [.slice am nm cm,.slice ab nb cb];have b0w:jGj w.heap.size w W0:=by rw [<- hS];exact b0
 have CK:=Jv iT me l am ab cm nb cb W0 hme xY hall hsm (fun _=>G7) (by rw [<- hnm];exact hm.up b0w) (hb.up b0w);rw [<- hnm] at CK;have BC:Hid (∀ W:jG9,jGj W0.heap.size W0 W->Calls Tryz.prog 13 #[.slice ab nb cb] W (bJ W (Bo l) (Q7 l))):=fun W hW=>xw l _ W (hb.up (b0w.trans (hW.mono b0w.size))) hsm hsz hil hbd (ht.below (b0w.trans (hW.mono b0w.size)))
 have LC:Hid (∀ W:jG9,Calls Tryz.prog 51 #[.string title] W (eX (.bool (dG title)) W)):=fun W=>by
  have h:=GZ title W (by omega);rw [Oj] at h;exact h
 have NC:Hid (∀ W:jG9,Calls Tryz.prog 52 #[.string lang] W (fun e w'=>e=.returned (.bool (dZ lang))/\W=w')):=fun W=>P9 lang W (by omega)
 obtain ⟨EE,Jb⟩:∃ EE,EE=pgE me l title lang:=⟨_,rfl⟩;obtain ⟨E0,hE0⟩:∃ E0,E0=jw iT me l:=⟨_,rfl⟩;obtain ⟨T,hT⟩:∃ T,T=dG title:=⟨_,rfl⟩;obtain ⟨G,hG⟩:∃ G,G=dZ lang:=⟨_,rfl⟩;obtain ⟨EB,hEB⟩:∃ EB,EB=Bo l:=⟨_,rfl⟩;obtain ⟨NB,hNB⟩:∃ NB,NB=Q7 l:=⟨_,rfl⟩;have hee:EE=if E0≠0 then E0 else if T=false then 17 else if G=false then 6 else EB:=by
  rw [Jb,hE0,hT,hG,hEB];unfold pgE;by_cases h0:jw iT me l≠0
  ·rw [if_pos h0,if_pos h0]
  ·rw [if_neg h0,if_neg h0];have h1:Bo l=if (ah.aS l).any eH=true then 5 else 0:=by
    unfold Bo;rw [if_neg (by rw [jk6 (Classical.not_not.1 h0)];simp)]
   rw [h1]
 have hpn:Ws me l title lang=if EE=0 then JM title lang (jB l) else Ck:=by rw [Jb];rfl
 have hnb:EB=0->NB=jB l:=fun h=>by rw [hNB];unfold Q7;rw [if_pos (hEB.symm.trans h)]
 rw [<- hE0] at CK;rw [<- hT] at LC;rw [<- hG] at NC;rw [<- hEB,<- hNB] at BC;rw [<- Jb];have HCK:=hid CK;have Gl:=hid hee;have HPN:=hid hpn;have HNB:=hid hnb;refine Gt ?_;intro AO HW0 Z0 B0 K1;have X0:Hid (∀ W:jG9,jGj W0.heap.size W0 W->W.cell? ⟨S,1,none⟩=some (.slice ab nb cb)):=fun W hW=>(k0.below hW).cell 1 _ rfl
 have x0:=k0.cell 0 _ rfl;have x1:=k0.cell 1 _ rfl;clear CK hm hb hme xY hall hsm hsz hil hbd hti hla ht Jb hE0 hT hG hEB hNB hee hpn hnb hS hW0 z0 b0 k1 k0 b0w hnm;go_enter Tryz.func16,Tryz.ntmps16;go_upto_region 1 with (fail)
 rw [<- AO.out];refine Gu ?_;go_wp2_with fail
 (with_reducible refine HCK.out.mono ?_)
 rintro e w1 ⟨rfl,b1⟩;have B1:=hid b1;clear b1 HCK x0 x1;by_cases h0:E0=0
 ·have q1:((E0:Int) != 0)=false:=by rw [h0];rfl
  have Wq:Hid (EE=if T=false then 17 else if G=false then 6 else EB):=by show _=_;rw [Gl.out,if_neg (by simp [h0])]
  have LT:=hid (LC.out w1);clear h0 Gl;go_wp2_with fail
  (with_reducible refine LT.out.mono ?_)
  rintro e w2 ⟨rfl,b2⟩;have B2:=hid (q01 B1.out b2);clear b2 LT;cases T with
  | false=>
   have js5:=hid (show EE=17 by rw [Wq.out];rfl);have HPZ:=hid (show Ws me l title lang=Ck by rw [HPN.out,js5.out];rfl);refine jb6 ?_;intro x0 x1 x2 x3 xf w9 dn hf;refine vR ?_;clear hf dn;intro yQ yR hw8;go_wp2;refine qD ?_;intro r0 r1 r2 r3;exact bodyPost_ret (v:=.tuple #[.agg #[.string ⟨#[]⟩,.string ⟨#[]⟩,.slice none 0 0,.slice none 0 0],.int .i64 (17)]) (by simp [results,Tryz.results16,go_sem,r0,r1,r2,r3]) rfl (by rw [HPZ.out,js5.out];exact kD.of yR.out (by simp) (fun h=>by cases h))
  | true=>
   have NT:=hid (NC.out w2);go_wp2_with fail
   (with_reducible refine NT.out.mono ?_)
   rintro e w3 ⟨rfl,hw3⟩;rw [<- hw3];clear NT hw3 w3;cases G with
   | false=>
    have HE6:=hid (show EE=6 by rw [Wq.out];rfl);have HPZ:=hid (show Ws me l title lang=Ck by rw [HPN.out,HE6.out];rfl);refine jb6 ?_;intro x0 x1 x2 x3 xf w9 dn hf;refine vR ?_;clear hf dn;intro yQ yR hw8;go_wp2;refine qD ?_;intro r0 r1 r2 r3;exact bodyPost_ret (v:=.tuple #[.agg #[.string ⟨#[]⟩,.string ⟨#[]⟩,.slice none 0 0,.slice none 0 0],.int .i64 (6)]) (by simp [results,Tryz.results16,go_sem,r0,r1,r2,r3]) rfl (by rw [HPZ.out,HE6.out];exact kD.of yR.out (by simp) (fun h=>by cases h))
   | true=>
    have HEB:=hid (show EE=EB by rw [Wq.out];rfl);have BT:=hid (BC.out w2 B2.out);have x1:=X0.out w2 B2.out;go_wp2_with fail
    (with_reducible refine BT.out.mono ?_)
    rintro e w3 ⟨dD,v3,rfl,hrow3⟩;obtain ⟨a3,n3,c3,rfl⟩:=hrow3.slice3;have B3:=hid (q01 B2.out hrow3.aM);have KB3:=hid (show Rd (W0.heap.size<=·) w3 (gD NB) [.slice a3 n3 c3] from hrow3.bZ.weaken (fun b (hb:w2.heap.size<=b)=>jD9 B2.out.size hb));clear hrow3 BT x1;by_cases hB0:EB=0
    ·have q2:((EB:Int) != 0)=false:=by rw [hB0];rfl
     have HPF:=hid (show Ws me l title lang=JM title lang (jB l) by rw [HPN.out,if_pos (by rw [HEB.out,hB0])]);have H0:=hid (show EE=0 by rw [HEB.out,hB0]);have KP3:=hid (show Rd (W0.heap.size<=·) w3 (gD (jB l)) [.slice a3 n3 c3] by rw [<- HNB.out hB0];exact KB3.out);clear hB0 KB3;have PC:Hid (Calls Tryz.prog 41 #[.slice (some ⟨w3.heap.size,0,none⟩) 2 2] (w3.alloc (.cells #[.string ⟨#[99,104,97,114,115,101,116]⟩,.string ⟨#[117,116,102,45,56]⟩] 9)) (aU (w3.alloc (.cells #[.string ⟨#[99,104,97,114,115,101,116]⟩,.string ⟨#[117,116,102,45,56]⟩] 9)) [⟨Jd,iY⟩])):=Xj Jd iY w3;have bA:jGj w3.heap.size w3 (w3.alloc (.cells #[.string ⟨#[99,104,97,114,115,101,116]⟩,.string ⟨#[117,116,102,45,56]⟩] 9)):=(jD7 _ _).alloc (jD8 _) _;go_wp2_with fail
     (with_reducible refine PC.out.mono ?_)
     rintro e w4 ⟨bD,v4,rfl,hrow4⟩;obtain ⟨a4,c4,rfl,-,-⟩:=hrow4.cap (n:=1) rfl;have b34:jGj w3.heap.size w3 w4:=bA.trans (hrow4.aM.mono bA.size);have B4:=hid (q01 B3.out b34);have CJ:=hid (show Rd (W0.heap.size<=·) w4 (q32 [⟨Jd,iY⟩]) [.slice a4 1 c4] from hrow4.bZ.weaken (fun b hb=>jD9 B3.out.size (jD9 bA.size hb)));have KP4:=hid (KP3.out.bC b34);have EC1:=hid (l7 ⟨#[109,101,116,97]⟩ a4 none 1 0 c4 0 w4);clear hrow4 bA b34 PC KP3;go_wp2_with fail
     (with_reducible refine EC1.out.mono ?_)
     rintro e w5 ⟨rfl,b5⟩;have B5:=hid (q01 B4.out b5);have XM5:=hid (show Rd (W0.heap.size<=·) w5 (aJ lu [⟨Jd,iY⟩] []).d [.string ⟨#[109,101,116,97]⟩,.string ⟨#[]⟩,.slice a4 1 c4,.slice none 0 0] from Nd.dJ ⟨#[109,101,116,97]⟩ ⟨#[]⟩ ⟨CJ.out.bC b5,Rd.aC _ _ _⟩);have KP5:=hid (KP4.out.bC b5);have DC:=hid (jD title w5);clear b5 EC1 CJ KP4;go_wp2_with fail
     (with_reducible refine DC.out.mono ?_)
     rintro e w6 ⟨jb7,v6,rfl,dB⟩;obtain ⟨a6,n6,c6,rfl⟩:=dB.slice3;have B6:=hid (q01 B5.out dB.aM);have XM6:=hid (XM5.out.bC dB.aM);have KP6:=hid (KP5.out.bC dB.aM);have KT6:=hid (show Rd (W0.heap.size<=·) w6 (gD (bI title)) [.slice a6 n6 c6] from dB.bZ.weaken (fun b (hb:w5.heap.size<=b)=>jD9 B5.out.size hb));have EC2:=hid (l7 ⟨#[116,105,116,108,101]⟩ none a6 0 n6 0 c6 w6);clear dB DC XM5 KP5;go_wp2_with fail
     (with_reducible refine EC2.out.mono ?_)
     rintro e w7 ⟨rfl,b7⟩;have B7:=hid (q01 B6.out b7);have KD7:=hid (M7 (ok:=(W0.heap.size<=·)) (w:=w7) (x:=(aJ lu [⟨Jd,iY⟩] [])) (y:=(aJ iU [] (bI title))) B7.out.size (XM6.out.bC b7) (Nd.dJ ⟨#[116,105,116,108,101]⟩ ⟨#[]⟩ ⟨Rd.aC _ _ _,KT6.out.bC b7⟩));have bA:jGj w7.heap.size w7 (w7.alloc (.cells #[.string ⟨#[109,101,116,97]⟩,.string ⟨#[]⟩,.slice a4 1 c4,.slice none 0 0,.string ⟨#[116,105,116,108,101]⟩,.string ⟨#[]⟩,.slice none 0 0,.slice a6 n6 c6] 35)):=(jD7 _ _).alloc (jD8 _) _;have BA7:=hid (q01 B7.out bA);have KP7:=hid ((KP6.out.bC b7).bC bA);obtain ⟨p7,Sc⟩:∃ p7,p7=w7.heap.size:=⟨_,rfl⟩;have HP7:=hid Sc;have EC3:=l7 ⟨#[104,101,97,100]⟩ none (some ⟨p7,0,none⟩) 0 2 0 2 (w7.alloc (.cells #[.string ⟨#[109,101,116,97]⟩,.string ⟨#[]⟩,.slice a4 1 c4,.slice none 0 0,.string ⟨#[116,105,116,108,101]⟩,.string ⟨#[]⟩,.slice none 0 0,.slice a6 n6 c6] 35));rw [<- Sc] at KD7;have EC3:=hid EC3;clear b7 EC2 XM6 KP6 KT6 bA Sc;go_wp2_with fail
     rw [<- HP7.out]
     (with_reducible refine EC3.out.mono ?_)
     rintro e w8 ⟨rfl,b8⟩;have B8:=hid (q01 BA7.out b8);have XH8:=hid (show Rd (W0.heap.size<=·) w8 (aJ sI [] [(aJ lu [⟨Jd,iY⟩] []),(aJ iU [] (bI title))]).d [.string ⟨#[104,101,97,100]⟩,.string ⟨#[]⟩,.slice none 0 0,.slice (some ⟨p7,0,none⟩) 2 2] from Nd.dJ ⟨#[104,101,97,100]⟩ ⟨#[]⟩ ⟨Rd.aC _ _ _,KD7.out.bC b8⟩);have KP8:=hid (KP7.out.bC b8);obtain ⟨Bh,hBh⟩:∃ Bh,Bh=w8.heap.size:=⟨_,rfl⟩;obtain ⟨wH,hwH⟩:∃ wH,wH=w8.alloc (.cells #[.string ⟨#[104,101,97,100]⟩,.string ⟨#[]⟩,.slice none 0 0,.slice (some ⟨p7,0,none⟩) 2 2] 35):=⟨_,rfl⟩;have bH:jGj w8.heap.size w8 wH:=by rw [hwH];exact (jD7 _ _).alloc (jD8 _) _
     have kH:CB 35 Bh [.string ⟨#[104,101,97,100]⟩,.string ⟨#[]⟩,.slice none 0 0,.slice (some ⟨p7,0,none⟩) 2 2] wH:=by rw [hwH,hBh];exact CB.new _ _ _
     have BH:=hid (q01 B8.out bH);have XHH:=hid (XH8.out.bC bH);have KPH:=hid (KP8.out.bC bH);have HCH:Hid (∀ y:jG9,jGj wH.heap.size wH y->y.cell? ⟨Bh,0,none⟩=some (.string ⟨#[104,101,97,100]⟩)/\y.cell? ⟨Bh,1,none⟩=some (.string ⟨#[]⟩)/\y.cell? ⟨Bh,2,none⟩=some (.slice none 0 0)/\y.cell? ⟨Bh,3,none⟩=some (.slice (some ⟨p7,0,none⟩) 2 2)):=fun y hy=>⟨(kH.below hy).cell 0 _ rfl,(kH.below hy).cell 1 _ rfl,(kH.below hy).cell 2 _ rfl,(kH.below hy).cell 3 _ rfl⟩
     clear b8 EC3 KD7 KP7 XH8 KP8 bH kH;go_upto_region 12 with (fail)
     rw [<- hwH,<- hBh];clear hwH hBh;refine Je 8 (fun w'=>jGj wH.heap.size wH w') (by kernel_rfl) (jD7 _ _).drew ?_;intro hH;refine eY 0 rfl (by kernel_rfl) hH (by rfl) (by intro wv hSw;obtain ⟨c0,c1,c2,c3⟩:=HCH.out wv hSw;go_simp;try with_reducible rfl) ?_;refine eY 3 rfl (by kernel_rfl) hH (by rfl) (by intro wv hSw;obtain ⟨c0,c1,c2,c3⟩:=HCH.out wv hSw;go_simp;try with_reducible rfl) ?_;refine eY 4 rfl (by kernel_rfl) hH (by rfl) (by intro wv hSw;obtain ⟨c0,c1,c2,c3⟩:=HCH.out wv hSw;go_simp;try with_reducible rfl) ?_;obtain ⟨y0,hy0⟩:∃ y0,y0=wH.drew:=⟨_,rfl⟩;have pE:jGj wH.heap.size wH y0:=by rw [hy0];exact (jD7 _ _).drew
     rw [<- hy0] at hH;rw [<- hy0];clear hy0;have LC2:Hid (Calls Tryz.prog 41 #[.slice (some ⟨y0.heap.size,0,none⟩) 2 2] (y0.alloc (.cells #[.string ⟨#[108,97,110,103]⟩,.string lang] 9)) (aU (y0.alloc (.cells #[.string ⟨#[108,97,110,103]⟩,.string lang] 9)) [⟨kS,lang⟩])):=Xj kS lang y0;refine fH (i:=1) rfl (by kernel_rfl) (fun KQ hK=>?_);go_simp;have B1y:jGj wH.heap.size wH (y0.alloc (.cells #[.string ⟨#[108,97,110,103]⟩,.string lang] 9)):=pE.alloc pE.size _;refine hK.out _ _ (fun _ _=>B1y) (fun hH2=>?_);clear hK KQ hH;refine aL ?_;clear hH2;intro hH;refine fH (i:=2) rfl (by kernel_rfl) (fun KQ hK=>?_);go_simp;go_at_call 41
     (with_reducible refine (LC2.out).mono ?_)
     rintro e y2 ⟨aZ,v2,rfl,hrow2⟩;obtain ⟨a9,c9,rfl,-,-⟩:=hrow2.cap (n:=1) rfl;have B2y:jGj wH.heap.size wH y2:=B1y.trans (hrow2.aM.mono B1y.size);have PR2:=hid (show Rd (W0.heap.size<=·) y2 (q32 [⟨kS,lang⟩]) [.slice a9 1 c9] from hrow2.bZ.weaken (fun b hb=>jD9 BH.out.size (jD9 B1y.size hb)));clear hrow2 LC2;refine hK.out _ _ (fun _ _=>B2y) (fun hH2=>?_);clear hK KQ hH;refine aL ?_;clear hH2;intro hH;refine yV ?_;intro KQ hK;go_at_call 40
     (with_reducible refine (l7 ⟨#[98,111,100,121]⟩ none a3 0 n3 0 c3 y2).mono ?_)
     rintro e y3 ⟨rfl,hb⟩;have B3y:jGj wH.heap.size wH y3:=B2y.trans (hb.mono B2y.size);have PR3:=hid (PR2.out.bC hb);have KD3:=hid (M7 (ok:=(W0.heap.size<=·)) (w:=y3) (x:=(aJ sI [] [(aJ lu [⟨Jd,iY⟩] []),(aJ iU [] (bI title))])) (y:=(aJ vI [] (jB l))) (jD9 BH.out.size B3y.size) (XHH.out.bC B3y) (Nd.dJ ⟨#[98,111,100,121]⟩ ⟨#[]⟩ ⟨Rd.aC _ _ _,KPH.out.bC B3y⟩));have HXK:=hid (show Rd (fun b=>W0.heap.size<=b/\b<y3.heap.size) y3 (gD [aJ lu [⟨Jd,iY⟩] [],aJ iU [] (bI title)]) [.slice (some ⟨p7,0,none⟩) 2 2] from (Xt (XHH.out.bC B3y)).inside);have HXA:=hid (show Rd (fun b=>W0.heap.size<=b/\b<y3.heap.size) y3 (q32 [⟨kS,lang⟩]) [.slice a9 1 c9] from PR3.out.inside);clear hb PR2;refine hK.out _ _ (fun _ _=>B3y) (fun hH2=>?_);clear hK KQ hH;refine aL ?_;clear hH2;intro hH;refine mJ ?_;intro KQ hK;have bA:jGj y3.heap.size y3 (y3.alloc (.cells #[.string ⟨#[104,101,97,100]⟩,.string ⟨#[]⟩,.slice none 0 0,.slice (some ⟨p7,0,none⟩) 2 2,.string ⟨#[98,111,100,121]⟩,.string ⟨#[]⟩,.slice none 0 0,.slice a3 n3 c3] 35)):=(jD7 _ _).alloc (jD8 _) _;have B6y:jGj wH.heap.size wH (y3.alloc (.cells #[.string ⟨#[104,101,97,100]⟩,.string ⟨#[]⟩,.slice none 0 0,.slice (some ⟨p7,0,none⟩) 2 2,.string ⟨#[98,111,100,121]⟩,.string ⟨#[]⟩,.slice none 0 0,.slice a3 n3 c3] 35)):=B3y.trans (bA.mono B3y.size);have PR6:=hid (PR3.out.bC bA);have jmk:=hid (HXK.out.bC bA);have jmq:=hid (HXA.out.bC bA);have jmx:=hid (CB.new 35 [.string ⟨#[104,101,97,100]⟩,.string ⟨#[]⟩,.slice none 0 0,.slice (some ⟨p7,0,none⟩) 2 2,.string ⟨#[98,111,100,121]⟩,.string ⟨#[]⟩,.slice none 0 0,.slice a3 n3 c3] y3);have HY3:=hid B3y.size;obtain ⟨y6,hN⟩:∃ y6,y6=y3.alloc (.cells #[.string ⟨#[104,101,97,100]⟩,.string ⟨#[]⟩,.slice none 0 0,.slice (some ⟨p7,0,none⟩) 2 2,.string ⟨#[98,111,100,121]⟩,.string ⟨#[]⟩,.slice none 0 0,.slice a3 n3 c3] 35):=⟨_,rfl⟩;obtain ⟨p3,hf⟩:∃ p3,p3=y3.heap.size:=⟨_,rfl⟩;rw [<- hN,<- hf] at KD3;rw [<- hN] at PR6 B6y;have jmk:Hid (Rd (fun b=>W0.heap.size<=b/\b<p3) y6 (gD [aJ lu [⟨Jd,iY⟩] [],aJ iU [] (bI title)]) [.slice (some ⟨p7,0,none⟩) 2 2]):=by show Rd _ _ _ _;rw [hf,hN];exact jmk.out
     have jmq:Hid (Rd (fun b=>W0.heap.size<=b/\b<p3) y6 (q32 [⟨kS,lang⟩]) [.slice a9 1 c9]):=by show Rd _ _ _ _;rw [hf,hN];exact jmq.out
     have jmx:Hid (CB 35 p3 [.string ⟨#[104,101,97,100]⟩,.string ⟨#[]⟩,.slice none 0 0,.slice (some ⟨p7,0,none⟩) 2 2,.string ⟨#[98,111,100,121]⟩,.string ⟨#[]⟩,.slice none 0 0,.slice a3 n3 c3] y6):=by show CB _ _ _ _;rw [hf,hN];exact jmx.out
     have HY3:Hid (wH.heap.size<=p3):=by show _<=_;rw [hf];exact HY3.out
     rw [<- hN,<- hf];clear hN hf bA PR3;refine hK.out _ _ (fun _ _=>B6y) (fun hH2=>?_);clear hK KQ hH;refine aL ?_;clear hH2;intro hH;refine yL ?_;intro KQ hK;go_at_call 40
     (with_reducible refine (l7 ⟨#[104,116,109,108]⟩ a9 (some ⟨p3,0,none⟩) 1 2 c9 2 y6).mono ?_)
     rintro e y7 ⟨rfl,hb⟩;have B7y:jGj wH.heap.size wH y7:=B6y.trans (hb.mono B6y.size);have HN:=hid (show gZ (W0.heap.size<=·) y7 [⟨kS,lang⟩] [(aJ sI [] [(aJ lu [⟨Jd,iY⟩] []),(aJ iU [] (bI title))]),(aJ vI [] (jB l))] (.slice a9 1 c9) (.slice (some ⟨p3,0,none⟩) 2 2) from ⟨PR6.out.bC hb,KD3.out.bC hb⟩);have BL:=hid (q01 BH.out B7y);have jy2:=hid (jmk.out.bC hb);have jy3:=hid (jmq.out.bC hb);have jy4:=hid (jmx.out.below hb);clear hb PR6 KD3;refine hK.out _ _ (fun _ _=>B7y) (fun hH2=>?_);clear hK KQ hH;refine aL ?_;clear hH2;intro hH;refine fH (i:=8) rfl (by kernel_rfl) (fun KQ hK=>?_);obtain ⟨x0,x1,x2,x3,xf⟩:=qC (K1.out.below BL.out);go_simp;clear x0 x1 x2 x3 xf;refine hK.out _ _ (fun h=>absurd rfl h) (fun _=>?_);clear hK KQ hH;refine Co ?_;intro KQ hK;refine MJ ?_;clear hK KQ;refine Om (by kernel_rfl) ?_ _;obtain ⟨w9,dn⟩:∃ w9,w9=kX y7 (S+1) (.string ⟨#[104,116,109,108]⟩) (.string ⟨#[]⟩) (.slice a9 1 c9) (.slice (some ⟨p3,0,none⟩) 2 2):=⟨_,rfl⟩;have HX9:Hid (PgX w w9 title [⟨kS,lang⟩] (.slice a9 1 c9) (.slice (some ⟨p3,0,none⟩) 2 2)):=by
      have e1:=Z0.out;have e2:=BH.out.size;have e4:=HY3.out;have e5:=AO.out;refine ⟨p3,.slice (some ⟨p7,0,none⟩) 2 2,.slice a3 n3 c3,rfl,by omega,?_,?_,?_⟩
      ·rw [dn];exact (iy _ _ _ _ _ _ p3 (by omega)).trans jy4.out
      ·rw [dn];exact Rd.keep (fun b (hb:W0.heap.size<=b/\b<p3) _=>⟨⟨by omega,hb.2⟩,iy _ _ _ _ _ _ b (by omega)⟩) _ _ jy2.out
      ·rw [dn];exact Rd.keep (fun b (hb:W0.heap.size<=b/\b<p3) _=>⟨⟨by omega,hb.2⟩,iy _ _ _ _ _ _ b (by omega)⟩) _ _ jy3.out
     have hf:=vL ⟨#[104,116,109,108]⟩ ⟨#[]⟩ [⟨kS,lang⟩] [(aJ sI [] [(aJ lu [⟨Jd,iY⟩] []),(aJ iU [] (bI title))]),(aJ vI [] (jB l))] AO.out Z0.out B0.out K1.out BL.out HN.out;rw [<- dn] at hf;refine vR ?_;clear hf dn;intro yQ yR hw8;rw [<- hw8];clear hw8;go_wp2;have r0:=yQ.out.cell 0 _ rfl;have r1:=yQ.out.cell 1 _ rfl;have r2:=yQ.out.cell 2 _ rfl;have r3:=yQ.out.cell 3 _ rfl;exact bodyPost_ret (v:=.tuple #[.agg #[.string ⟨#[104,116,109,108]⟩,.string ⟨#[]⟩,.slice a9 1 c9,.slice (some ⟨p3,0,none⟩) 2 2],.int .i64 (0)]) (by simp [results,Tryz.results16,go_sem,r0,r1,r2,r3]) rfl (by rw [HPF.out,H0.out];exact kD.of yR.out (by simp) (fun _ va vk e=>by
      simp only [Value.agg.injEq,Array.mk.injEq,List.cons.injEq,and_true] at e;obtain ⟨-,-,rfl,rfl⟩:=e;exact HX9.out))
    ·have q2:((EB:Int) != 0)=true:=by rw [bne_iff_ne];omega
     have HPZ:=hid (show Ws me l title lang=Ck by rw [HPN.out,if_neg (by rw [HEB.out];exact hB0)]);obtain ⟨x0,x1,x2,x3,xf⟩:=qC (K1.out.below B3.out);obtain ⟨w9,dn⟩:∃ w9,w9=kX w3 (S+1) (.string ⟨#[]⟩) (.string ⟨#[]⟩) (.slice none 0 0) (.slice none 0 0):=⟨_,rfl⟩;have hf:=vL ⟨#[]⟩ ⟨#[]⟩ [] [] AO.out Z0.out B0.out K1.out B3.out ⟨Rd.aC _ _ _,Rd.aC _ _ _⟩;rw [<- dn] at hf;refine vR ?_;clear hf dn;intro yQ yR hw8;go_wp2;refine qD ?_;intro r0 r1 r2 r3;exact bodyPost_ret (v:=.tuple #[.agg #[.string ⟨#[]⟩,.string ⟨#[]⟩,.slice none 0 0,.slice none 0 0],.int .i64 (EB)]) (by simp [results,Tryz.results16,go_sem,r0,r1,r2,r3]) rfl (by rw [HPZ.out,HEB.out];exact kD.of yR.out (by simp) (fun h=>absurd h hB0))
 ·have q1:((E0:Int) != 0)=true:=by rw [bne_iff_ne];omega
  have HE9:=hid (show EE=E0 by rw [Gl.out,if_pos h0]);have HPZ:=hid (show Ws me l title lang=Ck by rw [HPN.out,if_neg (by rw [HE9.out];exact h0)]);obtain ⟨x0,x1,x2,x3,xf⟩:=qC (K1.out.below B1.out);obtain ⟨w9,dn⟩:∃ w9,w9=kX w1 (S+1) (.string ⟨#[]⟩) (.string ⟨#[]⟩) (.slice none 0 0) (.slice none 0 0):=⟨_,rfl⟩;have hf:=vL ⟨#[]⟩ ⟨#[]⟩ [] [] AO.out Z0.out B0.out K1.out B1.out ⟨Rd.aC _ _ _,Rd.aC _ _ _⟩;rw [<- dn] at hf;refine vR ?_;clear hf dn;intro yQ yR hw8;go_wp2;refine qD ?_;intro r0 r1 r2 r3;exact bodyPost_ret (v:=.tuple #[.agg #[.string ⟨#[]⟩,.string ⟨#[]⟩,.slice none 0 0,.slice none 0 0],.int .i64 (E0)]) (by simp [results,Tryz.results16,go_sem,r0,r1,r2,r3]) rfl (by rw [HPZ.out,HE9.out];exact kD.of yR.out (by simp) (fun h=>absurd h h0))
theorem OI (me:List Pr) (l:List ah) (title lang:ByteArray) (vm vb:Value) (w:jG9) (hm:Rd (·<w.heap.size) w (q32 me) [vm]) (hb:Rd (·<w.heap.size) w (nN l) [vb]) (hme:me.length<=1000) (xY:∀ p∈me,p.key.size<=1000/\p.val.size<=1000) (hall:ah.dA l<=32768) (hsm:ah.aB l) (hsz:ah.aY l<=900000) (hil:(ah.aS l).length<=1000) (hbd:ah.uw l) (hti:title.size<=300) (hla:lang.size<=300) (ht:PT w) : Calls Tryz.prog 16 #[.agg #[vm,vb],.string title,.string lang] w (jl6 w (pgE me l title lang) (Ws me l title lang)):=
 (Ko me l title lang vm vb w hm hb hme xY hall hsm hsz hil hbd hti hla ht).mono fun e w' ⟨va,vk,h1,h2,h3,_⟩=>⟨va,vk,h1,h2,h3⟩
end Go.Proofs.YtkfnkeflalcphaaGreatDoor

