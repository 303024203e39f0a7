/- Contract of slides.parts. Contract of slides.Of. -/
import Derived.Test.YtkfnkeflalcphaaGreatDoorMNdL
set_option maxHeartbeats 8000000
set_option maxRecDepth 100000
open Go.Lib (hid)
namespace Go.Proofs.YtkfnkeflalcphaaGreatDoor
open Tryz
open List renaming setIfInBounds_toArray->jK3,set_cons_zero->jK4,set_cons_succ->jK5,length_map->jKx,length_take->jN4
open Go.RowKit.Below renaming refl->jK7,heap_setCell->jL1
open Nat renaming le_refl->jK8
open Go.World renaming size_alloc->jL5,cell?->jM0,setCell->jM1
open Go.RowKit renaming Below->jNj
open Go.RowKit
set_option linter.unusedVariables false
set_option linter.unusedSimpArgs false
def jvq (w:World) (L:List Pt) (e:Ending) (w':World):Prop:=∃ v,e=.returned v/\Rd (·<w'.heap.size) w' (.sl 2 (L.map Pt.d)) [v]/\jNj w.heap.size w w'
def QB (w:World) (l:List ah) (vi:Value) (wr:World):Prop:=∃ k:Nat,k<=l.length/\vi=.int .i64 k/\fV (·<w.heap.size) w.heap.size wr.heap.size (nM (l.take k)) wr/\jNj w.heap.size w wr
theorem Tc (l:List ah) (k:Nat) (x:ah) (h:l[k]?=some x):nM (l.take (k+1))=lZ (nM (l.take k)) x:=by unfold nM;rw [List.take_add_one,h,List.foldl_append];rfl
theorem CG:∀ (l:List ah) (s:yG),(l.foldl lZ s).all.length<=s.all.length+l.length/\(l.foldl lZ s).op.bl.length<=s.op.bl.length+l.length
 | [],s=>⟨jK8 _,jK8 _⟩
 | x::l,s=>by
  have h:=CG l (lZ s x);have h1:(lZ s x).all.length<=s.all.length+1/\(lZ s x).op.bl.length<=s.op.bl.length+1:=by
   unfold lZ dZ;split
   ·split
    ·split<;>simp
    ·split<;>simp
   ·simp
  rw [List.foldl_cons,List.length_cons];omega
theorem jcx (ok:Nat->Prop) (w:World):Rd ok w (ah.mk 0 0 ⟨#[]⟩ ⟨#[]⟩ ⟨#[]⟩ ⟨#[]⟩ ⟨⟨#[]⟩,[],[]⟩ [] []).d [.int .i64 0,.int .i64 0,.string ⟨#[]⟩,.string ⟨#[]⟩,.string ⟨#[]⟩,.string ⟨#[]⟩,.string ⟨#[]⟩,.slice none 0 0,.slice none 0 0,.slice none 0 0,.slice none 0 0]:=
 ah.fC 0 0 ⟨#[]⟩ ⟨#[]⟩ ⟨#[]⟩ ⟨#[]⟩ (a:=⟨⟨#[]⟩,[],[]⟩) ⟨⟨Rd.aI _ _ _,Rd.aI _ _ _⟩,Rd.aI _ _ _,Rd.aI _ _ _⟩
theorem YC:∀ u∈([.int .i64 0,.int .i64 0,.string ⟨#[]⟩,.string ⟨#[]⟩,.string ⟨#[]⟩,.string ⟨#[]⟩,.string ⟨#[]⟩,.slice none 0 0,.slice none 0 0,.slice none 0 0,.slice none 0 0]:List Value),u.oneCell'=true:=by intro u hu;simp at hu;rcases hu with rfl | rfl | rfl<;>rfl
theorem YD {ok:Nat->Prop} {p M UA g n c:Nat} {al:List Pt} {ti:Bool} {bl:List ah} {x:ah} {w w5 wA wO:World} {rA rO:List (List Value)} {va vo:Value} {r0 r1:List Value} {d0:D} (hok:∀ b,ok b->b<p) (h1:wA.heap.size=p+3) (h2:UA<=wO.heap.size) (h3:aC 96 2 ok UA wA (al.map Pt.d) rA va w) (hO:aC 48 11 ok M wO (bl.map ah.d) rO vo w) (h5:aH p va 93 w) (h6:CB 96 (p+1) [.bool ti,vo] w) (h7:aH (p+2) (.bool true) 4 w) (hn:(bl.map ah.d).length=n) (hr:aC 48 11 ok w5.heap.size wO (bl.map ah.d++[d0]) (rO++[r0]) (.slice (some ⟨g,0,none⟩) (n+1) c) w5) (hl:r1.length=11) (hk:∀ b,b<w.heap.size->vo.ownBlock≠some b->w5.heap[b]?=w.heap[b]?) (hs:w.heap.size<=w5.heap.size) (ho:w5.os=w.os/\w5.tape=w.tape/\w5.output=w.output) (hat:vo.ownBlock=some g\/w.heap.size<=g) (hx:Rd ok w5 x.d r1) : fV ok p w5.heap.size ⟨al,⟨ti,bl++[x]⟩,true⟩ ((sG w5 g (n*11) r1).setCell ⟨p+1,1,none⟩ (.slice (some ⟨g,0,none⟩) (n+1) c))/\jNj p w ((sG w5 g (n*11) r1).setCell ⟨p+1,1,none⟩ (.slice (some ⟨g,0,none⟩) (n+1) c)):=by
 have a0:=h3.qL;have a1:=h3.CZ;have o0:=hO.qL;have Ii:∀ b,vo.ownBlock=some b->wO.heap.size<=b:=fun b e=>(hO.own.lt b e).1
 have hg:UA<=g:=by
  rcases hat with h | h
  ·have:=Ii g h;omega
  ·omega
 have hr1:=hr.jFz hn hl (d1:=x.d) (Rd.keep (fun b hb hlt=>⟨⟨.inl hb,by have:=hok b hb;omega,by omega⟩,rfl⟩) _ _ hx);obtain ⟨w6,ku⟩:∃ w6,w6=sG w5 g (n*11) r1:=⟨_,rfl⟩;have k6:∀ b,b≠g->w6.heap[b]?=w5.heap[b]?:=fun b hb=>by rw [ku];exact iR g _ _ _ b hb
 have z6:w6.heap.size=w5.heap.size:=by rw [ku];exact sH g _ _ _
 have s6:=Co g r1 (n*11) w5;rw [<- ku] at hr1 s6 ⊢;clear ku;have kA:∀ b,b<UA->w6.heap[b]?=w.heap[b]?:=fun b hb=>(k6 b (by omega)).trans (hk b (by omega) (fun e=>by have:=Ii b e;omega))
 have r3:=h3.same (w':=w6) (by omega) ⟨s6.1.trans ho.1,s6.2.1.trans ho.2.1,s6.2.2.trans ho.2.2⟩ kA;have k7:∀ b,b≠p+1->(w6.setCell ⟨p+1,1,none⟩ (.slice (some ⟨g,0,none⟩) (n+1) c)).heap[b]?=w6.heap[b]?:=fun b hb=>jL1 _ ⟨p+1,1,none⟩ _ b hb
 have g7:w6.grownBy (w6.setCell ⟨p+1,1,none⟩ (.slice (some ⟨g,0,none⟩) (n+1) c)) (some (p+1)):=⟨rfl,rfl,rfl,by simp [jM1],fun b _ hb=>k7 b (fun e=>hb (by rw [e]))⟩;obtain ⟨wA2,e2,r2⟩:=r3.DL (p:=p+1) (by omega) (fun h=>by have:=hok _ h;omega) g7;obtain ⟨wO2,e3,rO2⟩:=hr1.DL (p:=p+1) (by omega) (fun h=>by have:=hok _ h;omega) g7;refine ⟨⟨UA,wA2,wO2,rA,rO++[r1],va,_,by omega,by omega,r2,by rw [List.map_append];exact rO2,(k7 p (by omega)).trans ((kA p (by omega)).trans h5),?_,(k7 (p+2) (by omega)).trans ((kA (p+2) (by omega)).trans h7),fun e=>by simp at e⟩,?_⟩
 ·have c6:CB 96 (p+1) [.bool ti,vo] w6:=(kA (p+1) (by omega)).trans h6;exact dS c6 1 _
 ·exact ⟨g7.os.trans (s6.1.trans ho.1),g7.tape.trans (s6.2.1.trans ho.2.1),g7.output.trans (s6.2.2.trans ho.2.2),by have:=g7.size;omega,fun b hb=>(k7 b (by omega)).trans (kA b (by omega))⟩
theorem jp8{P Q:Prop}(q:Q)(h:Nonempty Q->P:=by
 intro qQ;go_simp;refine hK.out _ (sG (w5.setCell ⟨p+1,1,none⟩ (.slice (some ⟨g5,0,none⟩) (mo+1) c5)) g5 (mo*11) [.int .i64 kd,.int .i64 lv,.string i,.string t,.string d,.string ti,.string at_.id,.slice ac nc cc,.slice ap np cp,.slice al nl cl,.slice ak nk ck]) (fun _ h=>absurd h (by decide)) (fun _=>?_);exact qQ.elim fun x=>x):P:=h ⟨q⟩
theorem Fv (l:List ah) (v:Value) (w:World) (h:Rd (·<w.heap.size) w (iC l) [v]) (hl:l.length<=1000000) : Calls prog 58 #[v] w (jvq w (eP l)):=by
 obtain ⟨a,cap,hv,hs⟩:=Rd.aB h;obtain ⟨nL,FW⟩:∃ nL,nL=l.length:=⟨_,rfl⟩;obtain rfl:v=.slice a nL cap:=by rw [FW];simpa using hv
 have hcap:nL<=cap:=by rw [FW];simpa using hs.le
 have hmx:=hs.max;unfold maxLen at hmx;obtain ⟨iB,Jz,jH8,jH9,Z6⟩:=info_parts XE;obtain ⟨p,hp⟩:∃ p,p=w.heap.size:=⟨_,rfl⟩;obtain ⟨w3,hw3⟩:∃ w3,w3=((w.alloc (.cells #[.slice none 0 0] 93)).alloc (.cells #[.bool false,.slice none 0 0] 96)).alloc (.cells #[.bool false] 4):=⟨_,rfl⟩;have z1:(w.alloc (.cells #[.slice none 0 0] 93)).heap.size=p+1:=by rw [jL5,hp]
 have z2:((w.alloc (.cells #[.slice none 0 0] 93)).alloc (.cells #[.bool false,.slice none 0 0] 96)).heap.size=p+2:=by rw [jL5,z1]
 have z3:w3.heap.size=p+3:=by rw [hw3,jL5,z2]
 have K1:aH p (.slice none 0 0) 93 w3:=by have h:=aH.new w (.slice none 0 0) 93;rw [<- hp] at h;rw [hw3];exact (h.alloc _).alloc _
 have K2:CB 96 (p+1) [.bool false,.slice none 0 0] w3:=by have h:=CB.new 96 [.bool false,.slice none 0 0] (w.alloc (.cells #[.slice none 0 0] 93));rw [z1] at h;rw [hw3];exact h.below ((jK7 _ _).alloc (jK8 _) _)
 have K3:aH (p+2) (.bool false) 4 w3:=by have h:=aH.new ((w.alloc (.cells #[.slice none 0 0] 93)).alloc (.cells #[.bool false,.slice none 0 0] 96)) (.bool false) 4;rw [z2] at h;rw [hw3];exact h
 have B3:jNj w.heap.size w w3:=by rw [hw3];exact (((jK7 _ w).alloc (jK8 _) _).alloc (by omega) _).alloc (by omega) _
 have P0:fV (·<w.heap.size) w.heap.size w3.heap.size (nM (l.take 0)) w3:=by rw [<- hp];exact ⟨w3.heap.size,w3,w3,[],[],.slice none 0 0,.slice none 0 0,z3,jK8 _,aC.nil _ _ _ _,aC.nil _ _ _ _,K1,K2,K3,fun _=>rfl⟩
 have R0:Hid (QB w l (.int .i64 0) w3):=⟨0,Nat.zero_le _,rfl,P0,B3⟩;have HS:=hid hs;have DI:=hid FW;have HP:=hid hp;have HLm:=hid hl;clear h hv hs FW hl z1 z2 z3 K1 K2 K3 B3 P0 hp;go_enter func58,ntmps58;go_upto_region 6 with (fail)
 rw [<- HP.out];try rw [<- hw3]
 clear hw3;go_wp2
 go_loopw [14] (fun vi wr=>QB w l vi wr) (fun i _=>nL-(intOf i).toNat)
 case atStart=>exact R0.out
 case round=>
  clear R0;obtain ⟨k,hk,rfl,hP,hB⟩:=hrel;obtain ⟨s,hsD⟩:∃ s,s=nM (l.take k):=⟨_,rfl⟩;rw [<- hsD] at hP;have hlen:=CG (l.take k) uz;rw [show List.foldl lZ uz (l.take k)=nM (l.take k) from rfl,<- hsD,jN4] at hlen;have HSD:=hid hsD;have hal:s.all.length<=1000000/\s.op.bl.length<=1000000:=by have h1:uz.all.length=0/\uz.op.bl.length=0:=⟨rfl,rfl⟩;have:=HLm.out;omega
  have Dn:=hid hal;clear hsD hlen hal;by_cases hlt:k<nL
  ·obtain ⟨x,hx⟩:∃ x,l[k]?=some x:=⟨_,List.getElem?_eq_getElem (by have:=DI.out;omega)⟩;have hst:=Tc l k x hx;rw [<- HSD.out] at hst;have HX1:=hid hst;obtain ⟨X,TP⟩:∃ X,X=x:=⟨_,rfl⟩;obtain ⟨kd,lv,i,t,d,ti,at_,li,ks⟩:=x;obtain ⟨g,off,vc,vp,vl,vk,rfl,-,hgw,hc,hRR⟩:=Mr HS.out hx;obtain ⟨ac,nc,cc,rfl⟩:=Rd.au hRR.at_.cls
   obtain ⟨ap,np,cp,rfl⟩:=Rd.au hRR.at_.aD
   obtain ⟨al,nl,cl,rfl⟩:=Rd.au hRR.line;obtain ⟨ak,nk,ck,rfl⟩:=Rd.au hRR.kids;have hXr:Rd (·<w.heap.size) w X.d [.int .i64 kd,.int .i64 lv,.string i,.string t,.string d,.string ti,.string at_.id,.slice ac nc cc,.slice ap np cp,.slice al nl cl,.slice ak nk ck]:=by rw [TP];exact ah.fC kd lv i t d ti hRR
   have c0:wr.cell? ⟨g,off+k*11,none⟩=some (.int .i64 kd):=(hB.cell (p:=⟨_,_,none⟩) hgw).trans hc.c0;have c1:wr.cell? ⟨g,off+k*11+1,none⟩=some (.int .i64 lv):=(hB.cell (p:=⟨_,_,none⟩) hgw).trans hc.c1;have c2:wr.cell? ⟨g,off+k*11+2,none⟩=some (.string i):=(hB.cell (p:=⟨_,_,none⟩) hgw).trans hc.c2;have c3:wr.cell? ⟨g,off+k*11+3,none⟩=some (.string t):=(hB.cell (p:=⟨_,_,none⟩) hgw).trans hc.c3;have c4:wr.cell? ⟨g,off+k*11+4,none⟩=some (.string d):=(hB.cell (p:=⟨_,_,none⟩) hgw).trans hc.c4;have c5:wr.cell? ⟨g,off+k*11+5,none⟩=some (.string ti):=(hB.cell (p:=⟨_,_,none⟩) hgw).trans hc.c5;have c6:wr.cell? ⟨g,off+k*11+6,none⟩=some (.string at_.id):=(hB.cell (p:=⟨_,_,none⟩) hgw).trans hc.c6;have c7:wr.cell? ⟨g,off+k*11+7,none⟩=some (.slice ac nc cc):=(hB.cell (p:=⟨_,_,none⟩) hgw).trans hc.c7;have c8:wr.cell? ⟨g,off+k*11+8,none⟩=some (.slice ap np cp):=(hB.cell (p:=⟨_,_,none⟩) hgw).trans hc.c8;have c9:wr.cell? ⟨g,off+k*11+9,none⟩=some (.slice al nl cl):=(hB.cell (p:=⟨_,_,none⟩) hgw).trans hc.c9;have c10:wr.cell? ⟨g,off+k*11+10,none⟩=some (.slice ak nk ck):=(hB.cell (p:=⟨_,_,none⟩) hgw).trans hc.c10;obtain ⟨q,hq⟩:∃ q,q=wr.heap.size:=⟨_,rfl⟩;obtain ⟨w4,hw4⟩:∃ w4,w4=wr.alloc (.cells #[.int .i64 kd,.int .i64 lv,.string i,.string t,.string d,.string ti,.string at_.id,.slice ac nc cc,.slice ap np cp,.slice al nl cl,.slice ak nk ck] 48):=⟨_,rfl⟩;have k4:CB 48 q [.int .i64 kd,.int .i64 lv,.string i,.string t,.string d,.string ti,.string at_.id,.slice ac nc cc,.slice ap np cp,.slice al nl cl,.slice ak nk ck] w4:=by rw [hw4,hq];exact CB.new _ _ _
   have b4:jNj wr.heap.size wr w4:=by rw [hw4];exact (jK7 _ _).alloc (jK8 _) _
   have hP4:=hP.below b4;have hB4:=q01 hB b4;have hzq:w4.heap.size=q+1:=by rw [hw4,jL5,hq]
   obtain ⟨bb,hbb⟩:∃ bb,bB kd lv=bb:=⟨_,rfl⟩;obtain ⟨tt,Y9⟩:∃ tt,tB kd lv=tt:=⟨_,rfl⟩;have BC:=MW kd lv i t d ti at_.id ac ap al ak nc cc np cp nl cl nk ck w4
   rw [hbb] at BC;have vL:=hid BC;have TCX:Hid (∀ W:World,Calls prog 101 #[.agg #[.int .i64 kd,.int .i64 lv,.string i,.string t,.string d,.string ti,.string at_.id,.slice ac nc cc,.slice ap np cp,.slice al nl cl,.slice ak nk ck]] W (dF (.bool tt) W)):=fun W=>by
    rw [<- Y9];exact EI kd lv i t d ti at_.id ac ap al ak nc cc np cp nl cl nk ck W
   have zS:=hid (show mO X=bb by rw [TP,ja0];exact hbb);have HTT:=hid (show vV X=tt by rw [TP,Z9];exact Y9);rw [<- TP] at HX1;have HXR:=hid hXr;have HQ:=hid hq;have HP4:=hid hP4;have jCq:=hid hP.sz;have lC:=hid hB4;have HZQ:=hid hzq;have e0:=k4.cell 0 _ rfl;have e1:=k4.cell 1 _ rfl;have e2:=k4.cell 2 _ rfl;have e3:=k4.cell 3 _ rfl;have e4:=k4.cell 4 _ rfl;have e5:=k4.cell 5 _ rfl;have e6:=k4.cell 6 _ rfl;have e7:=k4.cell 7 _ rfl;have e8:=k4.cell 8 _ rfl;have e9:=k4.cell 9 _ rfl;have e10:=k4.cell 10 _ rfl;have HK4:=hid k4;clear hx hst TP hc hRR hXr hP hB k4 b4 hP4 hB4 hzq hbb Y9 BC hgw hq;go_upto_region 9 with (fail)
   rw [<- hw4,<- HQ.out];clear hw4 c0 c1 c2 c3 c4 c5 c6 c7 c8 c9 c10;go_wp2_with fail
   (with_reducible refine vL.out.mono ?_)
   rintro e w5 ⟨rfl,b5⟩;have HP5:=hid (HP4.out.below b5);have pJ:=hid (q01 lC.out b5);have HK5:=hid (HK4.out.below b5);have HZ5:=hid b5.size;clear b5 HP4 vL e0 e1 e2 e3 e4 e5 e6 e7 e8 e9 e10;obtain ⟨aL,⟨ot,ob⟩,sm⟩:=s;cases bb
   case' true=>
    have FC:Hid (Calls prog 102 #[.pointer (some ⟨p+1+1,0,none⟩),.pointer (some ⟨p,0,none⟩),.pointer (some ⟨p+1,0,none⟩)] w5 (vX (·<w.heap.size) p wr.heap.size (dZ ⟨aL,⟨ot,ob⟩,sm⟩) w5)):=(Az (·<w.heap.size) p wr.heap.size ⟨aL,⟨ot,ob⟩,sm⟩ w5 (fun b hb=>by have:=HP.out;show b<p;omega) (by rw [HP.out];exact HP5.out) (by have:=Dn.out.1;show aL.length<=_;have:aL.length<=1000000:=this;omega));go_wp2_with fail
    (with_reducible refine FC.out.mono ?_)
    rintro e w6 ⟨rfl,hP6,b6,k6⟩;have b6:jNj w.heap.size w5 w6:=by rw [HP.out] at b6;exact b6
    have Y8:=hid (pJ.out.trans b6);have hz6:w4.heap.size<=w6.heap.size:=by have:=b6.size;have:=HZ5.out;omega
    have Td:CB 48 q [.int .i64 kd,.int .i64 lv,.string i,.string t,.string d,.string ti,.string at_.id,.slice ac nc cc,.slice ap np cp,.slice al nl cl,.slice ak nk ck] w6:=(k6 q (by have:=HQ.out;omega) (by have:=HZQ.out;have:=HZ5.out;omega)).trans HK5.out;have e0:=Td.cell 0 _ rfl;have e1:=Td.cell 1 _ rfl;have e2:=Td.cell 2 _ rfl;have e3:=Td.cell 3 _ rfl;have e4:=Td.cell 4 _ rfl;have e5:=Td.cell 5 _ rfl;have e6:=Td.cell 6 _ rfl;have e7:=Td.cell 7 _ rfl;have e8:=Td.cell 8 _ rfl;have e9:=Td.cell 9 _ rfl;have e10:=Td.cell 10 _ rfl;have HK6:=hid Td;have TC:=hid (TCX.out w6);have HP6:=hid hP6;have HZ6:=hid hz6;clear hP6 b6 k6 FC Td hz6;go_wp2_with fail
    (with_reducible refine TC.out.mono ?_)
    rintro e w7 ⟨rfl,b7⟩;have hP7:=HP6.out.below b7;have hK7:=HK6.out.below b7;have hB7:=q01 Y8.out b7;have hP8:=fV.jz5 (fun b hb=>by have:=HP.out;show b<p;omega) hP7 tt;obtain ⟨vo,YZ,hfz⟩:=hP7.opc;have jHj:=hP7.sz;have d0:=YZ.cell 0 _ rfl;have df:=Aj YZ;have hqp:q≠p+1:=by have:=jCq.out;have:=HQ.out;have:=HP.out;omega
    obtain ⟨w8,hw8⟩:∃ w8,w8=w7.setCell ⟨p+1,0,none⟩ (.bool tt):=⟨_,rfl⟩;have hK8:CB 48 q [.int .i64 kd,.int .i64 lv,.string i,.string t,.string d,.string ti,.string at_.id,.slice ac nc cc,.slice ap np cp,.slice al nl cl,.slice ak nk ck] w8:=by rw [hw8];exact (jL1 w7 ⟨p+1,0,none⟩ _ q hqp).trans hK7
    have hB8:jNj w.heap.size w w8:=by rw [hw8];exact hB7.setCell (p:=⟨p+1,0,none⟩) (by show w.heap.size<=p+1;have:=HP.out;omega) _
    have d8:w8.cell? ⟨p+1,0,none⟩=some (.bool tt):=by rw [hw8];exact (dS YZ 0 _).cell 0 _ rfl
    rw [<- hw8] at hP8;have HP8:=hid hP8;have HK8:=hid hK8;have HB8:=hid hB8;have hs8:w8.heap.size=w7.heap.size:=by rw [hw8];simp [jM1]
    have HS8:=hid (show w4.heap.size<=w8.heap.size by have:=b7.size;have:=HZ6.out;omega);clear hP7 hK7 hB7 hP8 hK8 hB8 hqp YZ hfz b7 HP6 HK6 TC hs8 jHj e0 e1 e2 e3 e4 e5 e6 e7 e8 e9 e10;go_upto_region 12 with (fail)
    rw [<- hw8];clear hw8 d0 df;cases tt
    case false=>
     have HR:Hid (QB w l (.int .i64 ((k+1:Nat):Int)) w8):=⟨k+1,by have:=DI.out;omega,rfl,by
      have e:nM (l.take (k+1))=⟨(dZ ⟨aL,⟨ot,ob⟩,sm⟩).all,⟨false,[]⟩,true⟩:=by rw [HX1.out];unfold lZ;rw [if_pos zS.out,if_neg (by rw [HTT.out];simp)]
      rw [e];have h:=HP8.out.top;rw [HP.out] at h;exact h,HB8.out⟩
     go_wp2;go_roundw;case rel=>exact HR.out
     case measure=>simp [intOf];omega
    case' true=>
     have HST:Hid (lZ ⟨aL,⟨ot,ob⟩,sm⟩ X=⟨(dZ ⟨aL,⟨ot,ob⟩,sm⟩).all,⟨true,[]++[X]⟩,true⟩):=by show _=_;unfold lZ;rw [if_pos zS.out,if_pos HTT.out];rfl
     obtain ⟨Zd,Ox⟩:∃ Zd,Zd=(dZ ⟨aL,⟨ot,ob⟩,sm⟩).all:=⟨_,rfl⟩;obtain ⟨Oy,Ea⟩:∃ Oy:List ah,Oy=[]:=⟨_,rfl⟩;obtain ⟨ti1,Oz⟩:∃ t:Bool,t=true:=⟨_,rfl⟩;obtain ⟨sm1,YE⟩:∃ t:Bool,t=true:=⟨_,rfl⟩;obtain ⟨M9,hM9⟩:∃ M9,M9=w6.heap.size:=⟨_,rfl⟩;obtain ⟨w9,dB⟩:∃ w9,w9=w8:=⟨_,rfl⟩;have HPI:Hid (fV (·<w.heap.size) p M9 ⟨Zd,⟨ti1,Oy⟩,sm1⟩ w9):=by show fV _ _ _ _ _;rw [Ox,Ea,Oz,YE,hM9,dB];exact HP8.out
     have DJ:Hid (lZ ⟨aL,⟨ot,ob⟩,sm⟩ X=⟨Zd,⟨ti1,Oy++[X]⟩,true⟩):=by show _=_;rw [HST.out,Ox,Ea,Oz]
     have TD:Hid (Oy.length<=2000000):=by show _<=_;rw [Ea];simp
     have HOQ:Hid (Oy=[]\/M9<=q):=.inl Ea;have HKQ:Hid (CB 48 q [.int .i64 kd,.int .i64 lv,.string i,.string t,.string d,.string ti,.string at_.id,.slice ac nc cc,.slice ap np cp,.slice al nl cl,.slice ak nk ck] w9):=by show CB _ _ _ _;rw [dB];exact HK8.out
     have Kw:Hid (jNj w.heap.size w w9):=by show jNj _ _ _;rw [dB];exact HB8.out
     clear Ox Ea Oz YE hM9 HP8 HK8 HB8 HS8 HP5 pJ HK5 HZ5 Y8 HZ6 HST;go_upto_region 13 with (fail)
     rw [<- dB];clear dB d8
   case' false=>
    have DJ:Hid (lZ ⟨aL,⟨ot,ob⟩,sm⟩ X=⟨aL,⟨ot,ob++[X]⟩,true⟩):=by show _=_;unfold lZ;rw [if_neg (by rw [zS.out];simp)]
    obtain ⟨Zd,Ox⟩:∃ Zd,Zd=aL:=⟨_,rfl⟩;obtain ⟨Oy,Ea⟩:∃ Oy:List ah,Oy=ob:=⟨_,rfl⟩;obtain ⟨ti1,Oz⟩:∃ t:Bool,t=ot:=⟨_,rfl⟩;obtain ⟨sm1,YE⟩:∃ t:Bool,t=sm:=⟨_,rfl⟩;obtain ⟨M9,hM9⟩:∃ M9,M9=wr.heap.size:=⟨_,rfl⟩;obtain ⟨w9,dB⟩:∃ w9,w9=w5:=⟨_,rfl⟩;have HPI:Hid (fV (·<w.heap.size) p M9 ⟨Zd,⟨ti1,Oy⟩,sm1⟩ w9):=by show fV _ _ _ _ _;rw [Ox,Ea,Oz,YE,hM9,dB,HP.out];exact HP5.out
    have DJ:Hid (lZ ⟨aL,⟨ot,ob⟩,sm⟩ X=⟨Zd,⟨ti1,Oy++[X]⟩,true⟩):=by show _=_;rw [DJ.out,Ox,Ea,Oz]
    have TD:Hid (Oy.length<=2000000):=by show _<=_;rw [Ea];have h1:ob.length<=1000000:=Dn.out.2;omega
    have HOQ:Hid (Oy=[]\/M9<=q):=.inr (by rw [hM9,HQ.out];exact jK8 _);have HKQ:Hid (CB 48 q [.int .i64 kd,.int .i64 lv,.string i,.string t,.string d,.string ti,.string at_.id,.slice ac nc cc,.slice ap np cp,.slice al nl cl,.slice ak nk ck] w9):=by show CB _ _ _ _;rw [dB];exact HK5.out
    have Kw:Hid (jNj w.heap.size w w9):=by show jNj _ _ _;rw [dB];exact pJ.out
    clear Ox Ea Oz YE hM9 HP5 pJ HK5 HZ5;go_upto_region 13 with (fail)
    rw [<- dB];clear dB
   all_goals
    have jHk:w9.cell? ⟨p+1+1,0,none⟩=some (.bool sm1):=HPI.out.smc.cell;have jHq:w9.frozen? ⟨p+1+1,0,none⟩=false:=HPI.out.smc.free;have jvx:=fV.setSm (fun b hb=>by have:=HP.out;show b<p;omega) HPI.out true;obtain ⟨wY,Te⟩:∃ wY,wY=w9.setCell ⟨p+1+1,0,none⟩ (.bool true):=⟨_,rfl⟩;have jvx:fV (·<w.heap.size) p M9 ⟨Zd,⟨ti1,Oy⟩,true⟩ wY:=by rw [Te];exact jvx
    have hsz:=jCq.out;have hqw:q<wY.heap.size:=by rw [Te];simp [jM1];exact HKQ.out.lt
    have xg:CB 48 q [.int .i64 kd,.int .i64 lv,.string i,.string t,.string d,.string ti,.string at_.id,.slice ac nc cc,.slice ap np cp,.slice al nl cl,.slice ak nk ck] wY:=by rw [Te];exact (jL1 w9 ⟨p+1+1,0,none⟩ _ q (by show q≠p+1+1;have:=HP.out;have:=HQ.out;omega)).trans HKQ.out
    have jCx:jNj w.heap.size w wY:=by rw [Te];exact Kw.out.setCell (p:=⟨p+1+1,0,none⟩) (by show w.heap.size<=p+1+1;have:=HP.out;omega) _
    obtain ⟨UA,wA,wO,rA,rO,va,vo,h1,h2,h3,h4,h5,h6,h7,h8⟩:=jvx;dsimp only at h3 h4 h6 h7 h8;obtain ⟨mo,hmo⟩:∃ mo,mo=(Oy.map ah.d).length:=⟨_,rfl⟩;obtain ⟨ao,co,rfl,hco,hcom⟩:=h4.cap hmo.symm;have jK1:mo<=2000000:=by rw [hmo,jKx];exact TD.out
    unfold maxLen at hcom;have hov:∀ g,(Value.slice ao mo co).ownBlock=some g->g<q/\p+3<=g:=fun g hg=>by
     have e1:=(h4.own.lt g hg).1;have e2:=h4.oU g hg;have e3:=h3.qL;refine ⟨?_,by omega⟩;rcases HOQ.out with e | e
     ·have:=h8 e;rw [this] at hg;cases hg
     ·omega
    have S0:jM0 wY.drew ⟨p+1,1,none⟩=some (.slice ao mo co)/\jM0 wY.drew ⟨q,0,none⟩=some (.int .i64 kd)/\jM0 wY.drew ⟨q,1,none⟩=some (.int .i64 lv)/\jM0 wY.drew ⟨q,2,none⟩=some (.string i)/\jM0 wY.drew ⟨q,3,none⟩=some (.string t)/\jM0 wY.drew ⟨q,4,none⟩=some (.string d)/\jM0 wY.drew ⟨q,5,none⟩=some (.string ti)/\jM0 wY.drew ⟨q,6,none⟩=some (.string at_.id)/\jM0 wY.drew ⟨q,7,none⟩=some (.slice ac nc cc)/\jM0 wY.drew ⟨q,8,none⟩=some (.slice ap np cp)/\jM0 wY.drew ⟨q,9,none⟩=some (.slice al nl cl)/\jM0 wY.drew ⟨q,10,none⟩=some (.slice ak nk ck):=⟨h6.cell 1 _ rfl,xg.cell 0 _ rfl,xg.cell 1 _ rfl,xg.cell 2 _ rfl,xg.cell 3 _ rfl,xg.cell 4 _ rfl,xg.cell 5 _ rfl,xg.cell 6 _ rfl,xg.cell 7 _ rfl,xg.cell 8 _ rfl,xg.cell 9 _ rfl,xg.cell 10 _ rfl⟩;have C8:=hid hov;have H1:=hid h1;have H2:=hid h2;have H3:=hid h3;have H4:=hid h4;have H5:=hid h5;have H6:=hid h6;have H7:=hid h7;have HMO:=hid hmo.symm;have jHx:=hid xg;have jvz:=hid jCx;have U10:=hid h4.top.drew;have HQW:=hid hqw;have jHz:p+1<wY.heap.size:=h6.lt;clear hov h1 h2 h3 h4 h5 h6 h7 h8 hmo xg jCx HKQ Kw HPI HOQ TD hsz hqw;go_upto_region 14 with (fail)
    rw [<- Te];clear Te jHk jHq;refine q2s 9 (fun w'=>w'.cell? ⟨p+1,1,none⟩=some (.slice ao mo co)/\w'.cell? ⟨q,0,none⟩=some (.int .i64 kd)/\w'.cell? ⟨q,1,none⟩=some (.int .i64 lv)/\w'.cell? ⟨q,2,none⟩=some (.string i)/\w'.cell? ⟨q,3,none⟩=some (.string t)/\w'.cell? ⟨q,4,none⟩=some (.string d)/\w'.cell? ⟨q,5,none⟩=some (.string ti)/\w'.cell? ⟨q,6,none⟩=some (.string at_.id)/\w'.cell? ⟨q,7,none⟩=some (.slice ac nc cc)/\w'.cell? ⟨q,8,none⟩=some (.slice ap np cp)/\w'.cell? ⟨q,9,none⟩=some (.slice al nl cl)/\w'.cell? ⟨q,10,none⟩=some (.slice ak nk ck)) (by kernel_rfl) S0 ?_;intro hH;refine JG 0 hH ?_;refine JG 1 hH ?_;refine JG 2 hH ?_;refine JG 3 hH ?_;try simp only [Act.put,jK3,jK4,jK5]
    refine fK 4 fun KQ hK=>?_
    go_simp;refine dY hK (⟨past S0.1 _,past S0.2.1 _,past S0.2.2.1 _,past S0.2.2.2.1 _,past S0.2.2.2.2.1 _,past S0.2.2.2.2.2.1 _,past S0.2.2.2.2.2.2.1 _,past S0.2.2.2.2.2.2.2.1 _,past S0.2.2.2.2.2.2.2.2.1 _,past S0.2.2.2.2.2.2.2.2.2.1 _,past S0.2.2.2.2.2.2.2.2.2.2.1 _,past S0.2.2.2.2.2.2.2.2.2.2.2 _⟩) ?_;clear hK KQ hH;intro hH;try simp only [Act.put,jK3,jK4,jK5]
    refine fK 5 fun KQ hK=>?_
    refine EH rfl (.tmp 31) (.tmp 34) 22 rfl iB _ 192 underlying22 Jz jH8 jH9 Z6 rfl (by decide) U10.out (fun b hb=>by have:=HP.out;have:=H3.out.qL;have:=H2.out;have:=H1.out;show b<_;have:b<w.heap.size:=hb;omega) (ah.mk 0 0 ⟨#[]⟩ ⟨#[]⟩ ⟨#[]⟩ ⟨#[]⟩ ⟨⟨#[]⟩,[],[]⟩ [] []).d [.int .i64 0,.int .i64 0,.string ⟨#[]⟩,.string ⟨#[]⟩,.string ⟨#[]⟩,.string ⟨#[]⟩,.string ⟨#[]⟩,.slice none 0 0,.slice none 0 0,.slice none 0 0,.slice none 0 0] (jcx _ _) rfl YC HMO.out (by omega) (by decide) rfl rfl ?_;intro g5 c5 w5 bZ hg5 Gt Q5;have hz5:wY.heap.size+1<=w5.heap.size:=by have:=hg5.size;simp at this;exact this
    have hgq:g5≠q/\p+3<=g5:=by
     have hz9:wY.drew.heap.size=wY.heap.size:=rfl;have e5:=HQW.out;rcases Gt with h | h
     ·have:=C8.out g5 h;omega
     ·exact ⟨by omega,by have:=H1.out;have:=H3.out.qL;have:=H3.out.CZ;omega⟩
    have DK:∀ b,b=p+1\/b=q->some b≠(Value.slice ao mo co).ownBlock:=fun b hb e=>by
     have:=C8.out b e.symm;omega
    have jI0:=HQW.out;have hk5:∀ b,b<wY.heap.size->(Value.slice ao mo co).ownBlock≠some b->w5.heap[b]?=wY.heap[b]?:=fun b hb e=>(hg5.block b (by simp;omega) (fun e'=>e e'.symm)).trans (Below.heap_alloc wY _ b hb)
    have Tf:CB 48 q [.int .i64 kd,.int .i64 lv,.string i,.string t,.string d,.string ti,.string at_.id,.slice ac nc cc,.slice ap np cp,.slice al nl cl,.slice ak nk ck] w5:=(hk5 q jI0 (fun e=>DK q (.inr rfl) e.symm)).trans jHx.out;have kp5:CB 96 (p+1) [.bool ti1,.slice ao mo co] w5:=(hk5 (p+1) jHz (fun e=>DK (p+1) (.inl rfl) e.symm)).trans H6.out;have S5:jM0 w5 ⟨p+1,1,none⟩=some (.slice ao mo co)/\jM0 w5 ⟨q,0,none⟩=some (.int .i64 kd)/\jM0 w5 ⟨q,1,none⟩=some (.int .i64 lv)/\jM0 w5 ⟨q,2,none⟩=some (.string i)/\jM0 w5 ⟨q,3,none⟩=some (.string t)/\jM0 w5 ⟨q,4,none⟩=some (.string d)/\jM0 w5 ⟨q,5,none⟩=some (.string ti)/\jM0 w5 ⟨q,6,none⟩=some (.string at_.id)/\jM0 w5 ⟨q,7,none⟩=some (.slice ac nc cc)/\jM0 w5 ⟨q,8,none⟩=some (.slice ap np cp)/\jM0 w5 ⟨q,9,none⟩=some (.slice al nl cl)/\jM0 w5 ⟨q,10,none⟩=some (.slice ak nk ck):=⟨kp5.cell 1 _ rfl,Tf.cell 0 _ rfl,Tf.cell 1 _ rfl,Tf.cell 2 _ rfl,Tf.cell 3 _ rfl,Tf.cell 4 _ rfl,Tf.cell 5 _ rfl,Tf.cell 6 _ rfl,Tf.cell 7 _ rfl,Tf.cell 8 _ rfl,Tf.cell 9 _ rfl,Tf.cell 10 _ rfl⟩;obtain ⟨yc,yf⟩:=bZ.jm0 HMO.out;have y0:jM0 w5 ⟨g5,mo*11,none⟩=some (.int .i64 0):=yc 0 _ rfl;have y1:=yc 1 _ rfl;have y2:=yc 2 _ rfl;have y3:=yc 3 _ rfl;have y4:=yc 4 _ rfl;have y5:=yc 5 _ rfl;have y6:=yc 6 _ rfl;have y7:=yc 7 _ rfl;have y8:=yc 8 _ rfl;have y9:=yc 9 _ rfl;have y10:=yc 10 _ rfl;have t0:(0:Int)<=(mo:Int):=by omega
    have t1:(mo:Int)<((mo+1:Nat):Int):=by omega
    have t2:(mo:Int)<(mo:Int)+1:=by omega
    have t3:mo<mo+1:=by omega
    have HF:=YD (x:=X) (r1:=[.int .i64 kd,.int .i64 lv,.string i,.string t,.string d,.string ti,.string at_.id,.slice ac nc cc,.slice ap np cp,.slice al nl cl,.slice ak nk ck]) (fun b (hb:b<w.heap.size)=>by have:=HP.out;omega) H1.out H2.out H3.out H4.out H5.out H6.out H7.out HMO.out bZ rfl hk5 (by omega) ⟨hg5.os,hg5.tape,hg5.output⟩ (Gt.imp id (fun h=>by have hz9:wY.drew.heap.size=wY.heap.size:=rfl;omega)) (Rd.keep (fun b (hb:b<w.heap.size) _=>⟨hb,(hk5 b (by have:=jvz.out.size;omega) (fun e=>by have:=C8.out b e;have:=HP.out;omega)).trans (jvz.out.block b hb)⟩) _ _ HXR.out);have HFF:=hid HF;have zp:=kp5.cell 1 _ rfl;have zpf:=Aj kp5;refine dY hK S5 ?_;clear hK KQ hH;intro hH;try simp only [Act.put,jK3,jK4,jK5]
    refine JG 8 hH ?_;try simp only [Act.put,jK3,jK4,jK5]
    have gZ:w5.grownBy (w5.setCell ⟨p+1,1,none⟩ (.slice (some ⟨g5,0,none⟩) (mo+1) c5)) (some (p+1)):=⟨rfl,rfl,rfl,by simp [jM1],fun b _ hb=>jL1 w5 ⟨p+1,1,none⟩ _ b (fun e=>hb (by rw [e]))⟩;obtain ⟨wZ,hzZ,xJ⟩:=bZ.DL (p:=p+1) (by have:=H1.out;have:=H2.out;have:=H3.out.qL;omega) (fun (h:p+1<w.heap.size)=>by have:=HP.out;omega) gZ;obtain ⟨uc,uf⟩:=xJ.jm0 HMO.out;have u0:jM0 (w5.setCell ⟨p+1,1,none⟩ (.slice (some ⟨g5,0,none⟩) (mo+1) c5)) ⟨g5,mo*11,none⟩=some (.int .i64 0):=uc 0 _ rfl;have u1:=uc 1 _ rfl;have u2:=uc 2 _ rfl;have u3:=uc 3 _ rfl;have u4:=uc 4 _ rfl;have u5:=uc 5 _ rfl;have u6:=uc 6 _ rfl;have u7:=uc 7 _ rfl;have u8:=uc 8 _ rfl;have u9:=uc 9 _ rfl;have u10:=uc 10 _ rfl;have hpg:p+1≠g5:=by omega
    have hqg:q≠g5:=fun e=>hgq.1 e.symm
    have kq6:CB 48 q [.int .i64 kd,.int .i64 lv,.string i,.string t,.string d,.string ti,.string at_.id,.slice ac nc cc,.slice ap np cp,.slice al nl cl,.slice ak nk ck] (sG w5 g5 (mo*11) [.int .i64 kd,.int .i64 lv,.string i,.string t,.string d,.string ti,.string at_.id,.slice ac nc cc,.slice ap np cp,.slice al nl cl,.slice ak nk ck]):=(iR g5 _ _ _ q hqg).trans Tf;have kp6:CB 96 (p+1) [.bool ti1,.slice ao mo co] (sG w5 g5 (mo*11) [.int .i64 kd,.int .i64 lv,.string i,.string t,.string d,.string ti,.string at_.id,.slice ac nc cc,.slice ap np cp,.slice al nl cl,.slice ak nk ck]):=(iR g5 _ _ _ (p+1) hpg).trans kp5;have CJ:=hid kq6;have jI1:=hid kp6;have L8:=hid hpg;have zp6:=kp6.cell 1 _ rfl;have zf6:=Aj kp6;clear kq6 kp6 gZ hzZ xJ uc yc bZ hg5 Gt Q5 hgq DK hk5 Tf kp5 HF S0 hpg hqg;apply jgj;case hm=>
     intro REST;refine rH 6 9 (fun KQ hK=>?_) (fun KQ hK=>?_);rotate_left
     ·go_simp;refine qB hK ?_;clear hK KQ;try simp only [Act.put,jK3,jK4,jK5]
      refine fK 6 fun KQ hK=>?_
      go_simp;refine hK.out _ _ (fun _ h=>absurd h (by decide)) (fun _=>?_);clear hK KQ;try simp only [Act.put,jK3,jK4,jK5]
      refine fK 7 fun KQ hK=>?_
      go_simp;refine hK.out _ (sG (w5.setCell ⟨p+1,1,none⟩ (.slice (some ⟨g5,0,none⟩) (mo+1) c5)) g5 (mo*11) [.int .i64 kd,.int .i64 lv,.string i,.string t,.string d,.string ti,.string at_.id,.slice ac nc cc,.slice ap np cp,.slice al nl cl,.slice ak nk ck]) (fun _ h=>absurd h (by decide)) (fun _=>?_);clear hK KQ;try simp only [Act.put,jK3,jK4,jK5]
      refine yF ?_;rw [wP g5 (p+1) 1 _ L8.out];exact REST
     go_simp;refine dY hK S5 ?_;clear hK KQ;intro hH;try simp only [Act.put,jK3,jK4,jK5]
     refine rH 7 9 (fun KQ hK=>?_) (fun KQ hK=>?_)
     ·go_simp;refine hK.out _ (sG w5 g5 (mo*11) [.int .i64 kd,.int .i64 lv,.string i,.string t,.string d,.string ti,.string at_.id,.slice ac nc cc,.slice ap np cp,.slice al nl cl,.slice ak nk ck]) (fun _ _=>⟨jI1.out.cell 1 _ rfl,CJ.out.cell 0 _ rfl,CJ.out.cell 1 _ rfl,CJ.out.cell 2 _ rfl,CJ.out.cell 3 _ rfl,CJ.out.cell 4 _ rfl,CJ.out.cell 5 _ rfl,CJ.out.cell 6 _ rfl,CJ.out.cell 7 _ rfl,CJ.out.cell 8 _ rfl,CJ.out.cell 9 _ rfl,CJ.out.cell 10 _ rfl⟩) (fun hH2=>?_);clear hK KQ;have hH:=hH2 (by decide) (by kernel_rfl);clear hH2;try simp only [Act.put,jK3,jK4,jK5]
      refine fK 9 fun KQ hK=>?_
      go_simp;refine qB hK ?_;clear hK KQ;try simp only [Act.put,jK3,jK4,jK5]
      refine yF ?_;exact REST
     ·go_simp;refine qB hK ?_;clear hK KQ;try simp only [Act.put,jK3,jK4,jK5]
      refine fK 7 fun KQ hK=>?_
      go_simp;refine hK.out _ (sG (w5.setCell ⟨p+1,1,none⟩ (.slice (some ⟨g5,0,none⟩) (mo+1) c5)) g5 (mo*11) [.int .i64 kd,.int .i64 lv,.string i,.string t,.string d,.string ti,.string at_.id,.slice ac nc cc,.slice ap np cp,.slice al nl cl,.slice ak nk ck]) (fun _ h=>absurd h (by decide)) (fun _=>?_);clear hK KQ;try simp only [Act.put,jK3,jK4,jK5]
      refine yF ?_;rw [wP g5 (p+1) 1 _ L8.out];exact REST
    case hr=>
     clear S5 y0 y1 y2 y3 y4 y5 y6 y7 y8 y9 y10 yf u0 u1 u2 u3 u4 u5 u6 u7 u8 u9 u10 uf zp zpf zp6 zf6 t0 t1 t2 t3;obtain ⟨w8,hw8⟩:∃ w8,w8=(sG w5 g5 (mo*11) [.int .i64 kd,.int .i64 lv,.string i,.string t,.string d,.string ti,.string at_.id,.slice ac nc cc,.slice ap np cp,.slice al nl cl,.slice ak nk ck]).setCell ⟨p+1,1,none⟩ (.slice (some ⟨g5,0,none⟩) (mo+1) c5):=⟨_,rfl⟩;have hff:=HFF.out;rw [<- hw8] at hff ⊢;have HR:Hid (QB w l (.int .i64 ((k+1:Nat):Int)) w8):=⟨k+1,by have:=DI.out;omega,rfl,by
      rw [HX1.out,DJ.out];have h:=hff.1.top;rw [HP.out] at h;exact h,jvz.out.trans (by have h:=hff.2;rw [HP.out] at h;exact h)⟩
     clear hff hw8;go_wp2;go_roundw;case rel=>exact HR.out
     case measure=>simp [intOf];omega
  ·have hkl:k=l.length:=by have:=DI.out;omega
   have HKL:=hid hkl;have HB9:=hid hB;have FC:Hid (Calls prog 102 #[.pointer (some ⟨p+1+1,0,none⟩),.pointer (some ⟨p,0,none⟩),.pointer (some ⟨p+1,0,none⟩)] wr (vX (·<w.heap.size) p wr.heap.size (dZ s) wr)):=(Az (·<w.heap.size) p wr.heap.size s wr (fun b hb=>by have:=HP.out;show b<p;omega) (by rw [HP.out];exact hP) (by have:=Dn.out.1;omega));clear hkl hP hB;go_wp2_with fail
   (with_reducible refine FC.out.mono ?_)
   rintro e w6 ⟨rfl,hP6,b6,-⟩;have hbf:jNj w.heap.size w w6:=HB9.out.trans (by rw [HP.out] at b6;exact b6);obtain ⟨UA,wA,wO,rA,rO,va,vo,h1,h2,h3,h4,h5,h6,h7,h8⟩:=hP6;have hrd:Rd (·<w6.heap.size) w6 (.sl 2 ((eP l).map Pt.d)) [va]:=by
    have e:(dZ s).all=eP l:=by unfold eP;rw [HSD.out,HKL.out,List.take_length]
    rw [<- e];exact Rd.keep (fun b _ hlt=>⟨hlt,rfl⟩) _ _ h3.rd
   obtain ⟨a6,n6,c6,rfl⟩:=h3.sl3;have x0:=h5.cell;have Fp:=hid hrd;have Sw:=hid hbf;clear h1 h2 h3 h4 h5 h6 h7 h8 hrd hbf b6 FC;go_wp2;go_ret;exact ⟨_,rfl,Fp.out,Sw.out⟩
open Go.RowKit
def Sl.d (s:Sl):D:=.st [aZ s.ti,iC s.bl]
theorem Sl.fC {ok:Nat->Prop} {w:World} (s:Sl) {v u:Value} (h:Rd ok w (aZ s.ti) [v]) (h2:Rd ok w (iC s.bl) [u]):Rd ok w s.d [v,u]:=by have:=Rd.xM (ok:=ok) (w:=w) (aO.cons h (aO.one h2));simpa [Sl.d] using this
theorem jv {ok:Nat->Prop} {w:World} {k:Nat} {l:List D} {cs:List Value} (h:Rd ok w (.sl k l) cs):∃ a c,cs=[.slice a l.length c]:=by obtain ⟨a,c,e,-⟩:=Rd.aB h;exact ⟨a,c,e⟩
theorem Sl.open_ {ok:Nat->Prop} {w:World} {s:Sl} {cs:List Value} (h:Rd ok w s.d cs):∃ v u,cs=[v,u]/\Rd ok w (aZ s.ti) [v]/\Rd ok w (iC s.bl) [u]:=by obtain ⟨rows,h1,rfl⟩:=Rd.jG h;obtain ⟨r1,rs,rfl,h2,h3⟩:=h1.aF;obtain ⟨r2,rs2,rfl,h4,h5⟩:=h3.aF;obtain rfl:=h5.dw;obtain ⟨a,c,e⟩:=jv (h2:Rd ok w (.sl 10 _) r1);obtain ⟨a2,c2,e2⟩:=jv (h4:Rd ok w (.sl 11 _) r2);subst e e2;exact ⟨_,_,by simp,h2,h4⟩
theorem jw0:(prog.info? 50).map (fun i=>(i.zero,i.size,i.bytes))=some (some (.agg #[.slice none 0 0,.slice none 0 0]),2,48):=by kernel_rfl
theorem YF (l:List ah):∀ p∈eP l,VW p:=M8 (nM l) (PI l uz ps0)
def QC (w:World) (L:List Sl) (e:Ending) (w':World):Prop:=∃ v,e=.returned v/\Rd (·<w'.heap.size) w' (.sl 2 (L.map Sl.d)) [v]/\jNj w.heap.size w w'
def OB (w1:World) (P:List Pt) (v vi:Value) (wr:World):Prop:=∃ (k:Nat) (rows:List (List Value)),k<=P.length/\vi=.int .i64 k/\aC 50 2 (·<w1.heap.size) wr.heap.size w1 (((P.take k).map lF).map Sl.d) rows v wr
theorem jcz (l:List ah) (s:yG) (x:ah) (hx:x∈l) (h:(∀ p∈s.all,∀ b∈p.bl,b∈l)/\∀ b∈s.op.bl,b∈l):(∀ p∈(lZ s x).all,∀ b∈p.bl,b∈l)/\∀ b∈(lZ s x).op.bl,b∈l:=by
 obtain ⟨h1,h2⟩:=h;have h3:∀ p∈(dZ s).all,∀ b∈p.bl,b∈l:=by
  unfold dZ;split
  ·intro p hp;rcases List.mem_append.1 hp with hp | hp
   ·exact h1 p hp
   ·obtain rfl:=List.mem_singleton.1 hp;exact h2
  ·exact h1
 unfold lZ;split
 ·split
  ·exact ⟨h3,fun b hb=>by obtain rfl:=List.mem_singleton.1 hb;exact hx⟩
  ·exact ⟨h3,fun b hb=>by cases hb⟩
 ·refine ⟨h1,fun b hb=>?_⟩;rcases List.mem_append.1 hb with hb | hb
  ·exact h2 b hb
  ·obtain rfl:=List.mem_singleton.1 hb;exact hx
theorem QD (l:List ah):∀ (m:List ah) (s:yG),(∀ x∈m,x∈l)->((∀ p∈s.all,∀ b∈p.bl,b∈l)/\∀ b∈s.op.bl,b∈l)->(∀ p∈(m.foldl lZ s).all,∀ b∈p.bl,b∈l)/\∀ b∈(m.foldl lZ s).op.bl,b∈l
 | [],_,_,h=>h
 | x::m,s,hm,h=>by
  rw [List.foldl_cons];exact QD l m _ (fun y hy=>hm y (List.mem_cons_of_mem _ hy)) (jcz l s x (hm x (List.mem_cons_self ..)) h)
theorem Kk (l:List ah):∀ p∈eP l,∀ b∈p.bl,b∈l:=by
 have h:=QD l l uz (fun _ h=>h) ⟨(fun p hp=>by cases hp),(fun b hb=>by cases hb)⟩;unfold eP nM dZ;split
 ·intro p hp;rcases List.mem_append.1 hp with hp | hp
  ·exact h.1 p hp
  ·obtain rfl:=List.mem_singleton.1 hp;exact h.2
 ·exact h.1
theorem Fu (l:List ah):(eP l).length<=l.length+1:=by
 have h:=(CG l uz).1;have h0:uz.all.length=0:=rfl;unfold eP dZ;show (if (nM l).some_=true then (nM l).all++[(nM l).op] else (nM l).all).length<=_;have h2:(nM l).all.length<=l.length:=by unfold nM;omega
 split
 ·rw [List.length_append,List.length_singleton];omega
 ·omega
theorem QE:∀ (l m:List ah),ah.aU (l++m)=ah.aU l+ah.aU m
 | [],m=>by rw [ah.aU];simp
 | x::l,m=>by rw [List.cons_append,ah.aU,ah.aU,QE l m];omega
theorem Lr:∀ (L:List (List ah)) (s:List ah),s∈L->ah.aU s<=ah.aU L.flatten
 | [],_,h=>by cases h
 | x::L,s,h=>by
  rw [List.flatten_cons,QE];rcases List.mem_cons.1 h with rfl | h
  ·omega
  ·have:=Lr L s h;omega
theorem Kl (l:List ah):∀ p∈eP l,ah.aU p.bl<=ah.aU l:=by
 intro p hp;rw [oL] at hp;obtain ⟨s,hs,rfl⟩:=List.mem_map.1 hp;have h1:=Lr _ s hs;rw [pV l.length l (jK8 _)] at h1;rw [yV];refine Nat.le_trans ?_ h1;unfold DV;split
 ·split
  ·rw [ah.aU];omega
  ·exact jK8 _
 ·exact jK8 _
theorem H8:∀ (l:List ah),ah.mh l↔∀ b∈l,b.bd
 | []=>by rw [ah.mh];simp
 | x::l=>by rw [ah.mh,H8 l];simp
theorem Km (l:List ah) (h:ah.mh l):∀ p∈eP l,ah.mh p.bl:=fun p hp=>(H8 _).2 fun b hb=>(H8 _).1 h b (Kk l p hp b hb)
theorem FX (k:Nat):∀ (rows:List (List Value)),(∀ r∈rows,r.length=k)->∀ i,(rows.drop i).flatten=rows.flatten.drop (i*k)
 | [],_,i=>by simp
 | r::rs,h,0=>by simp
 | r::rs,h,i+1=>by
  have hr:=h r (by simp);rw [List.drop_succ_cons,List.flatten_cons,FX k rs (fun x hx=>h x (by simp [hx])) i,Nat.succ_mul,Nat.add_comm,<- List.drop_drop];congr 1;rw [<- hr,List.drop_left]
theorem aO.jp9 {ok:Nat->Prop} {w:World}:∀ {l:List D} {rows:List (List Value)} (i:Nat),aO ok w l rows->aO ok w (l.drop i) (rows.drop i)
 | l,rows,0,h=>by simpa using h
 | [],_,i+1,h=>by rw [h.dw];simpa using aO.none
 | d::ds,_,i+1,h=>by
  obtain ⟨r,rs,rfl,h1,h2⟩:=h.aF;simpa using aO.jp9 i h2
theorem aO.takeN {ok:Nat->Prop} {w:World}:∀ {l:List D} {rows:List (List Value)} (i:Nat),aO ok w l rows->aO ok w (l.take i) (rows.take i)
 | l,rows,0,h=>by simpa using aO.none
 | [],_,i+1,h=>by rw [h.dw];simpa using aO.none
 | d::ds,_,i+1,h=>by
  obtain ⟨r,rs,rfl,h1,h2⟩:=h.aF;simpa using aO.cons h1 (aO.takeN i h2)
theorem Rd.cut {ok:Nat->Prop} {w:World} {k b off n cap:Nat} {l:List D} (h:Rd ok w (.sl k l) [.slice (some ⟨b,off,none⟩) n cap]) (i j:Nat) (h1:i<=j) (h2:j<=n):Rd ok w (.sl k ((l.take j).drop i)) [.slice (some ⟨b,off+i*k,none⟩) (j-i) (cap-i)]:=by
 unfold Rd at h ⊢;obtain ⟨a,cap',rows,e,h3,h4,h5,h6,h7⟩:=h;simp only [List.cons.injEq,Value.slice.injEq,and_true] at e;obtain ⟨rfl,hn,rfl⟩:=e;refine ⟨some ⟨b,off+i*k,none⟩,cap-i,(rows.take j).drop i,?_,?_,by omega,aO.jp9 i (aO.takeN j h5),fun r hr=>h6 r (List.mem_of_mem_take (List.mem_of_mem_drop hr)),?_⟩
 ·congr 2;rw [List.length_drop,jN4];omega
 ·rw [List.length_drop,jN4];omega
 ·rcases h7 with h7 | ⟨b',off',e,h8,hb,h9⟩
  ·left;rw [List.length_drop,jN4];omega
  ·right;simp only [Option.some.injEq,Addr.mk.injEq,and_true] at e;obtain ⟨rfl,rfl⟩:=e;refine ⟨b,off+i*k,rfl,h8,hb,fun q u hu=>?_⟩;rw [FX k _ (fun r hr=>h6 r (List.mem_of_mem_take hr)),List.getElem?_drop] at hu;have hpre:(rows.take j).flatten <+: rows.flatten:=by
    have:rows=rows.take j++rows.drop j:=(List.take_append_drop j rows).symm
    conv=>rhs;rw [this]
    rw [List.flatten_append];exact List.prefix_append _ _
   have hu':rows.flatten[i*k+q]?=some u:=by obtain ⟨t,ht⟩:=hpre;rw [<- ht,List.getElem?_append_left (List.getElem?_eq_some_iff.1 hu).1];exact hu
   have:=h9 (i*k+q) u hu';rw [<- Nat.add_assoc] at this;exact this
theorem QF (vm:Value) (l:List ah) (vb:Value) (w:World) (Y5:∃ a n c,vm=.slice a n c) (h:Rd (·<w.heap.size) w (iC l) [vb]) (hsz:ah.aU l<=900000) (hbd:ah.mh l) : Calls prog 21 #[.agg #[vm,vb]] w (QC w (slP l)):=by
 obtain ⟨am,nm,cm,rfl⟩:=Y5;obtain ⟨ab,nb,cb,rfl⟩:=Rd.au h;obtain ⟨iS,hiS,jrq,jrx,jrz⟩:=info_parts jw0;obtain ⟨S,hS⟩:∃ S,S=w.heap.size:=⟨_,rfl⟩;obtain ⟨w0,hw0⟩:∃ w0,w0=w.alloc (.cells #[.slice am nm cm,.slice ab nb cb] 26):=⟨_,rfl⟩;have k0:CB 26 S [.slice am nm cm,.slice ab nb cb] w0:=by rw [hw0,hS];exact CB.new _ _ w
 have b0:jNj w.heap.size w w0:=by rw [hw0];exact (jK7 _ _).alloc (jK8 _) _
 have e1:=k0.cell 1 _ rfl;have PC:=hid (Fv l _ w0 (h.up b0) (by have:=ah.dI l;omega));have hP1:=YF l;have hP2:=Kl l;have hP3:=Km l hbd;have hP4:=Fu l;have hll:=ah.dI l;obtain ⟨P,hP⟩:∃ P,P=eP l:=⟨_,rfl⟩;rw [<- hP] at PC hP1 hP2 hP3 hP4;have HPE:Hid (slP l=P.map lF):=by show _=_;unfold slP;rw [hP]
 rw [HPE.out];have Y7:=hid hP1;have Rh:=hid hP2;have MZ:=hid hP3;have LM:Hid (P.length<=900001):=by show _<=_;omega
 have O5:=hid hsz;have B0:=hid b0;clear h hsz hbd k0 b0 hP hP1 hP2 hP3 hP4 HPE hll;go_enter func21,ntmps21;go_upto_region 2 with (fail)
 rw [<- hw0,<- hS];clear hw0 hS;go_wp2_with fail
 (with_reducible refine PC.out.mono ?_)
 rintro e w1 ⟨v1,rfl,h1,b1⟩;obtain ⟨a1,c1,hv1,hs1⟩:=Rd.aB h1;obtain ⟨nP,L6⟩:∃ nP,nP=P.length:=⟨_,rfl⟩;obtain rfl:v1=.slice a1 nP c1:=by rw [L6];simpa using hv1
 have hc1:nP<=c1:=by rw [L6];simpa using hs1.le
 have hm1:=hs1.max;unfold maxLen at hm1;have hnp:nP<=900001:=by rw [L6];exact LM.out
 have TQ:=hid L6;have HS1:=hid hs1;have B1:=hid (q01 B0.out b1);have R0:Hid (OB w1 P (.slice none 0 0) (.int .i64 0) w1):=⟨0,[],Nat.zero_le _,rfl,aC.nil _ _ _ _⟩;clear hv1 h1 hs1 b1 L6 PC e1;go_wp2
 go_loopw [3,12] (fun v vi wr=>OB w1 P v vi wr) (fun _ i _=>nP-(intOf i).toNat)
 case atStart=>exact R0.out
 case round=>
  clear R0;obtain ⟨k,rows,hk,rfl,hR⟩:=hrel;obtain ⟨nv,DK⟩:∃ nv,nv=(((P.take k).map lF).map Sl.d).length:=⟨_,rfl⟩;obtain ⟨av,cv,rfl,hcv,hcm⟩:=hR.cap DK.symm;unfold maxLen at hcm;have jF9:nv<=900001:=by have:=TQ.out;rw [DK,jKx,jKx,jN4];omega
  have HNV:=hid DK.symm;have hbel:=hR.aY;have HRW:=hid hR;clear hR DK;by_cases hlt:k<nP
  ·obtain ⟨x,hx⟩:∃ x,P[k]?=some x:=⟨_,List.getElem?_eq_getElem (by have:=TQ.out;omega)⟩;have hxm:x∈P:=List.mem_of_getElem? hx;have hx1:=Y7.out x hxm;have hx2:=Rh.out x hxm;have hx3:=MZ.out x hxm;obtain ⟨b,off,ha,hok,hb,hcx⟩:=HS1.out.at_ (by rw [jKx];have:=TQ.out;omega)
   subst ha;obtain ⟨r,hr,hrl,hcell⟩:=hcx k x.d (by rw [List.getElem?_map,hx];rfl);obtain ⟨vbl,rfl,hbl⟩:=Pt.open_ hr;obtain ⟨al,nl,cl,rfl⟩:=Rd.au hbl;have c0:wr.cell? ⟨b,off+k*2,none⟩=some (.bool x.ti):=(hbel.cell (p:=⟨_,_,none⟩) hb).trans (hcell 0 _ rfl);have c1':wr.cell? ⟨b,off+k*2+1,none⟩=some (.slice al nl cl):=(hbel.cell (p:=⟨_,_,none⟩) hb).trans (hcell 1 _ rfl);obtain ⟨q,hq⟩:∃ q,q=wr.heap.size:=⟨_,rfl⟩;obtain ⟨tb,htb⟩:∃ tb,tb=x.ti:=⟨_,rfl⟩;rw [<- htb] at c0;obtain ⟨w2,hw2⟩:∃ w2,w2=(wr.alloc (.cells #[.bool tb,.slice al nl cl] 96)).alloc (.cells #[.slice none 0 0,.slice none 0 0] 50):=⟨_,rfl⟩;have z1:(wr.alloc (.cells #[.bool tb,.slice al nl cl] 96)).heap.size=q+1:=by rw [jL5,hq]
   have k1:CB 96 q [.bool tb,.slice al nl cl] w2:=by rw [hw2];have h:=CB.new 96 [.bool tb,.slice al nl cl] wr;rw [<- hq] at h;exact h.below ((jK7 _ _).alloc (jK8 _) _)
   have k2:CB 50 (q+1) [.slice none 0 0,.slice none 0 0] w2:=by rw [hw2];have h:=CB.new 50 [.slice none 0 0,.slice none 0 0] (wr.alloc (.cells #[.bool tb,.slice al nl cl] 96));rw [z1] at h;exact h
   have b2:jNj wr.heap.size wr w2:=by rw [hw2];exact ((jK7 _ _).alloc (jK8 _) _).alloc (by omega) _
   have z2:w2.heap.size=q+2:=by rw [hw2,jL5,z1]
   have B12:=q01 hbel b2;have Rk:=hbl.bP B12;have HQ:=hid hq;have HWQ:Hid (w1.heap.size<=q):=by show _<=_;rw [hq];exact hbel.size
   have HZ2:=hid z2;have jCz:=hid B12;have jw1:=hid Rk;have HK2:=hid k2;have HX:=hid hx;have HX1:=hid hx1;have HX2:=hid hx2;have HX3:=hid hx3;have HTB:=hid htb;have HB2:=hid b2;have e0:=k1.cell 0 _ rfl;have e1:=k1.cell 1 _ rfl;clear hr hcell hrl hbl hok hb hx hxm hx1 hx2 hx3 hq htb z1 k1 k2 b2 z2 B12 Rk hcx;go_upto_region 6 with (fail)
   rw [<- hw2];simp only [<- HQ.out];clear hw2 c0 c1';cases tb
   case' false=>
    go_upto_region 10 with (fail)
    obtain ⟨W,hW⟩:∃ W,W=w2:=⟨_,rfl⟩;obtain ⟨ow,how⟩:∃ ow,ow=Value.slice al nl cl:=⟨_,rfl⟩;obtain ⟨st,sb,hst⟩:∃ st sb,lF x=⟨st,sb⟩:=⟨_,_,rfl⟩;have hsl:lF x=⟨[],x.bl⟩:=by unfold lF;rw [if_neg (by rw [<- HTB.out];simp)]
    obtain ⟨rfl,rfl⟩:st=[]/\sb=x.bl:=by rw [hsl] at hst;simpa using hst.symm
    obtain ⟨at3,Tg,Ti,hvt⟩:∃ a n c,Value.slice a n c=.slice none 0 0:=⟨_,_,_,rfl⟩;have HKW:Hid (CB 50 (q+1) [.slice at3 Tg Ti,.slice none 0 0] W):=by show CB _ _ _ _;rw [hW,hvt];exact HK2.out
    have HTW:Hid (Rd (fun b=>b<w1.heap.size\/q+2<=b) W (aZ []) [.slice at3 Tg Ti]):=by show Rd _ _ _ _;rw [hvt];exact Rd.aI _ _ _
    have HRO:Hid (Rd (·<w1.heap.size) W (iC x.bl) [ow]):=by show Rd _ _ _ _;rw [hW,how];exact jw1.out
    have Kw:Hid (jNj wr.heap.size wr W):=by show jNj _ _ _;rw [hW];exact HB2.out
    have HZW:Hid (q+2<=W.heap.size):=by show _<=_;rw [hW,HZ2.out];exact jK8 _
    have HSB:Hid (ah.aU x.bl<=900000/\ah.mh x.bl):=⟨by have:=HX2.out;have:=O5.out;omega,HX3.out⟩;have HST:=hid hst;rw [<- hW];have jI2:=hvt;clear hst hsl hvt hW;generalize x.bl=sb at *;generalize ([]:List aj)=st at HST HTW;simp only [<- how];clear how jI2 e0 e1
   case' true=>
    obtain ⟨b0,t0,hb0,jI3⟩:=HX1.out HTB.out.symm;obtain ⟨a3,c3,hv3,hs3⟩:=Rd.aB jw1.out;obtain ⟨rfl,rfl,rfl⟩:al=a3/\nl=(x.bl.map ah.d).length/\cl=c3:=by simp at hv3;simpa using hv3
    obtain ⟨kd,lv,i,t,d,ti,at_,li,ks⟩:=b0;obtain ⟨g,o,vc,vp,vl,vk,rfl,-,hgw,hc,hRR⟩:=Mr hs3 (k:=0) (by rw [hb0];rfl);obtain ⟨al',nl',cl',rfl⟩:=Rd.au hRR.line;obtain ⟨nL,FW⟩:∃ nL,nL=(x.bl.map ah.d).length:=⟨_,rfl⟩;rw [<- FW] at e1 ⊢;have jw2:1<=nL:=by rw [FW,hb0];simp
    have hcap:=hs3.le;rw [<- FW] at hcap;have jw3:=hs3.max;unfold maxLen at jw3;have c9:w2.cell? ⟨g,o+9,none⟩=some (.slice al' nl' cl'):=by have:=hc.c9;rw [Nat.zero_mul,Nat.add_zero] at this;exact this
    have jw4:aj.mh li/\aj.aU li<=1000000:=by have h:=HX3.out;rw [hb0,ah.mh,ah.bd] at h;exact ⟨h.1.2.2.1,h.1.2.2.2.1⟩
    have LC:=hid (FV _ li (·<w1.heap.size) _ w2 (jK8 _) jw4.2 hRR.line (fun b (hb:b<w1.heap.size)=>by have:=jCz.out.size;omega) jw4.1);have hsl:lF x=⟨li,t0⟩:=by unfold lF;rw [if_pos HTB.out.symm,hb0];rfl
    have HSL:=hid hsl;have hbt:x.bl.tail=t0:=by rw [hb0];rfl
    have HTL:Hid (nL≠1->Rd (·<w1.heap.size) w2 (iC t0) [.slice (some ⟨g,o+11,none⟩) (nL-1) (cl-1)]):=fun hne=>by
     have h:=Rd.cut jw1.out 1 nL jw2 (by rw [FW];exact jK8 _);rw [Nat.one_mul,<- List.map_take,<- List.map_drop,hb0] at h;have e:((ah.mk kd lv i t d ti at_ li ks::t0).take nL).drop 1=t0:=by rw [FW,hb0,jKx,List.take_length];rfl
     rw [e] at h;exact h
    have HTS:Hid (ah.aU t0<=900000/\ah.mh t0):=by have h1:=HX2.out;have h2:=HX3.out;rw [hb0,ah.aU] at h1;rw [hb0,ah.mh] at h2;exact ⟨by have:=O5.out;omega,h2.2⟩
    have HT0:Hid (nL=1->t0=[]):=fun e=>by
     rw [FW,hb0] at e;simpa using e
    clear hs3 hv3 hc hRR hgw jw4 hsl hb0 jI3 FW hbt;go_wp2_with fail
    (with_reducible refine LC.out.mono ?_)
    rintro e w3 ⟨v3,gW,rfl,hr3⟩;obtain ⟨at3,Tg,Ti,rfl⟩:=hr3.sl3;have b3:=hr3.aY;have k3:=HK2.out.below b3;have d0:=k3.cell 0 _ rfl;have df:=Aj k3;have hT3:Rd (fun b=>b<w1.heap.size\/q+2<=b) w3 (aZ li) [.slice at3 Tg Ti]:=hr3.rd.weaken (fun b hb=>hb.imp id (fun h=>by have:=HZ2.out;omega));have hz3:=b3.size;have hT4:Rd (fun b=>b<w1.heap.size\/q+2<=b) (w3.setCell ⟨q+1,0,none⟩ (.slice at3 Tg Ti)) (aZ li) [.slice at3 Tg Ti]:=Rd.keep (ok:=fun b=>b<w1.heap.size\/w2.heap.size<=b) (fun b hb hlt=>⟨hb.imp id (fun h=>by have:=HZ2.out;omega),jL1 w3 ⟨q+1,0,none⟩ _ b (by show b≠q+1;have:=HZ2.out;have:=HWQ.out;omega)⟩) _ _ hr3.rd;obtain ⟨w4,hw4⟩:∃ w4,w4=w3.setCell ⟨q+1,0,none⟩ (.slice at3 Tg Ti):=⟨_,rfl⟩;clear hr3 LC c9;go_upto_region 9 with (fail)
    rw [<- hw4];have hK4:CB 50 (q+1) [.slice at3 Tg Ti,.slice none 0 0] w4:=by rw [hw4];exact dS k3 0 _
    have k4:∀ b,b≠q+1->w4.heap[b]?=w3.heap[b]?:=fun b hb=>by rw [hw4];exact jL1 w3 ⟨q+1,0,none⟩ _ b hb
    have z4:w4.heap.size=w3.heap.size:=by rw [hw4];simp [jM1]
    have HTW:Hid (Rd (fun b=>b<w1.heap.size\/q+2<=b) w4 (aZ li) [.slice at3 Tg Ti]):=by show Rd _ _ _ _;rw [hw4];exact hT4
    have HKW:=hid hK4;have Kw:Hid (jNj wr.heap.size wr w4):=by have h:=HB2.out.trans (b3.mono HB2.out.size);show jNj _ _ _;rw [hw4];exact h.setCell (p:=⟨q+1,0,none⟩) (by show wr.heap.size<=q+1;have:=HQ.out;omega) _
    have HZW:Hid (q+2<=w4.heap.size):=by show _<=_;have:=HZ2.out;omega
    have HR4:Hid (nL≠1->Rd (·<w1.heap.size) w4 (iC t0) [.slice (some ⟨g,o+11,none⟩) (nL-1) (cl-1)]):=fun hne=>Rd.keep (fun b (hb:b<w1.heap.size) hlt=>⟨hb,(k4 b (by have:=HQ.out;have:=jCz.out.size;have:=HZ2.out;have:=HWQ.out;omega)).trans (b3.block b hlt)⟩) _ _ (HTL.out hne)
    obtain ⟨W,hW⟩:∃ W,W=w4:=⟨_,rfl⟩;rw [<- hW] at HTW HKW Kw HZW HR4 ⊢;have HST:Hid (lF x=⟨li,t0⟩):=HSL;have HSB:Hid (ah.aU t0<=900000/\ah.mh t0):=HTS;have Zt:Hid (nL=1->t0=[]):=HT0;clear hK4 hT3 hT4 k3 b3 hw4 k4 z4 d0 df HSL HTS HT0 hW;by_cases hcl:cl=1
    case' pos=>
     go_upto_region 10 with (fail)
     have hn1:nL=1:=by omega
     have YG:Hid (Rd (·<w1.heap.size) W (iC t0) [.slice (some ⟨g,o,none⟩) (nL-1) 0]):=by show Rd _ _ _ _;rw [Zt.out hn1,hn1];unfold iC Rd;exact ⟨_,0,[],rfl,by simp,Nat.zero_le _,aO.none,by simp,.inl rfl⟩
     generalize Value.slice (some ⟨g,o,none⟩) (nL-1) 0=ow at *;have HRO:=YG;clear hcl hn1 YG HR4 Zt HTL;generalize t0=sb at *;generalize li=st at *;clear e0 e1 hcap jw3 jw2
    case' neg=>
     have YG:Hid (Rd (·<w1.heap.size) W (iC t0) [.slice (some ⟨g,o+11,none⟩) (nL-1) (cl-1)]):=by
      show Rd _ _ _ _;by_cases hn1:nL=1
      ·rw [Zt.out hn1,hn1];unfold iC Rd;exact ⟨_,cl-1,[],rfl,by simp,by unfold maxLen;omega,aO.none,by simp,.inl rfl⟩
      ·exact HR4.out hn1
     go_upto_region 10 with (fail)
     generalize Value.slice (some ⟨g,o+11,none⟩) (nL-1) (cl-1)=ow at *;have HRO:=YG;clear hcl YG HR4 Zt HTL;generalize t0=sb at *;generalize li=st at *;clear e0 e1 hcap jw3 jw2
   all_goals
    have BC:=hid (SY _ sb (·<w1.heap.size) ow W (jK8 _) (by have:=HSB.out.1;omega) HRO.out (fun b (hb:b<w1.heap.size)=>by have:=HWQ.out;have:=HZW.out;omega) HSB.out.2);go_wp2_with fail
    (with_reducible refine BC.out.mono ?_)
    rintro e w5 ⟨v5,Am,rfl,hr5⟩;obtain ⟨a5,n5,c5,rfl⟩:=hr5.sl3;have b5:=hr5.aY;have k5:=HKW.out.below b5;have d0:=k5.cell 0 _ rfl;have d1:=k5.cell 1 _ rfl;have df:=Aj k5;obtain ⟨w6,ku⟩:∃ w6,w6=w5.setCell ⟨q+1,1,none⟩ (.slice a5 n5 c5):=⟨_,rfl⟩;have k6:CB 50 (q+1) [.slice at3 Tg Ti,.slice a5 n5 c5] w6:=by rw [ku];exact dS k5 1 _
    have hz6:w6.heap.size=w5.heap.size:=by rw [ku];simp [jM1]
    have hb6:∀ b,b≠q+1->w6.heap[b]?=w5.heap[b]?:=fun b hb=>by rw [ku];exact jL1 w5 ⟨q+1,1,none⟩ _ b hb
    have hB5:jNj wr.heap.size wr w6:=by rw [ku];exact (Kw.out.trans (b5.mono Kw.out.size)).setCell (p:=⟨q+1,1,none⟩) (by show wr.heap.size<=q+1;have:=HQ.out;omega) _
    have hS6:Rd (fun b=>b<w1.heap.size\/wr.heap.size<=b) w6 (lF x).d [.slice at3 Tg Ti,.slice a5 n5 c5]:=by
     rw [HST.out];refine Sl.fC ⟨st,sb⟩ ?_ ?_
     ·exact Rd.keep (ok:=fun b=>b<w1.heap.size\/q+2<=b) (fun b hb hlt=>⟨hb.imp id (fun h=>by have:=HQ.out;omega),(hb6 b (by have:=HWQ.out;omega)).trans (b5.block b hlt)⟩) _ _ HTW.out
     ·exact Rd.keep (ok:=fun b=>b<w1.heap.size\/W.heap.size<=b) (fun b hb hlt=>⟨hb.imp id (fun h=>by have:=HZW.out;have:=HQ.out;omega),hb6 b (by have:=HZW.out;have:=HWQ.out;omega)⟩) _ _ hr5.rd
    have HS6:=hid hS6;have HK6:=hid k6;have hR6:=HRW.out.below hB5;have HR6:=hid hR6;have g0:=k6.cell 0 _ rfl;have g1:=k6.cell 1 _ rfl;clear hr5 b5 k5 k6 hz6 hb6 hB5 hS6 hR6 BC HKW HTW HRO Kw HZW HSB;go_upto_region 11 with (fail)
    rw [<- ku];clear ku d0 d1 df;go_wp2_with (at_builtin;refine fF (n:=nv) rfl _ _ 41 rfl iS _ 48 underlying41 hiS jrq jrx jrz rfl (by decide) HR6.out (fun b hb=>hb) (lF x).d [.slice at3 Tg Ti,.slice a5 n5 c5] HS6.out rfl (by intro u hu;simp at hu;rcases hu with rfl | rfl<;>rfl) HNV.out (by omega) (by decide) rfl rfl ?_)
    intro a7 c7 w7 Ao hg7;have hf:OB w1 P (.slice a7 (nv+1) c7) (.int .i64 ((k+1:Nat):Int)) w7:=by
     refine ⟨k+1,rows++[[.slice at3 Tg Ti,.slice a5 n5 c5]],by have:=TQ.out;omega,rfl,?_⟩;have e:((P.take (k+1)).map lF).map Sl.d=List.take k (List.map (Sl.d ∘ lF) P)++[(lF x).d]:=by rw [List.take_add_one,HX.out];simp
     rw [e];exact Ao
    have HF:=hid hf;clear Ao hg7 hf g0 g1;exact tL
  ·have hkl:k=P.length:=by have:=TQ.out;omega
   have hrd:Rd (·<wr.heap.size) wr (.sl 2 ((P.map lF).map Sl.d)) [.slice av nv cv]:=by have h:=HRW.out.rd;rw [hkl,List.take_length] at h;exact Rd.keep (fun b _ hlt=>⟨hlt,rfl⟩) _ _ h
   have Fp:=hid hrd;have Sw:=hid (q01 B1.out hbel);clear hkl hrd hbel;go_wp2;go_ret;exact ⟨_,rfl,Fp.out,Sw.out⟩
end Go.Proofs.YtkfnkeflalcphaaGreatDoor

