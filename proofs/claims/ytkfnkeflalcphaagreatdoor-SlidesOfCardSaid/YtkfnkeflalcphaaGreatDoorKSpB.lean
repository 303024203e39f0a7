/- Contract of slides.parts. -/
import Derived.Test.YtkfnkeflalcphaaGreatDoorKHtR
set_option maxHeartbeats 8000000
set_option maxRecDepth 100000
open Go.Lib (hid)
namespace Go.Proofs.YtkfnkeflalcphaaGreatDoor
open List renaming setIfInBounds_toArray->jk2,set_cons_zero->jk3,set_cons_succ->jk4
open Nat renaming le_refl->jk7
open Go.RowKit.Below renaming heap_setCell->jl0
open Go.World renaming size_alloc->jl4,cell?->jlz
open Go.RowKit
set_option linter.unusedVariables false
set_option linter.unusedSimpArgs false
def Xf (w:World) (L:List Pt) (e:Ending) (w':World):Prop:=∃ v,e=.returned v/\Rd (·<w'.heap.size) w' (.sl 2 (L.map Pt.d)) [v]/\Below w.heap.size w w'
def Jy (w:World) (l:List ah) (vi:Value) (wr:World):Prop:=∃ k:Nat,k<=l.length/\vi=.int .i64 k/\fE (·<w.heap.size) w.heap.size wr.heap.size (l7 (l.take k)) wr/\Below w.heap.size w wr
theorem Li (l:List ah) (k:Nat) (x:ah) (h:l[k]?=some x):l7 (l.take (k+1))=kP (l7 (l.take k)) x:=by unfold l7;rw [List.take_add_one,h,List.foldl_append];rfl
theorem xG:∀ (l:List ah) (s:tN),(l.foldl kP s).all.length<=s.all.length+l.length/\(l.foldl kP s).op.bl.length<=s.op.bl.length+l.length
 | [],s=>⟨jk7 _,jk7 _⟩
 | x::l,s=>by
  have h:=xG l (kP s x);have h1:(kP s x).all.length<=s.all.length+1/\(kP s x).op.bl.length<=s.op.bl.length+1:=by
   unfold kP dN;split
   ·split
    ·split<;>simp
    ·split<;>simp
   ·simp
  rw [List.foldl_cons,List.length_cons];omega
theorem Jz (ok:Nat->Prop) (w:World):Rd ok w (ah.mk 0 0 ⟨#[]⟩ ⟨#[]⟩ ⟨#[]⟩ ⟨#[]⟩ ⟨⟨#[]⟩,[],[]⟩ [] []).d [.int .i64 0,.int .i64 0,.string ⟨#[]⟩,.string ⟨#[]⟩,.string ⟨#[]⟩,.string ⟨#[]⟩,.string ⟨#[]⟩,.slice none 0 0,.slice none 0 0,.slice none 0 0,.slice none 0 0]:=
 ah.dS 0 0 ⟨#[]⟩ ⟨#[]⟩ ⟨#[]⟩ ⟨#[]⟩ (a:=⟨⟨#[]⟩,[],[]⟩) ⟨⟨Rd.aC _ _ _,Rd.aC _ _ _⟩,Rd.aC _ _ _,Rd.aC _ _ _⟩
theorem E8:∀ u∈([.int .i64 0,.int .i64 0,.string ⟨#[]⟩,.string ⟨#[]⟩,.string ⟨#[]⟩,.string ⟨#[]⟩,.string ⟨#[]⟩,.slice none 0 0,.slice none 0 0,.slice none 0 0,.slice none 0 0]:List Value),u.oneCell'=true:=by intro u hu;simp at hu;rcases hu with rfl | rfl | rfl<;>rfl
theorem OZ {ok:Nat->Prop} {p M UA g n c:Nat} {al:List Pt} {ti:Bool} {bl:List ah} {x:ah} {w w5 wA wO:World} {rA rO:List (List Value)} {va vo:Value} {r0 r1:List Value} {d0:D} (hok:∀ b,ok b->b<p) (h1:wA.heap.size=p+3) (h2:UA<=wO.heap.size) (h3:aB 96 2 ok UA wA (al.map Pt.d) rA va w) (hO:aB 48 11 ok M wO (bl.map ah.d) rO vo w) (h5:aG p va 93 w) (h6:CB 96 (p+1) [.bool ti,vo] w) (h7:aG (p+2) (.bool true) 4 w) (hn:(bl.map ah.d).length=n) (hr:aB 48 11 ok w5.heap.size wO (bl.map ah.d++[d0]) (rO++[r0]) (.slice (some ⟨g,0,none⟩) (n+1) c) w5) (hl:r1.length=11) (hk:∀ b,b<w.heap.size->vo.ownBlock≠some b->w5.heap[b]?=w.heap[b]?) (hs:w.heap.size<=w5.heap.size) (ho:w5.os=w.os/\w5.tape=w.tape/\w5.output=w.output) (hat:vo.ownBlock=some g\/w.heap.size<=g) (hx:Rd ok w5 x.d r1) : fE ok p w5.heap.size ⟨al,⟨ti,bl++[x]⟩,true⟩ ((jZ w5 g (n*11) r1).setCell ⟨p+1,1,none⟩ (.slice (some ⟨g,0,none⟩) (n+1) c))/\Below p w ((jZ w5 g (n*11) r1).setCell ⟨p+1,1,none⟩ (.slice (some ⟨g,0,none⟩) (n+1) c)):=by
 have a0:=h3.lX;have a1:=h3.tK;have o0:=hO.lX;have yA:∀ b,vo.ownBlock=some b->wO.heap.size<=b:=fun b e=>(hO.own.lt b e).1
 have hg:UA<=g:=by
  rcases hat with h | h
  ·have:=yA g h;omega
  ·omega
 have hr1:=hr.jaj hn hl (d1:=x.d) (Rd.keep (fun b hb hlt=>⟨⟨.inl hb,by have:=hok b hb;omega,by omega⟩,rfl⟩) _ _ hx);obtain ⟨w6,iH⟩:∃ w6,w6=jZ w5 g (n*11) r1:=⟨_,rfl⟩;have k6:∀ b,b≠g->w6.heap[b]?=w5.heap[b]?:=fun b hb=>by rw [iH];exact RO g _ _ _ b hb
 have z6:w6.heap.size=w5.heap.size:=by rw [iH];exact lS g _ _ _
 have s6:=qy g r1 (n*11) w5;rw [<- iH] at hr1 s6 ⊢;clear iH;have kA:∀ b,b<UA->w6.heap[b]?=w.heap[b]?:=fun b hb=>(k6 b (by omega)).trans (hk b (by omega) (fun e=>by have:=yA b e;omega))
 have r3:=h3.same (w':=w6) (by omega) ⟨s6.1.trans ho.1,s6.2.1.trans ho.2.1,s6.2.2.trans ho.2.2⟩ kA;have k7:∀ b,b≠p+1->(w6.setCell ⟨p+1,1,none⟩ (.slice (some ⟨g,0,none⟩) (n+1) c)).heap[b]?=w6.heap[b]?:=fun b hb=>jl0 _ ⟨p+1,1,none⟩ _ b hb
 have g7:w6.grownBy (w6.setCell ⟨p+1,1,none⟩ (.slice (some ⟨g,0,none⟩) (n+1) c)) (some (p+1)):=⟨rfl,rfl,rfl,by simp [World.setCell],fun b _ hb=>k7 b (fun e=>hb (by rw [e]))⟩;obtain ⟨QC,e2,r2⟩:=r3.qP (p:=p+1) (by omega) (fun h=>by have:=hok _ h;omega) g7;obtain ⟨QD,e3,rO2⟩:=hr1.qP (p:=p+1) (by omega) (fun h=>by have:=hok _ h;omega) g7;refine ⟨⟨UA,QC,QD,rA,rO++[r1],va,_,by omega,by omega,r2,by rw [List.map_append];exact rO2,(k7 p (by omega)).trans ((kA p (by omega)).trans h5),?_,(k7 (p+2) (by omega)).trans ((kA (p+2) (by omega)).trans h7),fun e=>by simp at e⟩,?_⟩
 ·have c6:CB 96 (p+1) [.bool ti,vo] w6:=(kA (p+1) (by omega)).trans h6;exact dF c6 1 _
 ·exact ⟨g7.os.trans (s6.1.trans ho.1),g7.tape.trans (s6.2.1.trans ho.2.1),g7.output.trans (s6.2.2.trans ho.2.2),by have:=g7.size;omega,fun b hb=>(k7 b (by omega)).trans (kA b (by omega))⟩
theorem Aj (l:List ah) (v:Value) (w:World) (h:Rd (·<w.heap.size) w (iU l) [v]) (hl:l.length<=1000000) : Calls Tryz.prog 58 #[v] w (Xf w (dX l)):=by
 obtain ⟨a,cap,hv,hs⟩:=Rd.ay h;obtain ⟨nL,Ah⟩:∃ nL,nL=l.length:=⟨_,rfl⟩;obtain rfl:v=.slice a nL cap:=by rw [Ah];simpa using hv
 have hcap:nL<=cap:=by rw [Ah];simpa using hs.le
 have hmx:=hs.max;unfold maxLen at hmx;obtain ⟨iB,Bu,Xg,Xh,Ke⟩:=info_parts Hg;obtain ⟨p,hp⟩:∃ p,p=w.heap.size:=⟨_,rfl⟩;obtain ⟨w3,hw3⟩:∃ w3,w3=((w.alloc (.cells #[.slice none 0 0] 93)).alloc (.cells #[.bool false,.slice none 0 0] 96)).alloc (.cells #[.bool false] 4):=⟨_,rfl⟩;have z1:(w.alloc (.cells #[.slice none 0 0] 93)).heap.size=p+1:=by rw [jl4,hp]
 have z2:((w.alloc (.cells #[.slice none 0 0] 93)).alloc (.cells #[.bool false,.slice none 0 0] 96)).heap.size=p+2:=by rw [jl4,z1]
 have z3:w3.heap.size=p+3:=by rw [hw3,jl4,z2]
 have K1:aG p (.slice none 0 0) 93 w3:=by have h:=aG.new w (.slice none 0 0) 93;rw [<- hp] at h;rw [hw3];exact (h.alloc _).alloc _
 have K2:CB 96 (p+1) [.bool false,.slice none 0 0] w3:=by have h:=CB.new 96 [.bool false,.slice none 0 0] (w.alloc (.cells #[.slice none 0 0] 93));rw [z1] at h;rw [hw3];exact h.below ((Below.refl _ _).alloc (jk7 _) _)
 have K3:aG (p+2) (.bool false) 4 w3:=by have h:=aG.new ((w.alloc (.cells #[.slice none 0 0] 93)).alloc (.cells #[.bool false,.slice none 0 0] 96)) (.bool false) 4;rw [z2] at h;rw [hw3];exact h
 have B3:Below w.heap.size w w3:=by rw [hw3];exact (((Below.refl _ w).alloc (jk7 _) _).alloc (by omega) _).alloc (by omega) _
 have P0:fE (·<w.heap.size) w.heap.size w3.heap.size (l7 (l.take 0)) w3:=by rw [<- hp];exact ⟨w3.heap.size,w3,w3,[],[],.slice none 0 0,.slice none 0 0,z3,jk7 _,aB.nil _ _ _ _,aB.nil _ _ _ _,K1,K2,K3,fun _=>rfl⟩
 have R0:Hid (Jy w l (.int .i64 0) w3):=⟨0,Nat.zero_le _,rfl,P0,B3⟩;have HS:=hid hs;have xM:=hid Ah;have HP:=hid hp;have HLm:=hid hl;clear h hv hs Ah hl z1 z2 z3 K1 K2 K3 B3 P0 hp;go_enter Tryz.func58,Tryz.ntmps58;go_upto_region 6 with (fail)
 rw [<- HP.out];try rw [<- hw3]
 clear hw3;go_wp2
 go_loopw [14] (fun vi wr=>Jy w l vi wr) (fun i _=>nL-(intOf i).toNat)
 case atStart=>exact R0.out
 case round=>
  clear R0;obtain ⟨k,hk,rfl,hP,hB⟩:=hrel;obtain ⟨s,hsD⟩:∃ s,s=l7 (l.take k):=⟨_,rfl⟩;rw [<- hsD] at hP;have hlen:=xG (l.take k) qd;rw [show List.foldl kP qd (l.take k)=l7 (l.take k) from rfl,<- hsD,List.length_take] at hlen;have HSD:=hid hsD;have hal:s.all.length<=1000000/\s.op.bl.length<=1000000:=by have h1:qd.all.length=0/\qd.op.bl.length=0:=⟨rfl,rfl⟩;have:=HLm.out;omega
  have UZ:=hid hal;clear hsD hlen hal;by_cases hlt:k<nL
  ·obtain ⟨x,hx⟩:∃ x,l[k]?=some x:=⟨_,List.getElem?_eq_getElem (by have:=xM.out;omega)⟩;have hst:=Li l k x hx;rw [<- HSD.out] at hst;have RX:=hid hst;obtain ⟨X,LU⟩:∃ X,X=x:=⟨_,rfl⟩;obtain ⟨kd,lv,i,t,d,ti,at_,li,ks⟩:=x;obtain ⟨g,off,vc,vp,vl,vk,rfl,-,hgw,hc,hRR⟩:=F6 HS.out hx;obtain ⟨ac,nc,cc,rfl⟩:=Rd.au hRR.at_.cls
   obtain ⟨ap,np,cp,rfl⟩:=Rd.au hRR.at_.aI
   obtain ⟨al,nl,cl,rfl⟩:=Rd.au hRR.line;obtain ⟨ak,nk,ck,rfl⟩:=Rd.au hRR.kids;have hXr:Rd (·<w.heap.size) w X.d [.int .i64 kd,.int .i64 lv,.string i,.string t,.string d,.string ti,.string at_.id,.slice ac nc cc,.slice ap np cp,.slice al nl cl,.slice ak nk ck]:=by rw [LU];exact ah.dS kd lv i t d ti hRR
   have c0:wr.cell? ⟨g,off+k*11,none⟩=some (.int .i64 kd):=(hB.cell (p:=⟨_,_,none⟩) hgw).trans hc.c0;have c1:wr.cell? ⟨g,off+k*11+1,none⟩=some (.int .i64 lv):=(hB.cell (p:=⟨_,_,none⟩) hgw).trans hc.c1;have c2:wr.cell? ⟨g,off+k*11+2,none⟩=some (.string i):=(hB.cell (p:=⟨_,_,none⟩) hgw).trans hc.c2;have c3:wr.cell? ⟨g,off+k*11+3,none⟩=some (.string t):=(hB.cell (p:=⟨_,_,none⟩) hgw).trans hc.c3;have c4:wr.cell? ⟨g,off+k*11+4,none⟩=some (.string d):=(hB.cell (p:=⟨_,_,none⟩) hgw).trans hc.c4;have c5:wr.cell? ⟨g,off+k*11+5,none⟩=some (.string ti):=(hB.cell (p:=⟨_,_,none⟩) hgw).trans hc.c5;have c6:wr.cell? ⟨g,off+k*11+6,none⟩=some (.string at_.id):=(hB.cell (p:=⟨_,_,none⟩) hgw).trans hc.c6;have c7:wr.cell? ⟨g,off+k*11+7,none⟩=some (.slice ac nc cc):=(hB.cell (p:=⟨_,_,none⟩) hgw).trans hc.c7;have c8:wr.cell? ⟨g,off+k*11+8,none⟩=some (.slice ap np cp):=(hB.cell (p:=⟨_,_,none⟩) hgw).trans hc.c8;have c9:wr.cell? ⟨g,off+k*11+9,none⟩=some (.slice al nl cl):=(hB.cell (p:=⟨_,_,none⟩) hgw).trans hc.c9;have c10:wr.cell? ⟨g,off+k*11+10,none⟩=some (.slice ak nk ck):=(hB.cell (p:=⟨_,_,none⟩) hgw).trans hc.c10;obtain ⟨q,hq⟩:∃ q,q=wr.heap.size:=⟨_,rfl⟩;obtain ⟨w4,hw4⟩:∃ w4,w4=wr.alloc (.cells #[.int .i64 kd,.int .i64 lv,.string i,.string t,.string d,.string ti,.string at_.id,.slice ac nc cc,.slice ap np cp,.slice al nl cl,.slice ak nk ck] 48):=⟨_,rfl⟩;have k4:CB 48 q [.int .i64 kd,.int .i64 lv,.string i,.string t,.string d,.string ti,.string at_.id,.slice ac nc cc,.slice ap np cp,.slice al nl cl,.slice ak nk ck] w4:=by rw [hw4,hq];exact CB.new _ _ _
   have b4:Below wr.heap.size wr w4:=by rw [hw4];exact (Below.refl _ _).alloc (jk7 _) _
   have Ur:=hP.below b4;have hB4:=aQ hB b4;have hzq:w4.heap.size=q+1:=by rw [hw4,jl4,hq]
   obtain ⟨bb,hbb⟩:∃ bb,bB kd lv=bb:=⟨_,rfl⟩;obtain ⟨tt,htt⟩:∃ tt,tB kd lv=tt:=⟨_,rfl⟩;have BC:=Gg kd lv i t d ti at_.id ac ap al ak nc cc np cp nl cl nk ck w4
   rw [hbb] at BC;have uY:=hid BC;have TCX:Hid (∀ W:World,Calls Tryz.prog 101 #[.agg #[.int .i64 kd,.int .i64 lv,.string i,.string t,.string d,.string ti,.string at_.id,.slice ac nc cc,.slice ap np cp,.slice al nl cl,.slice ak nk ck]] W (dH (.bool tt) W)):=fun W=>by
    rw [<- htt];exact zx kd lv i t d ti at_.id ac ap al ak nc cc np cp nl cl nk ck W
   have xJ:=hid (show gP X=bb by rw [LU,QB];exact hbb);have HTT:=hid (show qN X=tt by rw [LU,QA];exact htt);rw [<- LU] at RX;have HXR:=hid hXr;have HQ:=hid hq;have Vw:=hid Ur;have jbk:=hid hP.sz;have AO:=hid hB4;have HZQ:=hid hzq;have e0:=k4.cell 0 _ rfl;have e1:=k4.cell 1 _ rfl;have e2:=k4.cell 2 _ rfl;have e3:=k4.cell 3 _ rfl;have e4:=k4.cell 4 _ rfl;have e5:=k4.cell 5 _ rfl;have e6:=k4.cell 6 _ rfl;have e7:=k4.cell 7 _ rfl;have e8:=k4.cell 8 _ rfl;have e9:=k4.cell 9 _ rfl;have e10:=k4.cell 10 _ rfl;have HK4:=hid k4;clear hx hst LU hc hRR hXr hP hB k4 b4 Ur hB4 hzq hbb htt BC hgw hq;go_upto_region 9 with (fail)
   rw [<- hw4,<- HQ.out];clear hw4 c0 c1 c2 c3 c4 c5 c6 c7 c8 c9 c10;go_wp2_with fail
   (with_reducible refine uY.out.mono ?_)
   rintro e w5 ⟨rfl,b5⟩;have Yt:=hid (Vw.out.below b5);have xY:=hid (aQ AO.out b5);have HK5:=hid (HK4.out.below b5);have HZ5:=hid b5.size;clear b5 Vw uY e0 e1 e2 e3 e4 e5 e6 e7 e8 e9 e10;obtain ⟨aL,⟨ot,ob⟩,sm⟩:=s;cases bb
   case' true=>
    have FC:Hid (Calls Tryz.prog 102 #[.pointer (some ⟨p+1+1,0,none⟩),.pointer (some ⟨p,0,none⟩),.pointer (some ⟨p+1,0,none⟩)] w5 (qO (·<w.heap.size) p wr.heap.size (dN ⟨aL,⟨ot,ob⟩,sm⟩) w5)):=(vG (·<w.heap.size) p wr.heap.size ⟨aL,⟨ot,ob⟩,sm⟩ w5 (fun b hb=>by have:=HP.out;show b<p;omega) (by rw [HP.out];exact Yt.out) (by have:=UZ.out.1;show aL.length<=_;have:aL.length<=1000000:=this;omega));go_wp2_with fail
    (with_reducible refine FC.out.mono ?_)
    rintro e w6 ⟨rfl,Xi,b6,k6⟩;have b6:Below w.heap.size w5 w6:=by rw [HP.out] at b6;exact b6
    have HB6:=hid (xY.out.trans b6);have Vq:w4.heap.size<=w6.heap.size:=by have:=b6.size;have:=HZ5.out;omega
    have Lj:CB 48 q [.int .i64 kd,.int .i64 lv,.string i,.string t,.string d,.string ti,.string at_.id,.slice ac nc cc,.slice ap np cp,.slice al nl cl,.slice ak nk ck] w6:=(k6 q (by have:=HQ.out;omega) (by have:=HZQ.out;have:=HZ5.out;omega)).trans HK5.out;have e0:=Lj.cell 0 _ rfl;have e1:=Lj.cell 1 _ rfl;have e2:=Lj.cell 2 _ rfl;have e3:=Lj.cell 3 _ rfl;have e4:=Lj.cell 4 _ rfl;have e5:=Lj.cell 5 _ rfl;have e6:=Lj.cell 6 _ rfl;have e7:=Lj.cell 7 _ rfl;have e8:=Lj.cell 8 _ rfl;have e9:=Lj.cell 9 _ rfl;have e10:=Lj.cell 10 _ rfl;have HK6:=hid Lj;have TC:=hid (TCX.out w6);have HP6:=hid Xi;have HZ6:=hid Vq;clear Xi b6 k6 FC Lj Vq;go_wp2_with fail
    (with_reducible refine TC.out.mono ?_)
    rintro e w7 ⟨rfl,b7⟩;have hP7:=HP6.out.below b7;have hK7:=HK6.out.below b7;have Vr:=aQ HB6.out b7;have hP8:=fE.Y7 (fun b hb=>by have:=HP.out;show b<p;omega) hP7 tt;obtain ⟨vo,I8,hfz⟩:=hP7.opc;have jgq:=hP7.sz;have d0:=I8.cell 0 _ rfl;have df:=nO I8;have hqp:q≠p+1:=by have:=jbk.out;have:=HQ.out;have:=HP.out;omega
    obtain ⟨w8,hw8⟩:∃ w8,w8=w7.setCell ⟨p+1,0,none⟩ (.bool tt):=⟨_,rfl⟩;have hK8:CB 48 q [.int .i64 kd,.int .i64 lv,.string i,.string t,.string d,.string ti,.string at_.id,.slice ac nc cc,.slice ap np cp,.slice al nl cl,.slice ak nk ck] w8:=by rw [hw8];exact (jl0 w7 ⟨p+1,0,none⟩ _ q hqp).trans hK7
    have hB8:Below w.heap.size w w8:=by rw [hw8];exact Vr.setCell (p:=⟨p+1,0,none⟩) (by show w.heap.size<=p+1;have:=HP.out;omega) _
    have d8:w8.cell? ⟨p+1,0,none⟩=some (.bool tt):=by rw [hw8];exact (dF I8 0 _).cell 0 _ rfl
    rw [<- hw8] at hP8;have HP8:=hid hP8;have HK8:=hid hK8;have HB8:=hid hB8;have hs8:w8.heap.size=w7.heap.size:=by rw [hw8];simp [World.setCell]
    have HS8:=hid (show w4.heap.size<=w8.heap.size by have:=b7.size;have:=HZ6.out;omega);clear hP7 hK7 Vr hP8 hK8 hB8 hqp I8 hfz b7 HP6 HK6 TC hs8 jgq e0 e1 e2 e3 e4 e5 e6 e7 e8 e9 e10;go_upto_region 12 with (fail)
    rw [<- hw8];clear hw8 d0 df;cases tt
    case false=>
     have HR:Hid (Jy w l (.int .i64 ((k+1:Nat):Int)) w8):=⟨k+1,by have:=xM.out;omega,rfl,by
      have e:l7 (l.take (k+1))=⟨(dN ⟨aL,⟨ot,ob⟩,sm⟩).all,⟨false,[]⟩,true⟩:=by rw [RX.out];unfold kP;rw [if_pos xJ.out,if_neg (by rw [HTT.out];simp)]
      rw [e];have h:=HP8.out.top;rw [HP.out] at h;exact h,HB8.out⟩
     go_wp2;go_roundw;case rel=>exact HR.out
     case measure=>simp [intOf];omega
    case' true=>
     have HST:Hid (kP ⟨aL,⟨ot,ob⟩,sm⟩ X=⟨(dN ⟨aL,⟨ot,ob⟩,sm⟩).all,⟨true,[]++[X]⟩,true⟩):=by show _=_;unfold kP;rw [if_pos xJ.out,if_pos HTT.out];rfl
     obtain ⟨Qa,H9⟩:∃ Qa,Qa=(dN ⟨aL,⟨ot,ob⟩,sm⟩).all:=⟨_,rfl⟩;obtain ⟨qC,yT⟩:∃ qC:List ah,qC=[]:=⟨_,rfl⟩;obtain ⟨ti1,Ia⟩:∃ t:Bool,t=true:=⟨_,rfl⟩;obtain ⟨sm1,O4⟩:∃ t:Bool,t=true:=⟨_,rfl⟩;obtain ⟨M9,Yu⟩:∃ M9,M9=w6.heap.size:=⟨_,rfl⟩;obtain ⟨w9,bM⟩:∃ w9,w9=w8:=⟨_,rfl⟩;have HPI:Hid (fE (·<w.heap.size) p M9 ⟨Qa,⟨ti1,qC⟩,sm1⟩ w9):=by show fE _ _ _ _ _;rw [H9,yT,Ia,O4,Yu,bM];exact HP8.out
     have yw:Hid (kP ⟨aL,⟨ot,ob⟩,sm⟩ X=⟨Qa,⟨ti1,qC++[X]⟩,true⟩):=by show _=_;rw [HST.out,H9,yT,Ia]
     have PK:Hid (qC.length<=2000000):=by show _<=_;rw [yT];simp
     have HOQ:Hid (qC=[]\/M9<=q):=.inl yT;have Y4:Hid (CB 48 q [.int .i64 kd,.int .i64 lv,.string i,.string t,.string d,.string ti,.string at_.id,.slice ac nc cc,.slice ap np cp,.slice al nl cl,.slice ak nk ck] w9):=by show CB _ _ _ _;rw [bM];exact HK8.out
     have CU:Hid (Below w.heap.size w w9):=by show Below _ _ _;rw [bM];exact HB8.out
     clear H9 yT Ia O4 Yu HP8 HK8 HB8 HS8 Yt xY HK5 HZ5 HB6 HZ6 HST;go_upto_region 13 with (fail)
     rw [<- bM];clear bM d8
   case' false=>
    have yw:Hid (kP ⟨aL,⟨ot,ob⟩,sm⟩ X=⟨aL,⟨ot,ob++[X]⟩,true⟩):=by show _=_;unfold kP;rw [if_neg (by rw [xJ.out];simp)]
    obtain ⟨Qa,H9⟩:∃ Qa,Qa=aL:=⟨_,rfl⟩;obtain ⟨qC,yT⟩:∃ qC:List ah,qC=ob:=⟨_,rfl⟩;obtain ⟨ti1,Ia⟩:∃ t:Bool,t=ot:=⟨_,rfl⟩;obtain ⟨sm1,O4⟩:∃ t:Bool,t=sm:=⟨_,rfl⟩;obtain ⟨M9,Yu⟩:∃ M9,M9=wr.heap.size:=⟨_,rfl⟩;obtain ⟨w9,bM⟩:∃ w9,w9=w5:=⟨_,rfl⟩;have HPI:Hid (fE (·<w.heap.size) p M9 ⟨Qa,⟨ti1,qC⟩,sm1⟩ w9):=by show fE _ _ _ _ _;rw [H9,yT,Ia,O4,Yu,bM,HP.out];exact Yt.out
    have yw:Hid (kP ⟨aL,⟨ot,ob⟩,sm⟩ X=⟨Qa,⟨ti1,qC++[X]⟩,true⟩):=by show _=_;rw [yw.out,H9,yT,Ia]
    have PK:Hid (qC.length<=2000000):=by show _<=_;rw [yT];have h1:ob.length<=1000000:=UZ.out.2;omega
    have HOQ:Hid (qC=[]\/M9<=q):=.inr (by rw [Yu,HQ.out];exact jk7 _);have Y4:Hid (CB 48 q [.int .i64 kd,.int .i64 lv,.string i,.string t,.string d,.string ti,.string at_.id,.slice ac nc cc,.slice ap np cp,.slice al nl cl,.slice ak nk ck] w9):=by show CB _ _ _ _;rw [bM];exact HK5.out
    have CU:Hid (Below w.heap.size w w9):=by show Below _ _ _;rw [bM];exact xY.out
    clear H9 yT Ia O4 Yu Yt xY HK5 HZ5;go_upto_region 13 with (fail)
    rw [<- bM];clear bM
   all_goals
    have jgx:w9.cell? ⟨p+1+1,0,none⟩=some (.bool sm1):=HPI.out.smc.cell;have jgz:w9.frozen? ⟨p+1+1,0,none⟩=false:=HPI.out.smc.free;have Xj:=fE.setSm (fun b hb=>by have:=HP.out;show b<p;omega) HPI.out true;obtain ⟨rP,Ll⟩:∃ rP,rP=w9.setCell ⟨p+1+1,0,none⟩ (.bool true):=⟨_,rfl⟩;have Xj:fE (·<w.heap.size) p M9 ⟨Qa,⟨ti1,qC⟩,true⟩ rP:=by rw [Ll];exact Xj
    have hsz:=jbk.out;have hqw:q<rP.heap.size:=by rw [Ll];simp [World.setCell];exact Y4.out.lt
    have rQ:CB 48 q [.int .i64 kd,.int .i64 lv,.string i,.string t,.string d,.string ti,.string at_.id,.slice ac nc cc,.slice ap np cp,.slice al nl cl,.slice ak nk ck] rP:=by rw [Ll];exact (jl0 w9 ⟨p+1+1,0,none⟩ _ q (by show q≠p+1+1;have:=HP.out;have:=HQ.out;omega)).trans Y4.out
    have jbq:Below w.heap.size w rP:=by rw [Ll];exact CU.out.setCell (p:=⟨p+1+1,0,none⟩) (by show w.heap.size<=p+1+1;have:=HP.out;omega) _
    obtain ⟨UA,wA,wO,rA,rO,va,vo,h1,h2,h3,h4,h5,h6,h7,h8⟩:=Xj;dsimp only at h3 h4 h6 h7 h8;obtain ⟨mo,hmo⟩:∃ mo,mo=(qC.map ah.d).length:=⟨_,rfl⟩;obtain ⟨ao,co,rfl,hco,hcom⟩:=h4.cap hmo.symm;have jh0:mo<=2000000:=by rw [hmo,List.length_map];exact PK.out
    unfold maxLen at hcom;have hov:∀ g,(Value.slice ao mo co).ownBlock=some g->g<q/\p+3<=g:=fun g hg=>by
     have e1:=(h4.own.lt g hg).1;have e2:=h4.oU g hg;have e3:=h3.lX;refine ⟨?_,by omega⟩;rcases HOQ.out with e | e
     ·have:=h8 e;rw [this] at hg;cases hg
     ·omega
    have S0:jlz rP.drew ⟨p+1,1,none⟩=some (.slice ao mo co)/\jlz rP.drew ⟨q,0,none⟩=some (.int .i64 kd)/\jlz rP.drew ⟨q,1,none⟩=some (.int .i64 lv)/\jlz rP.drew ⟨q,2,none⟩=some (.string i)/\jlz rP.drew ⟨q,3,none⟩=some (.string t)/\jlz rP.drew ⟨q,4,none⟩=some (.string d)/\jlz rP.drew ⟨q,5,none⟩=some (.string ti)/\jlz rP.drew ⟨q,6,none⟩=some (.string at_.id)/\jlz rP.drew ⟨q,7,none⟩=some (.slice ac nc cc)/\jlz rP.drew ⟨q,8,none⟩=some (.slice ap np cp)/\jlz rP.drew ⟨q,9,none⟩=some (.slice al nl cl)/\jlz rP.drew ⟨q,10,none⟩=some (.slice ak nk ck):=⟨h6.cell 1 _ rfl,rQ.cell 0 _ rfl,rQ.cell 1 _ rfl,rQ.cell 2 _ rfl,rQ.cell 3 _ rfl,rQ.cell 4 _ rfl,rQ.cell 5 _ rfl,rQ.cell 6 _ rfl,rQ.cell 7 _ rfl,rQ.cell 8 _ rfl,rQ.cell 9 _ rfl,rQ.cell 10 _ rfl⟩;have xL:=hid hov;have H1:=hid h1;have H2:=hid h2;have H3:=hid h3;have H4:=hid h4;have H5:=hid h5;have H6:=hid h6;have H7:=hid h7;have Sj:=hid hmo.symm;have jh1:=hid rQ;have Xk:=hid jbq;have U10:=hid h4.top.drew;have HQW:=hid hqw;have jh2:p+1<rP.heap.size:=h6.lt;clear hov h1 h2 h3 h4 h5 h6 h7 h8 hmo rQ jbq Y4 CU HPI HOQ PK hsz hqw;go_upto_region 14 with (fail)
    rw [<- Ll];clear Ll jgx jgz;refine Qy 9 (fun w'=>w'.cell? ⟨p+1,1,none⟩=some (.slice ao mo co)/\w'.cell? ⟨q,0,none⟩=some (.int .i64 kd)/\w'.cell? ⟨q,1,none⟩=some (.int .i64 lv)/\w'.cell? ⟨q,2,none⟩=some (.string i)/\w'.cell? ⟨q,3,none⟩=some (.string t)/\w'.cell? ⟨q,4,none⟩=some (.string d)/\w'.cell? ⟨q,5,none⟩=some (.string ti)/\w'.cell? ⟨q,6,none⟩=some (.string at_.id)/\w'.cell? ⟨q,7,none⟩=some (.slice ac nc cc)/\w'.cell? ⟨q,8,none⟩=some (.slice ap np cp)/\w'.cell? ⟨q,9,none⟩=some (.slice al nl cl)/\w'.cell? ⟨q,10,none⟩=some (.slice ak nk ck)) (by kernel_rfl) S0 ?_;intro hH;refine fK 0 (v:=?_) rfl (by kernel_rfl) hH (by rfl) ?_ ?_;rotate_left
    ·(intro wv hSw;(try dsimp only at hSw);go_simp;try with_reducible rfl)
    try simp only [Act.put,jk2,jk3,jk4]
    refine fK 1 (v:=?_) rfl (by kernel_rfl) hH (by rfl) ?_ ?_;rotate_left
    ·(intro wv hSw;(try dsimp only at hSw);go_simp;try with_reducible rfl)
    try simp only [Act.put,jk2,jk3,jk4]
    refine fK 2 (v:=?_) rfl (by kernel_rfl) hH (by rfl) ?_ ?_;rotate_left
    ·(intro wv hSw;(try dsimp only at hSw);go_simp;try with_reducible rfl)
    try simp only [Act.put,jk2,jk3,jk4]
    refine fK 3 (v:=?_) rfl (by kernel_rfl) hH (by rfl) ?_ ?_;rotate_left
    ·(intro wv hSw;(try dsimp only at hSw);go_simp;try with_reducible rfl)
    try simp only [Act.put,jk2,jk3,jk4]
    refine q01 (i:=4) rfl (by kernel_rfl) (fun KQ hK=>?_);go_simp;refine hK.out _ _ (fun _ _=>⟨past S0.1 _,past S0.2.1 _,past S0.2.2.1 _,past S0.2.2.2.1 _,past S0.2.2.2.2.1 _,past S0.2.2.2.2.2.1 _,past S0.2.2.2.2.2.2.1 _,past S0.2.2.2.2.2.2.2.1 _,past S0.2.2.2.2.2.2.2.2.1 _,past S0.2.2.2.2.2.2.2.2.2.1 _,past S0.2.2.2.2.2.2.2.2.2.2.1 _,past S0.2.2.2.2.2.2.2.2.2.2.2 _⟩) (fun hH2=>?_);clear hK KQ hH;have hH:=hH2 (by decide) (by kernel_rfl);clear hH2;try simp only [Act.put,jk2,jk3,jk4]
    refine q01 (i:=5) rfl (by kernel_rfl) (fun KQ hK=>?_);refine qL rfl (.tmp 31) (.tmp 34) 22 rfl iB _ 192 Tryz.underlying22 Bu Xg Xh Ke rfl (by decide) U10.out (fun b hb=>by have:=HP.out;have:=H3.out.lX;have:=H2.out;have:=H1.out;show b<_;have:b<w.heap.size:=hb;omega) (ah.mk 0 0 ⟨#[]⟩ ⟨#[]⟩ ⟨#[]⟩ ⟨#[]⟩ ⟨⟨#[]⟩,[],[]⟩ [] []).d [.int .i64 0,.int .i64 0,.string ⟨#[]⟩,.string ⟨#[]⟩,.string ⟨#[]⟩,.string ⟨#[]⟩,.string ⟨#[]⟩,.slice none 0 0,.slice none 0 0,.slice none 0 0,.slice none 0 0] (Jz _ _) rfl E8 Sj.out (by omega) (by decide) rfl rfl ?_;intro g5 c5 w5 bg hg5 tL Fw;have hz5:rP.heap.size+1<=w5.heap.size:=by have:=hg5.size;simp at this;exact this
    have I9:g5≠q/\p+3<=g5:=by
     have hz9:rP.drew.heap.size=rP.heap.size:=rfl;have e5:=HQW.out;rcases tL with h | h
     ·have:=xL.out g5 h;omega
     ·exact ⟨by omega,by have:=H1.out;have:=H3.out.lX;have:=H3.out.tK;omega⟩
    have sH:∀ b,b=p+1\/b=q->some b≠(Value.slice ao mo co).ownBlock:=fun b hb e=>by
     have:=xL.out b e.symm;omega
    have jh3:=HQW.out;have hk5:∀ b,b<rP.heap.size->(Value.slice ao mo co).ownBlock≠some b->w5.heap[b]?=rP.heap[b]?:=fun b hb e=>(hg5.block b (by simp;omega) (fun e'=>e e'.symm)).trans (Below.heap_alloc rP _ b hb)
    have rR:CB 48 q [.int .i64 kd,.int .i64 lv,.string i,.string t,.string d,.string ti,.string at_.id,.slice ac nc cc,.slice ap np cp,.slice al nl cl,.slice ak nk ck] w5:=(hk5 q jh3 (fun e=>sH q (.inr rfl) e.symm)).trans jh1.out;have kp5:CB 96 (p+1) [.bool ti1,.slice ao mo co] w5:=(hk5 (p+1) jh2 (fun e=>sH (p+1) (.inl rfl) e.symm)).trans H6.out;have S5:jlz w5 ⟨p+1,1,none⟩=some (.slice ao mo co)/\jlz w5 ⟨q,0,none⟩=some (.int .i64 kd)/\jlz w5 ⟨q,1,none⟩=some (.int .i64 lv)/\jlz w5 ⟨q,2,none⟩=some (.string i)/\jlz w5 ⟨q,3,none⟩=some (.string t)/\jlz w5 ⟨q,4,none⟩=some (.string d)/\jlz w5 ⟨q,5,none⟩=some (.string ti)/\jlz w5 ⟨q,6,none⟩=some (.string at_.id)/\jlz w5 ⟨q,7,none⟩=some (.slice ac nc cc)/\jlz w5 ⟨q,8,none⟩=some (.slice ap np cp)/\jlz w5 ⟨q,9,none⟩=some (.slice al nl cl)/\jlz w5 ⟨q,10,none⟩=some (.slice ak nk ck):=⟨kp5.cell 1 _ rfl,rR.cell 0 _ rfl,rR.cell 1 _ rfl,rR.cell 2 _ rfl,rR.cell 3 _ rfl,rR.cell 4 _ rfl,rR.cell 5 _ rfl,rR.cell 6 _ rfl,rR.cell 7 _ rfl,rR.cell 8 _ rfl,rR.cell 9 _ rfl,rR.cell 10 _ rfl⟩;obtain ⟨yc,yf⟩:=bg.Ju Sj.out;have y0:jlz w5 ⟨g5,mo*11,none⟩=some (.int .i64 0):=yc 0 _ rfl;have y1:=yc 1 _ rfl;have y2:=yc 2 _ rfl;have y3:=yc 3 _ rfl;have y4:=yc 4 _ rfl;have y5:=yc 5 _ rfl;have y6:=yc 6 _ rfl;have y7:=yc 7 _ rfl;have y8:=yc 8 _ rfl;have y9:=yc 9 _ rfl;have y10:=yc 10 _ rfl;have t0:(0:Int)<=(mo:Int):=by omega
    have t1:(mo:Int)<((mo+1:Nat):Int):=by omega
    have t2:(mo:Int)<(mo:Int)+1:=by omega
    have t3:mo<mo+1:=by omega
    have HF:=OZ (x:=X) (r1:=[.int .i64 kd,.int .i64 lv,.string i,.string t,.string d,.string ti,.string at_.id,.slice ac nc cc,.slice ap np cp,.slice al nl cl,.slice ak nk ck]) (fun b (hb:b<w.heap.size)=>by have:=HP.out;omega) H1.out H2.out H3.out H4.out H5.out H6.out H7.out Sj.out bg rfl hk5 (by omega) ⟨hg5.os,hg5.tape,hg5.output⟩ (tL.imp id (fun h=>by have hz9:rP.drew.heap.size=rP.heap.size:=rfl;omega)) (Rd.keep (fun b (hb:b<w.heap.size) _=>⟨hb,(hk5 b (by have:=Xk.out.size;omega) (fun e=>by have:=xL.out b e;have:=HP.out;omega)).trans (Xk.out.block b hb)⟩) _ _ HXR.out);have Y9:=hid HF;have zp:=kp5.cell 1 _ rfl;have zpf:=nO kp5;refine hK.out _ _ (fun _ _=>S5) (fun hH2=>?_);clear hK KQ hH;have hH:=hH2 (by decide) (by kernel_rfl);clear hH2;try simp only [Act.put,jk2,jk3,jk4]
    refine fK 8 (v:=?_) rfl (by kernel_rfl) hH (by rfl) ?_ ?_;rotate_left
    ·(intro wv hSw;(try dsimp only at hSw);go_simp;try with_reducible rfl)
    try simp only [Act.put,jk2,jk3,jk4]
    have gZ:w5.grownBy (w5.setCell ⟨p+1,1,none⟩ (.slice (some ⟨g5,0,none⟩) (mo+1) c5)) (some (p+1)):=⟨rfl,rfl,rfl,by simp [World.setCell],fun b _ hb=>jl0 w5 ⟨p+1,1,none⟩ _ b (fun e=>hb (by rw [e]))⟩;obtain ⟨wZ,Vn,mM⟩:=bg.qP (p:=p+1) (by have:=H1.out;have:=H2.out;have:=H3.out.lX;omega) (fun (h:p+1<w.heap.size)=>by have:=HP.out;omega) gZ;obtain ⟨uc,uf⟩:=mM.Ju Sj.out;have u0:jlz (w5.setCell ⟨p+1,1,none⟩ (.slice (some ⟨g5,0,none⟩) (mo+1) c5)) ⟨g5,mo*11,none⟩=some (.int .i64 0):=uc 0 _ rfl;have u1:=uc 1 _ rfl;have u2:=uc 2 _ rfl;have u3:=uc 3 _ rfl;have u4:=uc 4 _ rfl;have u5:=uc 5 _ rfl;have u6:=uc 6 _ rfl;have u7:=uc 7 _ rfl;have u8:=uc 8 _ rfl;have u9:=uc 9 _ rfl;have u10:=uc 10 _ rfl;have hpg:p+1≠g5:=by omega
    have hqg:q≠g5:=fun e=>I9.1 e.symm
    have kq6:CB 48 q [.int .i64 kd,.int .i64 lv,.string i,.string t,.string d,.string ti,.string at_.id,.slice ac nc cc,.slice ap np cp,.slice al nl cl,.slice ak nk ck] (jZ w5 g5 (mo*11) [.int .i64 kd,.int .i64 lv,.string i,.string t,.string d,.string ti,.string at_.id,.slice ac nc cc,.slice ap np cp,.slice al nl cl,.slice ak nk ck]):=(RO g5 _ _ _ q hqg).trans rR;have kp6:CB 96 (p+1) [.bool ti1,.slice ao mo co] (jZ w5 g5 (mo*11) [.int .i64 kd,.int .i64 lv,.string i,.string t,.string d,.string ti,.string at_.id,.slice ac nc cc,.slice ap np cp,.slice al nl cl,.slice ak nk ck]):=(RO g5 _ _ _ (p+1) hpg).trans kp5;have jy:=hid kq6;have jh4:=hid kp6;have FD:=hid hpg;have zp6:=kp6.cell 1 _ rfl;have VL:=nO kp6;clear kq6 kp6 gZ Vn mM uc yc bg hg5 tL Fw I9 sH hk5 rR kp5 HF S0 hpg hqg;apply MP;case hm=>
     intro REST;refine D5 (i:=6) (j:=9) rfl rfl (by kernel_rfl) (fun KQ hK=>?_) (fun KQ hK=>?_);rotate_left
     ·go_simp;refine hK.out _ _ (fun h=>absurd rfl h) (fun _=>?_);clear hK KQ;try simp only [Act.put,jk2,jk3,jk4]
      refine q01 (i:=6) rfl (by kernel_rfl) (fun KQ hK=>?_);go_simp;refine hK.out _ _ (fun _ h=>absurd h (by decide)) (fun _=>?_);clear hK KQ;try simp only [Act.put,jk2,jk3,jk4]
      refine q01 (i:=7) rfl (by kernel_rfl) (fun KQ hK=>?_);go_simp;refine hK.out _ (jZ (w5.setCell ⟨p+1,1,none⟩ (.slice (some ⟨g5,0,none⟩) (mo+1) c5)) g5 (mo*11) [.int .i64 kd,.int .i64 lv,.string i,.string t,.string d,.string ti,.string at_.id,.slice ac nc cc,.slice ap np cp,.slice al nl cl,.slice ak nk ck]) (fun _ h=>absurd h (by decide)) (fun _=>?_);clear hK KQ;try simp only [Act.put,jk2,jk3,jk4]
      refine D6 (by kernel_rfl) ?_ _;rw [kT g5 (p+1) 1 _ FD.out];exact REST
     go_simp;refine hK.out _ _ (fun _ _=>S5) (fun hH2=>?_);clear hK KQ;have hH:=hH2 (by decide) (by kernel_rfl);clear hH2;try simp only [Act.put,jk2,jk3,jk4]
     refine D5 (i:=7) (j:=9) rfl rfl (by kernel_rfl) (fun KQ hK=>?_) (fun KQ hK=>?_)
     ·go_simp;refine hK.out _ (jZ w5 g5 (mo*11) [.int .i64 kd,.int .i64 lv,.string i,.string t,.string d,.string ti,.string at_.id,.slice ac nc cc,.slice ap np cp,.slice al nl cl,.slice ak nk ck]) (fun _ _=>⟨jh4.out.cell 1 _ rfl,jy.out.cell 0 _ rfl,jy.out.cell 1 _ rfl,jy.out.cell 2 _ rfl,jy.out.cell 3 _ rfl,jy.out.cell 4 _ rfl,jy.out.cell 5 _ rfl,jy.out.cell 6 _ rfl,jy.out.cell 7 _ rfl,jy.out.cell 8 _ rfl,jy.out.cell 9 _ rfl,jy.out.cell 10 _ rfl⟩) (fun hH2=>?_);clear hK KQ;have hH:=hH2 (by decide) (by kernel_rfl);clear hH2;try simp only [Act.put,jk2,jk3,jk4]
      refine q01 (i:=9) rfl (by kernel_rfl) (fun KQ hK=>?_);go_simp;refine hK.out _ _ (fun h=>absurd rfl h) (fun _=>?_);clear hK KQ;try simp only [Act.put,jk2,jk3,jk4]
      refine D6 (by kernel_rfl) ?_ _;exact REST
     ·go_simp;refine hK.out _ _ (fun h=>absurd rfl h) (fun _=>?_);clear hK KQ;try simp only [Act.put,jk2,jk3,jk4]
      refine q01 (i:=7) rfl (by kernel_rfl) (fun KQ hK=>?_);go_simp;refine hK.out _ (jZ (w5.setCell ⟨p+1,1,none⟩ (.slice (some ⟨g5,0,none⟩) (mo+1) c5)) g5 (mo*11) [.int .i64 kd,.int .i64 lv,.string i,.string t,.string d,.string ti,.string at_.id,.slice ac nc cc,.slice ap np cp,.slice al nl cl,.slice ak nk ck]) (fun _ h=>absurd h (by decide)) (fun _=>?_);clear hK KQ;try simp only [Act.put,jk2,jk3,jk4]
      refine D6 (by kernel_rfl) ?_ _;rw [kT g5 (p+1) 1 _ FD.out];exact REST
    case hr=>
     clear S5 y0 y1 y2 y3 y4 y5 y6 y7 y8 y9 y10 yf u0 u1 u2 u3 u4 u5 u6 u7 u8 u9 u10 uf zp zpf zp6 VL t0 t1 t2 t3;obtain ⟨w8,hw8⟩:∃ w8,w8=(jZ w5 g5 (mo*11) [.int .i64 kd,.int .i64 lv,.string i,.string t,.string d,.string ti,.string at_.id,.slice ac nc cc,.slice ap np cp,.slice al nl cl,.slice ak nk ck]).setCell ⟨p+1,1,none⟩ (.slice (some ⟨g5,0,none⟩) (mo+1) c5):=⟨_,rfl⟩;have hff:=Y9.out;rw [<- hw8] at hff ⊢;have HR:Hid (Jy w l (.int .i64 ((k+1:Nat):Int)) w8):=⟨k+1,by have:=xM.out;omega,rfl,by
      rw [RX.out,yw.out];have h:=hff.1.top;rw [HP.out] at h;exact h,Xk.out.trans (by have h:=hff.2;rw [HP.out] at h;exact h)⟩
     clear hff hw8;go_wp2;go_roundw;case rel=>exact HR.out
     case measure=>simp [intOf];omega
  ·have hkl:k=l.length:=by have:=xM.out;omega
   have HKL:=hid hkl;have HB9:=hid hB;have FC:Hid (Calls Tryz.prog 102 #[.pointer (some ⟨p+1+1,0,none⟩),.pointer (some ⟨p,0,none⟩),.pointer (some ⟨p+1,0,none⟩)] wr (qO (·<w.heap.size) p wr.heap.size (dN s) wr)):=(vG (·<w.heap.size) p wr.heap.size s wr (fun b hb=>by have:=HP.out;show b<p;omega) (by rw [HP.out];exact hP) (by have:=UZ.out.1;omega));clear hkl hP hB;go_wp2_with fail
   (with_reducible refine FC.out.mono ?_)
   rintro e w6 ⟨rfl,Xi,b6,-⟩;have hbf:Below w.heap.size w w6:=HB9.out.trans (by rw [HP.out] at b6;exact b6);obtain ⟨UA,wA,wO,rA,rO,va,vo,h1,h2,h3,h4,h5,h6,h7,h8⟩:=Xi;have hrd:Rd (·<w6.heap.size) w6 (.sl 2 ((dX l).map Pt.d)) [va]:=by
    have e:(dN s).all=dX l:=by unfold dX;rw [HSD.out,HKL.out,List.take_length]
    rw [<- e];exact Rd.keep (fun b _ hlt=>⟨hlt,rfl⟩) _ _ h3.rd
   obtain ⟨a6,n6,c6,rfl⟩:=h3.Tk;have x0:=h5.cell;have CJ:=hid hrd;have HBF:=hid hbf;clear h1 h2 h3 h4 h5 h6 h7 h8 hrd hbf b6 FC;go_wp2;go_ret;exact ⟨_,rfl,CJ.out,HBF.out⟩
end Go.Proofs.YtkfnkeflalcphaaGreatDoor

