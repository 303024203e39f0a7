/- Contract of slides.parts. Contract of slides.Of. -/
import Derived.Test.YtkfnkeflalcphaaGreatDoorKHtR
set_option maxHeartbeats 8000000
set_option maxRecDepth 100000
open Go.Lib (hid)
namespace Go.Proofs.YtkfnkeflalcphaaGreatDoor
open List renaming setIfInBounds_toArray->jj4,set_cons_zero->jj5,set_cons_succ->jj6,length_map->jjz,length_take->jm5
open Go.RowKit.Below renaming refl->jj8,heap_setCell->jk2
open Nat renaming le_refl->jj9
open Go.World renaming size_alloc->jk6,cell?->jl1,setCell->jl2
open Go.RowKit renaming Below->jmk
open Go.RowKit
set_option linter.unusedVariables false
set_option linter.unusedSimpArgs false
def WU (w:World) (L:List Pt) (e:Ending) (w':World):Prop:=∃ v,e=.returned v/\Rd (·<w'.heap.size) w' (.sl 2 (L.map Pt.d)) [v]/\jmk w.heap.size w w'
def Jl (w:World) (l:List ah) (vi:Value) (wr:World):Prop:=∃ k:Nat,k<=l.length/\vi=.int .i64 k/\fG (·<w.heap.size) w.heap.size wr.heap.size (lZ (l.take k)) wr/\jmk w.heap.size w wr
theorem KT (l:List ah) (k:Nat) (x:ah) (h:l[k]?=some x):lZ (l.take (k+1))=q0z (lZ (l.take k)) x:=by unfold lZ;rw [List.take_add_one,h,List.foldl_append];rfl
theorem xu:∀ (l:List ah) (s:tC),(l.foldl q0z s).all.length<=s.all.length+l.length/\(l.foldl q0z s).op.bl.length<=s.op.bl.length+l.length
 | [],s=>⟨jj9 _,jj9 _⟩
 | x::l,s=>by
  have h:=xu l (q0z s x);have h1:(q0z s x).all.length<=s.all.length+1/\(q0z s x).op.bl.length<=s.op.bl.length+1:=by
   unfold q0z dN;split
   ·split
    ·split<;>simp
    ·split<;>simp
   ·simp
  rw [List.foldl_cons,List.length_cons];omega
theorem RH (ok:Nat->Prop) (w:World):Rd ok w (ah.mk 0 0 ⟨#[]⟩ ⟨#[]⟩ ⟨#[]⟩ ⟨#[]⟩ ⟨⟨#[]⟩,[],[]⟩ [] []).d [.int .i64 0,.int .i64 0,.string ⟨#[]⟩,.string ⟨#[]⟩,.string ⟨#[]⟩,.string ⟨#[]⟩,.string ⟨#[]⟩,.slice none 0 0,.slice none 0 0,.slice none 0 0,.slice none 0 0]:=
 ah.eu 0 0 ⟨#[]⟩ ⟨#[]⟩ ⟨#[]⟩ ⟨#[]⟩ (a:=⟨⟨#[]⟩,[],[]⟩) ⟨⟨Rd.aF _ _ _,Rd.aF _ _ _⟩,Rd.aF _ _ _,Rd.aF _ _ _⟩
theorem OH:∀ u∈([.int .i64 0,.int .i64 0,.string ⟨#[]⟩,.string ⟨#[]⟩,.string ⟨#[]⟩,.string ⟨#[]⟩,.string ⟨#[]⟩,.slice none 0 0,.slice none 0 0,.slice none 0 0,.slice none 0 0]:List Value),u.oneCell'=true:=by intro u hu;simp at hu;rcases hu with rfl | rfl | rfl<;>rfl
theorem OI {ok:Nat->Prop} {p M UA g n c:Nat} {al:List Pt} {ti:Bool} {bl:List ah} {x:ah} {w w5 wA wO:World} {rA rO:List (List Value)} {va vo:Value} {r0 r1:List Value} {d0:D} (hok:∀ b,ok b->b<p) (h1:wA.heap.size=p+3) (h2:UA<=wO.heap.size) (h3:aC 96 2 ok UA wA (al.map Pt.d) rA va w) (hO:aC 48 11 ok M wO (bl.map ah.d) rO vo w) (h5:aH p va 93 w) (h6:CB 96 (p+1) [.bool ti,vo] w) (h7:aH (p+2) (.bool true) 4 w) (hn:(bl.map ah.d).length=n) (hr:aC 48 11 ok w5.heap.size wO (bl.map ah.d++[d0]) (rO++[r0]) (.slice (some ⟨g,0,none⟩) (n+1) c) w5) (hl:r1.length=11) (hk:∀ b,b<w.heap.size->vo.ownBlock≠some b->w5.heap[b]?=w.heap[b]?) (hs:w.heap.size<=w5.heap.size) (ho:w5.os=w.os/\w5.tape=w.tape/\w5.output=w.output) (hat:vo.ownBlock=some g\/w.heap.size<=g) (hx:Rd ok w5 x.d r1) : fG ok p w5.heap.size ⟨al,⟨ti,bl++[x]⟩,true⟩ ((oq w5 g (n*11) r1).setCell ⟨p+1,1,none⟩ (.slice (some ⟨g,0,none⟩) (n+1) c))/\jmk p w ((oq w5 g (n*11) r1).setCell ⟨p+1,1,none⟩ (.slice (some ⟨g,0,none⟩) (n+1) c)):=by
 have a0:=h3.og;have a1:=h3.xG;have o0:=hO.og;have CG:∀ b,vo.ownBlock=some b->wO.heap.size<=b:=fun b e=>(hO.own.lt b e).1
 have hg:UA<=g:=by
  rcases hat with h | h
  ·have:=CG g h;omega
  ·omega
 have hr1:=hr.je8 hn hl (d1:=x.d) (Rd.keep (fun b hb hlt=>⟨⟨.inl hb,by have:=hok b hb;omega,by omega⟩,rfl⟩) _ _ hx);obtain ⟨w6,iJ⟩:∃ w6,w6=oq w5 g (n*11) r1:=⟨_,rfl⟩;have k6:∀ b,b≠g->w6.heap[b]?=w5.heap[b]?:=fun b hb=>by rw [iJ];exact gU g _ _ _ b hb
 have z6:w6.heap.size=w5.heap.size:=by rw [iJ];exact oW g _ _ _
 have s6:=wU g r1 (n*11) w5;rw [<- iJ] at hr1 s6 ⊢;clear iJ;have kA:∀ b,b<UA->w6.heap[b]?=w.heap[b]?:=fun b hb=>(k6 b (by omega)).trans (hk b (by omega) (fun e=>by have:=CG b e;omega))
 have r3:=h3.same (w':=w6) (by omega) ⟨s6.1.trans ho.1,s6.2.1.trans ho.2.1,s6.2.2.trans ho.2.2⟩ kA;have k7:∀ b,b≠p+1->(w6.setCell ⟨p+1,1,none⟩ (.slice (some ⟨g,0,none⟩) (n+1) c)).heap[b]?=w6.heap[b]?:=fun b hb=>jk2 _ ⟨p+1,1,none⟩ _ b hb
 have g7:w6.grownBy (w6.setCell ⟨p+1,1,none⟩ (.slice (some ⟨g,0,none⟩) (n+1) c)) (some (p+1)):=⟨rfl,rfl,rfl,by simp [jl2],fun b _ hb=>k7 b (fun e=>hb (by rw [e]))⟩;obtain ⟨Qr,e2,r2⟩:=r3.yh (p:=p+1) (by omega) (fun h=>by have:=hok _ h;omega) g7;obtain ⟨YL,e3,rO2⟩:=hr1.yh (p:=p+1) (by omega) (fun h=>by have:=hok _ h;omega) g7;refine ⟨⟨UA,Qr,YL,rA,rO++[r1],va,_,by omega,by omega,r2,by rw [List.map_append];exact rO2,(k7 p (by omega)).trans ((kA p (by omega)).trans h5),?_,(k7 (p+2) (by omega)).trans ((kA (p+2) (by omega)).trans h7),fun e=>by simp at e⟩,?_⟩
 ·have c6:CB 96 (p+1) [.bool ti,vo] w6:=(kA (p+1) (by omega)).trans h6;exact dG c6 1 _
 ·exact ⟨g7.os.trans (s6.1.trans ho.1),g7.tape.trans (s6.2.1.trans ho.2.1),g7.output.trans (s6.2.2.trans ho.2.2),by have:=g7.size;omega,fun b hb=>(k7 b (by omega)).trans (kA b (by omega))⟩
theorem Ae (l:List ah) (v:Value) (w:World) (h:Rd (·<w.heap.size) w (iO l) [v]) (hl:l.length<=1000000) : Calls Tryz.prog 58 #[v] w (WU w (dW l)):=by
 obtain ⟨a,cap,hv,hs⟩:=Rd.aB h;obtain ⟨nL,Ad⟩:∃ nL,nL=l.length:=⟨_,rfl⟩;obtain rfl:v=.slice a nL cap:=by rw [Ad];simpa using hv
 have hcap:nL<=cap:=by rw [Ad];simpa using hs.le
 have hmx:=hs.max;unfold maxLen at hmx;obtain ⟨iB,zD,RJ,RO,F7⟩:=info_parts Od;obtain ⟨p,hp⟩:∃ p,p=w.heap.size:=⟨_,rfl⟩;obtain ⟨w3,hw3⟩:∃ w3,w3=((w.alloc (.cells #[.slice none 0 0] 93)).alloc (.cells #[.bool false,.slice none 0 0] 96)).alloc (.cells #[.bool false] 4):=⟨_,rfl⟩;have z1:(w.alloc (.cells #[.slice none 0 0] 93)).heap.size=p+1:=by rw [jk6,hp]
 have z2:((w.alloc (.cells #[.slice none 0 0] 93)).alloc (.cells #[.bool false,.slice none 0 0] 96)).heap.size=p+2:=by rw [jk6,z1]
 have z3:w3.heap.size=p+3:=by rw [hw3,jk6,z2]
 have K1:aH p (.slice none 0 0) 93 w3:=by have h:=aH.new w (.slice none 0 0) 93;rw [<- hp] at h;rw [hw3];exact (h.alloc _).alloc _
 have K2:CB 96 (p+1) [.bool false,.slice none 0 0] w3:=by have h:=CB.new 96 [.bool false,.slice none 0 0] (w.alloc (.cells #[.slice none 0 0] 93));rw [z1] at h;rw [hw3];exact h.below ((jj8 _ _).alloc (jj9 _) _)
 have K3:aH (p+2) (.bool false) 4 w3:=by have h:=aH.new ((w.alloc (.cells #[.slice none 0 0] 93)).alloc (.cells #[.bool false,.slice none 0 0] 96)) (.bool false) 4;rw [z2] at h;rw [hw3];exact h
 have B3:jmk w.heap.size w w3:=by rw [hw3];exact (((jj8 _ w).alloc (jj9 _) _).alloc (by omega) _).alloc (by omega) _
 have P0:fG (·<w.heap.size) w.heap.size w3.heap.size (lZ (l.take 0)) w3:=by rw [<- hp];exact ⟨w3.heap.size,w3,w3,[],[],.slice none 0 0,.slice none 0 0,z3,jj9 _,aC.nil _ _ _ _,aC.nil _ _ _ _,K1,K2,K3,fun _=>rfl⟩
 have R0:Hid (Jl w l (.int .i64 0) w3):=⟨0,Nat.zero_le _,rfl,P0,B3⟩;have HS:=hid hs;have xI:=hid Ad;have HP:=hid hp;have HLm:=hid hl;clear h hv hs Ad hl z1 z2 z3 K1 K2 K3 B3 P0 hp;go_enter Tryz.func58,Tryz.ntmps58;go_upto_region 6 with (fail)
 rw [<- HP.out];try rw [<- hw3]
 clear hw3;go_wp2
 go_loopw [14] (fun vi wr=>Jl w l vi wr) (fun i _=>nL-(intOf i).toNat)
 case atStart=>exact R0.out
 case round=>
  clear R0;obtain ⟨k,hk,rfl,hP,hB⟩:=hrel;obtain ⟨s,hsD⟩:∃ s,s=lZ (l.take k):=⟨_,rfl⟩;rw [<- hsD] at hP;have hlen:=xu (l.take k) qj;rw [show List.foldl q0z qj (l.take k)=lZ (l.take k) from rfl,<- hsD,jm5] at hlen;have HSD:=hid hsD;have hal:s.all.length<=1000000/\s.op.bl.length<=1000000:=by have h1:qj.all.length=0/\qj.op.bl.length=0:=⟨rfl,rfl⟩;have:=HLm.out;omega
  have UH:=hid hal;clear hsD hlen hal;by_cases hlt:k<nL
  ·obtain ⟨x,hx⟩:∃ x,l[k]?=some x:=⟨_,List.getElem?_eq_getElem (by have:=xI.out;omega)⟩;have hst:=KT l k x hx;rw [<- HSD.out] at hst;have Ru:=hid hst;obtain ⟨X,Lp⟩:∃ X,X=x:=⟨_,rfl⟩;obtain ⟨kd,lv,i,t,d,ti,at_,li,ks⟩:=x;obtain ⟨g,off,vc,vp,vl,vk,rfl,-,hgw,hc,hRR⟩:=FR HS.out hx;obtain ⟨ac,nc,cc,rfl⟩:=Rd.ay hRR.at_.cls
   obtain ⟨ap,np,cp,rfl⟩:=Rd.ay hRR.at_.aJ
   obtain ⟨al,nl,cl,rfl⟩:=Rd.ay hRR.line;obtain ⟨ak,nk,ck,rfl⟩:=Rd.ay hRR.kids;have hXr:Rd (·<w.heap.size) w X.d [.int .i64 kd,.int .i64 lv,.string i,.string t,.string d,.string ti,.string at_.id,.slice ac nc cc,.slice ap np cp,.slice al nl cl,.slice ak nk ck]:=by rw [Lp];exact ah.eu kd lv i t d ti hRR
   have c0:wr.cell? ⟨g,off+k*11,none⟩=some (.int .i64 kd):=(hB.cell (p:=⟨_,_,none⟩) hgw).trans hc.c0;have c1:wr.cell? ⟨g,off+k*11+1,none⟩=some (.int .i64 lv):=(hB.cell (p:=⟨_,_,none⟩) hgw).trans hc.c1;have c2:wr.cell? ⟨g,off+k*11+2,none⟩=some (.string i):=(hB.cell (p:=⟨_,_,none⟩) hgw).trans hc.c2;have c3:wr.cell? ⟨g,off+k*11+3,none⟩=some (.string t):=(hB.cell (p:=⟨_,_,none⟩) hgw).trans hc.c3;have c4:wr.cell? ⟨g,off+k*11+4,none⟩=some (.string d):=(hB.cell (p:=⟨_,_,none⟩) hgw).trans hc.c4;have c5:wr.cell? ⟨g,off+k*11+5,none⟩=some (.string ti):=(hB.cell (p:=⟨_,_,none⟩) hgw).trans hc.c5;have c6:wr.cell? ⟨g,off+k*11+6,none⟩=some (.string at_.id):=(hB.cell (p:=⟨_,_,none⟩) hgw).trans hc.c6;have c7:wr.cell? ⟨g,off+k*11+7,none⟩=some (.slice ac nc cc):=(hB.cell (p:=⟨_,_,none⟩) hgw).trans hc.c7;have c8:wr.cell? ⟨g,off+k*11+8,none⟩=some (.slice ap np cp):=(hB.cell (p:=⟨_,_,none⟩) hgw).trans hc.c8;have c9:wr.cell? ⟨g,off+k*11+9,none⟩=some (.slice al nl cl):=(hB.cell (p:=⟨_,_,none⟩) hgw).trans hc.c9;have c10:wr.cell? ⟨g,off+k*11+10,none⟩=some (.slice ak nk ck):=(hB.cell (p:=⟨_,_,none⟩) hgw).trans hc.c10;obtain ⟨q,hq⟩:∃ q,q=wr.heap.size:=⟨_,rfl⟩;obtain ⟨w4,hw4⟩:∃ w4,w4=wr.alloc (.cells #[.int .i64 kd,.int .i64 lv,.string i,.string t,.string d,.string ti,.string at_.id,.slice ac nc cc,.slice ap np cp,.slice al nl cl,.slice ak nk ck] 48):=⟨_,rfl⟩;have k4:CB 48 q [.int .i64 kd,.int .i64 lv,.string i,.string t,.string d,.string ti,.string at_.id,.slice ac nc cc,.slice ap np cp,.slice al nl cl,.slice ak nk ck] w4:=by rw [hw4,hq];exact CB.new _ _ _
   have b4:jmk wr.heap.size wr w4:=by rw [hw4];exact (jj8 _ _).alloc (jj9 _) _
   have Uh:=hP.below b4;have hB4:=aR hB b4;have hzq:w4.heap.size=q+1:=by rw [hw4,jk6,hq]
   obtain ⟨bb,hbb⟩:∃ bb,bB kd lv=bb:=⟨_,rfl⟩;obtain ⟨tt,htt⟩:∃ tt,tB kd lv=tt:=⟨_,rfl⟩;have BC:=F9 kd lv i t d ti at_.id ac ap al ak nc cc np cp nl cl nk ck w4
   rw [hbb] at BC;have uQ:=hid BC;have TCX:Hid (∀ W:World,Calls Tryz.prog 101 #[.agg #[.int .i64 kd,.int .i64 lv,.string i,.string t,.string d,.string ti,.string at_.id,.slice ac nc cc,.slice ap np cp,.slice al nl cl,.slice ak nk ck]] W (dR (.bool tt) W)):=fun W=>by
    rw [<- htt];exact zn kd lv i t d ti at_.id ac ap al ak nc cc np cp nl cl nk ck W
   have xD:=hid (show iy X=bb by rw [Lp,Qq];exact hbb);have HTT:=hid (show qL X=tt by rw [Lp,Qp];exact htt);rw [<- Lp] at Ru;have HXR:=hid hXr;have HQ:=hid hq;have Vn:=hid Uh;have jb0:=hid hP.sz;have Az:=hid hB4;have HZQ:=hid hzq;have e0:=k4.cell 0 _ rfl;have e1:=k4.cell 1 _ rfl;have e2:=k4.cell 2 _ rfl;have e3:=k4.cell 3 _ rfl;have e4:=k4.cell 4 _ rfl;have e5:=k4.cell 5 _ rfl;have e6:=k4.cell 6 _ rfl;have e7:=k4.cell 7 _ rfl;have e8:=k4.cell 8 _ rfl;have e9:=k4.cell 9 _ rfl;have e10:=k4.cell 10 _ rfl;have HK4:=hid k4;clear hx hst Lp hc hRR hXr hP hB k4 b4 Uh hB4 hzq hbb htt BC hgw hq;go_upto_region 9 with (fail)
   rw [<- hw4,<- HQ.out];clear hw4 c0 c1 c2 c3 c4 c5 c6 c7 c8 c9 c10;go_wp2_with fail
   (with_reducible refine uQ.out.mono ?_)
   rintro e w5 ⟨rfl,b5⟩;have XZ:=hid (Vn.out.below b5);have xU:=hid (aR Az.out b5);have HK5:=hid (HK4.out.below b5);have HZ5:=hid b5.size;clear b5 Vn uQ e0 e1 e2 e3 e4 e5 e6 e7 e8 e9 e10;obtain ⟨aL,⟨ot,ob⟩,sm⟩:=s;cases bb
   case' true=>
    have FC:Hid (Calls Tryz.prog 102 #[.pointer (some ⟨p+1+1,0,none⟩),.pointer (some ⟨p,0,none⟩),.pointer (some ⟨p+1,0,none⟩)] w5 (qM (·<w.heap.size) p wr.heap.size (dN ⟨aL,⟨ot,ob⟩,sm⟩) w5)):=(uY (·<w.heap.size) p wr.heap.size ⟨aL,⟨ot,ob⟩,sm⟩ w5 (fun b hb=>by have:=HP.out;show b<p;omega) (by rw [HP.out];exact XZ.out) (by have:=UH.out.1;show aL.length<=_;have:aL.length<=1000000:=this;omega));go_wp2_with fail
    (with_reducible refine FC.out.mono ?_)
    rintro e w6 ⟨rfl,WV,b6,k6⟩;have b6:jmk w.heap.size w5 w6:=by rw [HP.out] at b6;exact b6
    have HB6:=hid (xU.out.trans b6);have Vh:w4.heap.size<=w6.heap.size:=by have:=b6.size;have:=HZ5.out;omega
    have KU:CB 48 q [.int .i64 kd,.int .i64 lv,.string i,.string t,.string d,.string ti,.string at_.id,.slice ac nc cc,.slice ap np cp,.slice al nl cl,.slice ak nk ck] w6:=(k6 q (by have:=HQ.out;omega) (by have:=HZQ.out;have:=HZ5.out;omega)).trans HK5.out;have e0:=KU.cell 0 _ rfl;have e1:=KU.cell 1 _ rfl;have e2:=KU.cell 2 _ rfl;have e3:=KU.cell 3 _ rfl;have e4:=KU.cell 4 _ rfl;have e5:=KU.cell 5 _ rfl;have e6:=KU.cell 6 _ rfl;have e7:=KU.cell 7 _ rfl;have e8:=KU.cell 8 _ rfl;have e9:=KU.cell 9 _ rfl;have e10:=KU.cell 10 _ rfl;have HK6:=hid KU;have TC:=hid (TCX.out w6);have HP6:=hid WV;have HZ6:=hid Vh;clear WV b6 k6 FC KU Vh;go_wp2_with fail
    (with_reducible refine TC.out.mono ?_)
    rintro e w7 ⟨rfl,b7⟩;have hP7:=HP6.out.below b7;have hK7:=HK6.out.below b7;have Vi:=aR HB6.out b7;have hP8:=fG.YK (fun b hb=>by have:=HP.out;show b<p;omega) hP7 tt;obtain ⟨vo,PD,hfz⟩:=hP7.opc;have jfz:=hP7.sz;have d0:=PD.cell 0 _ rfl;have df:=nJ PD;have hqp:q≠p+1:=by have:=jb0.out;have:=HQ.out;have:=HP.out;omega
    obtain ⟨w8,hw8⟩:∃ w8,w8=w7.setCell ⟨p+1,0,none⟩ (.bool tt):=⟨_,rfl⟩;have hK8:CB 48 q [.int .i64 kd,.int .i64 lv,.string i,.string t,.string d,.string ti,.string at_.id,.slice ac nc cc,.slice ap np cp,.slice al nl cl,.slice ak nk ck] w8:=by rw [hw8];exact (jk2 w7 ⟨p+1,0,none⟩ _ q hqp).trans hK7
    have hB8:jmk w.heap.size w w8:=by rw [hw8];exact Vi.setCell (p:=⟨p+1,0,none⟩) (by show w.heap.size<=p+1;have:=HP.out;omega) _
    have d8:w8.cell? ⟨p+1,0,none⟩=some (.bool tt):=by rw [hw8];exact (dG PD 0 _).cell 0 _ rfl
    rw [<- hw8] at hP8;have HP8:=hid hP8;have HK8:=hid hK8;have HB8:=hid hB8;have hs8:w8.heap.size=w7.heap.size:=by rw [hw8];simp [jl2]
    have HS8:=hid (show w4.heap.size<=w8.heap.size by have:=b7.size;have:=HZ6.out;omega);clear hP7 hK7 Vi hP8 hK8 hB8 hqp PD hfz b7 HP6 HK6 TC hs8 jfz e0 e1 e2 e3 e4 e5 e6 e7 e8 e9 e10;go_upto_region 12 with (fail)
    rw [<- hw8];clear hw8 d0 df;cases tt
    case false=>
     have HR:Hid (Jl w l (.int .i64 ((k+1:Nat):Int)) w8):=⟨k+1,by have:=xI.out;omega,rfl,by
      have e:lZ (l.take (k+1))=⟨(dN ⟨aL,⟨ot,ob⟩,sm⟩).all,⟨false,[]⟩,true⟩:=by rw [Ru.out];unfold q0z;rw [if_pos xD.out,if_neg (by rw [HTT.out];simp)]
      rw [e];have h:=HP8.out.top;rw [HP.out] at h;exact h,HB8.out⟩
     go_wp2;go_roundw;case rel=>exact HR.out
     case measure=>simp [intOf];omega
    case' true=>
     have HST:Hid (q0z ⟨aL,⟨ot,ob⟩,sm⟩ X=⟨(dN ⟨aL,⟨ot,ob⟩,sm⟩).all,⟨true,[]++[X]⟩,true⟩):=by show _=_;unfold q0z;rw [if_pos xD.out,if_pos HTT.out];rfl
     obtain ⟨PV,Hq⟩:∃ PV,PV=(dN ⟨aL,⟨ot,ob⟩,sm⟩).all:=⟨_,rfl⟩;obtain ⟨Hr,yL⟩:∃ Hr:List ah,Hr=[]:=⟨_,rfl⟩;obtain ⟨ti1,Ht⟩:∃ t:Bool,t=true:=⟨_,rfl⟩;obtain ⟨sm1,OJ⟩:∃ t:Bool,t=true:=⟨_,rfl⟩;obtain ⟨M9,X3⟩:∃ M9,M9=w6.heap.size:=⟨_,rfl⟩;obtain ⟨w9,bO⟩:∃ w9,w9=w8:=⟨_,rfl⟩;have HPI:Hid (fG (·<w.heap.size) p M9 ⟨PV,⟨ti1,Hr⟩,sm1⟩ w9):=by show fG _ _ _ _ _;rw [Hq,yL,Ht,OJ,X3,bO];exact HP8.out
     have yg:Hid (q0z ⟨aL,⟨ot,ob⟩,sm⟩ X=⟨PV,⟨ti1,Hr++[X]⟩,true⟩):=by show _=_;rw [HST.out,Hq,yL,Ht]
     have Po:Hid (Hr.length<=2000000):=by show _<=_;rw [yL];simp
     have HOQ:Hid (Hr=[]\/M9<=q):=.inl yL;have YG:Hid (CB 48 q [.int .i64 kd,.int .i64 lv,.string i,.string t,.string d,.string ti,.string at_.id,.slice ac nc cc,.slice ap np cp,.slice al nl cl,.slice ak nk ck] w9):=by show CB _ _ _ _;rw [bO];exact HK8.out
     have CJ:Hid (jmk w.heap.size w w9):=by show jmk _ _ _;rw [bO];exact HB8.out
     clear Hq yL Ht OJ X3 HP8 HK8 HB8 HS8 XZ xU HK5 HZ5 HB6 HZ6 HST;go_upto_region 13 with (fail)
     rw [<- bO];clear bO d8
   case' false=>
    have yg:Hid (q0z ⟨aL,⟨ot,ob⟩,sm⟩ X=⟨aL,⟨ot,ob++[X]⟩,true⟩):=by show _=_;unfold q0z;rw [if_neg (by rw [xD.out];simp)]
    obtain ⟨PV,Hq⟩:∃ PV,PV=aL:=⟨_,rfl⟩;obtain ⟨Hr,yL⟩:∃ Hr:List ah,Hr=ob:=⟨_,rfl⟩;obtain ⟨ti1,Ht⟩:∃ t:Bool,t=ot:=⟨_,rfl⟩;obtain ⟨sm1,OJ⟩:∃ t:Bool,t=sm:=⟨_,rfl⟩;obtain ⟨M9,X3⟩:∃ M9,M9=wr.heap.size:=⟨_,rfl⟩;obtain ⟨w9,bO⟩:∃ w9,w9=w5:=⟨_,rfl⟩;have HPI:Hid (fG (·<w.heap.size) p M9 ⟨PV,⟨ti1,Hr⟩,sm1⟩ w9):=by show fG _ _ _ _ _;rw [Hq,yL,Ht,OJ,X3,bO,HP.out];exact XZ.out
    have yg:Hid (q0z ⟨aL,⟨ot,ob⟩,sm⟩ X=⟨PV,⟨ti1,Hr++[X]⟩,true⟩):=by show _=_;rw [yg.out,Hq,yL,Ht]
    have Po:Hid (Hr.length<=2000000):=by show _<=_;rw [yL];have h1:ob.length<=1000000:=UH.out.2;omega
    have HOQ:Hid (Hr=[]\/M9<=q):=.inr (by rw [X3,HQ.out];exact jj9 _);have YG:Hid (CB 48 q [.int .i64 kd,.int .i64 lv,.string i,.string t,.string d,.string ti,.string at_.id,.slice ac nc cc,.slice ap np cp,.slice al nl cl,.slice ak nk ck] w9):=by show CB _ _ _ _;rw [bO];exact HK5.out
    have CJ:Hid (jmk w.heap.size w w9):=by show jmk _ _ _;rw [bO];exact xU.out
    clear Hq yL Ht OJ X3 XZ xU HK5 HZ5;go_upto_region 13 with (fail)
    rw [<- bO];clear bO
   all_goals
    have jg0:w9.cell? ⟨p+1+1,0,none⟩=some (.bool sm1):=HPI.out.smc.cell;have jg1:w9.frozen? ⟨p+1+1,0,none⟩=false:=HPI.out.smc.free;have WW:=fG.setSm (fun b hb=>by have:=HP.out;show b<p;omega) HPI.out true;obtain ⟨rJ,KV⟩:∃ rJ,rJ=w9.setCell ⟨p+1+1,0,none⟩ (.bool true):=⟨_,rfl⟩;have WW:fG (·<w.heap.size) p M9 ⟨PV,⟨ti1,Hr⟩,true⟩ rJ:=by rw [KV];exact WW
    have hsz:=jb0.out;have hqw:q<rJ.heap.size:=by rw [KV];simp [jl2];exact YG.out.lt
    have rM:CB 48 q [.int .i64 kd,.int .i64 lv,.string i,.string t,.string d,.string ti,.string at_.id,.slice ac nc cc,.slice ap np cp,.slice al nl cl,.slice ak nk ck] rJ:=by rw [KV];exact (jk2 w9 ⟨p+1+1,0,none⟩ _ q (by show q≠p+1+1;have:=HP.out;have:=HQ.out;omega)).trans YG.out
    have jb1:jmk w.heap.size w rJ:=by rw [KV];exact CJ.out.setCell (p:=⟨p+1+1,0,none⟩) (by show w.heap.size<=p+1+1;have:=HP.out;omega) _
    obtain ⟨UA,wA,wO,rA,rO,va,vo,h1,h2,h3,h4,h5,h6,h7,h8⟩:=WW;dsimp only at h3 h4 h6 h7 h8;obtain ⟨mo,hmo⟩:∃ mo,mo=(Hr.map ah.d).length:=⟨_,rfl⟩;obtain ⟨ao,co,rfl,hco,hcom⟩:=h4.cap hmo.symm;have jix:mo<=2000000:=by rw [hmo,jjz];exact Po.out
    unfold maxLen at hcom;have hov:∀ g,(Value.slice ao mo co).ownBlock=some g->g<q/\p+3<=g:=fun g hg=>by
     have e1:=(h4.own.lt g hg).1;have e2:=h4.oU g hg;have e3:=h3.og;refine ⟨?_,by omega⟩;rcases HOQ.out with e | e
     ·have:=h8 e;rw [this] at hg;cases hg
     ·omega
    have S0:jl1 rJ.drew ⟨p+1,1,none⟩=some (.slice ao mo co)/\jl1 rJ.drew ⟨q,0,none⟩=some (.int .i64 kd)/\jl1 rJ.drew ⟨q,1,none⟩=some (.int .i64 lv)/\jl1 rJ.drew ⟨q,2,none⟩=some (.string i)/\jl1 rJ.drew ⟨q,3,none⟩=some (.string t)/\jl1 rJ.drew ⟨q,4,none⟩=some (.string d)/\jl1 rJ.drew ⟨q,5,none⟩=some (.string ti)/\jl1 rJ.drew ⟨q,6,none⟩=some (.string at_.id)/\jl1 rJ.drew ⟨q,7,none⟩=some (.slice ac nc cc)/\jl1 rJ.drew ⟨q,8,none⟩=some (.slice ap np cp)/\jl1 rJ.drew ⟨q,9,none⟩=some (.slice al nl cl)/\jl1 rJ.drew ⟨q,10,none⟩=some (.slice ak nk ck):=⟨h6.cell 1 _ rfl,rM.cell 0 _ rfl,rM.cell 1 _ rfl,rM.cell 2 _ rfl,rM.cell 3 _ rfl,rM.cell 4 _ rfl,rM.cell 5 _ rfl,rM.cell 6 _ rfl,rM.cell 7 _ rfl,rM.cell 8 _ rfl,rM.cell 9 _ rfl,rM.cell 10 _ rfl⟩;have xH:=hid hov;have H1:=hid h1;have H2:=hid h2;have H3:=hid h3;have H4:=hid h4;have H5:=hid h5;have H6:=hid h6;have H7:=hid h7;have HMO:=hid hmo.symm;have jg2:=hid rM;have WX:=hid jb1;have U10:=hid h4.top.drew;have HQW:=hid hqw;have jg3:p+1<rJ.heap.size:=h6.lt;clear hov h1 h2 h3 h4 h5 h6 h7 h8 hmo rM jb1 YG CJ HPI HOQ Po hsz hqw;go_upto_region 14 with (fail)
    rw [<- KV];clear KV jg0 jg1;refine fB 9 (fun w'=>w'.cell? ⟨p+1,1,none⟩=some (.slice ao mo co)/\w'.cell? ⟨q,0,none⟩=some (.int .i64 kd)/\w'.cell? ⟨q,1,none⟩=some (.int .i64 lv)/\w'.cell? ⟨q,2,none⟩=some (.string i)/\w'.cell? ⟨q,3,none⟩=some (.string t)/\w'.cell? ⟨q,4,none⟩=some (.string d)/\w'.cell? ⟨q,5,none⟩=some (.string ti)/\w'.cell? ⟨q,6,none⟩=some (.string at_.id)/\w'.cell? ⟨q,7,none⟩=some (.slice ac nc cc)/\w'.cell? ⟨q,8,none⟩=some (.slice ap np cp)/\w'.cell? ⟨q,9,none⟩=some (.slice al nl cl)/\w'.cell? ⟨q,10,none⟩=some (.slice ak nk ck)) (by kernel_rfl) S0 ?_;intro hH;refine qD 0 (v:=?_) rfl (by kernel_rfl) hH (by rfl) ?_ ?_;rotate_left
    ·(intro wv hSw;(try dsimp only at hSw);go_simp;try with_reducible rfl)
    try simp only [Act.put,jj4,jj5,jj6]
    refine qD 1 (v:=?_) rfl (by kernel_rfl) hH (by rfl) ?_ ?_;rotate_left
    ·(intro wv hSw;(try dsimp only at hSw);go_simp;try with_reducible rfl)
    try simp only [Act.put,jj4,jj5,jj6]
    refine qD 2 (v:=?_) rfl (by kernel_rfl) hH (by rfl) ?_ ?_;rotate_left
    ·(intro wv hSw;(try dsimp only at hSw);go_simp;try with_reducible rfl)
    try simp only [Act.put,jj4,jj5,jj6]
    refine qD 3 (v:=?_) rfl (by kernel_rfl) hH (by rfl) ?_ ?_;rotate_left
    ·(intro wv hSw;(try dsimp only at hSw);go_simp;try with_reducible rfl)
    try simp only [Act.put,jj4,jj5,jj6]
    refine q01 (i:=4) rfl (by kernel_rfl) (fun KQ hK=>?_);go_simp;refine hK.out _ _ (fun _ _=>⟨past S0.1 _,past S0.2.1 _,past S0.2.2.1 _,past S0.2.2.2.1 _,past S0.2.2.2.2.1 _,past S0.2.2.2.2.2.1 _,past S0.2.2.2.2.2.2.1 _,past S0.2.2.2.2.2.2.2.1 _,past S0.2.2.2.2.2.2.2.2.1 _,past S0.2.2.2.2.2.2.2.2.2.1 _,past S0.2.2.2.2.2.2.2.2.2.2.1 _,past S0.2.2.2.2.2.2.2.2.2.2.2 _⟩) (fun hH2=>?_);clear hK KQ hH;have hH:=hH2 (by decide) (by kernel_rfl);clear hH2;try simp only [Act.put,jj4,jj5,jj6]
    refine q01 (i:=5) rfl (by kernel_rfl) (fun KQ hK=>?_);refine zl rfl (.tmp 31) (.tmp 34) 22 rfl iB _ 192 Tryz.underlying22 zD RJ RO F7 rfl (by decide) U10.out (fun b hb=>by have:=HP.out;have:=H3.out.og;have:=H2.out;have:=H1.out;show b<_;have:b<w.heap.size:=hb;omega) (ah.mk 0 0 ⟨#[]⟩ ⟨#[]⟩ ⟨#[]⟩ ⟨#[]⟩ ⟨⟨#[]⟩,[],[]⟩ [] []).d [.int .i64 0,.int .i64 0,.string ⟨#[]⟩,.string ⟨#[]⟩,.string ⟨#[]⟩,.string ⟨#[]⟩,.string ⟨#[]⟩,.slice none 0 0,.slice none 0 0,.slice none 0 0,.slice none 0 0] (RH _ _) rfl OH HMO.out (by omega) (by decide) rfl rfl ?_;intro g5 c5 w5 bM hg5 A9 Im;have hz5:rJ.heap.size+1<=w5.heap.size:=by have:=hg5.size;simp at this;exact this
    have Zz:g5≠q/\p+3<=g5:=by
     have hz9:rJ.drew.heap.size=rJ.heap.size:=rfl;have e5:=HQW.out;rcases A9 with h | h
     ·have:=xH.out g5 h;omega
     ·exact ⟨by omega,by have:=H1.out;have:=H3.out.og;have:=H3.out.xG;omega⟩
    have sw:∀ b,b=p+1\/b=q->some b≠(Value.slice ao mo co).ownBlock:=fun b hb e=>by
     have:=xH.out b e.symm;omega
    have jg4:=HQW.out;have hk5:∀ b,b<rJ.heap.size->(Value.slice ao mo co).ownBlock≠some b->w5.heap[b]?=rJ.heap[b]?:=fun b hb e=>(hg5.block b (by simp;omega) (fun e'=>e e'.symm)).trans (Below.heap_alloc rJ _ b hb)
    have KW:CB 48 q [.int .i64 kd,.int .i64 lv,.string i,.string t,.string d,.string ti,.string at_.id,.slice ac nc cc,.slice ap np cp,.slice al nl cl,.slice ak nk ck] w5:=(hk5 q jg4 (fun e=>sw q (.inr rfl) e.symm)).trans jg2.out;have kp5:CB 96 (p+1) [.bool ti1,.slice ao mo co] w5:=(hk5 (p+1) jg3 (fun e=>sw (p+1) (.inl rfl) e.symm)).trans H6.out;have S5:jl1 w5 ⟨p+1,1,none⟩=some (.slice ao mo co)/\jl1 w5 ⟨q,0,none⟩=some (.int .i64 kd)/\jl1 w5 ⟨q,1,none⟩=some (.int .i64 lv)/\jl1 w5 ⟨q,2,none⟩=some (.string i)/\jl1 w5 ⟨q,3,none⟩=some (.string t)/\jl1 w5 ⟨q,4,none⟩=some (.string d)/\jl1 w5 ⟨q,5,none⟩=some (.string ti)/\jl1 w5 ⟨q,6,none⟩=some (.string at_.id)/\jl1 w5 ⟨q,7,none⟩=some (.slice ac nc cc)/\jl1 w5 ⟨q,8,none⟩=some (.slice ap np cp)/\jl1 w5 ⟨q,9,none⟩=some (.slice al nl cl)/\jl1 w5 ⟨q,10,none⟩=some (.slice ak nk ck):=⟨kp5.cell 1 _ rfl,KW.cell 0 _ rfl,KW.cell 1 _ rfl,KW.cell 2 _ rfl,KW.cell 3 _ rfl,KW.cell 4 _ rfl,KW.cell 5 _ rfl,KW.cell 6 _ rfl,KW.cell 7 _ rfl,KW.cell 8 _ rfl,KW.cell 9 _ rfl,KW.cell 10 _ rfl⟩;obtain ⟨yc,yf⟩:=bM.TW HMO.out;have y0:jl1 w5 ⟨g5,mo*11,none⟩=some (.int .i64 0):=yc 0 _ rfl;have y1:=yc 1 _ rfl;have y2:=yc 2 _ rfl;have y3:=yc 3 _ rfl;have y4:=yc 4 _ rfl;have y5:=yc 5 _ rfl;have y6:=yc 6 _ rfl;have y7:=yc 7 _ rfl;have y8:=yc 8 _ rfl;have y9:=yc 9 _ rfl;have y10:=yc 10 _ rfl;have t0:(0:Int)<=(mo:Int):=by omega
    have t1:(mo:Int)<((mo+1:Nat):Int):=by omega
    have t2:(mo:Int)<(mo:Int)+1:=by omega
    have t3:mo<mo+1:=by omega
    have HF:=OI (x:=X) (r1:=[.int .i64 kd,.int .i64 lv,.string i,.string t,.string d,.string ti,.string at_.id,.slice ac nc cc,.slice ap np cp,.slice al nl cl,.slice ak nk ck]) (fun b (hb:b<w.heap.size)=>by have:=HP.out;omega) H1.out H2.out H3.out H4.out H5.out H6.out H7.out HMO.out bM rfl hk5 (by omega) ⟨hg5.os,hg5.tape,hg5.output⟩ (A9.imp id (fun h=>by have hz9:rJ.drew.heap.size=rJ.heap.size:=rfl;omega)) (Rd.keep (fun b (hb:b<w.heap.size) _=>⟨hb,(hk5 b (by have:=WX.out.size;omega) (fun e=>by have:=xH.out b e;have:=HP.out;omega)).trans (WX.out.block b hb)⟩) _ _ HXR.out);have HFF:=hid HF;have zp:=kp5.cell 1 _ rfl;have zpf:=nJ kp5;refine hK.out _ _ (fun _ _=>S5) (fun hH2=>?_);clear hK KQ hH;have hH:=hH2 (by decide) (by kernel_rfl);clear hH2;try simp only [Act.put,jj4,jj5,jj6]
    refine qD 8 (v:=?_) rfl (by kernel_rfl) hH (by rfl) ?_ ?_;rotate_left
    ·(intro wv hSw;(try dsimp only at hSw);go_simp;try with_reducible rfl)
    try simp only [Act.put,jj4,jj5,jj6]
    have gZ:w5.grownBy (w5.setCell ⟨p+1,1,none⟩ (.slice (some ⟨g5,0,none⟩) (mo+1) c5)) (some (p+1)):=⟨rfl,rfl,rfl,by simp [jl2],fun b _ hb=>jk2 w5 ⟨p+1,1,none⟩ _ b (fun e=>hb (by rw [e]))⟩;obtain ⟨wZ,YI,sD⟩:=bM.yh (p:=p+1) (by have:=H1.out;have:=H2.out;have:=H3.out.og;omega) (fun (h:p+1<w.heap.size)=>by have:=HP.out;omega) gZ;obtain ⟨uc,uf⟩:=sD.TW HMO.out;have u0:jl1 (w5.setCell ⟨p+1,1,none⟩ (.slice (some ⟨g5,0,none⟩) (mo+1) c5)) ⟨g5,mo*11,none⟩=some (.int .i64 0):=uc 0 _ rfl;have u1:=uc 1 _ rfl;have u2:=uc 2 _ rfl;have u3:=uc 3 _ rfl;have u4:=uc 4 _ rfl;have u5:=uc 5 _ rfl;have u6:=uc 6 _ rfl;have u7:=uc 7 _ rfl;have u8:=uc 8 _ rfl;have u9:=uc 9 _ rfl;have u10:=uc 10 _ rfl;have hpg:p+1≠g5:=by omega
    have hqg:q≠g5:=fun e=>Zz.1 e.symm
    have kq6:CB 48 q [.int .i64 kd,.int .i64 lv,.string i,.string t,.string d,.string ti,.string at_.id,.slice ac nc cc,.slice ap np cp,.slice al nl cl,.slice ak nk ck] (oq w5 g5 (mo*11) [.int .i64 kd,.int .i64 lv,.string i,.string t,.string d,.string ti,.string at_.id,.slice ac nc cc,.slice ap np cp,.slice al nl cl,.slice ak nk ck]):=(gU g5 _ _ _ q hqg).trans KW;have kp6:CB 96 (p+1) [.bool ti1,.slice ao mo co] (oq w5 g5 (mo*11) [.int .i64 kd,.int .i64 lv,.string i,.string t,.string d,.string ti,.string at_.id,.slice ac nc cc,.slice ap np cp,.slice al nl cl,.slice ak nk ck]):=(gU g5 _ _ _ (p+1) hpg).trans kp5;have xw:=hid kq6;have jg5:=hid kp6;have KH:=hid hpg;have zp6:=kp6.cell 1 _ rfl;have YW:=nJ kp6;clear kq6 kp6 gZ YI sD uc yc bM hg5 A9 Im Zz sw hk5 KW kp5 HF S0 hpg hqg;apply SN;case hm=>
     intro REST;refine F8 (i:=6) (j:=9) rfl rfl (by kernel_rfl) (fun KQ hK=>?_) (fun KQ hK=>?_);rotate_left
     ·go_simp;refine hK.out _ _ (fun h=>absurd rfl h) (fun _=>?_);clear hK KQ;try simp only [Act.put,jj4,jj5,jj6]
      refine q01 (i:=6) rfl (by kernel_rfl) (fun KQ hK=>?_);go_simp;refine hK.out _ _ (fun _ h=>absurd h (by decide)) (fun _=>?_);clear hK KQ;try simp only [Act.put,jj4,jj5,jj6]
      refine q01 (i:=7) rfl (by kernel_rfl) (fun KQ hK=>?_);go_simp;refine hK.out _ (oq (w5.setCell ⟨p+1,1,none⟩ (.slice (some ⟨g5,0,none⟩) (mo+1) c5)) g5 (mo*11) [.int .i64 kd,.int .i64 lv,.string i,.string t,.string d,.string ti,.string at_.id,.slice ac nc cc,.slice ap np cp,.slice al nl cl,.slice ak nk ck]) (fun _ h=>absurd h (by decide)) (fun _=>?_);clear hK KQ;try simp only [Act.put,jj4,jj5,jj6]
      refine Li (by kernel_rfl) ?_ _;rw [rz g5 (p+1) 1 _ KH.out];exact REST
     go_simp;refine hK.out _ _ (fun _ _=>S5) (fun hH2=>?_);clear hK KQ;have hH:=hH2 (by decide) (by kernel_rfl);clear hH2;try simp only [Act.put,jj4,jj5,jj6]
     refine F8 (i:=7) (j:=9) rfl rfl (by kernel_rfl) (fun KQ hK=>?_) (fun KQ hK=>?_)
     ·go_simp;refine hK.out _ (oq w5 g5 (mo*11) [.int .i64 kd,.int .i64 lv,.string i,.string t,.string d,.string ti,.string at_.id,.slice ac nc cc,.slice ap np cp,.slice al nl cl,.slice ak nk ck]) (fun _ _=>⟨jg5.out.cell 1 _ rfl,xw.out.cell 0 _ rfl,xw.out.cell 1 _ rfl,xw.out.cell 2 _ rfl,xw.out.cell 3 _ rfl,xw.out.cell 4 _ rfl,xw.out.cell 5 _ rfl,xw.out.cell 6 _ rfl,xw.out.cell 7 _ rfl,xw.out.cell 8 _ rfl,xw.out.cell 9 _ rfl,xw.out.cell 10 _ rfl⟩) (fun hH2=>?_);clear hK KQ;have hH:=hH2 (by decide) (by kernel_rfl);clear hH2;try simp only [Act.put,jj4,jj5,jj6]
      refine q01 (i:=9) rfl (by kernel_rfl) (fun KQ hK=>?_);go_simp;refine hK.out _ _ (fun h=>absurd rfl h) (fun _=>?_);clear hK KQ;try simp only [Act.put,jj4,jj5,jj6]
      refine Li (by kernel_rfl) ?_ _;exact REST
     ·go_simp;refine hK.out _ _ (fun h=>absurd rfl h) (fun _=>?_);clear hK KQ;try simp only [Act.put,jj4,jj5,jj6]
      refine q01 (i:=7) rfl (by kernel_rfl) (fun KQ hK=>?_);go_simp;refine hK.out _ (oq (w5.setCell ⟨p+1,1,none⟩ (.slice (some ⟨g5,0,none⟩) (mo+1) c5)) g5 (mo*11) [.int .i64 kd,.int .i64 lv,.string i,.string t,.string d,.string ti,.string at_.id,.slice ac nc cc,.slice ap np cp,.slice al nl cl,.slice ak nk ck]) (fun _ h=>absurd h (by decide)) (fun _=>?_);clear hK KQ;try simp only [Act.put,jj4,jj5,jj6]
      refine Li (by kernel_rfl) ?_ _;rw [rz g5 (p+1) 1 _ KH.out];exact REST
    case hr=>
     clear S5 y0 y1 y2 y3 y4 y5 y6 y7 y8 y9 y10 yf u0 u1 u2 u3 u4 u5 u6 u7 u8 u9 u10 uf zp zpf zp6 YW t0 t1 t2 t3;obtain ⟨w8,hw8⟩:∃ w8,w8=(oq w5 g5 (mo*11) [.int .i64 kd,.int .i64 lv,.string i,.string t,.string d,.string ti,.string at_.id,.slice ac nc cc,.slice ap np cp,.slice al nl cl,.slice ak nk ck]).setCell ⟨p+1,1,none⟩ (.slice (some ⟨g5,0,none⟩) (mo+1) c5):=⟨_,rfl⟩;have hff:=HFF.out;rw [<- hw8] at hff ⊢;have HR:Hid (Jl w l (.int .i64 ((k+1:Nat):Int)) w8):=⟨k+1,by have:=xI.out;omega,rfl,by
      rw [Ru.out,yg.out];have h:=hff.1.top;rw [HP.out] at h;exact h,WX.out.trans (by have h:=hff.2;rw [HP.out] at h;exact h)⟩
     clear hff hw8;go_wp2;go_roundw;case rel=>exact HR.out
     case measure=>simp [intOf];omega
  ·have hkl:k=l.length:=by have:=xI.out;omega
   have HKL:=hid hkl;have HB9:=hid hB;have FC:Hid (Calls Tryz.prog 102 #[.pointer (some ⟨p+1+1,0,none⟩),.pointer (some ⟨p,0,none⟩),.pointer (some ⟨p+1,0,none⟩)] wr (qM (·<w.heap.size) p wr.heap.size (dN s) wr)):=(uY (·<w.heap.size) p wr.heap.size s wr (fun b hb=>by have:=HP.out;show b<p;omega) (by rw [HP.out];exact hP) (by have:=UH.out.1;omega));clear hkl hP hB;go_wp2_with fail
   (with_reducible refine FC.out.mono ?_)
   rintro e w6 ⟨rfl,WV,b6,-⟩;have hbf:jmk w.heap.size w w6:=HB9.out.trans (by rw [HP.out] at b6;exact b6);obtain ⟨UA,wA,wO,rA,rO,va,vo,h1,h2,h3,h4,h5,h6,h7,h8⟩:=WV;have hrd:Rd (·<w6.heap.size) w6 (.sl 2 ((dW l).map Pt.d)) [va]:=by
    have e:(dN s).all=dW l:=by unfold dW;rw [HSD.out,HKL.out,List.take_length]
    rw [<- e];exact Rd.keep (fun b _ hlt=>⟨hlt,rfl⟩) _ _ h3.rd
   obtain ⟨a6,n6,c6,rfl⟩:=h3.SQ;have x0:=h5.cell;have Fg:=hid hrd;have HBF:=hid hbf;clear h1 h2 h3 h4 h5 h6 h7 h8 hrd hbf b6 FC;go_wp2;go_ret;exact ⟨_,rfl,Fg.out,HBF.out⟩
open Go.RowKit
def Sl.d (s:Sl):D:=.st [aY s.ti,iO s.bl]
theorem Sl.eu {ok:Nat->Prop} {w:World} (s:Sl) {v u:Value} (h:Rd ok w (aY s.ti) [v]) (h2:Rd ok w (iO s.bl) [u]):Rd ok w s.d [v,u]:=by have:=Rd.sF (ok:=ok) (w:=w) (aI.cons h (aI.one h2));simpa [Sl.d] using this
theorem jv {ok:Nat->Prop} {w:World} {k:Nat} {l:List D} {cs:List Value} (h:Rd ok w (.sl k l) cs):∃ a c,cs=[.slice a l.length c]:=by obtain ⟨a,c,e,-⟩:=Rd.aB h;exact ⟨a,c,e⟩
theorem Sl.open_ {ok:Nat->Prop} {w:World} {s:Sl} {cs:List Value} (h:Rd ok w s.d cs):∃ v u,cs=[v,u]/\Rd ok w (aY s.ti) [v]/\Rd ok w (iO s.bl) [u]:=by obtain ⟨rows,h1,rfl⟩:=Rd.jL h;obtain ⟨r1,rs,rfl,h2,h3⟩:=h1.aD;obtain ⟨r2,rs2,rfl,h4,h5⟩:=h3.aD;obtain rfl:=h5.bZ;obtain ⟨a,c,e⟩:=jv (h2:Rd ok w (.sl 10 _) r1);obtain ⟨a2,c2,e2⟩:=jv (h4:Rd ok w (.sl 11 _) r2);subst e e2;exact ⟨_,_,by simp,h2,h4⟩
theorem WY:(Tryz.prog.info? 50).map (fun i=>(i.zero,i.size,i.bytes))=some (some (.agg #[.slice none 0 0,.slice none 0 0]),2,48):=by kernel_rfl
theorem OM (l:List ah):∀ p∈dW l,NJ p:=GA (lZ l) (I8 l qj ps0)
def RP (w:World) (L:List Sl) (e:Ending) (w':World):Prop:=∃ v,e=.returned v/\Rd (·<w'.heap.size) w' (.sl 2 (L.map Sl.d)) [v]/\jmk w.heap.size w w'
def Hu (w1:World) (P:List Pt) (v vi:Value) (wr:World):Prop:=∃ (k:Nat) (rows:List (List Value)),k<=P.length/\vi=.int .i64 k/\aC 50 2 (·<w1.heap.size) wr.heap.size w1 (((P.take k).map jV).map Sl.d) rows v wr
theorem RQ (l:List ah) (s:tC) (x:ah) (hx:x∈l) (h:(∀ p∈s.all,∀ b∈p.bl,b∈l)/\∀ b∈s.op.bl,b∈l):(∀ p∈(q0z s x).all,∀ b∈p.bl,b∈l)/\∀ b∈(q0z s x).op.bl,b∈l:=by
 obtain ⟨h1,h2⟩:=h;have h3:∀ p∈(dN s).all,∀ b∈p.bl,b∈l:=by
  unfold dN;split
  ·intro p hp;rcases List.mem_append.1 hp with hp | hp
   ·exact h1 p hp
   ·obtain rfl:=List.mem_singleton.1 hp;exact h2
  ·exact h1
 unfold q0z;split
 ·split
  ·exact ⟨h3,fun b hb=>by obtain rfl:=List.mem_singleton.1 hb;exact hx⟩
  ·exact ⟨h3,fun b hb=>by cases hb⟩
 ·refine ⟨h1,fun b hb=>?_⟩;rcases List.mem_append.1 hb with hb | hb
  ·exact h2 b hb
  ·obtain rfl:=List.mem_singleton.1 hb;exact hx
theorem Jm (l:List ah):∀ (m:List ah) (s:tC),(∀ x∈m,x∈l)->((∀ p∈s.all,∀ b∈p.bl,b∈l)/\∀ b∈s.op.bl,b∈l)->(∀ p∈(m.foldl q0z s).all,∀ b∈p.bl,b∈l)/\∀ b∈(m.foldl q0z s).op.bl,b∈l
 | [],_,_,h=>h
 | x::m,s,hm,h=>by
  rw [List.foldl_cons];exact Jm l m _ (fun y hy=>hm y (List.mem_cons_of_mem _ hy)) (RQ l s x (hm x (List.mem_cons_self ..)) h)
theorem ES (l:List ah):∀ p∈dW l,∀ b∈p.bl,b∈l:=by
 have h:=Jm l l qj (fun _ h=>h) ⟨(fun p hp=>by cases hp),(fun b hb=>by cases hb)⟩;unfold dW lZ dN;split
 ·intro p hp;rcases List.mem_append.1 hp with hp | hp
  ·exact h.1 p hp
  ·obtain rfl:=List.mem_singleton.1 hp;exact h.2
 ·exact h.1
theorem Af (l:List ah):(dW l).length<=l.length+1:=by
 have h:=(xu l qj).1;have h0:qj.all.length=0:=rfl;unfold dW dN;show (if (lZ l).some_=true then (lZ l).all++[(lZ l).op] else (lZ l).all).length<=_;have h2:(lZ l).all.length<=l.length:=by unfold lZ;omega
 split
 ·rw [List.length_append,List.length_singleton];omega
 ·omega
theorem Jo:∀ (l m:List ah),ah.aV (l++m)=ah.aV l+ah.aV m
 | [],m=>by rw [ah.aV];simp
 | x::l,m=>by rw [List.cons_append,ah.aV,ah.aV,Jo l m];omega
theorem ET:∀ (L:List (List ah)) (s:List ah),s∈L->ah.aV s<=ah.aV L.flatten
 | [],_,h=>by cases h
 | x::L,s,h=>by
  rw [List.flatten_cons,Jo];rcases List.mem_cons.1 h with rfl | h
  ·omega
  ·have:=ET L s h;omega
theorem EU (l:List ah):∀ p∈dW l,ah.aV p.bl<=ah.aV l:=by
 intro p hp;rw [qo] at hp;obtain ⟨s,hs,rfl⟩:=List.mem_map.1 hp;have h1:=ET _ s hs;rw [qX l.length l (jj9 _)] at h1;rw [tY];refine Nat.le_trans ?_ h1;unfold jW;split
 ·split
  ·rw [ah.aV];omega
  ·exact jj9 _
 ·exact jj9 _
theorem Cg:∀ (l:List ah),ah.kV l↔∀ b∈l,b.bd
 | []=>by rw [ah.kV];simp
 | x::l=>by rw [ah.kV,Cg l];simp
theorem EW (l:List ah) (h:ah.kV l):∀ p∈dW l,ah.kV p.bl:=fun p hp=>(Cg _).2 fun b hb=>(Cg _).1 h b (ES l p hp b hb)
theorem Ag (k:Nat):∀ (rows:List (List Value)),(∀ r∈rows,r.length=k)->∀ i,(rows.drop i).flatten=rows.flatten.drop (i*k)
 | [],_,i=>by simp
 | r::rs,h,0=>by simp
 | r::rs,h,i+1=>by
  have hr:=h r (by simp);rw [List.drop_succ_cons,List.flatten_cons,Ag k rs (fun x hx=>h x (by simp [hx])) i,Nat.succ_mul,Nat.add_comm,<- List.drop_drop];congr 1;rw [<- hr,List.drop_left]
theorem aI.Ui {ok:Nat->Prop} {w:World}:∀ {l:List D} {rows:List (List Value)} (i:Nat),aI ok w l rows->aI ok w (l.drop i) (rows.drop i)
 | l,rows,0,h=>by simpa using h
 | [],_,i+1,h=>by rw [h.bZ];simpa using aI.none
 | d::ds,_,i+1,h=>by
  obtain ⟨r,rs,rfl,h1,h2⟩:=h.aD;simpa using aI.Ui i h2
theorem aI.takeN {ok:Nat->Prop} {w:World}:∀ {l:List D} {rows:List (List Value)} (i:Nat),aI ok w l rows->aI ok w (l.take i) (rows.take i)
 | l,rows,0,h=>by simpa using aI.none
 | [],_,i+1,h=>by rw [h.bZ];simpa using aI.none
 | d::ds,_,i+1,h=>by
  obtain ⟨r,rs,rfl,h1,h2⟩:=h.aD;simpa using aI.cons h1 (aI.takeN i h2)
theorem Rd.cut {ok:Nat->Prop} {w:World} {k b off n cap:Nat} {l:List D} (h:Rd ok w (.sl k l) [.slice (some ⟨b,off,none⟩) n cap]) (i j:Nat) (h1:i<=j) (h2:j<=n):Rd ok w (.sl k ((l.take j).drop i)) [.slice (some ⟨b,off+i*k,none⟩) (j-i) (cap-i)]:=by
 unfold Rd at h ⊢;obtain ⟨a,cap',rows,e,h3,h4,h5,h6,h7⟩:=h;simp only [List.cons.injEq,Value.slice.injEq,and_true] at e;obtain ⟨rfl,hn,rfl⟩:=e;refine ⟨some ⟨b,off+i*k,none⟩,cap-i,(rows.take j).drop i,?_,?_,by omega,aI.Ui i (aI.takeN j h5),fun r hr=>h6 r (List.mem_of_mem_take (List.mem_of_mem_drop hr)),?_⟩
 ·congr 2;rw [List.length_drop,jm5];omega
 ·rw [List.length_drop,jm5];omega
 ·rcases h7 with h7 | ⟨b',off',e,h8,hb,h9⟩
  ·left;rw [List.length_drop,jm5];omega
  ·right;simp only [Option.some.injEq,Addr.mk.injEq,and_true] at e;obtain ⟨rfl,rfl⟩:=e;refine ⟨b,off+i*k,rfl,h8,hb,fun q u hu=>?_⟩;rw [Ag k _ (fun r hr=>h6 r (List.mem_of_mem_take hr)),List.getElem?_drop] at hu;have hpre:(rows.take j).flatten <+: rows.flatten:=by
    have:rows=rows.take j++rows.drop j:=(List.take_append_drop j rows).symm
    conv=>rhs;rw [this]
    rw [List.flatten_append];exact List.prefix_append _ _
   have hu':rows.flatten[i*k+q]?=some u:=by obtain ⟨t,ht⟩:=hpre;rw [<- ht,List.getElem?_append_left (List.getElem?_eq_some_iff.1 hu).1];exact hu
   have:=h9 (i*k+q) u hu';rw [<- Nat.add_assoc] at this;exact this
theorem Jp (vm:Value) (l:List ah) (vb:Value) (w:World) (VH:∃ a n c,vm=.slice a n c) (h:Rd (·<w.heap.size) w (iO l) [vb]) (hsz:ah.aV l<=900000) (hbd:ah.kV l) : Calls Tryz.prog 21 #[.agg #[vm,vb]] w (RP w (XR l)):=by
 obtain ⟨am,nm,cm,rfl⟩:=VH;obtain ⟨ab,nb,cb,rfl⟩:=Rd.ay h;obtain ⟨iS,hiS,U7,U8,U9⟩:=info_parts WY;obtain ⟨S,hS⟩:∃ S,S=w.heap.size:=⟨_,rfl⟩;obtain ⟨w0,hw0⟩:∃ w0,w0=w.alloc (.cells #[.slice am nm cm,.slice ab nb cb] 26):=⟨_,rfl⟩;have k0:CB 26 S [.slice am nm cm,.slice ab nb cb] w0:=by rw [hw0,hS];exact CB.new _ _ w
 have b0:jmk w.heap.size w w0:=by rw [hw0];exact (jj8 _ _).alloc (jj9 _) _
 have e1:=k0.cell 1 _ rfl;have PC:=hid (Ae l _ w0 (h.up b0) (by have:=ah.dw l;omega));have hP1:=OM l;have hP2:=EU l;have hP3:=EW l hbd;have Uh:=Af l;have hll:=ah.dw l;obtain ⟨P,hP⟩:∃ P,P=dW l:=⟨_,rfl⟩;rw [<- hP] at PC hP1 hP2 hP3 Uh;have Sc:Hid (XR l=P.map jV):=by show _=_;unfold XR;rw [hP]
 rw [Sc.out];have Ro:=hid hP1;have Lj:=hid hP2;have Fe:=hid hP3;have Pn:Hid (P.length<=900001):=by show _<=_;omega
 have FU:=hid hsz;have B0:=hid b0;clear h hsz hbd k0 b0 hP hP1 hP2 hP3 Uh Sc hll;go_enter Tryz.func21,Tryz.ntmps21;go_upto_region 2 with (fail)
 rw [<- hw0,<- hS];clear hw0 hS;go_wp2_with fail
 (with_reducible refine PC.out.mono ?_)
 rintro e w1 ⟨v1,rfl,h1,b1⟩;obtain ⟨a1,c1,hv1,hs1⟩:=Rd.aB h1;obtain ⟨nP,OP⟩:∃ nP,nP=P.length:=⟨_,rfl⟩;obtain rfl:v1=.slice a1 nP c1:=by rw [OP];simpa using hv1
 have hc1:nP<=c1:=by rw [OP];simpa using hs1.le
 have hm1:=hs1.max;unfold maxLen at hm1;have hnp:nP<=900001:=by rw [OP];exact Pn.out
 have OQ:=hid OP;have HS1:=hid hs1;have B1:=hid (aR B0.out b1);have R0:Hid (Hu w1 P (.slice none 0 0) (.int .i64 0) w1):=⟨0,[],Nat.zero_le _,rfl,aC.nil _ _ _ _⟩;clear hv1 h1 hs1 b1 OP PC e1;go_wp2
 go_loopw [3,12] (fun v vi wr=>Hu w1 P v vi wr) (fun _ i _=>nP-(intOf i).toNat)
 case atStart=>exact R0.out
 case round=>
  clear R0;obtain ⟨k,rows,hk,rfl,hR⟩:=hrel;obtain ⟨nv,sw⟩:∃ nv,nv=(((P.take k).map jV).map Sl.d).length:=⟨_,rfl⟩;obtain ⟨av,cv,rfl,hcv,hcm⟩:=hR.cap sw.symm;unfold maxLen at hcm;have jb2:nv<=900001:=by have:=OQ.out;rw [sw,jjz,jjz,jm5];omega
  have TI:=hid sw.symm;have hbel:=hR.aP;have HRW:=hid hR;clear hR sw;by_cases hlt:k<nP
  ·obtain ⟨x,hx⟩:∃ x,P[k]?=some x:=⟨_,List.getElem?_eq_getElem (by have:=OQ.out;omega)⟩;have hxm:x∈P:=List.mem_of_getElem? hx;have hx1:=Ro.out x hxm;have hx2:=Lj.out x hxm;have hx3:=Fe.out x hxm;obtain ⟨b,off,ha,hok,hb,hcx⟩:=HS1.out.at_ (by rw [jjz];have:=OQ.out;omega)
   subst ha;obtain ⟨r,hr,hrl,hcell⟩:=hcx k x.d (by rw [List.getElem?_map,hx];rfl);obtain ⟨vbl,rfl,hbl⟩:=Pt.open_ hr;obtain ⟨al,nl,cl,rfl⟩:=Rd.ay hbl;have c0:wr.cell? ⟨b,off+k*2,none⟩=some (.bool x.ti):=(hbel.cell (p:=⟨_,_,none⟩) hb).trans (hcell 0 _ rfl);have c1':wr.cell? ⟨b,off+k*2+1,none⟩=some (.slice al nl cl):=(hbel.cell (p:=⟨_,_,none⟩) hb).trans (hcell 1 _ rfl);obtain ⟨q,hq⟩:∃ q,q=wr.heap.size:=⟨_,rfl⟩;obtain ⟨tb,htb⟩:∃ tb,tb=x.ti:=⟨_,rfl⟩;rw [<- htb] at c0;obtain ⟨w2,hw2⟩:∃ w2,w2=(wr.alloc (.cells #[.bool tb,.slice al nl cl] 96)).alloc (.cells #[.slice none 0 0,.slice none 0 0] 50):=⟨_,rfl⟩;have z1:(wr.alloc (.cells #[.bool tb,.slice al nl cl] 96)).heap.size=q+1:=by rw [jk6,hq]
   have k1:CB 96 q [.bool tb,.slice al nl cl] w2:=by rw [hw2];have h:=CB.new 96 [.bool tb,.slice al nl cl] wr;rw [<- hq] at h;exact h.below ((jj8 _ _).alloc (jj9 _) _)
   have k2:CB 50 (q+1) [.slice none 0 0,.slice none 0 0] w2:=by rw [hw2];have h:=CB.new 50 [.slice none 0 0,.slice none 0 0] (wr.alloc (.cells #[.bool tb,.slice al nl cl] 96));rw [z1] at h;exact h
   have b2:jmk wr.heap.size wr w2:=by rw [hw2];exact ((jj8 _ _).alloc (jj9 _) _).alloc (by omega) _
   have z2:w2.heap.size=q+2:=by rw [hw2,jk6,z1]
   have B12:=aR hbel b2;have Ka:=hbl.aZ B12;have HQ:=hid hq;have HWQ:Hid (w1.heap.size<=q):=by show _<=_;rw [hq];exact hbel.size
   have HZ2:=hid z2;have jb3:=hid B12;have WZ:=hid Ka;have HK2:=hid k2;have HX:=hid hx;have Ru:=hid hx1;have HX2:=hid hx2;have HX3:=hid hx3;have Sy:=hid htb;have HB2:=hid b2;have e0:=k1.cell 0 _ rfl;have e1:=k1.cell 1 _ rfl;clear hr hcell hrl hbl hok hb hx hxm hx1 hx2 hx3 hq htb z1 k1 k2 b2 z2 B12 Ka hcx;go_upto_region 6 with (fail)
   rw [<- hw2];simp only [<- HQ.out];clear hw2 c0 c1';cases tb
   case' false=>
    go_upto_region 10 with (fail)
    obtain ⟨W,hW⟩:∃ W,W=w2:=⟨_,rfl⟩;obtain ⟨ow,how⟩:∃ ow,ow=Value.slice al nl cl:=⟨_,rfl⟩;obtain ⟨st,sb,hst⟩:∃ st sb,jV x=⟨st,sb⟩:=⟨_,_,rfl⟩;have hsl:jV x=⟨[],x.bl⟩:=by unfold jV;rw [if_neg (by rw [<- Sy.out];simp)]
    obtain ⟨rfl,rfl⟩:st=[]/\sb=x.bl:=by rw [hsl] at hst;simpa using hst.symm
    obtain ⟨at3,KY,KZ,hvt⟩:∃ a n c,Value.slice a n c=.slice none 0 0:=⟨_,_,_,rfl⟩;have HKW:Hid (CB 50 (q+1) [.slice at3 KY KZ,.slice none 0 0] W):=by show CB _ _ _ _;rw [hW,hvt];exact HK2.out
    have HTW:Hid (Rd (fun b=>b<w1.heap.size\/q+2<=b) W (aY []) [.slice at3 KY KZ]):=by show Rd _ _ _ _;rw [hvt];exact Rd.aF _ _ _
    have Ya:Hid (Rd (·<w1.heap.size) W (iO x.bl) [ow]):=by show Rd _ _ _ _;rw [hW,how];exact WZ.out
    have CJ:Hid (jmk wr.heap.size wr W):=by show jmk _ _ _;rw [hW];exact HB2.out
    have Yb:Hid (q+2<=W.heap.size):=by show _<=_;rw [hW,HZ2.out];exact jj9 _
    have HSB:Hid (ah.aV x.bl<=900000/\ah.kV x.bl):=⟨by have:=HX2.out;have:=FU.out;omega,HX3.out⟩;have HST:=hid hst;rw [<- hW];have jg6:=hvt;clear hst hsl hvt hW;generalize x.bl=sb at *;generalize ([]:List aj)=st at HST HTW;simp only [<- how];clear how jg6 e0 e1
   case' true=>
    obtain ⟨b0,t0,hb0,jg7⟩:=Ru.out Sy.out.symm;obtain ⟨a3,c3,hv3,hs3⟩:=Rd.aB WZ.out;obtain ⟨rfl,rfl,rfl⟩:al=a3/\nl=(x.bl.map ah.d).length/\cl=c3:=by simp at hv3;simpa using hv3
    obtain ⟨kd,lv,i,t,d,ti,at_,li,ks⟩:=b0;obtain ⟨g,o,vc,vp,vl,vk,rfl,-,hgw,hc,hRR⟩:=FR hs3 (k:=0) (by rw [hb0];rfl);obtain ⟨al',nl',cl',rfl⟩:=Rd.ay hRR.line;obtain ⟨nL,Ad⟩:∃ nL,nL=(x.bl.map ah.d).length:=⟨_,rfl⟩;rw [<- Ad] at e1 ⊢;have W9:1<=nL:=by rw [Ad,hb0];simp
    have hcap:=hs3.le;rw [<- Ad] at hcap;have Xa:=hs3.max;unfold maxLen at Xa;have c9:w2.cell? ⟨g,o+9,none⟩=some (.slice al' nl' cl'):=by have:=hc.c9;rw [Nat.zero_mul,Nat.add_zero] at this;exact this
    have Xb:aj.kV li/\aj.aV li<=1000000:=by have h:=HX3.out;rw [hb0,ah.kV,ah.bd] at h;exact ⟨h.1.2.2.1,h.1.2.2.2.1⟩
    have LC:=hid (Ab _ li (·<w1.heap.size) _ w2 (jj9 _) Xb.2 hRR.line (fun b (hb:b<w1.heap.size)=>by have:=jb3.out.size;omega) Xb.1);have hsl:jV x=⟨li,t0⟩:=by unfold jV;rw [if_pos Sy.out.symm,hb0];rfl
    have HSL:=hid hsl;have hbt:x.bl.tail=t0:=by rw [hb0];rfl
    have HTL:Hid (nL≠1->Rd (·<w1.heap.size) w2 (iO t0) [.slice (some ⟨g,o+11,none⟩) (nL-1) (cl-1)]):=fun hne=>by
     have h:=Rd.cut WZ.out 1 nL W9 (by rw [Ad];exact jj9 _);rw [Nat.one_mul,<- List.map_take,<- List.map_drop,hb0] at h;have e:((ah.mk kd lv i t d ti at_ li ks::t0).take nL).drop 1=t0:=by rw [Ad,hb0,jjz,List.take_length];rfl
     rw [e] at h;exact h
    have Lr:Hid (ah.aV t0<=900000/\ah.kV t0):=by have h1:=HX2.out;have h2:=HX3.out;rw [hb0,ah.aV] at h1;rw [hb0,ah.kV] at h2;exact ⟨by have:=FU.out;omega,h2.2⟩
    have HT0:Hid (nL=1->t0=[]):=fun e=>by
     rw [Ad,hb0] at e;simpa using e
    clear hs3 hv3 hc hRR hgw Xb hsl hb0 jg7 Ad hbt;go_wp2_with fail
    (with_reducible refine LC.out.mono ?_)
    rintro e w3 ⟨v3,gD,rfl,hr3⟩;obtain ⟨at3,KY,KZ,rfl⟩:=hr3.SQ;have b3:=hr3.aP;have k3:=HK2.out.below b3;have d0:=k3.cell 0 _ rfl;have df:=nJ k3;have hT3:Rd (fun b=>b<w1.heap.size\/q+2<=b) w3 (aY li) [.slice at3 KY KZ]:=hr3.rd.weaken (fun b hb=>hb.imp id (fun h=>by have:=HZ2.out;omega));have hz3:=b3.size;have hT4:Rd (fun b=>b<w1.heap.size\/q+2<=b) (w3.setCell ⟨q+1,0,none⟩ (.slice at3 KY KZ)) (aY li) [.slice at3 KY KZ]:=Rd.keep (ok:=fun b=>b<w1.heap.size\/w2.heap.size<=b) (fun b hb hlt=>⟨hb.imp id (fun h=>by have:=HZ2.out;omega),jk2 w3 ⟨q+1,0,none⟩ _ b (by show b≠q+1;have:=HZ2.out;have:=HWQ.out;omega)⟩) _ _ hr3.rd;obtain ⟨w4,hw4⟩:∃ w4,w4=w3.setCell ⟨q+1,0,none⟩ (.slice at3 KY KZ):=⟨_,rfl⟩;clear hr3 LC c9;go_upto_region 9 with (fail)
    rw [<- hw4];have hK4:CB 50 (q+1) [.slice at3 KY KZ,.slice none 0 0] w4:=by rw [hw4];exact dG k3 0 _
    have k4:∀ b,b≠q+1->w4.heap[b]?=w3.heap[b]?:=fun b hb=>by rw [hw4];exact jk2 w3 ⟨q+1,0,none⟩ _ b hb
    have z4:w4.heap.size=w3.heap.size:=by rw [hw4];simp [jl2]
    have HTW:Hid (Rd (fun b=>b<w1.heap.size\/q+2<=b) w4 (aY li) [.slice at3 KY KZ]):=by show Rd _ _ _ _;rw [hw4];exact hT4
    have HKW:=hid hK4;have CJ:Hid (jmk wr.heap.size wr w4):=by have h:=HB2.out.trans (b3.mono HB2.out.size);show jmk _ _ _;rw [hw4];exact h.setCell (p:=⟨q+1,0,none⟩) (by show wr.heap.size<=q+1;have:=HQ.out;omega) _
    have Yb:Hid (q+2<=w4.heap.size):=by show _<=_;have:=HZ2.out;omega
    have HR4:Hid (nL≠1->Rd (·<w1.heap.size) w4 (iO t0) [.slice (some ⟨g,o+11,none⟩) (nL-1) (cl-1)]):=fun hne=>Rd.keep (fun b (hb:b<w1.heap.size) hlt=>⟨hb,(k4 b (by have:=HQ.out;have:=jb3.out.size;have:=HZ2.out;have:=HWQ.out;omega)).trans (b3.block b hlt)⟩) _ _ (HTL.out hne)
    obtain ⟨W,hW⟩:∃ W,W=w4:=⟨_,rfl⟩;rw [<- hW] at HTW HKW CJ Yb HR4 ⊢;have HST:Hid (jV x=⟨li,t0⟩):=HSL;have HSB:Hid (ah.aV t0<=900000/\ah.kV t0):=Lr;have Qe:Hid (nL=1->t0=[]):=HT0;clear hK4 hT3 hT4 k3 b3 hw4 k4 z4 d0 df HSL Lr HT0 hW;by_cases hcl:cl=1
    case' pos=>
     go_upto_region 10 with (fail)
     have hn1:nL=1:=by omega
     have OT:Hid (Rd (·<w1.heap.size) W (iO t0) [.slice (some ⟨g,o,none⟩) (nL-1) 0]):=by show Rd _ _ _ _;rw [Qe.out hn1,hn1];unfold iO Rd;exact ⟨_,0,[],rfl,by simp,Nat.zero_le _,aI.none,by simp,.inl rfl⟩
     generalize Value.slice (some ⟨g,o,none⟩) (nL-1) 0=ow at *;have Ya:=OT;clear hcl hn1 OT HR4 Qe HTL;generalize t0=sb at *;generalize li=st at *;clear e0 e1 hcap Xa W9
    case' neg=>
     have OT:Hid (Rd (·<w1.heap.size) W (iO t0) [.slice (some ⟨g,o+11,none⟩) (nL-1) (cl-1)]):=by
      show Rd _ _ _ _;by_cases hn1:nL=1
      ·rw [Qe.out hn1,hn1];unfold iO Rd;exact ⟨_,cl-1,[],rfl,by simp,by unfold maxLen;omega,aI.none,by simp,.inl rfl⟩
      ·exact HR4.out hn1
     go_upto_region 10 with (fail)
     generalize Value.slice (some ⟨g,o+11,none⟩) (nL-1) (cl-1)=ow at *;have Ya:=OT;clear hcl OT HR4 Qe HTL;generalize t0=sb at *;generalize li=st at *;clear e0 e1 hcap Xa W9
   all_goals
    have BC:=hid (KR _ sb (·<w1.heap.size) ow W (jj9 _) (by have:=HSB.out.1;omega) Ya.out (fun b (hb:b<w1.heap.size)=>by have:=HWQ.out;have:=Yb.out;omega) HSB.out.2);go_wp2_with fail
    (with_reducible refine BC.out.mono ?_)
    rintro e w5 ⟨v5,vD,rfl,RD⟩;obtain ⟨a5,n5,c5,rfl⟩:=RD.SQ;have b5:=RD.aP;have k5:=HKW.out.below b5;have d0:=k5.cell 0 _ rfl;have d1:=k5.cell 1 _ rfl;have df:=nJ k5;obtain ⟨w6,iJ⟩:∃ w6,w6=w5.setCell ⟨q+1,1,none⟩ (.slice a5 n5 c5):=⟨_,rfl⟩;have k6:CB 50 (q+1) [.slice at3 KY KZ,.slice a5 n5 c5] w6:=by rw [iJ];exact dG k5 1 _
    have Vh:w6.heap.size=w5.heap.size:=by rw [iJ];simp [jl2]
    have hb6:∀ b,b≠q+1->w6.heap[b]?=w5.heap[b]?:=fun b hb=>by rw [iJ];exact jk2 w5 ⟨q+1,1,none⟩ _ b hb
    have YA:jmk wr.heap.size wr w6:=by rw [iJ];exact (CJ.out.trans (b5.mono CJ.out.size)).setCell (p:=⟨q+1,1,none⟩) (by show wr.heap.size<=q+1;have:=HQ.out;omega) _
    have hS6:Rd (fun b=>b<w1.heap.size\/wr.heap.size<=b) w6 (jV x).d [.slice at3 KY KZ,.slice a5 n5 c5]:=by
     rw [HST.out];refine Sl.eu ⟨st,sb⟩ ?_ ?_
     ·exact Rd.keep (ok:=fun b=>b<w1.heap.size\/q+2<=b) (fun b hb hlt=>⟨hb.imp id (fun h=>by have:=HQ.out;omega),(hb6 b (by have:=HWQ.out;omega)).trans (b5.block b hlt)⟩) _ _ HTW.out
     ·exact Rd.keep (ok:=fun b=>b<w1.heap.size\/W.heap.size<=b) (fun b hb hlt=>⟨hb.imp id (fun h=>by have:=Yb.out;have:=HQ.out;omega),hb6 b (by have:=Yb.out;have:=HWQ.out;omega)⟩) _ _ RD.rd
    have HS6:=hid hS6;have HK6:=hid k6;have hR6:=HRW.out.below YA;have HR6:=hid hR6;have g0:=k6.cell 0 _ rfl;have g1:=k6.cell 1 _ rfl;clear RD b5 k5 k6 Vh hb6 YA hS6 hR6 BC HKW HTW Ya CJ Yb HSB;go_upto_region 11 with (fail)
    rw [<- iJ];clear iJ d0 d1 df;go_wp2_with (at_builtin;refine Sv (n:=nv) rfl _ _ 41 rfl iS _ 48 Tryz.underlying41 hiS U7 U8 U9 rfl (by decide) HR6.out (fun b hb=>hb) (jV x).d [.slice at3 KY KZ,.slice a5 n5 c5] HS6.out rfl (by intro u hu;simp at hu;rcases hu with rfl | rfl<;>rfl) TI.out (by omega) (by decide) rfl rfl ?_)
    intro a7 c7 w7 kJ Sr;have hf:Hu w1 P (.slice a7 (nv+1) c7) (.int .i64 ((k+1:Nat):Int)) w7:=by
     refine ⟨k+1,rows++[[.slice at3 KY KZ,.slice a5 n5 c5]],by have:=OQ.out;omega,rfl,?_⟩;have e:((P.take (k+1)).map jV).map Sl.d=List.take k (List.map (Sl.d ∘ jV) P)++[(jV x).d]:=by rw [List.take_add_one,HX.out];simp
     rw [e];exact kJ
    have HF:=hid hf;clear kJ Sr hf g0 g1;go_wp2;go_roundw;case rel=>exact HF.out
    case measure=>simp [intOf];omega
  ·have hkl:k=P.length:=by have:=OQ.out;omega
   have hrd:Rd (·<wr.heap.size) wr (.sl 2 ((P.map jV).map Sl.d)) [.slice av nv cv]:=by have h:=HRW.out.rd;rw [hkl,List.take_length] at h;exact Rd.keep (fun b _ hlt=>⟨hlt,rfl⟩) _ _ h
   have Fg:=hid hrd;have HBF:=hid (aR B1.out hbel);clear hkl hrd hbel;go_wp2;go_ret;exact ⟨_,rfl,Fg.out,HBF.out⟩
end Go.Proofs.YtkfnkeflalcphaaGreatDoor

