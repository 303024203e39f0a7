/- Contract of slides.parts. Contract of slides.Of. -/
import Derived.Test.YtclikfjalmcoaaaGreatDoorKHtR
set_option maxHeartbeats 8000000
set_option maxRecDepth 100000
open Go.Lib (hid)
namespace Go.Proofs.YtclikfjalmcoaaaGreatDoor
open List renaming setIfInBounds_toArray->ji3,set_cons_zero->ji4,set_cons_succ->ji5,length_map->jix,length_take->jl4
open Go.RowKit.Below renaming refl->ji7,heap_setCell->jj1
open Nat renaming le_refl->ji8
open Go.World renaming size_alloc->jj5,cell?->jk0,setCell->jk1
open Go.RowKit renaming Below->jlj
open Go.RowKit
set_option linter.unusedVariables false
set_option linter.unusedSimpArgs false
def WL (w:World) (L:List Pt) (e:Ending) (w':World):Prop:=∃ v,e=.returned v/\Rd (·<w'.heap.size) w' (.sl 2 (L.map Pt.d)) [v]/\jlj w.heap.size w w'
def Jy (w:World) (l:List ah) (vi:Value) (wr:World):Prop:=∃ k:Nat,k<=l.length/\vi=.int .i64 k/\fI (·<w.heap.size) w.heap.size wr.heap.size (lU (l.take k)) wr/\jlj w.heap.size w wr
theorem KY (l:List ah) (k:Nat) (x:ah) (h:l[k]?=some x):lU (l.take (k+1))=lT (lU (l.take k)) x:=by unfold lU;rw [List.take_add_one,h,List.foldl_append];rfl
theorem xK:∀ (l:List ah) (s:xU),(l.foldl lT s).all.length<=s.all.length+l.length/\(l.foldl lT s).op.bl.length<=s.op.bl.length+l.length
 | [],s=>⟨ji8 _,ji8 _⟩
 | x::l,s=>by
  have h:=xK l (lT s x);have h1:(lT s x).all.length<=s.all.length+1/\(lT s x).op.bl.length<=s.op.bl.length+1:=by
   unfold lT ji;split
   ·split
    ·split<;>simp
    ·split<;>simp
   ·simp
  rw [List.foldl_cons,List.length_cons];omega
theorem RJ (ok:Nat->Prop) (w:World):Rd ok w (ah.mk 0 0 ⟨#[]⟩ ⟨#[]⟩ ⟨#[]⟩ ⟨#[]⟩ ⟨⟨#[]⟩,[],[]⟩ [] []).d [.int .i64 0,.int .i64 0,.string ⟨#[]⟩,.string ⟨#[]⟩,.string ⟨#[]⟩,.string ⟨#[]⟩,.string ⟨#[]⟩,.slice none 0 0,.slice none 0 0,.slice none 0 0,.slice none 0 0]:=
 ah.eD 0 0 ⟨#[]⟩ ⟨#[]⟩ ⟨#[]⟩ ⟨#[]⟩ (a:=⟨⟨#[]⟩,[],[]⟩) ⟨⟨Rd.aF _ _ _,Rd.aF _ _ _⟩,Rd.aF _ _ _,Rd.aF _ _ _⟩
theorem OH:∀ u∈([.int .i64 0,.int .i64 0,.string ⟨#[]⟩,.string ⟨#[]⟩,.string ⟨#[]⟩,.string ⟨#[]⟩,.string ⟨#[]⟩,.slice none 0 0,.slice none 0 0,.slice none 0 0,.slice none 0 0]:List Value),u.oneCell'=true:=by intro u hu;simp at hu;rcases hu with rfl | rfl | rfl<;>rfl
theorem OI {ok:Nat->Prop} {p M UA g n c:Nat} {al:List Pt} {ti:Bool} {bl:List ah} {x:ah} {w w5 wA wO:World} {rA rO:List (List Value)} {va vo:Value} {r0 r1:List Value} {d0:D} (hok:∀ b,ok b->b<p) (h1:wA.heap.size=p+3) (h2:UA<=wO.heap.size) (h3:ay 103 2 ok UA wA (al.map Pt.d) rA va w) (hO:ay 30 11 ok M wO (bl.map ah.d) rO vo w) (h5:aI p va 100 w) (h6:CB 103 (p+1) [.bool ti,vo] w) (h7:aI (p+2) (.bool true) 4 w) (hn:(bl.map ah.d).length=n) (hr:ay 30 11 ok w5.heap.size wO (bl.map ah.d++[d0]) (rO++[r0]) (.slice (some ⟨g,0,none⟩) (n+1) c) w5) (hl:r1.length=11) (hk:∀ b,b<w.heap.size->vo.ownBlock≠some b->w5.heap[b]?=w.heap[b]?) (hs:w.heap.size<=w5.heap.size) (ho:w5.os=w.os/\w5.tape=w.tape/\w5.output=w.output) (hat:vo.ownBlock=some g\/w.heap.size<=g) (hx:Rd ok w5 x.d r1) : fI ok p w5.heap.size ⟨al,⟨ti,bl++[x]⟩,true⟩ ((om w5 g (n*11) r1).setCell ⟨p+1,1,none⟩ (.slice (some ⟨g,0,none⟩) (n+1) c))/\jlj p w ((om w5 g (n*11) r1).setCell ⟨p+1,1,none⟩ (.slice (some ⟨g,0,none⟩) (n+1) c)):=by
 have a0:=h3.og;have a1:=h3.xR;have o0:=hO.og;have CJ:∀ b,vo.ownBlock=some b->wO.heap.size<=b:=fun b e=>(hO.own.lt b e).1
 have hg:UA<=g:=by
  rcases hat with h | h
  ·have:=CJ g h;omega
  ·omega
 have hr1:=hr.jdq hn hl (d1:=x.d) (Rd.keep (fun b hb hlt=>⟨⟨.inl hb,by have:=hok b hb;omega,by omega⟩,rfl⟩) _ _ hx);obtain ⟨w6,jB⟩:∃ w6,w6=om w5 g (n*11) r1:=⟨_,rfl⟩;have k6:∀ b,b≠g->w6.heap[b]?=w5.heap[b]?:=fun b hb=>by rw [jB];exact gX g _ _ _ b hb
 have z6:w6.heap.size=w5.heap.size:=by rw [jB];exact oQ g _ _ _
 have s6:=xC g r1 (n*11) w5;rw [<- jB] at hr1 s6 ⊢;clear jB;have kA:∀ b,b<UA->w6.heap[b]?=w.heap[b]?:=fun b hb=>(k6 b (by omega)).trans (hk b (by omega) (fun e=>by have:=CJ b e;omega))
 have r3:=h3.same (w':=w6) (by omega) ⟨s6.1.trans ho.1,s6.2.1.trans ho.2.1,s6.2.2.trans ho.2.2⟩ kA;have k7:∀ b,b≠p+1->(w6.setCell ⟨p+1,1,none⟩ (.slice (some ⟨g,0,none⟩) (n+1) c)).heap[b]?=w6.heap[b]?:=fun b hb=>jj1 _ ⟨p+1,1,none⟩ _ b hb
 have g7:w6.grownBy (w6.setCell ⟨p+1,1,none⟩ (.slice (some ⟨g,0,none⟩) (n+1) c)) (some (p+1)):=⟨rfl,rfl,rfl,by simp [jk1],fun b _ hb=>k7 b (fun e=>hb (by rw [e]))⟩;obtain ⟨Qo,e2,r2⟩:=r3.yH (p:=p+1) (by omega) (fun h=>by have:=hok _ h;omega) g7;obtain ⟨YD,e3,rO2⟩:=hr1.yH (p:=p+1) (by omega) (fun h=>by have:=hok _ h;omega) g7;refine ⟨⟨UA,Qo,YD,rA,rO++[r1],va,_,by omega,by omega,r2,by rw [List.map_append];exact rO2,(k7 p (by omega)).trans ((kA p (by omega)).trans h5),?_,(k7 (p+2) (by omega)).trans ((kA (p+2) (by omega)).trans h7),fun e=>by simp at e⟩,?_⟩
 ·have c6:CB 103 (p+1) [.bool ti,vo] w6:=(kA (p+1) (by omega)).trans h6;exact dF c6 1 _
 ·exact ⟨g7.os.trans (s6.1.trans ho.1),g7.tape.trans (s6.2.1.trans ho.2.1),g7.output.trans (s6.2.2.trans ho.2.2),by have:=g7.size;omega,fun b hb=>(k7 b (by omega)).trans (kA b (by omega))⟩
theorem Ah (l:List ah) (v:Value) (w:World) (h:Rd (·<w.heap.size) w (jg l) [v]) (hl:l.length<=1000000) : Calls Tryz.prog 73 #[v] w (WL w (dY l)):=by
 obtain ⟨a,cap,hv,hs⟩:=Rd.aG h;obtain ⟨nL,uy⟩:∃ nL,nL=l.length:=⟨_,rfl⟩;obtain rfl:v=.slice a nL cap:=by rw [uy];simpa using hv
 have hcap:nL<=cap:=by rw [uy];simpa using hs.le
 have hmx:=hs.max;unfold maxLen at hmx;obtain ⟨iB,Ei,jf8,jf9,Qi⟩:=info_parts Oc;obtain ⟨p,hp⟩:∃ p,p=w.heap.size:=⟨_,rfl⟩;obtain ⟨w3,hw3⟩:∃ w3,w3=((w.alloc (.cells #[.slice none 0 0] 100)).alloc (.cells #[.bool false,.slice none 0 0] 103)).alloc (.cells #[.bool false] 4):=⟨_,rfl⟩;have z1:(w.alloc (.cells #[.slice none 0 0] 100)).heap.size=p+1:=by rw [jj5,hp]
 have z2:((w.alloc (.cells #[.slice none 0 0] 100)).alloc (.cells #[.bool false,.slice none 0 0] 103)).heap.size=p+2:=by rw [jj5,z1]
 have z3:w3.heap.size=p+3:=by rw [hw3,jj5,z2]
 have K1:aI p (.slice none 0 0) 100 w3:=by have h:=aI.new w (.slice none 0 0) 100;rw [<- hp] at h;rw [hw3];exact (h.alloc _).alloc _
 have K2:CB 103 (p+1) [.bool false,.slice none 0 0] w3:=by have h:=CB.new 103 [.bool false,.slice none 0 0] (w.alloc (.cells #[.slice none 0 0] 100));rw [z1] at h;rw [hw3];exact h.below ((ji7 _ _).alloc (ji8 _) _)
 have K3:aI (p+2) (.bool false) 4 w3:=by have h:=aI.new ((w.alloc (.cells #[.slice none 0 0] 100)).alloc (.cells #[.bool false,.slice none 0 0] 103)) (.bool false) 4;rw [z2] at h;rw [hw3];exact h
 have B3:jlj w.heap.size w w3:=by rw [hw3];exact (((ji7 _ w).alloc (ji8 _) _).alloc (by omega) _).alloc (by omega) _
 have P0:fI (·<w.heap.size) w.heap.size w3.heap.size (lU (l.take 0)) w3:=by rw [<- hp];exact ⟨w3.heap.size,w3,w3,[],[],.slice none 0 0,.slice none 0 0,z3,ji8 _,ay.nil _ _ _ _,ay.nil _ _ _ _,K1,K2,K3,fun _=>rfl⟩
 have R0:Hid (Jy w l (.int .i64 0) w3):=⟨0,Nat.zero_le _,rfl,P0,B3⟩;have HS:=hid hs;have qJ:=hid uy;have HP:=hid hp;have HLm:=hid hl;clear h hv hs uy hl z1 z2 z3 K1 K2 K3 B3 P0 hp;go_enter Tryz.func73,Tryz.ntmps73;go_upto_region 6 with (fail)
 rw [<- HP.out];try rw [<- hw3]
 clear hw3;go_wp2
 go_loopw [14] (fun vi wr=>Jy w l vi wr) (fun i _=>nL-(intOf i).toNat)
 case atStart=>exact R0.out
 case round=>
  clear R0;obtain ⟨k,hk,rfl,hP,hB⟩:=hrel;obtain ⟨s,hsD⟩:∃ s,s=lU (l.take k):=⟨_,rfl⟩;rw [<- hsD] at hP;have hlen:=xK (l.take k) qR;rw [show List.foldl lT qR (l.take k)=lU (l.take k) from rfl,<- hsD,jl4] at hlen;have HSD:=hid hsD;have hal:s.all.length<=1000000/\s.op.bl.length<=1000000:=by have h1:qR.all.length=0/\qR.op.bl.length=0:=⟨rfl,rfl⟩;have:=HLm.out;omega
  have UG:=hid hal;clear hsD hlen hal;by_cases hlt:k<nL
  ·obtain ⟨x,hx⟩:∃ x,l[k]?=some x:=⟨_,List.getElem?_eq_getElem (by have:=qJ.out;omega)⟩;have hst:=KY l k x hx;rw [<- HSD.out] at hst;have Ru:=hid hst;obtain ⟨X,Lm⟩:∃ X,X=x:=⟨_,rfl⟩;obtain ⟨kd,lv,i,t,d,ti,at_,li,ks⟩:=x;obtain ⟨g,off,vc,vp,vl,vk,rfl,-,hgw,hc,hRR⟩:=eP HS.out hx;obtain ⟨ac,nc,cc,rfl⟩:=Rd.au hRR.at_.cls
   obtain ⟨ap,np,cp,rfl⟩:=Rd.au hRR.at_.aR
   obtain ⟨al,nl,cl,rfl⟩:=Rd.au hRR.line;obtain ⟨ak,nk,ck,rfl⟩:=Rd.au hRR.kids;have hXr:Rd (·<w.heap.size) w X.d [.int .i64 kd,.int .i64 lv,.string i,.string t,.string d,.string ti,.string at_.id,.slice ac nc cc,.slice ap np cp,.slice al nl cl,.slice ak nk ck]:=by rw [Lm];exact ah.eD kd lv i t d ti hRR
   have c0:wr.cell? ⟨g,off+k*11,none⟩=some (.int .i64 kd):=(hB.cell (p:=⟨_,_,none⟩) hgw).trans hc.c0;have c1:wr.cell? ⟨g,off+k*11+1,none⟩=some (.int .i64 lv):=(hB.cell (p:=⟨_,_,none⟩) hgw).trans hc.c1;have c2:wr.cell? ⟨g,off+k*11+2,none⟩=some (.string i):=(hB.cell (p:=⟨_,_,none⟩) hgw).trans hc.c2;have c3:wr.cell? ⟨g,off+k*11+3,none⟩=some (.string t):=(hB.cell (p:=⟨_,_,none⟩) hgw).trans hc.c3;have c4:wr.cell? ⟨g,off+k*11+4,none⟩=some (.string d):=(hB.cell (p:=⟨_,_,none⟩) hgw).trans hc.c4;have c5:wr.cell? ⟨g,off+k*11+5,none⟩=some (.string ti):=(hB.cell (p:=⟨_,_,none⟩) hgw).trans hc.c5;have c6:wr.cell? ⟨g,off+k*11+6,none⟩=some (.string at_.id):=(hB.cell (p:=⟨_,_,none⟩) hgw).trans hc.c6;have c7:wr.cell? ⟨g,off+k*11+7,none⟩=some (.slice ac nc cc):=(hB.cell (p:=⟨_,_,none⟩) hgw).trans hc.c7;have c8:wr.cell? ⟨g,off+k*11+8,none⟩=some (.slice ap np cp):=(hB.cell (p:=⟨_,_,none⟩) hgw).trans hc.c8;have c9:wr.cell? ⟨g,off+k*11+9,none⟩=some (.slice al nl cl):=(hB.cell (p:=⟨_,_,none⟩) hgw).trans hc.c9;have c10:wr.cell? ⟨g,off+k*11+10,none⟩=some (.slice ak nk ck):=(hB.cell (p:=⟨_,_,none⟩) hgw).trans hc.c10;obtain ⟨q,hq⟩:∃ q,q=wr.heap.size:=⟨_,rfl⟩;obtain ⟨w4,hw4⟩:∃ w4,w4=wr.alloc (.cells #[.int .i64 kd,.int .i64 lv,.string i,.string t,.string d,.string ti,.string at_.id,.slice ac nc cc,.slice ap np cp,.slice al nl cl,.slice ak nk ck] 30):=⟨_,rfl⟩;have k4:CB 30 q [.int .i64 kd,.int .i64 lv,.string i,.string t,.string d,.string ti,.string at_.id,.slice ac nc cc,.slice ap np cp,.slice al nl cl,.slice ak nk ck] w4:=by rw [hw4,hq];exact CB.new _ _ _
   have b4:jlj wr.heap.size wr w4:=by rw [hw4];exact (ji7 _ _).alloc (ji8 _) _
   have Ue:=hP.below b4;have hB4:=aZ hB b4;have hzq:w4.heap.size=q+1:=by rw [hw4,jj5,hq]
   obtain ⟨bb,hbb⟩:∃ bb,bB kd lv=bb:=⟨_,rfl⟩;obtain ⟨tt,htt⟩:∃ tt,tB kd lv=tt:=⟨_,rfl⟩;have BC:=F9 kd lv i t d ti at_.id ac ap al ak nc cc np cp nl cl nk ck w4
   rw [hbb] at BC;have uX:=hid BC;have TCX:Hid (∀ W:World,Calls Tryz.prog 121 #[.agg #[.int .i64 kd,.int .i64 lv,.string i,.string t,.string d,.string ti,.string at_.id,.slice ac nc cc,.slice ap np cp,.slice al nl cl,.slice ak nk ck]] W (dS (.bool tt) W)):=fun W=>by
    rw [<- htt];exact zC kd lv i t d ti at_.id ac ap al ak nc cc np cp nl cl nk ck W
   have xQ:=hid (show tK X=bb by rw [Lm,Qn];exact hbb);have HTT:=hid (show tJ X=tt by rw [Lm,Qm];exact htt);rw [<- Lm] at Ru;have HXR:=hid hXr;have HQ:=hid hq;have Vm:=hid Ue;have ja8:=hid hP.sz;have Az:=hid hB4;have HZQ:=hid hzq;have e0:=k4.cell 0 _ rfl;have e1:=k4.cell 1 _ rfl;have e2:=k4.cell 2 _ rfl;have e3:=k4.cell 3 _ rfl;have e4:=k4.cell 4 _ rfl;have e5:=k4.cell 5 _ rfl;have e6:=k4.cell 6 _ rfl;have e7:=k4.cell 7 _ rfl;have e8:=k4.cell 8 _ rfl;have e9:=k4.cell 9 _ rfl;have e10:=k4.cell 10 _ rfl;have HK4:=hid k4;clear hx hst Lm hc hRR hXr hP hB k4 b4 Ue hB4 hzq hbb htt BC hgw hq;go_upto_region 9 with (fail)
   rw [<- hw4,<- HQ.out];clear hw4 c0 c1 c2 c3 c4 c5 c6 c7 c8 c9 c10;go_wp2_with fail
   (with_reducible refine uX.out.mono ?_)
   rintro e w5 ⟨rfl,b5⟩;have XI:=hid (Vm.out.below b5);have yw:=hid (aZ Az.out b5);have HK5:=hid (HK4.out.below b5);have HZ5:=hid b5.size;clear b5 Vm uX e0 e1 e2 e3 e4 e5 e6 e7 e8 e9 e10;obtain ⟨aL,⟨ot,ob⟩,sm⟩:=s;cases bb
   case' true=>
    have FC:Hid (Calls Tryz.prog 122 #[.pointer (some ⟨p+1+1,0,none⟩),.pointer (some ⟨p,0,none⟩),.pointer (some ⟨p+1,0,none⟩)] w5 (qL (·<w.heap.size) p wr.heap.size (ji ⟨aL,⟨ot,ob⟩,sm⟩) w5)):=(vH (·<w.heap.size) p wr.heap.size ⟨aL,⟨ot,ob⟩,sm⟩ w5 (fun b hb=>by have:=HP.out;show b<p;omega) (by rw [HP.out];exact XI.out) (by have:=UG.out.1;show aL.length<=_;have:aL.length<=1000000:=this;omega));go_wp2_with fail
    (with_reducible refine FC.out.mono ?_)
    rintro e w6 ⟨rfl,WM,b6,k6⟩;have b6:jlj w.heap.size w5 w6:=by rw [HP.out] at b6;exact b6
    have HB6:=hid (yw.out.trans b6);have Vg:w4.heap.size<=w6.heap.size:=by have:=b6.size;have:=HZ5.out;omega
    have KZ:CB 30 q [.int .i64 kd,.int .i64 lv,.string i,.string t,.string d,.string ti,.string at_.id,.slice ac nc cc,.slice ap np cp,.slice al nl cl,.slice ak nk ck] w6:=(k6 q (by have:=HQ.out;omega) (by have:=HZQ.out;have:=HZ5.out;omega)).trans HK5.out;have e0:=KZ.cell 0 _ rfl;have e1:=KZ.cell 1 _ rfl;have e2:=KZ.cell 2 _ rfl;have e3:=KZ.cell 3 _ rfl;have e4:=KZ.cell 4 _ rfl;have e5:=KZ.cell 5 _ rfl;have e6:=KZ.cell 6 _ rfl;have e7:=KZ.cell 7 _ rfl;have e8:=KZ.cell 8 _ rfl;have e9:=KZ.cell 9 _ rfl;have e10:=KZ.cell 10 _ rfl;have HK6:=hid KZ;have TC:=hid (TCX.out w6);have HP6:=hid WM;have HZ6:=hid Vg;clear WM b6 k6 FC KZ Vg;go_wp2_with fail
    (with_reducible refine TC.out.mono ?_)
    rintro e w7 ⟨rfl,b7⟩;have hP7:=HP6.out.below b7;have hK7:=HK6.out.below b7;have Vh:=aZ HB6.out b7;have hP8:=fI.YC (fun b hb=>by have:=HP.out;show b<p;omega) hP7 tt;obtain ⟨vo,Pv,hfz⟩:=hP7.opc;have jfj:=hP7.sz;have d0:=Pv.cell 0 _ rfl;have df:=nD Pv;have hqp:q≠p+1:=by have:=ja8.out;have:=HQ.out;have:=HP.out;omega
    obtain ⟨w8,hw8⟩:∃ w8,w8=w7.setCell ⟨p+1,0,none⟩ (.bool tt):=⟨_,rfl⟩;have hK8:CB 30 q [.int .i64 kd,.int .i64 lv,.string i,.string t,.string d,.string ti,.string at_.id,.slice ac nc cc,.slice ap np cp,.slice al nl cl,.slice ak nk ck] w8:=by rw [hw8];exact (jj1 w7 ⟨p+1,0,none⟩ _ q hqp).trans hK7
    have hB8:jlj w.heap.size w w8:=by rw [hw8];exact Vh.setCell (p:=⟨p+1,0,none⟩) (by show w.heap.size<=p+1;have:=HP.out;omega) _
    have d8:w8.cell? ⟨p+1,0,none⟩=some (.bool tt):=by rw [hw8];exact (dF Pv 0 _).cell 0 _ rfl
    rw [<- hw8] at hP8;have HP8:=hid hP8;have HK8:=hid hK8;have HB8:=hid hB8;have hs8:w8.heap.size=w7.heap.size:=by rw [hw8];simp [jk1]
    have HS8:=hid (show w4.heap.size<=w8.heap.size by have:=b7.size;have:=HZ6.out;omega);clear hP7 hK7 Vh hP8 hK8 hB8 hqp Pv hfz b7 HP6 HK6 TC hs8 jfj e0 e1 e2 e3 e4 e5 e6 e7 e8 e9 e10;go_upto_region 12 with (fail)
    rw [<- hw8];clear hw8 d0 df;cases tt
    case false=>
     have HR:Hid (Jy w l (.int .i64 ((k+1:Nat):Int)) w8):=⟨k+1,by have:=qJ.out;omega,rfl,by
      have e:lU (l.take (k+1))=⟨(ji ⟨aL,⟨ot,ob⟩,sm⟩).all,⟨false,[]⟩,true⟩:=by rw [Ru.out];unfold lT;rw [if_pos xQ.out,if_neg (by rw [HTT.out];simp)]
      rw [e];have h:=HP8.out.top;rw [HP.out] at h;exact h,HB8.out⟩
     go_wp2;go_roundw;case rel=>exact HR.out
     case measure=>simp [intOf];omega
    case' true=>
     have HST:Hid (lT ⟨aL,⟨ot,ob⟩,sm⟩ X=⟨(ji ⟨aL,⟨ot,ob⟩,sm⟩).all,⟨true,[]++[X]⟩,true⟩):=by show _=_;unfold lT;rw [if_pos xQ.out,if_pos HTT.out];rfl
     obtain ⟨PI,Hu⟩:∃ PI,PI=(ji ⟨aL,⟨ot,ob⟩,sm⟩).all:=⟨_,rfl⟩;obtain ⟨Hw,yY⟩:∃ Hw:List ah,Hw=[]:=⟨_,rfl⟩;obtain ⟨ti1,Hy⟩:∃ t:Bool,t=true:=⟨_,rfl⟩;obtain ⟨sm1,OJ⟩:∃ t:Bool,t=true:=⟨_,rfl⟩;obtain ⟨M9,XJ⟩:∃ M9,M9=w6.heap.size:=⟨_,rfl⟩;obtain ⟨w9,bT⟩:∃ w9,w9=w8:=⟨_,rfl⟩;have HPI:Hid (fI (·<w.heap.size) p M9 ⟨PI,⟨ti1,Hw⟩,sm1⟩ w9):=by show fI _ _ _ _ _;rw [Hu,yY,Hy,OJ,XJ,bT];exact HP8.out
     have yF:Hid (lT ⟨aL,⟨ot,ob⟩,sm⟩ X=⟨PI,⟨ti1,Hw++[X]⟩,true⟩):=by show _=_;rw [HST.out,Hu,yY,Hy]
     have Pm:Hid (Hw.length<=2000000):=by show _<=_;rw [yY];simp
     have HOQ:Hid (Hw=[]\/M9<=q):=.inl yY;have Yy:Hid (CB 30 q [.int .i64 kd,.int .i64 lv,.string i,.string t,.string d,.string ti,.string at_.id,.slice ac nc cc,.slice ap np cp,.slice al nl cl,.slice ak nk ck] w9):=by show CB _ _ _ _;rw [bT];exact HK8.out
     have Ot:Hid (jlj w.heap.size w w9):=by show jlj _ _ _;rw [bT];exact HB8.out
     clear Hu yY Hy OJ XJ HP8 HK8 HB8 HS8 XI yw HK5 HZ5 HB6 HZ6 HST;go_upto_region 13 with (fail)
     rw [<- bT];clear bT d8
   case' false=>
    have yF:Hid (lT ⟨aL,⟨ot,ob⟩,sm⟩ X=⟨aL,⟨ot,ob++[X]⟩,true⟩):=by show _=_;unfold lT;rw [if_neg (by rw [xQ.out];simp)]
    obtain ⟨PI,Hu⟩:∃ PI,PI=aL:=⟨_,rfl⟩;obtain ⟨Hw,yY⟩:∃ Hw:List ah,Hw=ob:=⟨_,rfl⟩;obtain ⟨ti1,Hy⟩:∃ t:Bool,t=ot:=⟨_,rfl⟩;obtain ⟨sm1,OJ⟩:∃ t:Bool,t=sm:=⟨_,rfl⟩;obtain ⟨M9,XJ⟩:∃ M9,M9=wr.heap.size:=⟨_,rfl⟩;obtain ⟨w9,bT⟩:∃ w9,w9=w5:=⟨_,rfl⟩;have HPI:Hid (fI (·<w.heap.size) p M9 ⟨PI,⟨ti1,Hw⟩,sm1⟩ w9):=by show fI _ _ _ _ _;rw [Hu,yY,Hy,OJ,XJ,bT,HP.out];exact XI.out
    have yF:Hid (lT ⟨aL,⟨ot,ob⟩,sm⟩ X=⟨PI,⟨ti1,Hw++[X]⟩,true⟩):=by show _=_;rw [yF.out,Hu,yY,Hy]
    have Pm:Hid (Hw.length<=2000000):=by show _<=_;rw [yY];have h1:ob.length<=1000000:=UG.out.2;omega
    have HOQ:Hid (Hw=[]\/M9<=q):=.inr (by rw [XJ,HQ.out];exact ji8 _);have Yy:Hid (CB 30 q [.int .i64 kd,.int .i64 lv,.string i,.string t,.string d,.string ti,.string at_.id,.slice ac nc cc,.slice ap np cp,.slice al nl cl,.slice ak nk ck] w9):=by show CB _ _ _ _;rw [bT];exact HK5.out
    have Ot:Hid (jlj w.heap.size w w9):=by show jlj _ _ _;rw [bT];exact yw.out
    clear Hu yY Hy OJ XJ XI yw HK5 HZ5;go_upto_region 13 with (fail)
    rw [<- bT];clear bT
   all_goals
    have jfk:w9.cell? ⟨p+1+1,0,none⟩=some (.bool sm1):=HPI.out.smc.cell;have jfq:w9.frozen? ⟨p+1+1,0,none⟩=false:=HPI.out.smc.free;have WO:=fI.setSm (fun b hb=>by have:=HP.out;show b<p;omega) HPI.out true;obtain ⟨rJ,K5⟩:∃ rJ,rJ=w9.setCell ⟨p+1+1,0,none⟩ (.bool true):=⟨_,rfl⟩;have WO:fI (·<w.heap.size) p M9 ⟨PI,⟨ti1,Hw⟩,true⟩ rJ:=by rw [K5];exact WO
    have hsz:=ja8.out;have hqw:q<rJ.heap.size:=by rw [K5];simp [jk1];exact Yy.out.lt
    have rM:CB 30 q [.int .i64 kd,.int .i64 lv,.string i,.string t,.string d,.string ti,.string at_.id,.slice ac nc cc,.slice ap np cp,.slice al nl cl,.slice ak nk ck] rJ:=by rw [K5];exact (jj1 w9 ⟨p+1+1,0,none⟩ _ q (by show q≠p+1+1;have:=HP.out;have:=HQ.out;omega)).trans Yy.out
    have ja9:jlj w.heap.size w rJ:=by rw [K5];exact Ot.out.setCell (p:=⟨p+1+1,0,none⟩) (by show w.heap.size<=p+1+1;have:=HP.out;omega) _
    obtain ⟨UA,wA,wO,rA,rO,va,vo,h1,h2,h3,h4,h5,h6,h7,h8⟩:=WO;dsimp only at h3 h4 h6 h7 h8;obtain ⟨mo,hmo⟩:∃ mo,mo=(Hw.map ah.d).length:=⟨_,rfl⟩;obtain ⟨ao,co,rfl,hco,hcom⟩:=h4.cap hmo.symm;have ji2:mo<=2000000:=by rw [hmo,jix];exact Pm.out
    unfold maxLen at hcom;have hov:∀ g,(Value.slice ao mo co).ownBlock=some g->g<q/\p+3<=g:=fun g hg=>by
     have e1:=(h4.own.lt g hg).1;have e2:=h4.oU g hg;have e3:=h3.og;refine ⟨?_,by omega⟩;rcases HOQ.out with e | e
     ·have:=h8 e;rw [this] at hg;cases hg
     ·omega
    have S0:jk0 rJ.drew ⟨p+1,1,none⟩=some (.slice ao mo co)/\jk0 rJ.drew ⟨q,0,none⟩=some (.int .i64 kd)/\jk0 rJ.drew ⟨q,1,none⟩=some (.int .i64 lv)/\jk0 rJ.drew ⟨q,2,none⟩=some (.string i)/\jk0 rJ.drew ⟨q,3,none⟩=some (.string t)/\jk0 rJ.drew ⟨q,4,none⟩=some (.string d)/\jk0 rJ.drew ⟨q,5,none⟩=some (.string ti)/\jk0 rJ.drew ⟨q,6,none⟩=some (.string at_.id)/\jk0 rJ.drew ⟨q,7,none⟩=some (.slice ac nc cc)/\jk0 rJ.drew ⟨q,8,none⟩=some (.slice ap np cp)/\jk0 rJ.drew ⟨q,9,none⟩=some (.slice al nl cl)/\jk0 rJ.drew ⟨q,10,none⟩=some (.slice ak nk ck):=⟨h6.cell 1 _ rfl,rM.cell 0 _ rfl,rM.cell 1 _ rfl,rM.cell 2 _ rfl,rM.cell 3 _ rfl,rM.cell 4 _ rfl,rM.cell 5 _ rfl,rM.cell 6 _ rfl,rM.cell 7 _ rfl,rM.cell 8 _ rfl,rM.cell 9 _ rfl,rM.cell 10 _ rfl⟩;have xS:=hid hov;have H1:=hid h1;have H2:=hid h2;have H3:=hid h3;have H4:=hid h4;have H5:=hid h5;have H6:=hid h6;have H7:=hid h7;have HMO:=hid hmo.symm;have jfx:=hid rM;have WQ:=hid ja9;have U10:=hid h4.top.drew;have HQW:=hid hqw;have jfz:p+1<rJ.heap.size:=h6.lt;clear hov h1 h2 h3 h4 h5 h6 h7 h8 hmo rM ja9 Yy Ot HPI HOQ Pm hsz hqw;go_upto_region 14 with (fail)
    rw [<- K5];clear K5 jfk jfq;refine SH 9 (fun w'=>w'.cell? ⟨p+1,1,none⟩=some (.slice ao mo co)/\w'.cell? ⟨q,0,none⟩=some (.int .i64 kd)/\w'.cell? ⟨q,1,none⟩=some (.int .i64 lv)/\w'.cell? ⟨q,2,none⟩=some (.string i)/\w'.cell? ⟨q,3,none⟩=some (.string t)/\w'.cell? ⟨q,4,none⟩=some (.string d)/\w'.cell? ⟨q,5,none⟩=some (.string ti)/\w'.cell? ⟨q,6,none⟩=some (.string at_.id)/\w'.cell? ⟨q,7,none⟩=some (.slice ac nc cc)/\w'.cell? ⟨q,8,none⟩=some (.slice ap np cp)/\w'.cell? ⟨q,9,none⟩=some (.slice al nl cl)/\w'.cell? ⟨q,10,none⟩=some (.slice ak nk ck)) (by kernel_rfl) S0 ?_;intro hH;refine kT 0 (v:=?_) rfl (by kernel_rfl) hH (by rfl) ?_ ?_;rotate_left
    ·(intro wv hSw;(try dsimp only at hSw);go_simp;try with_reducible rfl)
    try simp only [Act.put,ji3,ji4,ji5]
    refine kT 1 (v:=?_) rfl (by kernel_rfl) hH (by rfl) ?_ ?_;rotate_left
    ·(intro wv hSw;(try dsimp only at hSw);go_simp;try with_reducible rfl)
    try simp only [Act.put,ji3,ji4,ji5]
    refine kT 2 (v:=?_) rfl (by kernel_rfl) hH (by rfl) ?_ ?_;rotate_left
    ·(intro wv hSw;(try dsimp only at hSw);go_simp;try with_reducible rfl)
    try simp only [Act.put,ji3,ji4,ji5]
    refine kT 3 (v:=?_) rfl (by kernel_rfl) hH (by rfl) ?_ ?_;rotate_left
    ·(intro wv hSw;(try dsimp only at hSw);go_simp;try with_reducible rfl)
    try simp only [Act.put,ji3,ji4,ji5]
    refine q01 (i:=4) rfl (by kernel_rfl) (fun KQ hK=>?_);go_simp;refine hK.out _ _ (fun _ _=>⟨past S0.1 _,past S0.2.1 _,past S0.2.2.1 _,past S0.2.2.2.1 _,past S0.2.2.2.2.1 _,past S0.2.2.2.2.2.1 _,past S0.2.2.2.2.2.2.1 _,past S0.2.2.2.2.2.2.2.1 _,past S0.2.2.2.2.2.2.2.2.1 _,past S0.2.2.2.2.2.2.2.2.2.1 _,past S0.2.2.2.2.2.2.2.2.2.2.1 _,past S0.2.2.2.2.2.2.2.2.2.2.2 _⟩) (fun hH2=>?_);clear hK KQ hH;have hH:=hH2 (by decide) (by kernel_rfl);clear hH2;try simp only [Act.put,ji3,ji4,ji5]
    refine q01 (i:=5) rfl (by kernel_rfl) (fun KQ hK=>?_);refine zy rfl (.tmp 31) (.tmp 34) 28 rfl iB _ 192 Tryz.underlying28 Ei jf8 jf9 Qi rfl (by decide) U10.out (fun b hb=>by have:=HP.out;have:=H3.out.og;have:=H2.out;have:=H1.out;show b<_;have:b<w.heap.size:=hb;omega) (ah.mk 0 0 ⟨#[]⟩ ⟨#[]⟩ ⟨#[]⟩ ⟨#[]⟩ ⟨⟨#[]⟩,[],[]⟩ [] []).d [.int .i64 0,.int .i64 0,.string ⟨#[]⟩,.string ⟨#[]⟩,.string ⟨#[]⟩,.string ⟨#[]⟩,.string ⟨#[]⟩,.slice none 0 0,.slice none 0 0,.slice none 0 0,.slice none 0 0] (RJ _ _) rfl OH HMO.out (by omega) (by decide) rfl rfl ?_;intro g5 c5 w5 bS hg5 A9 Ih;have hz5:rJ.heap.size+1<=w5.heap.size:=by have:=hg5.size;simp at this;exact this
    have Zr:g5≠q/\p+3<=g5:=by
     have hz9:rJ.drew.heap.size=rJ.heap.size:=rfl;have e5:=HQW.out;rcases A9 with h | h
     ·have:=xS.out g5 h;omega
     ·exact ⟨by omega,by have:=H1.out;have:=H3.out.og;have:=H3.out.xR;omega⟩
    have yG:∀ b,b=p+1\/b=q->some b≠(Value.slice ao mo co).ownBlock:=fun b hb e=>by
     have:=xS.out b e.symm;omega
    have jg0:=HQW.out;have hk5:∀ b,b<rJ.heap.size->(Value.slice ao mo co).ownBlock≠some b->w5.heap[b]?=rJ.heap[b]?:=fun b hb e=>(hg5.block b (by simp;omega) (fun e'=>e e'.symm)).trans (Below.heap_alloc rJ _ b hb)
    have K7:CB 30 q [.int .i64 kd,.int .i64 lv,.string i,.string t,.string d,.string ti,.string at_.id,.slice ac nc cc,.slice ap np cp,.slice al nl cl,.slice ak nk ck] w5:=(hk5 q jg0 (fun e=>yG q (.inr rfl) e.symm)).trans jfx.out;have kp5:CB 103 (p+1) [.bool ti1,.slice ao mo co] w5:=(hk5 (p+1) jfz (fun e=>yG (p+1) (.inl rfl) e.symm)).trans H6.out;have S5:jk0 w5 ⟨p+1,1,none⟩=some (.slice ao mo co)/\jk0 w5 ⟨q,0,none⟩=some (.int .i64 kd)/\jk0 w5 ⟨q,1,none⟩=some (.int .i64 lv)/\jk0 w5 ⟨q,2,none⟩=some (.string i)/\jk0 w5 ⟨q,3,none⟩=some (.string t)/\jk0 w5 ⟨q,4,none⟩=some (.string d)/\jk0 w5 ⟨q,5,none⟩=some (.string ti)/\jk0 w5 ⟨q,6,none⟩=some (.string at_.id)/\jk0 w5 ⟨q,7,none⟩=some (.slice ac nc cc)/\jk0 w5 ⟨q,8,none⟩=some (.slice ap np cp)/\jk0 w5 ⟨q,9,none⟩=some (.slice al nl cl)/\jk0 w5 ⟨q,10,none⟩=some (.slice ak nk ck):=⟨kp5.cell 1 _ rfl,K7.cell 0 _ rfl,K7.cell 1 _ rfl,K7.cell 2 _ rfl,K7.cell 3 _ rfl,K7.cell 4 _ rfl,K7.cell 5 _ rfl,K7.cell 6 _ rfl,K7.cell 7 _ rfl,K7.cell 8 _ rfl,K7.cell 9 _ rfl,K7.cell 10 _ rfl⟩;obtain ⟨yc,yf⟩:=bS.TQ HMO.out;have y0:jk0 w5 ⟨g5,mo*11,none⟩=some (.int .i64 0):=yc 0 _ rfl;have y1:=yc 1 _ rfl;have y2:=yc 2 _ rfl;have y3:=yc 3 _ rfl;have y4:=yc 4 _ rfl;have y5:=yc 5 _ rfl;have y6:=yc 6 _ rfl;have y7:=yc 7 _ rfl;have y8:=yc 8 _ rfl;have y9:=yc 9 _ rfl;have y10:=yc 10 _ rfl;have t0:(0:Int)<=(mo:Int):=by omega
    have t1:(mo:Int)<((mo+1:Nat):Int):=by omega
    have t2:(mo:Int)<(mo:Int)+1:=by omega
    have t3:mo<mo+1:=by omega
    have HF:=OI (x:=X) (r1:=[.int .i64 kd,.int .i64 lv,.string i,.string t,.string d,.string ti,.string at_.id,.slice ac nc cc,.slice ap np cp,.slice al nl cl,.slice ak nk ck]) (fun b (hb:b<w.heap.size)=>by have:=HP.out;omega) H1.out H2.out H3.out H4.out H5.out H6.out H7.out HMO.out bS rfl hk5 (by omega) ⟨hg5.os,hg5.tape,hg5.output⟩ (A9.imp id (fun h=>by have hz9:rJ.drew.heap.size=rJ.heap.size:=rfl;omega)) (Rd.keep (fun b (hb:b<w.heap.size) _=>⟨hb,(hk5 b (by have:=WQ.out.size;omega) (fun e=>by have:=xS.out b e;have:=HP.out;omega)).trans (WQ.out.block b hb)⟩) _ _ HXR.out);have HFF:=hid HF;have zp:=kp5.cell 1 _ rfl;have zpf:=nD kp5;refine hK.out _ _ (fun _ _=>S5) (fun hH2=>?_);clear hK KQ hH;have hH:=hH2 (by decide) (by kernel_rfl);clear hH2;try simp only [Act.put,ji3,ji4,ji5]
    refine kT 8 (v:=?_) rfl (by kernel_rfl) hH (by rfl) ?_ ?_;rotate_left
    ·(intro wv hSw;(try dsimp only at hSw);go_simp;try with_reducible rfl)
    try simp only [Act.put,ji3,ji4,ji5]
    have gZ:w5.grownBy (w5.setCell ⟨p+1,1,none⟩ (.slice (some ⟨g5,0,none⟩) (mo+1) c5)) (some (p+1)):=⟨rfl,rfl,rfl,by simp [jk1],fun b _ hb=>jj1 w5 ⟨p+1,1,none⟩ _ b (fun e=>hb (by rw [e]))⟩;obtain ⟨wZ,YA,sG⟩:=bS.yH (p:=p+1) (by have:=H1.out;have:=H2.out;have:=H3.out.og;omega) (fun (h:p+1<w.heap.size)=>by have:=HP.out;omega) gZ;obtain ⟨uc,uf⟩:=sG.TQ HMO.out;have u0:jk0 (w5.setCell ⟨p+1,1,none⟩ (.slice (some ⟨g5,0,none⟩) (mo+1) c5)) ⟨g5,mo*11,none⟩=some (.int .i64 0):=uc 0 _ rfl;have u1:=uc 1 _ rfl;have u2:=uc 2 _ rfl;have u3:=uc 3 _ rfl;have u4:=uc 4 _ rfl;have u5:=uc 5 _ rfl;have u6:=uc 6 _ rfl;have u7:=uc 7 _ rfl;have u8:=uc 8 _ rfl;have u9:=uc 9 _ rfl;have u10:=uc 10 _ rfl;have hpg:p+1≠g5:=by omega
    have hqg:q≠g5:=fun e=>Zr.1 e.symm
    have kq6:CB 30 q [.int .i64 kd,.int .i64 lv,.string i,.string t,.string d,.string ti,.string at_.id,.slice ac nc cc,.slice ap np cp,.slice al nl cl,.slice ak nk ck] (om w5 g5 (mo*11) [.int .i64 kd,.int .i64 lv,.string i,.string t,.string d,.string ti,.string at_.id,.slice ac nc cc,.slice ap np cp,.slice al nl cl,.slice ak nk ck]):=(gX g5 _ _ _ q hqg).trans K7;have kp6:CB 103 (p+1) [.bool ti1,.slice ao mo co] (om w5 g5 (mo*11) [.int .i64 kd,.int .i64 lv,.string i,.string t,.string d,.string ti,.string at_.id,.slice ac nc cc,.slice ap np cp,.slice al nl cl,.slice ak nk ck]):=(gX g5 _ _ _ (p+1) hpg).trans kp5;have xL:=hid kq6;have jg1:=hid kp6;have KM:=hid hpg;have zp6:=kp6.cell 1 _ rfl;have YO:=nD kp6;clear kq6 kp6 gZ YA sG uc yc bS hg5 A9 Ih Zr yG hk5 K7 kp5 HF S0 hpg hqg;apply SL;case hm=>
     intro REST;refine F8 (i:=6) (j:=9) rfl rfl (by kernel_rfl) (fun KQ hK=>?_) (fun KQ hK=>?_);rotate_left
     ·go_simp;refine hK.out _ _ (fun h=>absurd rfl h) (fun _=>?_);clear hK KQ;try simp only [Act.put,ji3,ji4,ji5]
      refine q01 (i:=6) rfl (by kernel_rfl) (fun KQ hK=>?_);go_simp;refine hK.out _ _ (fun _ h=>absurd h (by decide)) (fun _=>?_);clear hK KQ;try simp only [Act.put,ji3,ji4,ji5]
      refine q01 (i:=7) rfl (by kernel_rfl) (fun KQ hK=>?_);go_simp;refine hK.out _ (om (w5.setCell ⟨p+1,1,none⟩ (.slice (some ⟨g5,0,none⟩) (mo+1) c5)) g5 (mo*11) [.int .i64 kd,.int .i64 lv,.string i,.string t,.string d,.string ti,.string at_.id,.slice ac nc cc,.slice ap np cp,.slice al nl cl,.slice ak nk ck]) (fun _ h=>absurd h (by decide)) (fun _=>?_);clear hK KQ;try simp only [Act.put,ji3,ji4,ji5]
      refine Ba (by kernel_rfl) ?_ _;rw [rG g5 (p+1) 1 _ KM.out];exact REST
     go_simp;refine hK.out _ _ (fun _ _=>S5) (fun hH2=>?_);clear hK KQ;have hH:=hH2 (by decide) (by kernel_rfl);clear hH2;try simp only [Act.put,ji3,ji4,ji5]
     refine F8 (i:=7) (j:=9) rfl rfl (by kernel_rfl) (fun KQ hK=>?_) (fun KQ hK=>?_)
     ·go_simp;refine hK.out _ (om w5 g5 (mo*11) [.int .i64 kd,.int .i64 lv,.string i,.string t,.string d,.string ti,.string at_.id,.slice ac nc cc,.slice ap np cp,.slice al nl cl,.slice ak nk ck]) (fun _ _=>⟨jg1.out.cell 1 _ rfl,xL.out.cell 0 _ rfl,xL.out.cell 1 _ rfl,xL.out.cell 2 _ rfl,xL.out.cell 3 _ rfl,xL.out.cell 4 _ rfl,xL.out.cell 5 _ rfl,xL.out.cell 6 _ rfl,xL.out.cell 7 _ rfl,xL.out.cell 8 _ rfl,xL.out.cell 9 _ rfl,xL.out.cell 10 _ rfl⟩) (fun hH2=>?_);clear hK KQ;have hH:=hH2 (by decide) (by kernel_rfl);clear hH2;try simp only [Act.put,ji3,ji4,ji5]
      refine q01 (i:=9) rfl (by kernel_rfl) (fun KQ hK=>?_);go_simp;refine hK.out _ _ (fun h=>absurd rfl h) (fun _=>?_);clear hK KQ;try simp only [Act.put,ji3,ji4,ji5]
      refine Ba (by kernel_rfl) ?_ _;exact REST
     ·go_simp;refine hK.out _ _ (fun h=>absurd rfl h) (fun _=>?_);clear hK KQ;try simp only [Act.put,ji3,ji4,ji5]
      refine q01 (i:=7) rfl (by kernel_rfl) (fun KQ hK=>?_);go_simp;refine hK.out _ (om (w5.setCell ⟨p+1,1,none⟩ (.slice (some ⟨g5,0,none⟩) (mo+1) c5)) g5 (mo*11) [.int .i64 kd,.int .i64 lv,.string i,.string t,.string d,.string ti,.string at_.id,.slice ac nc cc,.slice ap np cp,.slice al nl cl,.slice ak nk ck]) (fun _ h=>absurd h (by decide)) (fun _=>?_);clear hK KQ;try simp only [Act.put,ji3,ji4,ji5]
      refine Ba (by kernel_rfl) ?_ _;rw [rG g5 (p+1) 1 _ KM.out];exact REST
    case hr=>
     clear S5 y0 y1 y2 y3 y4 y5 y6 y7 y8 y9 y10 yf u0 u1 u2 u3 u4 u5 u6 u7 u8 u9 u10 uf zp zpf zp6 YO t0 t1 t2 t3;obtain ⟨w8,hw8⟩:∃ w8,w8=(om w5 g5 (mo*11) [.int .i64 kd,.int .i64 lv,.string i,.string t,.string d,.string ti,.string at_.id,.slice ac nc cc,.slice ap np cp,.slice al nl cl,.slice ak nk ck]).setCell ⟨p+1,1,none⟩ (.slice (some ⟨g5,0,none⟩) (mo+1) c5):=⟨_,rfl⟩;have hff:=HFF.out;rw [<- hw8] at hff ⊢;have HR:Hid (Jy w l (.int .i64 ((k+1:Nat):Int)) w8):=⟨k+1,by have:=qJ.out;omega,rfl,by
      rw [Ru.out,yF.out];have h:=hff.1.top;rw [HP.out] at h;exact h,WQ.out.trans (by have h:=hff.2;rw [HP.out] at h;exact h)⟩
     clear hff hw8;go_wp2;go_roundw;case rel=>exact HR.out
     case measure=>simp [intOf];omega
  ·have hkl:k=l.length:=by have:=qJ.out;omega
   have HKL:=hid hkl;have HB9:=hid hB;have FC:Hid (Calls Tryz.prog 122 #[.pointer (some ⟨p+1+1,0,none⟩),.pointer (some ⟨p,0,none⟩),.pointer (some ⟨p+1,0,none⟩)] wr (qL (·<w.heap.size) p wr.heap.size (ji s) wr)):=(vH (·<w.heap.size) p wr.heap.size s wr (fun b hb=>by have:=HP.out;show b<p;omega) (by rw [HP.out];exact hP) (by have:=UG.out.1;omega));clear hkl hP hB;go_wp2_with fail
   (with_reducible refine FC.out.mono ?_)
   rintro e w6 ⟨rfl,WM,b6,-⟩;have hbf:jlj w.heap.size w w6:=HB9.out.trans (by rw [HP.out] at b6;exact b6);obtain ⟨UA,wA,wO,rA,rO,va,vo,h1,h2,h3,h4,h5,h6,h7,h8⟩:=WM;have hrd:Rd (·<w6.heap.size) w6 (.sl 2 ((dY l).map Pt.d)) [va]:=by
    have e:(ji s).all=dY l:=by unfold dY;rw [HSD.out,HKL.out,List.take_length]
    rw [<- e];exact Rd.keep (fun b _ hlt=>⟨hlt,rfl⟩) _ _ h3.rd
   obtain ⟨a6,n6,c6,rfl⟩:=h3.SN;have x0:=h5.cell;have Fj:=hid hrd;have HBF:=hid hbf;clear h1 h2 h3 h4 h5 h6 h7 h8 hrd hbf b6 FC;go_wp2;go_ret;exact ⟨_,rfl,Fj.out,HBF.out⟩
open Go.RowKit
def Sl.d (s:Sl):D:=.st [bG s.ti,jg s.bl]
theorem Sl.eD {ok:Nat->Prop} {w:World} (s:Sl) {v u:Value} (h:Rd ok w (bG s.ti) [v]) (h2:Rd ok w (jg s.bl) [u]):Rd ok w s.d [v,u]:=by have:=Rd.sH (ok:=ok) (w:=w) (aP.cons h (aP.one h2));simpa [Sl.d] using this
theorem jq {ok:Nat->Prop} {w:World} {k:Nat} {l:List D} {cs:List Value} (h:Rd ok w (.sl k l) cs):∃ a c,cs=[.slice a l.length c]:=by obtain ⟨a,c,e,-⟩:=Rd.aG h;exact ⟨a,c,e⟩
theorem Sl.open_ {ok:Nat->Prop} {w:World} {s:Sl} {cs:List Value} (h:Rd ok w s.d cs):∃ v u,cs=[v,u]/\Rd ok w (bG s.ti) [v]/\Rd ok w (jg s.bl) [u]:=by obtain ⟨rows,h1,rfl⟩:=Rd.jL h;obtain ⟨r1,rs,rfl,h2,h3⟩:=h1.aC;obtain ⟨r2,rs2,rfl,h4,h5⟩:=h3.aC;obtain rfl:=h5.cO;obtain ⟨a,c,e⟩:=jq (h2:Rd ok w (.sl 10 _) r1);obtain ⟨a2,c2,e2⟩:=jq (h4:Rd ok w (.sl 11 _) r2);subst e e2;exact ⟨_,_,by simp,h2,h4⟩
theorem WT:(Tryz.prog.info? 62).map (fun i=>(i.zero,i.size,i.bytes))=some (some (.agg #[.slice none 0 0,.slice none 0 0]),2,48):=by kernel_rfl
theorem OM (l:List ah):∀ p∈dY l,QW p:=Gt (lU l) (Jd l qR ps0)
def RO (w:World) (L:List Sl) (e:Ending) (w':World):Prop:=∃ v,e=.returned v/\Rd (·<w'.heap.size) w' (.sl 2 (L.map Sl.d)) [v]/\jlj w.heap.size w w'
def Hz (w1:World) (P:List Pt) (v vi:Value) (wr:World):Prop:=∃ (k:Nat) (rows:List (List Value)),k<=P.length/\vi=.int .i64 k/\ay 62 2 (·<w1.heap.size) wr.heap.size w1 (((P.take k).map nV).map Sl.d) rows v wr
theorem RP (l:List ah) (s:xU) (x:ah) (hx:x∈l) (h:(∀ p∈s.all,∀ b∈p.bl,b∈l)/\∀ b∈s.op.bl,b∈l):(∀ p∈(lT s x).all,∀ b∈p.bl,b∈l)/\∀ b∈(lT s x).op.bl,b∈l:=by
 obtain ⟨h1,h2⟩:=h;have h3:∀ p∈(ji s).all,∀ b∈p.bl,b∈l:=by
  unfold ji;split
  ·intro p hp;rcases List.mem_append.1 hp with hp | hp
   ·exact h1 p hp
   ·obtain rfl:=List.mem_singleton.1 hp;exact h2
  ·exact h1
 unfold lT;split
 ·split
  ·exact ⟨h3,fun b hb=>by obtain rfl:=List.mem_singleton.1 hb;exact hx⟩
  ·exact ⟨h3,fun b hb=>by cases hb⟩
 ·refine ⟨h1,fun b hb=>?_⟩;rcases List.mem_append.1 hb with hb | hb
  ·exact h2 b hb
  ·obtain rfl:=List.mem_singleton.1 hb;exact hx
theorem Jz (l:List ah):∀ (m:List ah) (s:xU),(∀ x∈m,x∈l)->((∀ p∈s.all,∀ b∈p.bl,b∈l)/\∀ b∈s.op.bl,b∈l)->(∀ p∈(m.foldl lT s).all,∀ b∈p.bl,b∈l)/\∀ b∈(m.foldl lT s).op.bl,b∈l
 | [],_,_,h=>h
 | x::m,s,hm,h=>by
  rw [List.foldl_cons];exact Jz l m _ (fun y hy=>hm y (List.mem_cons_of_mem _ hy)) (RP l s x (hm x (List.mem_cons_self ..)) h)
theorem EW (l:List ah):∀ p∈dY l,∀ b∈p.bl,b∈l:=by
 have h:=Jz l l qR (fun _ h=>h) ⟨(fun p hp=>by cases hp),(fun b hb=>by cases hb)⟩;unfold dY lU ji;split
 ·intro p hp;rcases List.mem_append.1 hp with hp | hp
  ·exact h.1 p hp
  ·obtain rfl:=List.mem_singleton.1 hp;exact h.2
 ·exact h.1
theorem Aj (l:List ah):(dY l).length<=l.length+1:=by
 have h:=(xK l qR).1;have h0:qR.all.length=0:=rfl;unfold dY ji;show (if (lU l).some_=true then (lU l).all++[(lU l).op] else (lU l).all).length<=_;have h2:(lU l).all.length<=l.length:=by unfold lU;omega
 split
 ·rw [List.length_append,List.length_singleton];omega
 ·omega
theorem JA:∀ (l m:List ah),ah.aY (l++m)=ah.aY l+ah.aY m
 | [],m=>by rw [ah.aY];simp
 | x::l,m=>by rw [List.cons_append,ah.aY,ah.aY,JA l m];omega
theorem EX:∀ (L:List (List ah)) (s:List ah),s∈L->ah.aY s<=ah.aY L.flatten
 | [],_,h=>by cases h
 | x::L,s,h=>by
  rw [List.flatten_cons,JA];rcases List.mem_cons.1 h with rfl | h
  ·omega
  ·have:=EX L s h;omega
theorem EY (l:List ah):∀ p∈dY l,ah.aY p.bl<=ah.aY l:=by
 intro p hp;rw [qh] at hp;obtain ⟨s,hs,rfl⟩:=List.mem_map.1 hp;have h1:=EX _ s hs;rw [nM l.length l (ji8 _)] at h1;rw [uj];refine Nat.le_trans ?_ h1;unfold gW;split
 ·split
  ·rw [ah.aY];omega
  ·exact ji8 _
 ·exact ji8 _
theorem Ch:∀ (l:List ah),ah.kK l↔∀ b∈l,b.bd
 | []=>by rw [ah.kK];simp
 | x::l=>by rw [ah.kK,Ch l];simp
theorem EZ (l:List ah) (h:ah.kK l):∀ p∈dY l,ah.kK p.bl:=fun p hp=>(Ch _).2 fun b hb=>(Ch _).1 h b (EW l p hp b hb)
theorem Ak (k:Nat):∀ (rows:List (List Value)),(∀ r∈rows,r.length=k)->∀ i,(rows.drop i).flatten=rows.flatten.drop (i*k)
 | [],_,i=>by simp
 | r::rs,h,0=>by simp
 | r::rs,h,i+1=>by
  have hr:=h r (by simp);rw [List.drop_succ_cons,List.flatten_cons,Ak k rs (fun x hx=>h x (by simp [hx])) i,Nat.succ_mul,Nat.add_comm,<- List.drop_drop];congr 1;rw [<- hr,List.drop_left]
theorem aP.Uf {ok:Nat->Prop} {w:World}:∀ {l:List D} {rows:List (List Value)} (i:Nat),aP ok w l rows->aP ok w (l.drop i) (rows.drop i)
 | l,rows,0,h=>by simpa using h
 | [],_,i+1,h=>by rw [h.cO];simpa using aP.none
 | d::ds,_,i+1,h=>by
  obtain ⟨r,rs,rfl,h1,h2⟩:=h.aC;simpa using aP.Uf i h2
theorem aP.takeN {ok:Nat->Prop} {w:World}:∀ {l:List D} {rows:List (List Value)} (i:Nat),aP ok w l rows->aP ok w (l.take i) (rows.take i)
 | l,rows,0,h=>by simpa using aP.none
 | [],_,i+1,h=>by rw [h.cO];simpa using aP.none
 | d::ds,_,i+1,h=>by
  obtain ⟨r,rs,rfl,h1,h2⟩:=h.aC;simpa using aP.cons h1 (aP.takeN i h2)
theorem Rd.cut {ok:Nat->Prop} {w:World} {k b off n cap:Nat} {l:List D} (h:Rd ok w (.sl k l) [.slice (some ⟨b,off,none⟩) n cap]) (i j:Nat) (h1:i<=j) (h2:j<=n):Rd ok w (.sl k ((l.take j).drop i)) [.slice (some ⟨b,off+i*k,none⟩) (j-i) (cap-i)]:=by
 unfold Rd at h ⊢;obtain ⟨a,cap',rows,e,h3,h4,h5,h6,h7⟩:=h;simp only [List.cons.injEq,Value.slice.injEq,and_true] at e;obtain ⟨rfl,hn,rfl⟩:=e;refine ⟨some ⟨b,off+i*k,none⟩,cap-i,(rows.take j).drop i,?_,?_,by omega,aP.Uf i (aP.takeN j h5),fun r hr=>h6 r (List.mem_of_mem_take (List.mem_of_mem_drop hr)),?_⟩
 ·congr 2;rw [List.length_drop,jl4];omega
 ·rw [List.length_drop,jl4];omega
 ·rcases h7 with h7 | ⟨b',off',e,h8,hb,h9⟩
  ·left;rw [List.length_drop,jl4];omega
  ·right;simp only [Option.some.injEq,Addr.mk.injEq,and_true] at e;obtain ⟨rfl,rfl⟩:=e;refine ⟨b,off+i*k,rfl,h8,hb,fun q u hu=>?_⟩;rw [Ak k _ (fun r hr=>h6 r (List.mem_of_mem_take hr)),List.getElem?_drop] at hu;have hpre:(rows.take j).flatten <+: rows.flatten:=by
    have:rows=rows.take j++rows.drop j:=(List.take_append_drop j rows).symm
    conv=>rhs;rw [this]
    rw [List.flatten_append];exact List.prefix_append _ _
   have hu':rows.flatten[i*k+q]?=some u:=by obtain ⟨t,ht⟩:=hpre;rw [<- ht,List.getElem?_append_left (List.getElem?_eq_some_iff.1 hu).1];exact hu
   have:=h9 (i*k+q) u hu';rw [<- Nat.add_assoc] at this;exact this
theorem RQ (vm:Value) (l:List ah) (vb:Value) (w:World) (VG:∃ a n c,vm=.slice a n c) (h:Rd (·<w.heap.size) w (jg l) [vb]) (hsz:ah.aY l<=900000) (hbd:ah.kK l) : Calls Tryz.prog 34 #[.agg #[vm,vb]] w (RO w (slP l)):=by
 obtain ⟨am,nm,cm,rfl⟩:=VG;obtain ⟨ab,nb,cb,rfl⟩:=Rd.au h;obtain ⟨iS,hiS,U6,U7,U8⟩:=info_parts WT;obtain ⟨S,hS⟩:∃ S,S=w.heap.size:=⟨_,rfl⟩;obtain ⟨w0,hw0⟩:∃ w0,w0=w.alloc (.cells #[.slice am nm cm,.slice ab nb cb] 32):=⟨_,rfl⟩;have k0:CB 32 S [.slice am nm cm,.slice ab nb cb] w0:=by rw [hw0,hS];exact CB.new _ _ w
 have b0:jlj w.heap.size w w0:=by rw [hw0];exact (ji7 _ _).alloc (ji8 _) _
 have e1:=k0.cell 1 _ rfl;have PC:=hid (Ah l _ w0 (h.up b0) (by have:=ah.dB l;omega));have hP1:=OM l;have hP2:=EY l;have hP3:=EZ l hbd;have Ue:=Aj l;have hll:=ah.dB l;obtain ⟨P,hP⟩:∃ P,P=dY l:=⟨_,rfl⟩;rw [<- hP] at PC hP1 hP2 hP3 Ue;have Sb:Hid (slP l=P.map nV):=by show _=_;unfold slP;rw [hP]
 rw [Sb.out];have Ro:=hid hP1;have Lh:=hid hP2;have Fh:=hid hP3;have Pk:Hid (P.length<=900001):=by show _<=_;omega
 have Iw:=hid hsz;have B0:=hid b0;clear h hsz hbd k0 b0 hP hP1 hP2 hP3 Ue Sb hll;go_enter Tryz.func34,Tryz.ntmps34;go_upto_region 2 with (fail)
 rw [<- hw0,<- hS];clear hw0 hS;go_wp2_with fail
 (with_reducible refine PC.out.mono ?_)
 rintro e w1 ⟨v1,rfl,h1,b1⟩;obtain ⟨a1,c1,hv1,hs1⟩:=Rd.aG h1;obtain ⟨nP,OP⟩:∃ nP,nP=P.length:=⟨_,rfl⟩;obtain rfl:v1=.slice a1 nP c1:=by rw [OP];simpa using hv1
 have hc1:nP<=c1:=by rw [OP];simpa using hs1.le
 have hm1:=hs1.max;unfold maxLen at hm1;have hnp:nP<=900001:=by rw [OP];exact Pk.out
 have OQ:=hid OP;have HS1:=hid hs1;have B1:=hid (aZ B0.out b1);have R0:Hid (Hz w1 P (.slice none 0 0) (.int .i64 0) w1):=⟨0,[],Nat.zero_le _,rfl,ay.nil _ _ _ _⟩;clear hv1 h1 hs1 b1 OP PC e1;go_wp2
 go_loopw [3,12] (fun v vi wr=>Hz w1 P v vi wr) (fun _ i _=>nP-(intOf i).toNat)
 case atStart=>exact R0.out
 case round=>
  clear R0;obtain ⟨k,rows,hk,rfl,hR⟩:=hrel;obtain ⟨nv,yG⟩:∃ nv,nv=(((P.take k).map nV).map Sl.d).length:=⟨_,rfl⟩;obtain ⟨av,cv,rfl,hcv,hcm⟩:=hR.cap yG.symm;unfold maxLen at hcm;have jg2:nv<=900001:=by have:=OQ.out;rw [yG,jix,jix,jl4];omega
  have Zx:=hid yG.symm;have hbel:=hR.aT;have HRW:=hid hR;clear hR yG;by_cases hlt:k<nP
  ·obtain ⟨x,hx⟩:∃ x,P[k]?=some x:=⟨_,List.getElem?_eq_getElem (by have:=OQ.out;omega)⟩;have hxm:x∈P:=List.mem_of_getElem? hx;have hx1:=Ro.out x hxm;have hx2:=Lh.out x hxm;have hx3:=Fh.out x hxm;obtain ⟨b,off,ha,hok,hb,hcx⟩:=HS1.out.at_ (by rw [jix];have:=OQ.out;omega)
   subst ha;obtain ⟨r,hr,hrl,hcell⟩:=hcx k x.d (by rw [List.getElem?_map,hx];rfl);obtain ⟨vbl,rfl,hbl⟩:=Pt.open_ hr;obtain ⟨al,nl,cl,rfl⟩:=Rd.au hbl;have c0:wr.cell? ⟨b,off+k*2,none⟩=some (.bool x.ti):=(hbel.cell (p:=⟨_,_,none⟩) hb).trans (hcell 0 _ rfl);have c1':wr.cell? ⟨b,off+k*2+1,none⟩=some (.slice al nl cl):=(hbel.cell (p:=⟨_,_,none⟩) hb).trans (hcell 1 _ rfl);obtain ⟨q,hq⟩:∃ q,q=wr.heap.size:=⟨_,rfl⟩;obtain ⟨tb,htb⟩:∃ tb,tb=x.ti:=⟨_,rfl⟩;rw [<- htb] at c0;obtain ⟨w2,hw2⟩:∃ w2,w2=(wr.alloc (.cells #[.bool tb,.slice al nl cl] 103)).alloc (.cells #[.slice none 0 0,.slice none 0 0] 62):=⟨_,rfl⟩;have z1:(wr.alloc (.cells #[.bool tb,.slice al nl cl] 103)).heap.size=q+1:=by rw [jj5,hq]
   have k1:CB 103 q [.bool tb,.slice al nl cl] w2:=by rw [hw2];have h:=CB.new 103 [.bool tb,.slice al nl cl] wr;rw [<- hq] at h;exact h.below ((ji7 _ _).alloc (ji8 _) _)
   have k2:CB 62 (q+1) [.slice none 0 0,.slice none 0 0] w2:=by rw [hw2];have h:=CB.new 62 [.slice none 0 0,.slice none 0 0] (wr.alloc (.cells #[.bool tb,.slice al nl cl] 103));rw [z1] at h;exact h
   have b2:jlj wr.heap.size wr w2:=by rw [hw2];exact ((ji7 _ _).alloc (ji8 _) _).alloc (by omega) _
   have z2:w2.heap.size=q+2:=by rw [hw2,jj5,z1]
   have B12:=aZ hbel b2;have Kk:=hbl.bq B12;have HQ:=hid hq;have HWQ:Hid (w1.heap.size<=q):=by show _<=_;rw [hq];exact hbel.size
   have HZ2:=hid z2;have jaj:=hid B12;have WU:=hid Kk;have HK2:=hid k2;have HX:=hid hx;have Ru:=hid hx1;have HX2:=hid hx2;have HX3:=hid hx3;have Sv:=hid htb;have HB2:=hid b2;have e0:=k1.cell 0 _ rfl;have e1:=k1.cell 1 _ rfl;clear hr hcell hrl hbl hok hb hx hxm hx1 hx2 hx3 hq htb z1 k1 k2 b2 z2 B12 Kk hcx;go_upto_region 6 with (fail)
   rw [<- hw2];simp only [<- HQ.out];clear hw2 c0 c1';cases tb
   case' false=>
    go_upto_region 10 with (fail)
    obtain ⟨W,hW⟩:∃ W,W=w2:=⟨_,rfl⟩;obtain ⟨ow,how⟩:∃ ow,ow=Value.slice al nl cl:=⟨_,rfl⟩;obtain ⟨st,sb,hst⟩:∃ st sb,nV x=⟨st,sb⟩:=⟨_,_,rfl⟩;have hsl:nV x=⟨[],x.bl⟩:=by unfold nV;rw [if_neg (by rw [<- Sv.out];simp)]
    obtain ⟨rfl,rfl⟩:st=[]/\sb=x.bl:=by rw [hsl] at hst;simpa using hst.symm
    obtain ⟨at3,K9,La,hvt⟩:∃ a n c,Value.slice a n c=.slice none 0 0:=⟨_,_,_,rfl⟩;have HKW:Hid (CB 62 (q+1) [.slice at3 K9 La,.slice none 0 0] W):=by show CB _ _ _ _;rw [hW,hvt];exact HK2.out
    have HTW:Hid (Rd (fun b=>b<w1.heap.size\/q+2<=b) W (bG []) [.slice at3 K9 La]):=by show Rd _ _ _ _;rw [hvt];exact Rd.aF _ _ _
    have XM:Hid (Rd (·<w1.heap.size) W (jg x.bl) [ow]):=by show Rd _ _ _ _;rw [hW,how];exact WU.out
    have Ot:Hid (jlj wr.heap.size wr W):=by show jlj _ _ _;rw [hW];exact HB2.out
    have XO:Hid (q+2<=W.heap.size):=by show _<=_;rw [hW,HZ2.out];exact ji8 _
    have HSB:Hid (ah.aY x.bl<=900000/\ah.kK x.bl):=⟨by have:=HX2.out;have:=Iw.out;omega,HX3.out⟩;have HST:=hid hst;rw [<- hW];have jg3:=hvt;clear hst hsl hvt hW;generalize x.bl=sb at *;generalize ([]:List aj)=st at HST HTW;simp only [<- how];clear how jg3 e0 e1
   case' true=>
    obtain ⟨b0,t0,hb0,jg4⟩:=Ru.out Sv.out.symm;obtain ⟨a3,c3,hv3,hs3⟩:=Rd.aG WU.out;obtain ⟨rfl,rfl,rfl⟩:al=a3/\nl=(x.bl.map ah.d).length/\cl=c3:=by simp at hv3;simpa using hv3
    obtain ⟨kd,lv,i,t,d,ti,at_,li,ks⟩:=b0;obtain ⟨g,o,vc,vp,vl,vk,rfl,-,hgw,hc,hRR⟩:=eP hs3 (k:=0) (by rw [hb0];rfl);obtain ⟨al',nl',cl',rfl⟩:=Rd.au hRR.line;obtain ⟨nL,uy⟩:∃ nL,nL=(x.bl.map ah.d).length:=⟨_,rfl⟩;rw [<- uy] at e1 ⊢;have WV:1<=nL:=by rw [uy,hb0];simp
    have hcap:=hs3.le;rw [<- uy] at hcap;have WW:=hs3.max;unfold maxLen at WW;have c9:w2.cell? ⟨g,o+9,none⟩=some (.slice al' nl' cl'):=by have:=hc.c9;rw [Nat.zero_mul,Nat.add_zero] at this;exact this
    have WX:aj.kK li/\aj.aY li<=1000000:=by have h:=HX3.out;rw [hb0,ah.kK,ah.bd] at h;exact ⟨h.1.2.2.1,h.1.2.2.2.1⟩
    have LC:=hid (Ag _ li (·<w1.heap.size) _ w2 (ji8 _) WX.2 hRR.line (fun b (hb:b<w1.heap.size)=>by have:=jaj.out.size;omega) WX.1);have hsl:nV x=⟨li,t0⟩:=by unfold nV;rw [if_pos Sv.out.symm,hb0];rfl
    have HSL:=hid hsl;have hbt:x.bl.tail=t0:=by rw [hb0];rfl
    have HTL:Hid (nL≠1->Rd (·<w1.heap.size) w2 (jg t0) [.slice (some ⟨g,o+11,none⟩) (nL-1) (cl-1)]):=fun hne=>by
     have h:=Rd.cut WU.out 1 nL WV (by rw [uy];exact ji8 _);rw [Nat.one_mul,<- List.map_take,<- List.map_drop,hb0] at h;have e:((ah.mk kd lv i t d ti at_ li ks::t0).take nL).drop 1=t0:=by rw [uy,hb0,jix,List.take_length];rfl
     rw [e] at h;exact h
    have HTS:Hid (ah.aY t0<=900000/\ah.kK t0):=by have h1:=HX2.out;have h2:=HX3.out;rw [hb0,ah.aY] at h1;rw [hb0,ah.kK] at h2;exact ⟨by have:=Iw.out;omega,h2.2⟩
    have HT0:Hid (nL=1->t0=[]):=fun e=>by
     rw [uy,hb0] at e;simpa using e
    clear hs3 hv3 hc hRR hgw WX hsl hb0 jg4 uy hbt;go_wp2_with fail
    (with_reducible refine LC.out.mono ?_)
    rintro e w3 ⟨v3,gG,rfl,hr3⟩;obtain ⟨at3,K9,La,rfl⟩:=hr3.SN;have b3:=hr3.aT;have k3:=HK2.out.below b3;have d0:=k3.cell 0 _ rfl;have df:=nD k3;have hT3:Rd (fun b=>b<w1.heap.size\/q+2<=b) w3 (bG li) [.slice at3 K9 La]:=hr3.rd.weaken (fun b hb=>hb.imp id (fun h=>by have:=HZ2.out;omega));have hz3:=b3.size;have hT4:Rd (fun b=>b<w1.heap.size\/q+2<=b) (w3.setCell ⟨q+1,0,none⟩ (.slice at3 K9 La)) (bG li) [.slice at3 K9 La]:=Rd.keep (ok:=fun b=>b<w1.heap.size\/w2.heap.size<=b) (fun b hb hlt=>⟨hb.imp id (fun h=>by have:=HZ2.out;omega),jj1 w3 ⟨q+1,0,none⟩ _ b (by show b≠q+1;have:=HZ2.out;have:=HWQ.out;omega)⟩) _ _ hr3.rd;obtain ⟨w4,hw4⟩:∃ w4,w4=w3.setCell ⟨q+1,0,none⟩ (.slice at3 K9 La):=⟨_,rfl⟩;clear hr3 LC c9;go_upto_region 9 with (fail)
    rw [<- hw4];have hK4:CB 62 (q+1) [.slice at3 K9 La,.slice none 0 0] w4:=by rw [hw4];exact dF k3 0 _
    have k4:∀ b,b≠q+1->w4.heap[b]?=w3.heap[b]?:=fun b hb=>by rw [hw4];exact jj1 w3 ⟨q+1,0,none⟩ _ b hb
    have z4:w4.heap.size=w3.heap.size:=by rw [hw4];simp [jk1]
    have HTW:Hid (Rd (fun b=>b<w1.heap.size\/q+2<=b) w4 (bG li) [.slice at3 K9 La]):=by show Rd _ _ _ _;rw [hw4];exact hT4
    have HKW:=hid hK4;have Ot:Hid (jlj wr.heap.size wr w4):=by have h:=HB2.out.trans (b3.mono HB2.out.size);show jlj _ _ _;rw [hw4];exact h.setCell (p:=⟨q+1,0,none⟩) (by show wr.heap.size<=q+1;have:=HQ.out;omega) _
    have XO:Hid (q+2<=w4.heap.size):=by show _<=_;have:=HZ2.out;omega
    have HR4:Hid (nL≠1->Rd (·<w1.heap.size) w4 (jg t0) [.slice (some ⟨g,o+11,none⟩) (nL-1) (cl-1)]):=fun hne=>Rd.keep (fun b (hb:b<w1.heap.size) hlt=>⟨hb,(k4 b (by have:=HQ.out;have:=jaj.out.size;have:=HZ2.out;have:=HWQ.out;omega)).trans (b3.block b hlt)⟩) _ _ (HTL.out hne)
    obtain ⟨W,hW⟩:∃ W,W=w4:=⟨_,rfl⟩;rw [<- hW] at HTW HKW Ot XO HR4 ⊢;have HST:Hid (nV x=⟨li,t0⟩):=HSL;have HSB:Hid (ah.aY t0<=900000/\ah.kK t0):=HTS;have Qb:Hid (nL=1->t0=[]):=HT0;clear hK4 hT3 hT4 k3 b3 hw4 k4 z4 d0 df HSL HTS HT0 hW;by_cases hcl:cl=1
    case' pos=>
     go_upto_region 10 with (fail)
     have hn1:nL=1:=by omega
     have OT:Hid (Rd (·<w1.heap.size) W (jg t0) [.slice (some ⟨g,o,none⟩) (nL-1) 0]):=by show Rd _ _ _ _;rw [Qb.out hn1,hn1];unfold jg Rd;exact ⟨_,0,[],rfl,by simp,Nat.zero_le _,aP.none,by simp,.inl rfl⟩
     generalize Value.slice (some ⟨g,o,none⟩) (nL-1) 0=ow at *;have XM:=OT;clear hcl hn1 OT HR4 Qb HTL;generalize t0=sb at *;generalize li=st at *;clear e0 e1 hcap WW WV
    case' neg=>
     have OT:Hid (Rd (·<w1.heap.size) W (jg t0) [.slice (some ⟨g,o+11,none⟩) (nL-1) (cl-1)]):=by
      show Rd _ _ _ _;by_cases hn1:nL=1
      ·rw [Qb.out hn1,hn1];unfold jg Rd;exact ⟨_,cl-1,[],rfl,by simp,by unfold maxLen;omega,aP.none,by simp,.inl rfl⟩
      ·exact HR4.out hn1
     go_upto_region 10 with (fail)
     generalize Value.slice (some ⟨g,o+11,none⟩) (nL-1) (cl-1)=ow at *;have XM:=OT;clear hcl OT HR4 Qb HTL;generalize t0=sb at *;generalize li=st at *;clear e0 e1 hcap WW WV
   all_goals
    have BC:=hid (KV _ sb (·<w1.heap.size) ow W (ji8 _) (by have:=HSB.out.1;omega) XM.out (fun b (hb:b<w1.heap.size)=>by have:=HWQ.out;have:=XO.out;omega) HSB.out.2);go_wp2_with fail
    (with_reducible refine BC.out.mono ?_)
    rintro e w5 ⟨v5,vR,rfl,RH⟩;obtain ⟨a5,n5,c5,rfl⟩:=RH.SN;have b5:=RH.aT;have k5:=HKW.out.below b5;have d0:=k5.cell 0 _ rfl;have d1:=k5.cell 1 _ rfl;have df:=nD k5;obtain ⟨w6,jB⟩:∃ w6,w6=w5.setCell ⟨q+1,1,none⟩ (.slice a5 n5 c5):=⟨_,rfl⟩;have k6:CB 62 (q+1) [.slice at3 K9 La,.slice a5 n5 c5] w6:=by rw [jB];exact dF k5 1 _
    have Vg:w6.heap.size=w5.heap.size:=by rw [jB];simp [jk1]
    have hb6:∀ b,b≠q+1->w6.heap[b]?=w5.heap[b]?:=fun b hb=>by rw [jB];exact jj1 w5 ⟨q+1,1,none⟩ _ b hb
    have Yr:jlj wr.heap.size wr w6:=by rw [jB];exact (Ot.out.trans (b5.mono Ot.out.size)).setCell (p:=⟨q+1,1,none⟩) (by show wr.heap.size<=q+1;have:=HQ.out;omega) _
    have hS6:Rd (fun b=>b<w1.heap.size\/wr.heap.size<=b) w6 (nV x).d [.slice at3 K9 La,.slice a5 n5 c5]:=by
     rw [HST.out];refine Sl.eD ⟨st,sb⟩ ?_ ?_
     ·exact Rd.keep (ok:=fun b=>b<w1.heap.size\/q+2<=b) (fun b hb hlt=>⟨hb.imp id (fun h=>by have:=HQ.out;omega),(hb6 b (by have:=HWQ.out;omega)).trans (b5.block b hlt)⟩) _ _ HTW.out
     ·exact Rd.keep (ok:=fun b=>b<w1.heap.size\/W.heap.size<=b) (fun b hb hlt=>⟨hb.imp id (fun h=>by have:=XO.out;have:=HQ.out;omega),hb6 b (by have:=XO.out;have:=HWQ.out;omega)⟩) _ _ RH.rd
    have HS6:=hid hS6;have HK6:=hid k6;have hR6:=HRW.out.below Yr;have HR6:=hid hR6;have g0:=k6.cell 0 _ rfl;have g1:=k6.cell 1 _ rfl;clear RH b5 k5 k6 Vg hb6 Yr hS6 hR6 BC HKW HTW XM Ot XO HSB;go_upto_region 11 with (fail)
    rw [<- jB];clear jB d0 d1 df;go_wp2_with (at_builtin;refine eU (n:=nv) rfl _ _ 59 rfl iS _ 48 Tryz.underlying59 hiS U6 U7 U8 rfl (by decide) HR6.out (fun b hb=>hb) (nV x).d [.slice at3 K9 La,.slice a5 n5 c5] HS6.out rfl (by intro u hu;simp at hu;rcases hu with rfl | rfl<;>rfl) Zx.out (by omega) (by decide) rfl rfl ?_)
    intro a7 c7 w7 vG hg7;have hf:Hz w1 P (.slice a7 (nv+1) c7) (.int .i64 ((k+1:Nat):Int)) w7:=by
     refine ⟨k+1,rows++[[.slice at3 K9 La,.slice a5 n5 c5]],by have:=OQ.out;omega,rfl,?_⟩;have e:((P.take (k+1)).map nV).map Sl.d=List.take k (List.map (Sl.d ∘ nV) P)++[(nV x).d]:=by rw [List.take_add_one,HX.out];simp
     rw [e];exact vG
    have HF:=hid hf;clear vG hg7 hf g0 g1;go_wp2;go_roundw;case rel=>exact HF.out
    case measure=>simp [intOf];omega
  ·have hkl:k=P.length:=by have:=OQ.out;omega
   have hrd:Rd (·<wr.heap.size) wr (.sl 2 ((P.map nV).map Sl.d)) [.slice av nv cv]:=by have h:=HRW.out.rd;rw [hkl,List.take_length] at h;exact Rd.keep (fun b _ hlt=>⟨hlt,rfl⟩) _ _ h
   have Fj:=hid hrd;have HBF:=hid (aZ B1.out hbel);clear hkl hrd hbel;go_wp2;go_ret;exact ⟨_,rfl,Fj.out,HBF.out⟩
end Go.Proofs.YtclikfjalmcoaaaGreatDoor

