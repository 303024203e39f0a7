/- Contract of publisherref34.one, given that of nodes at the Kids. Contract of publisherref34.nodes: the nodes of inlines; plain part: the classes of well-formed inlines are not empty. Contracts of html.unresolved and publisherref34.unresolved. Contract of (*html.builder).block, kind by kind: the node of a block. Contracts of (*html.builder).block and (*html.builder).blocks: the nodes of blocks. Plain part: a well-formed, small document without unresolved inlines is one that the walk of html.Blocks asks. Contract of publisherref34.row. A literal of one node, whose data are newer than a world, is a row of one's own since that world. Contract of publisherref34.block, kind by kind: the nodes of a block. Contracts of publisherref33.Plain and publisherref33.Values. -/
import Derived.Test.YtkfnkeflalcphaaGreatDoorKNdL
set_option maxHeartbeats 8000000
set_option maxRecDepth 100000
open Go.Lib (hid)
namespace Go.Proofs.YtkfnkeflalcphaaGreatDoor
open List renaming getElem?_eq_getElem->jlz,length_append->jm5,length_map->jm6,map_append->jn1,take_length->jn6,append_nil->joz
open Go.RowKit.Below renaming refl->jm0
open Nat renaming le_refl->jm1,le_trans->jm2
open Go renaming World->jp3,Value->jp5
open Go.RowKit renaming Below->jp4
open Go.RowKit
set_option linter.unusedVariables false
set_option linter.unusedSimpArgs false
open Go.RowKit
open Go.RowKit
def Tx (w:jp3) (l:List aj) (vi:jp5) (wr:jp3):Prop:=∃ k:Nat,k<=l.length/\vi=.int .i64 k/\(l.take k).any iU=false/\jp4 w.heap.size w wr
def Vu (w:jp3) (b:Bool) (e:Ending) (w':jp3):Prop:=e=.returned (.bool b)/\jp4 w.heap.size w w'
theorem DY {l:List aj} {k:Nat} {x:aj} (hx:l[k]?=some x) (h:iU x=true):l.any iU=true:=List.any_eq_true.2 ⟨x,List.mem_of_getElem? hx,h⟩
theorem Ba {l:List aj} {k:Nat} {x:aj} (hx:l[k]?=some x) (h:iU x=false) (hk:(l.take k).any iU=false):(l.take (k+1)).any iU=false:=by rw [List.take_add_one,hx,List.any_append,hk];simp [h]
theorem F9 (l:List aj) (ok:Nat->Prop) (v:jp5) (w:jp3) (hrd:Rd ok w (aX l) [v]):Calls Tryz.prog 36 #[v] w (Vu w (l.any iU)):=by
 obtain ⟨a,cap,hv,hs⟩:=Rd.aB hrd;obtain rfl:v=.slice a l.length cap:=by simpa using hv
 have hcap:l.length<=cap:=by simpa using hs.le
 have hmx:=hs.max;unfold maxLen at hmx;have HS:=hid hs;have R0:Hid (Tx w l (.int .i64 0) w):=⟨0,Nat.zero_le _,rfl,by simp,jm0 _ _⟩;clear hs hv hrd;go_enter Tryz.func36,Tryz.ntmps36;go_wp2
 go_loopw [7] (fun vi wr=>Tx w l vi wr) (fun i _=>l.length-(intOf i).toNat)
 case atStart=>exact R0.out
 case round=>
  clear R0;obtain ⟨k,hk,rfl,hany,hbel⟩:=hrel;have HK:=hid hany;clear hany;by_cases hlt:k<l.length
  ·obtain ⟨x,hx⟩:∃ x,l[k]?=some x:=⟨_,jlz hlt⟩;obtain ⟨kd,t,d,ti,at_,ar,ci,ks⟩:=x;obtain ⟨g,off,vc,vp,va,vi,vk,rfl,hok,hbl,hc,hR⟩:=fJ HS.out hx;obtain ⟨c0,c1,c2,c3,c4,c5,c6,c7,c8,c9⟩:=hc.below hbel;obtain ⟨ac,nc,cc,rfl⟩:=Rd.au hR.at_.cls
   obtain ⟨ap,np,cp,rfl⟩:=Rd.au hR.at_.aJ
   obtain ⟨aa,na,ca,rfl⟩:=Rd.au hR.args;obtain ⟨ai,ni,j5,rfl⟩:=Rd.au hR.dG;obtain ⟨ak,nk,ck,rfl⟩:=Rd.au hR.kids;have HX:=hid hx;have qe:=vC t;obtain ⟨p,hp⟩:∃ p,p=wr.heap.size:=⟨_,rfl⟩;obtain ⟨wA,iL⟩:∃ wA,wA=wr.alloc (.cells #[.int .i64 kd,.string t,.string d,.string ti,.string at_.id,.slice ac nc cc,.slice ap np cp,.slice aa na ca,.slice ai ni j5,.slice ak nk ck] 66):=⟨_,rfl⟩;have PA:PB p [.int .i64 kd,.string t,.string d,.string ti,.string at_.id,.slice ac nc cc,.slice ap np cp,.slice aa na ca,.slice ai ni j5,.slice ak nk ck] wA:=by rw [iL,hp];exact heap_alloc_new wr _
   have zh:Hid (jp4 w.heap.size w wA):=by rw [iL];exact hbel.alloc hbel.size _
   clear hc hok hbl hR hx hbel;go_upto_region 4 with (fail)
   rw [<- iL,<- hp];obtain ⟨e0,e1,-,-,-,-,-,-,-,-⟩:=MJ PA;clear iL hp PA c0 c1 c2 c3 c4 c5 c6 c7 c8 c9;by_cases yu:kd=15
   ·subst yu;have HT:=hid (DY HX.out (show iU (aj.mk 15 t d ti at_ ar ci ks)=true by unfold iU;simp));clear HX;go_wp2;go_ret;exact ⟨by rw [HT.out];rfl,zh.out⟩
   by_cases h13:kd=13
   ·subst h13;have HT:=hid (DY HX.out (show iU (aj.mk 13 t d ti at_ ar ci ks)=true by unfold iU;simp));clear HX;go_wp2;go_ret;exact ⟨by rw [HT.out];rfl,zh.out⟩
   by_cases P8:kd=14
   ·subst P8;have HT:=hid (DY HX.out (show iU (aj.mk 14 t d ti at_ ar ci ks)=true by unfold iU;simp));clear HX;go_wp2;go_ret;exact ⟨by rw [HT.out];rfl,zh.out⟩
   by_cases h9:kd=9
   ·subst h9;cases ht:aZ t
    ·have q1:t.toList.isEmpty=false:=by rw [qe];exact ht
     have HT:=hid (DY HX.out (show iU (aj.mk 9 t d ti at_ ar ci ks)=true by unfold iU;simp [ht]));clear HX ht qe;go_wp2;go_ret;exact ⟨by rw [HT.out];rfl,zh.out⟩
    ·have q1:t.toList.isEmpty=true:=by rw [qe];exact ht
     have q2:t.toList=[]:=by rw [List.isEmpty_iff] at q1;exact q1
     have HT:=hid (Ba HX.out (show iU (aj.mk 9 t d ti at_ ar ci ks)=false by unfold iU;simp [ht]) HK.out);clear HX HK ht qe;go_wp2;go_roundw;case rel=>exact ⟨k+1,by omega,by go_num,HT.out,zh.out⟩
     case measure=>simp [intOf];omega
   by_cases h10:kd=10
   ·subst h10;cases ht:aZ t
    ·have q1:t.toList.isEmpty=false:=by rw [qe];exact ht
     have HT:=hid (DY HX.out (show iU (aj.mk 10 t d ti at_ ar ci ks)=true by unfold iU;simp [ht]));clear HX ht qe;go_wp2;go_ret;exact ⟨by rw [HT.out];rfl,zh.out⟩
    ·have q1:t.toList.isEmpty=true:=by rw [qe];exact ht
     have q2:t.toList=[]:=by rw [List.isEmpty_iff] at q1;exact q1
     have HT:=hid (Ba HX.out (show iU (aj.mk 10 t d ti at_ ar ci ks)=false by unfold iU;simp [ht]) HK.out);clear HX HK ht qe;go_wp2;go_roundw;case rel=>exact ⟨k+1,by omega,by go_num,HT.out,zh.out⟩
     case measure=>simp [intOf];omega
   have XZ:(kd==15)=false:=by rw [beq_eq_false_iff_ne];exact yu
   have q13:(kd==13)=false:=by rw [beq_eq_false_iff_ne];exact h13
   have q14:(kd==14)=false:=by rw [beq_eq_false_iff_ne];exact P8
   have q9:(kd==9)=false:=by rw [beq_eq_false_iff_ne];exact h9
   have q10:(kd==10)=false:=by rw [beq_eq_false_iff_ne];exact h10
   have HT:=hid (Ba HX.out (show iU (aj.mk kd t d ti at_ ar ci ks)=false by unfold iU;simp [yu,h13,P8,h9,h10]) HK.out);clear HX HK yu h13 P8 h9 h10 qe;go_wp2;go_roundw;case rel=>exact ⟨k+1,by omega,by go_num,HT.out,zh.out⟩
   case measure=>simp [intOf];omega
  ·have hkl:k=l.length:=by omega
   have HT:Hid (l.any iU=false):=by
    have h:=HK.out
    rwa [hkl,jn6] at h
   clear hkl;go_wp2;go_ret;exact ⟨by rw [HT.out];rfl,hbel⟩
open Go.RowKit
theorem DZ (n:Nat) (w:jp3) (hn:n<=999999999) (ht:PT w) : Calls Tryz.prog 136 #[.int .i64 (n:Int)] w fun e w'=>e=.returned (.string (gD n))/\jp4 w.heap.size w w':=by
 refine (Tryz.strconv_Itoa (n:Int) (by omega) (by omega) w ht.2).mono ?_;rintro e w' ⟨rfl,k,os,rfl⟩;refine ⟨?_,Lib.below_grow _ w (jm1 _) k os⟩;have:Lib.itoa (n:Int)=Lib.decDigits n:=by unfold Lib.itoa;rw [if_neg (by omega)];simp
 rw [this];rfl
theorem zu (n:Nat) (hn:n<=999999999):(gD n).size<=1000000:=by have h:=MK n 8 (by omega);show (Lib.decDigits n).toArray.size<=1000000;simp;omega
theorem ML {a:At} (h:a.short):([]++a.cls).length<=100/\∀ c∈[]++a.cls,c.size<=1000:=by unfold At.short at h;rw [List.nil_append];exact ⟨by omega,fun c hc=>by have:=h.2.2.2.1 c hc;omega⟩
theorem uj {a:At} (h:a.short) (s:ByteArray) (hs:s.size<=1000):([s]++a.cls).length<=100/\∀ c∈[s]++a.cls,c.size<=1000:=by
 unfold At.short at h;refine ⟨by simp;omega,fun c hc=>?_⟩;rcases List.mem_cons.1 hc with rfl | hc
 ·exact hs
 ·have:=h.2.2.2.1 c hc;omega
def dV (pv:jp5) (w:jp3) (ks:List ah) (vk:jp5):Prop:=∀ W:jp3,jp4 w.heap.size w W->Calls Tryz.prog 38 #[pv,vk] W (dw W (ah.aW ks))
structure Ga (i t:ByteArray) (at_:At) (li:List aj):Prop where
 i:i.size<=300
 t:t.size<=300
 at_:at_.short
 li:Y0 li
theorem Ki {S:Nat} {w W0:jp3} (hS:S=w.heap.size) (ht:PT w) (b0:jp4 S w W0):Hid (∀ W:jp3,jp4 W0.heap.size W0 W->PT W):=
 fun W hW=>ht.below (by rw [<- hS];exact b0.trans (hW.mono (by have:=b0.size;omega)))
theorem qQ {S nl cl:Nat} {al:Option Addr} {W0:jp3} {i t:ByteArray} {at_:At} {li:List aj} {ks:List ah} {vc vp vk:jp5} (hs:Ga i t at_ li) (HR:Hid (kN (·<S) W0 at_ li ks vc vp (.slice al nl cl) vk)) : Hid (∀ W:jp3,jp4 W0.heap.size W0 W->Calls Tryz.prog 78 #[.slice al nl cl] W (dw W (kG li))):=fun W hW=>
 zw 900000 li _ W hs.li.sz (by decide) (Rd.keep (w:=W0) (w':=W) (ok:=(·<S)) (fun b (hb:b<S) hlt=>⟨by show b<W.heap.size;have:=hW.size;omega,hW.block b hlt⟩) _ _ HR.out.line) hs.li.sm hs.li.tf
theorem Vv (pv:jp5) (lv:Int) (i t d ti:ByteArray) (at_:At) (li:List aj) (ks:List ah) (vc vp vl vk:jp5) (w:jp3) (hR:kN (·<w.heap.size) w at_ li ks vc vp vl vk) (hs:Ga i t at_ li) (hl:dV pv w ks vk) (ht:PT w) : Calls Tryz.prog 86 #[pv,.agg #[.int .i64 1,.int .i64 lv,.string i,.string t,.string d,.string ti,.string at_.id,vc,vp,vl,vk]] w (sI w (aQ nP [] (kG li))):=by
 obtain ⟨ac,nc,cc,ap,np,cp,al,nl,cl,ak,nk,ck,S,W0,rfl,rfl,rfl,rfl,HS,HW0,e0,SX,HR,Z0,B0,K1⟩:=kP (.int .i64 1) lv i t d ti hR;have vD:=gQ HS.out hl B0.out;have pX:=Ki HS.out ht B0.out;have lV:=qQ hs HR;have jM:=hid hs;have hst:t.size<=300:=hs.t;have hsi:i.size<=300:=hs.i;clear hR hs hl ht;go_enter Tryz.func86,Tryz.ntmps86;go_upto_region 3 with (fail)
 rw [<- HS.out];have hk0:=HW0.out;simp only [jN] at hk0;rw [<- hk0];clear hk0;have LC:=hid (lV.out W0 (jm0 _ _));have g9:=(SX.out W0 (jm0 _ _)).2.2.2.2.2.2.2.2.1;go_wp2_with fail
 (with_reducible refine LC.out.mono ?_)
 rintro e w4 ⟨dX,v4,rfl,hrow4⟩;obtain ⟨a4,n4,c4,rfl⟩:=hrow4.slice3;have b4:=hrow4.aI;have B4:=hid b4;have gF:=hid (show Rd (W0.heap.size<=·) w4 (cO (kG li)) [.slice a4 n4 c4] from hrow4.fD);have EC:=hid (kM ⟨#[112]⟩ none a4 0 n4 0 c4 w4);clear b4 hrow4 LC g9;go_wp2_with fail
 (with_reducible refine EC.out.mono ?_)
 rintro e w5 ⟨rfl,b5⟩;have BL:=hid (aP B4.out b5);have HN:=hid (show kZ (W0.heap.size<=·) w5 [] (kG li) (.slice none 0 0) (.slice a4 n4 c4) from ⟨Rd.aD _ _ _,gF.out.aY b5⟩);clear b5 gF EC;obtain ⟨w9,hw8,r0,r1,r2,r3,HP,x0,x1,x2,x3,xf⟩:=iE ⟨#[112]⟩ ⟨#[]⟩ [] (kG li) HS Z0 B0 K1 BL HN.out;go_wp2;rw [<- hw8];exact bodyPost_ret (v:=.agg #[.string ⟨#[112]⟩,.string ⟨#[]⟩,(.slice none 0 0),(.slice a4 n4 c4)]) (by simp [results,Tryz.results86,go_sem,r0,r1,r2,r3]) rfl HP.out
theorem Vw (pv:jp5) (lv:Int) (i t d ti:ByteArray) (at_:At) (li:List aj) (ks:List ah) (vc vp vl vk:jp5) (w:jp3) (hR:kN (·<w.heap.size) w at_ li ks vc vp vl vk) (hs:Ga i t at_ li) (hl:dV pv w ks vk) (ht:PT w) : Calls Tryz.prog 86 #[pv,.agg #[.int .i64 6,.int .i64 lv,.string i,.string t,.string d,.string ti,.string at_.id,vc,vp,vl,vk]] w (sI w (aQ MN [] (ah.aW ks))):=by
 obtain ⟨ac,nc,cc,ap,np,cp,al,nl,cl,ak,nk,ck,S,W0,rfl,rfl,rfl,rfl,HS,HW0,e0,SX,HR,Z0,B0,K1⟩:=kP (.int .i64 6) lv i t d ti hR;have vD:=gQ HS.out hl B0.out;have pX:=Ki HS.out ht B0.out;have lV:=qQ hs HR;have jM:=hid hs;have hst:t.size<=300:=hs.t;have hsi:i.size<=300:=hs.i;clear hR hs hl ht;go_enter Tryz.func86,Tryz.ntmps86;go_upto_region 16 with (fail)
 rw [<- HS.out];have hk0:=HW0.out;simp only [jN] at hk0;rw [<- hk0];clear hk0;have LC:=hid (vD.out W0 (jm0 _ _));have g9:=(SX.out W0 (jm0 _ _)).2.2.2.2.2.2.2.2.2;go_wp2_with fail
 (with_reducible refine LC.out.mono ?_)
 rintro e w4 ⟨dX,v4,rfl,hrow4⟩;obtain ⟨a4,n4,c4,rfl⟩:=hrow4.slice3;have b4:=hrow4.aI;have B4:=hid b4;have gF:=hid (show Rd (W0.heap.size<=·) w4 (cO (ah.aW ks)) [.slice a4 n4 c4] from hrow4.fD);have EC:=hid (kM ⟨#[98,108,111,99,107,113,117,111,116,101]⟩ none a4 0 n4 0 c4 w4);clear b4 hrow4 LC g9;go_wp2_with fail
 (with_reducible refine EC.out.mono ?_)
 rintro e w5 ⟨rfl,b5⟩;have BL:=hid (aP B4.out b5);have HN:=hid (show kZ (W0.heap.size<=·) w5 [] (ah.aW ks) (.slice none 0 0) (.slice a4 n4 c4) from ⟨Rd.aD _ _ _,gF.out.aY b5⟩);clear b5 gF EC;obtain ⟨w9,hw8,r0,r1,r2,r3,HP,x0,x1,x2,x3,xf⟩:=iE ⟨#[98,108,111,99,107,113,117,111,116,101]⟩ ⟨#[]⟩ [] (ah.aW ks) HS Z0 B0 K1 BL HN.out;go_wp2;rw [<- hw8];exact bodyPost_ret (v:=.agg #[.string ⟨#[98,108,111,99,107,113,117,111,116,101]⟩,.string ⟨#[]⟩,(.slice none 0 0),(.slice a4 n4 c4)]) (by simp [results,Tryz.results86,go_sem,r0,r1,r2,r3]) rfl HP.out
theorem Vx (pv:jp5) (lv:Int) (i t d ti:ByteArray) (at_:At) (li:List aj) (ks:List ah) (vc vp vl vk:jp5) (w:jp3) (hR:kN (·<w.heap.size) w at_ li ks vc vp vl vk) (hs:Ga i t at_ li) (hl:dV pv w ks vk) (ht:PT w) : Calls Tryz.prog 86 #[pv,.agg #[.int .i64 7,.int .i64 lv,.string i,.string t,.string d,.string ti,.string at_.id,vc,vp,vl,vk]] w (sI w (aQ nUl [] (ah.aW ks))):=by
 obtain ⟨ac,nc,cc,ap,np,cp,al,nl,cl,ak,nk,ck,S,W0,rfl,rfl,rfl,rfl,HS,HW0,e0,SX,HR,Z0,B0,K1⟩:=kP (.int .i64 7) lv i t d ti hR;have vD:=gQ HS.out hl B0.out;have pX:=Ki HS.out ht B0.out;have lV:=qQ hs HR;have jM:=hid hs;have hst:t.size<=300:=hs.t;have hsi:i.size<=300:=hs.i;clear hR hs hl ht;go_enter Tryz.func86,Tryz.ntmps86;go_upto_region 18 with (fail)
 rw [<- HS.out];have hk0:=HW0.out;simp only [jN] at hk0;rw [<- hk0];clear hk0;have LC:=hid (vD.out W0 (jm0 _ _));have g9:=(SX.out W0 (jm0 _ _)).2.2.2.2.2.2.2.2.2;go_wp2_with fail
 (with_reducible refine LC.out.mono ?_)
 rintro e w4 ⟨dX,v4,rfl,hrow4⟩;obtain ⟨a4,n4,c4,rfl⟩:=hrow4.slice3;have b4:=hrow4.aI;have B4:=hid b4;have gF:=hid (show Rd (W0.heap.size<=·) w4 (cO (ah.aW ks)) [.slice a4 n4 c4] from hrow4.fD);have EC:=hid (kM ⟨#[117,108]⟩ none a4 0 n4 0 c4 w4);clear b4 hrow4 LC g9;go_wp2_with fail
 (with_reducible refine EC.out.mono ?_)
 rintro e w5 ⟨rfl,b5⟩;have BL:=hid (aP B4.out b5);have HN:=hid (show kZ (W0.heap.size<=·) w5 [] (ah.aW ks) (.slice none 0 0) (.slice a4 n4 c4) from ⟨Rd.aD _ _ _,gF.out.aY b5⟩);clear b5 gF EC;obtain ⟨w9,hw8,r0,r1,r2,r3,HP,x0,x1,x2,x3,xf⟩:=iE ⟨#[117,108]⟩ ⟨#[]⟩ [] (ah.aW ks) HS Z0 B0 K1 BL HN.out;go_wp2;rw [<- hw8];exact bodyPost_ret (v:=.agg #[.string ⟨#[117,108]⟩,.string ⟨#[]⟩,(.slice none 0 0),(.slice a4 n4 c4)]) (by simp [results,Tryz.results86,go_sem,r0,r1,r2,r3]) rfl HP.out
theorem Vy (pv:jp5) (lv:Int) (i t d ti:ByteArray) (at_:At) (li:List aj) (ks:List ah) (vc vp vl vk:jp5) (w:jp3) (hR:kN (·<w.heap.size) w at_ li ks vc vp vl vk) (hs:Ga i t at_ li) (hl:dV pv w ks vk) (ht:PT w) : Calls Tryz.prog 86 #[pv,.agg #[.int .i64 9,.int .i64 lv,.string i,.string t,.string d,.string ti,.string at_.id,vc,vp,vl,vk]] w (sI w (aQ nLi [] (ah.aW ks))):=by
 obtain ⟨ac,nc,cc,ap,np,cp,al,nl,cl,ak,nk,ck,S,W0,rfl,rfl,rfl,rfl,HS,HW0,e0,SX,HR,Z0,B0,K1⟩:=kP (.int .i64 9) lv i t d ti hR;have vD:=gQ HS.out hl B0.out;have pX:=Ki HS.out ht B0.out;have lV:=qQ hs HR;have jM:=hid hs;have hst:t.size<=300:=hs.t;have hsi:i.size<=300:=hs.i;clear hR hs hl ht;go_enter Tryz.func86,Tryz.ntmps86;go_upto_region 25 with (fail)
 rw [<- HS.out];have hk0:=HW0.out;simp only [jN] at hk0;rw [<- hk0];clear hk0;have LC:=hid (vD.out W0 (jm0 _ _));have g9:=(SX.out W0 (jm0 _ _)).2.2.2.2.2.2.2.2.2;go_wp2_with fail
 (with_reducible refine LC.out.mono ?_)
 rintro e w4 ⟨dX,v4,rfl,hrow4⟩;obtain ⟨a4,n4,c4,rfl⟩:=hrow4.slice3;have b4:=hrow4.aI;have B4:=hid b4;have gF:=hid (show Rd (W0.heap.size<=·) w4 (cO (ah.aW ks)) [.slice a4 n4 c4] from hrow4.fD);have EC:=hid (kM ⟨#[108,105]⟩ none a4 0 n4 0 c4 w4);clear b4 hrow4 LC g9;go_wp2_with fail
 (with_reducible refine EC.out.mono ?_)
 rintro e w5 ⟨rfl,b5⟩;have BL:=hid (aP B4.out b5);have HN:=hid (show kZ (W0.heap.size<=·) w5 [] (ah.aW ks) (.slice none 0 0) (.slice a4 n4 c4) from ⟨Rd.aD _ _ _,gF.out.aY b5⟩);clear b5 gF EC;obtain ⟨w9,hw8,r0,r1,r2,r3,HP,x0,x1,x2,x3,xf⟩:=iE ⟨#[108,105]⟩ ⟨#[]⟩ [] (ah.aW ks) HS Z0 B0 K1 BL HN.out;go_wp2;rw [<- hw8];exact bodyPost_ret (v:=.agg #[.string ⟨#[108,105]⟩,.string ⟨#[]⟩,(.slice none 0 0),(.slice a4 n4 c4)]) (by simp [results,Tryz.results86,go_sem,r0,r1,r2,r3]) rfl HP.out
theorem Vz (pv:jp5) (lv:Int) (i t d ti:ByteArray) (at_:At) (li:List aj) (ks:List ah) (vc vp vl vk:jp5) (w:jp3) (hR:kN (·<w.heap.size) w at_ li ks vc vp vl vk) (hs:Ga i t at_ li) (hl:dV pv w ks vk) (ht:PT w) : Calls Tryz.prog 86 #[pv,.agg #[.int .i64 5,.int .i64 lv,.string i,.string t,.string d,.string ti,.string at_.id,vc,vp,vl,vk]] w (sI w (aQ nHr [] [])):=by
 obtain ⟨ac,nc,cc,ap,np,cp,al,nl,cl,ak,nk,ck,S,W0,rfl,rfl,rfl,rfl,HS,HW0,e0,SX,HR,Z0,B0,K1⟩:=kP (.int .i64 5) lv i t d ti hR;have vD:=gQ HS.out hl B0.out;have pX:=Ki HS.out ht B0.out;have lV:=qQ hs HR;have jM:=hid hs;have hst:t.size<=300:=hs.t;have hsi:i.size<=300:=hs.i;clear hR hs hl ht;go_enter Tryz.func86,Tryz.ntmps86;go_upto_region 14 with (fail)
 rw [<- HS.out];have hk0:=HW0.out;simp only [jN] at hk0;rw [<- hk0];clear hk0;have EC:=hid (kM ⟨#[104,114]⟩ none none 0 0 0 0 W0);have B4:Hid (jp4 W0.heap.size W0 W0):=jm0 _ _;go_wp2_with fail
 (with_reducible refine EC.out.mono ?_)
 rintro e w5 ⟨rfl,b5⟩;have BL:=hid (aP B4.out b5);clear b5;obtain ⟨w9,hw8,r0,r1,r2,r3,HP,x0,x1,x2,x3,xf⟩:=iE ⟨#[104,114]⟩ ⟨#[]⟩ [] [] HS Z0 B0 K1 BL ⟨Rd.aD _ _ _,Rd.aD _ _ _⟩;go_wp2;rw [<- hw8];exact bodyPost_ret (v:=.agg #[.string ⟨#[104,114]⟩,.string ⟨#[]⟩,(.slice none 0 0),(.slice none 0 0)]) (by simp [results,Tryz.results86,go_sem,r0,r1,r2,r3]) rfl HP.out
theorem QB (pv:jp5) (lv:Int) (i t d ti:ByteArray) (at_:At) (li:List aj) (ks:List ah) (vc vp vl vk:jp5) (w:jp3) (hR:kN (·<w.heap.size) w at_ li ks vc vp vl vk) (hs:Ga i t at_ li) (ht:PT w) (hT:TbW i ks) : Calls Tryz.prog 86 #[pv,.agg #[.int .i64 10,.int .i64 lv,.string i,.string t,.string d,.string ti,.string at_.id,vc,vp,vl,vk]] w (sI w (eY i ks)):=by
 obtain ⟨ac,nc,cc,ap,np,cp,al,nl,cl,ak,nk,ck,S,W0,rfl,rfl,rfl,rfl,HS,HW0,e0,SX,HR,Z0,B0,K1⟩:=kP (.int .i64 10) lv i t d ti hR;have pX:=Ki HS.out ht B0.out;have lV:=qQ hs HR;have jM:=hid hs;have hst:t.size<=300:=hs.t;have hsi:i.size<=300:=hs.i;have HT:=hid hT;clear hT;clear hR hs ht;go_enter Tryz.func86,Tryz.ntmps86;go_upto_region 27 with (fail)
 rw [<- HS.out];have hk0:=HW0.out;simp only [jN] at hk0;rw [<- hk0];clear hk0;have TC:=hid (Gb 10 lv i t d ti at_ li ks (.slice ac nc cc) (.slice ap np cp) (.slice al nl cl) (.slice ak nk ck) W0 (kN.D5 HR.out (fun b (hb:b<S) hlt=>⟨hlt,rfl⟩)) HT.out);obtain ⟨g1,g2,g3,g4,g5,g6,g7,g8,g9,g10⟩:=SX.out W0 (jm0 _ _);have htb:(eY i ks).nm=⟨#[116,97,98,108,101]⟩/\(eY i ks).tx=⟨#[]⟩/\(eY i ks).at_=[]:=by cases ks<;>exact ⟨rfl,rfl,rfl⟩
 have Tz:=hid htb;clear htb;go_wp2_with fail
 (with_reducible refine TC.out.mono ?_)
 rintro e w5 ⟨va,vk,he,hN,hb5⟩;obtain ⟨aA,nA,cA,rfl⟩:=Rd.au hN.at_
 obtain ⟨aK,nK,cK,rfl⟩:=Rd.au hN.ks;rw [Tz.out.1,Tz.out.2.1] at he;subst he;have BL:=hid hb5;have HN:=hid hN;have HE:Hid (eY i ks=.mk ⟨#[116,97,98,108,101]⟩ ⟨#[]⟩ (eY i ks).at_ (eY i ks).ks):=by show _=_;rw [<- Tz.out.1,<- Tz.out.2.1];cases eY i ks;rfl
 rw [HE.out];clear hN hb5 g1 g2 g3 g4 g5 g6 g7 g8 g9 g10 TC;obtain ⟨w9,hw8,r0,r1,r2,r3,HP,x0,x1,x2,x3,xf⟩:=iE ⟨#[116,97,98,108,101]⟩ ⟨#[]⟩ (eY i ks).at_ (eY i ks).ks HS Z0 B0 K1 BL HN.out
 go_wp2;rw [<- hw8];exact bodyPost_ret (v:=.agg #[.string ⟨#[116,97,98,108,101]⟩,.string ⟨#[]⟩,(.slice aA nA cA),(.slice aK nK cK)]) (by simp [results,Tryz.results86,go_sem,r0,r1,r2,r3]) rfl (by rw [HE.out];exact HP.out)
theorem QC (pv:jp5) (lv:Int) (i t d ti:ByteArray) (at_:At) (li:List aj) (ks:List ah) (vc vp vl vk:jp5) (w:jp3) (hR:kN (·<w.heap.size) w at_ li ks vc vp vl vk) (hs:Ga i t at_ li) (hl:dV pv w ks vk) (ht:PT w) (hi:aZ i=true) : Calls Tryz.prog 86 #[pv,.agg #[.int .i64 3,.int .i64 lv,.string i,.string t,.string d,.string ti,.string at_.id,vc,vp,vl,vk]] w (sI w (aQ Kj [] [aQ iV [] (bS t)])):=by
 obtain ⟨ac,nc,cc,ap,np,cp,al,nl,cl,ak,nk,ck,S,W0,rfl,rfl,rfl,rfl,HS,HW0,e0,SX,HR,Z0,B0,K1⟩:=kP (.int .i64 3) lv i t d ti hR;have vD:=gQ HS.out hl B0.out;have pX:=Ki HS.out ht B0.out;have lV:=qQ hs HR;have jM:=hid hs;have hst:t.size<=300:=hs.t;have hsi:i.size<=300:=hs.i;have TA:i.toList.isEmpty=true:=by
  have h:i.toList.isEmpty=aZ i:=by rw [Lib.toList_data,Bool.eq_iff_iff,List.isEmpty_iff,aZ,decide_eq_true_iff]
  rw [h];exact hi
 clear hi;clear hR hs hl ht;go_enter Tryz.func86,Tryz.ntmps86;go_upto_region 7 with (fail)
 rw [<- HS.out];have hk0:=HW0.out;simp only [jN] at hk0;rw [<- hk0];clear hk0;have TD:jp4 W0.heap.size W0 W0:=jm0 _ _;have vF:Hid (Rd (W0.heap.size<=·) W0 (bP []) [.slice none 0 0]):=Rd.aD _ _ _;have e2:=(SX.out W0 (jm0 _ _)).2.1;have DC:=hid (fQ t W0);have g3:=(SX.out W0 TD).2.2.1;go_wp2_with fail
 (with_reducible refine DC.out.mono ?_)
 rintro e w4 ⟨dX,v4,rfl,hrow4⟩;obtain ⟨a4,n4,c4,rfl⟩:=hrow4.slice3;have b4:=hrow4.aI;have B4:=hid (aP TD b4);have gF:=hid (show Rd (W0.heap.size<=·) w4 (cO (bS t)) [.slice a4 n4 c4] from hrow4.fD.weaken (fun b hb=>jm2 (TD).size hb));have oO:=hid (vF.out.aY b4);have EC:=hid (kM ⟨#[99,111,100,101]⟩ none a4 0 n4 0 c4 w4);clear b4 hrow4 DC g3;go_wp2_with fail
 (with_reducible refine EC.out.mono ?_)
 rintro e w5 ⟨rfl,b5⟩;have XD:zx W0 none w5 (aQ iV [] (bS t)).d [.string ⟨#[99,111,100,101]⟩,.string ⟨#[]⟩,.slice none 0 0,.slice a4 n4 c4]:=⟨aP B4.out b5,fun p hp=>by simp at hp,(Nd.eH iV ⟨#[]⟩ (kZ.keep ⟨oO.out,gF.out⟩ (fun b hb hlt=>⟨⟨hb,by simp⟩,b5.block b hlt⟩)))⟩;have XL:=hid XD.lit;have TF:=hid (kM ⟨#[112,114,101]⟩ none (some ⟨w5.heap.size,0,none⟩) 0 1 0 1 (w5.alloc (.cells #[.string ⟨#[99,111,100,101]⟩,.string ⟨#[]⟩,.slice none 0 0,.slice a4 n4 c4] 35)));clear XD b5 EC;go_wp2_with fail
 (with_reducible refine TF.out.mono ?_)
 rintro e w6 ⟨rfl,b6⟩;have BL:=hid (aP XL.out.aI b6);have HN:=hid (show kZ (W0.heap.size<=·) w6 [] [aQ iV [] (bS t)] (.slice none 0 0) (.slice (some ⟨w5.heap.size,0,none⟩) 1 1) from ⟨Rd.aD _ _ _,(XL.out.rd.aY b6).weaken (fun b hb=>hb.1)⟩);clear b6 XL TF;obtain ⟨w9,hw8,r0,r1,r2,r3,HP,x0,x1,x2,x3,xf⟩:=iE ⟨#[112,114,101]⟩ ⟨#[]⟩ [] [aQ iV [] (bS t)] HS Z0 B0 K1 BL HN.out;go_wp2;rw [<- hw8];exact bodyPost_ret (v:=.agg #[.string ⟨#[112,114,101]⟩,.string ⟨#[]⟩,(.slice none 0 0),(.slice (some ⟨w5.heap.size,0,none⟩) 1 1)]) (by simp [results,Tryz.results86,go_sem,r0,r1,r2,r3]) rfl HP.out
theorem QD (pv:jp5) (lv:Int) (i t d ti:ByteArray) (at_:At) (li:List aj) (ks:List ah) (vc vp vl vk:jp5) (w:jp3) (hR:kN (·<w.heap.size) w at_ li ks vc vp vl vk) (hs:Ga i t at_ li) (hl:dV pv w ks vk) (ht:PT w) (hi:aZ i=false) : Calls Tryz.prog 86 #[pv,.agg #[.int .i64 3,.int .i64 lv,.string i,.string t,.string d,.string ti,.string at_.id,vc,vp,vl,vk]] w (sI w (aQ Kj [] [aQ iV [⟨iF,⟨#[108,97,110,103,117,97,103,101,45]⟩++i⟩] (bS t)])):=by
 obtain ⟨ac,nc,cc,ap,np,cp,al,nl,cl,ak,nk,ck,S,W0,rfl,rfl,rfl,rfl,HS,HW0,e0,SX,HR,Z0,B0,K1⟩:=kP (.int .i64 3) lv i t d ti hR;have vD:=gQ HS.out hl B0.out;have pX:=Ki HS.out ht B0.out;have lV:=qQ hs HR;have jM:=hid hs;have hst:t.size<=300:=hs.t;have hsi:i.size<=300:=hs.i;have TA:i.toList.isEmpty=false:=by
  have h:i.toList.isEmpty=aZ i:=by rw [Lib.toList_data,Bool.eq_iff_iff,List.isEmpty_iff,aZ,decide_eq_true_iff]
  rw [h];exact hi
 clear hi;clear hR hs hl ht;go_enter Tryz.func86,Tryz.ntmps86;go_upto_region 7 with (fail)
 rw [<- HS.out];have hk0:=HW0.out;simp only [jN] at hk0;rw [<- hk0];clear hk0;have e2:=(SX.out W0 (jm0 _ _)).2.1;have q5:(⟨#[108,97,110,103,117,97,103,101,45]⟩:ByteArray).size+i.size<=9223372036854775807:=by have:(⟨#[108,97,110,103,117,97,103,101,45]⟩:ByteArray).size=9:=rfl;omega
 have q6:9+i.size<=9223372036854775807:=by omega
 have PC:Hid (Calls Tryz.prog 41 #[.slice (some ⟨W0.heap.size,0,none⟩) 2 2] (W0.alloc (.cells #[.string ⟨#[99,108,97,115,115]⟩,.string (⟨#[108,97,110,103,117,97,103,101,45]⟩++i)] 9)) (bI (W0.alloc (.cells #[.string ⟨#[99,108,97,115,115]⟩,.string (⟨#[108,97,110,103,117,97,103,101,45]⟩++i)] 9)) [⟨iF,⟨#[108,97,110,103,117,97,103,101,45]⟩++i⟩])):=QE iF (D6++i) W0;go_wp2_with fail
 (with_reducible refine PC.out.mono ?_)
 rintro e w2 ⟨bR,v2,rfl,hrow2⟩;obtain ⟨a2,c2,rfl,-,-⟩:=hrow2.cap (n:=1) rfl;have bl:jp4 W0.heap.size W0 (W0.alloc (.cells #[.string ⟨#[99,108,97,115,115]⟩,.string (⟨#[108,97,110,103,117,97,103,101,45]⟩++i)] 9)):=(jm0 _ _).alloc (jm1 _) _;have B2:=hid (bl.trans (hrow2.aI.mono bl.size));have vF:=hid (show Rd (W0.heap.size<=·) w2 (bP [⟨iF,⟨#[108,97,110,103,117,97,103,101,45]⟩++i⟩]) [.slice a2 1 c2] from hrow2.fD.weaken (fun b hb=>jm2 bl.size hb));clear hrow2 bl PC q5 q6 e2;have DC:=hid (fQ t w2);have g3:=(SX.out w2 B2.out).2.2.1;go_wp2_with fail
 (with_reducible refine DC.out.mono ?_)
 rintro e w4 ⟨dX,v4,rfl,hrow4⟩;obtain ⟨a4,n4,c4,rfl⟩:=hrow4.slice3;have b4:=hrow4.aI;have B4:=hid (aP B2.out b4);have gF:=hid (show Rd (W0.heap.size<=·) w4 (cO (bS t)) [.slice a4 n4 c4] from hrow4.fD.weaken (fun b hb=>jm2 (B2.out).size hb));have oO:=hid (vF.out.aY b4);have EC:=hid (kM ⟨#[99,111,100,101]⟩ a2 a4 1 n4 c2 c4 w4);clear b4 hrow4 DC g3;go_wp2_with fail
 (with_reducible refine EC.out.mono ?_)
 rintro e w5 ⟨rfl,b5⟩;have XD:zx W0 none w5 (aQ iV [⟨iF,⟨#[108,97,110,103,117,97,103,101,45]⟩++i⟩] (bS t)).d [.string ⟨#[99,111,100,101]⟩,.string ⟨#[]⟩,.slice a2 1 c2,.slice a4 n4 c4]:=⟨aP B4.out b5,fun p hp=>by simp at hp,(Nd.eH iV ⟨#[]⟩ (kZ.keep ⟨oO.out,gF.out⟩ (fun b hb hlt=>⟨⟨hb,by simp⟩,b5.block b hlt⟩)))⟩;have XL:=hid XD.lit;have TF:=hid (kM ⟨#[112,114,101]⟩ none (some ⟨w5.heap.size,0,none⟩) 0 1 0 1 (w5.alloc (.cells #[.string ⟨#[99,111,100,101]⟩,.string ⟨#[]⟩,.slice a2 1 c2,.slice a4 n4 c4] 35)));clear XD b5 EC;go_wp2_with fail
 (with_reducible refine TF.out.mono ?_)
 rintro e w6 ⟨rfl,b6⟩;have BL:=hid (aP XL.out.aI b6);have HN:=hid (show kZ (W0.heap.size<=·) w6 [] [aQ iV [⟨iF,⟨#[108,97,110,103,117,97,103,101,45]⟩++i⟩] (bS t)] (.slice none 0 0) (.slice (some ⟨w5.heap.size,0,none⟩) 1 1) from ⟨Rd.aD _ _ _,(XL.out.rd.aY b6).weaken (fun b hb=>hb.1)⟩);clear b6 XL TF;obtain ⟨w9,hw8,r0,r1,r2,r3,HP,x0,x1,x2,x3,xf⟩:=iE ⟨#[112,114,101]⟩ ⟨#[]⟩ [] [aQ iV [⟨iF,⟨#[108,97,110,103,117,97,103,101,45]⟩++i⟩] (bS t)] HS Z0 B0 K1 BL HN.out;go_wp2;rw [<- hw8];exact bodyPost_ret (v:=.agg #[.string ⟨#[112,114,101]⟩,.string ⟨#[]⟩,(.slice none 0 0),(.slice (some ⟨w5.heap.size,0,none⟩) 1 1)]) (by simp [results,Tryz.results86,go_sem,r0,r1,r2,r3]) rfl HP.out
theorem QF (pv:jp5) (lv:Int) (i t d ti:ByteArray) (at_:At) (li:List aj) (ks:List ah) (vc vp vl vk:jp5) (w:jp3) (hR:kN (·<w.heap.size) w at_ li ks vc vp vl vk) (hs:Ga i t at_ li) (hl:dV pv w ks vk) (ht:PT w) (hv:lv=1) : Calls Tryz.prog 86 #[pv,.agg #[.int .i64 8,.int .i64 lv,.string i,.string t,.string d,.string ti,.string at_.id,vc,vp,vl,vk]] w (sI w (aQ Ya [] (ah.aW ks))):=by
 obtain ⟨ac,nc,cc,ap,np,cp,al,nl,cl,ak,nk,ck,S,W0,rfl,rfl,rfl,rfl,HS,HW0,e0,SX,HR,Z0,B0,K1⟩:=kP (.int .i64 8) lv i t d ti hR;have vD:=gQ HS.out hl B0.out;have pX:=Ki HS.out ht B0.out;have lV:=qQ hs HR;have jM:=hid hs;have hst:t.size<=300:=hs.t;have hsi:i.size<=300:=hs.i;have qv:(lv==1)=true:=by rw [hv];rfl
 clear hv;clear hR hs hl ht;go_enter Tryz.func86,Tryz.ntmps86;go_upto_region 20 with (fail)
 rw [<- HS.out];have hk0:=HW0.out;simp only [jN] at hk0;rw [<- hk0];clear hk0;have TD:jp4 W0.heap.size W0 W0:=jm0 _ _;have vF:Hid (Rd (W0.heap.size<=·) W0 (bP []) [.slice none 0 0]):=Rd.aD _ _ _;have e1:=(SX.out W0 (jm0 _ _)).1;have LC:=hid (vD.out W0 TD);have g10:=(SX.out W0 TD).2.2.2.2.2.2.2.2.2;go_wp2_with fail
 (with_reducible refine LC.out.mono ?_)
 rintro e w4 ⟨dX,v4,rfl,hrow4⟩;obtain ⟨a4,n4,c4,rfl⟩:=hrow4.slice3;have b4:=hrow4.aI;have B4:=hid (aP TD b4);have gF:=hid (show Rd (W0.heap.size<=·) w4 (cO (ah.aW ks)) [.slice a4 n4 c4] from hrow4.fD.weaken (fun b hb=>jm2 (TD).size hb));have oO:=hid (vF.out.aY b4);have EC:=hid (kM ⟨#[111,108]⟩ none a4 0 n4 0 c4 w4);clear b4 hrow4 LC g10;go_wp2_with fail
 (with_reducible refine EC.out.mono ?_)
 rintro e w5 ⟨rfl,b5⟩;have BL:=hid (aP B4.out b5);have HN:=hid (show kZ (W0.heap.size<=·) w5 [] (ah.aW ks) (.slice none 0 0) (.slice a4 n4 c4) from ⟨oO.out.aY b5,gF.out.aY b5⟩);clear b5 gF EC;obtain ⟨w9,hw8,r0,r1,r2,r3,HP,x0,x1,x2,x3,xf⟩:=iE ⟨#[111,108]⟩ ⟨#[]⟩ [] (ah.aW ks) HS Z0 B0 K1 BL HN.out;go_wp2;rw [<- hw8];exact bodyPost_ret (v:=.agg #[.string ⟨#[111,108]⟩,.string ⟨#[]⟩,(.slice none 0 0),(.slice a4 n4 c4)]) (by simp [results,Tryz.results86,go_sem,r0,r1,r2,r3]) rfl HP.out
theorem QG (pv:jp5) (lv:Int) (i t d ti:ByteArray) (at_:At) (li:List aj) (ks:List ah) (vc vp vl vk:jp5) (w:jp3) (hR:kN (·<w.heap.size) w at_ li ks vc vp vl vk) (hs:Ga i t at_ li) (hl:dV pv w ks vk) (ht:PT w) (n:Nat) (hv:lv=(n:Int)) (hn:n<=999999999) (h1:lv≠1) : Calls Tryz.prog 86 #[pv,.agg #[.int .i64 8,.int .i64 lv,.string i,.string t,.string d,.string ti,.string at_.id,vc,vp,vl,vk]] w (sI w (aQ Ya [⟨sStart,gD n⟩] (ah.aW ks))):=by
 obtain ⟨ac,nc,cc,ap,np,cp,al,nl,cl,ak,nk,ck,S,W0,rfl,rfl,rfl,rfl,HS,HW0,e0,SX,HR,Z0,B0,K1⟩:=kP (.int .i64 8) lv i t d ti hR;have vD:=gQ HS.out hl B0.out;have pX:=Ki HS.out ht B0.out;have lV:=qQ hs HR;have jM:=hid hs;have hst:t.size<=300:=hs.t;have hsi:i.size<=300:=hs.i;have qv:(lv==1)=false:=by rw [beq_eq_false_iff_ne];exact h1
 have IC:Hid (∀ W:jp3,jp4 W0.heap.size W0 W->Calls Tryz.prog 136 #[.int .i64 lv] W (fun e w'=>e=.returned (.string (gD n))/\jp4 W.heap.size W w')):=fun W hW=>by rw [hv];exact DZ n W hn (pX.out W hW)
 clear hv hn h1;clear hR hs hl ht;go_enter Tryz.func86,Tryz.ntmps86;go_upto_region 20 with (fail)
 rw [<- HS.out];have hk0:=HW0.out;simp only [jN] at hk0;rw [<- hk0];clear hk0;have e1:=(SX.out W0 (jm0 _ _)).1;have IT:=hid (IC.out W0 (jm0 _ _));go_wp2_with fail
 (with_reducible refine IT.out.mono ?_)
 rintro e w1 ⟨rfl,b1⟩;have PC:Hid (Calls Tryz.prog 41 #[.slice (some ⟨w1.heap.size,0,none⟩) 2 2] (w1.alloc (.cells #[.string ⟨#[115,116,97,114,116]⟩,.string (gD n)] 9)) (bI (w1.alloc (.cells #[.string ⟨#[115,116,97,114,116]⟩,.string (gD n)] 9)) [⟨sStart,gD n⟩])):=QE sStart (gD n) w1;have bl:jp4 W0.heap.size W0 (w1.alloc (.cells #[.string ⟨#[115,116,97,114,116]⟩,.string (gD n)] 9)):=b1.alloc b1.size _;clear IT e1;go_wp2_with fail
 (with_reducible refine PC.out.mono ?_)
 rintro e w2 ⟨bR,v2,rfl,hrow2⟩;obtain ⟨a2,c2,rfl,-,-⟩:=hrow2.cap (n:=1) rfl;have B2:=hid (bl.trans (hrow2.aI.mono bl.size));have vF:=hid (show Rd (W0.heap.size<=·) w2 (bP [⟨sStart,gD n⟩]) [.slice a2 1 c2] from hrow2.fD.weaken (fun b hb=>jm2 bl.size hb));clear hrow2 bl PC b1;have LC:=hid (vD.out w2 B2.out);have g10:=(SX.out w2 B2.out).2.2.2.2.2.2.2.2.2;go_wp2_with fail
 (with_reducible refine LC.out.mono ?_)
 rintro e w4 ⟨dX,v4,rfl,hrow4⟩;obtain ⟨a4,n4,c4,rfl⟩:=hrow4.slice3;have b4:=hrow4.aI;have B4:=hid (aP B2.out b4);have gF:=hid (show Rd (W0.heap.size<=·) w4 (cO (ah.aW ks)) [.slice a4 n4 c4] from hrow4.fD.weaken (fun b hb=>jm2 (B2.out).size hb));have oO:=hid (vF.out.aY b4);have EC:=hid (kM ⟨#[111,108]⟩ a2 a4 1 n4 c2 c4 w4);clear b4 hrow4 LC g10;go_wp2_with fail
 (with_reducible refine EC.out.mono ?_)
 rintro e w5 ⟨rfl,b5⟩;have BL:=hid (aP B4.out b5);have HN:=hid (show kZ (W0.heap.size<=·) w5 [⟨sStart,gD n⟩] (ah.aW ks) (.slice a2 1 c2) (.slice a4 n4 c4) from ⟨oO.out.aY b5,gF.out.aY b5⟩);clear b5 gF EC;obtain ⟨w9,hw8,r0,r1,r2,r3,HP,x0,x1,x2,x3,xf⟩:=iE ⟨#[111,108]⟩ ⟨#[]⟩ [⟨sStart,gD n⟩] (ah.aW ks) HS Z0 B0 K1 BL HN.out;go_wp2;rw [<- hw8];exact bodyPost_ret (v:=.agg #[.string ⟨#[111,108]⟩,.string ⟨#[]⟩,(.slice a2 1 c2),(.slice a4 n4 c4)]) (by simp [results,Tryz.results86,go_sem,r0,r1,r2,r3]) rfl HP.out
theorem VB (pv:jp5) (lv:Int) (i t d ti:ByteArray) (at_:At) (li:List aj) (ks:List ah) (vc vp vl vk:jp5) (w:jp3) (hR:kN (·<w.heap.size) w at_ li ks vc vp vl vk) (hs:Ga i t at_ li) (hl:dV pv w ks vk) (ht:PT w) (n:Nat) (hv:lv=(n:Int)) (hn:n<=999999999) : Calls Tryz.prog 86 #[pv,.agg #[.int .i64 2,.int .i64 lv,.string i,.string t,.string d,.string ti,.string at_.id,vc,vp,vl,vk]] w (sI w (aQ (⟨#[104]⟩++gD n) (lG at_ []) (kG li))):=by
 obtain ⟨ac,nc,cc,ap,np,cp,al,nl,cl,ak,nk,ck,S,W0,rfl,rfl,rfl,rfl,HS,HW0,e0,SX,HR,Z0,B0,K1⟩:=kP (.int .i64 2) lv i t d ti hR;have vD:=gQ HS.out hl B0.out;have pX:=Ki HS.out ht B0.out;have lV:=qQ hs HR;have jM:=hid hs;have hst:t.size<=300:=hs.t;have hsi:i.size<=300:=hs.i;have IC:Hid (∀ W:jp3,jp4 W0.heap.size W0 W->Calls Tryz.prog 136 #[.int .i64 lv] W (fun e w'=>e=.returned (.string (gD n))/\jp4 W.heap.size W w')):=fun W hW=>by rw [hv];exact DZ n W hn (pX.out W hW)
 have q5:(⟨#[104]⟩:ByteArray).size+(gD n).size<=9223372036854775807:=by have:(⟨#[104]⟩:ByteArray).size=1:=rfl;have:=zu n hn;omega
 have q6:1+(gD n).size<=9223372036854775807:=by have:=zu n hn;omega
 clear hv hn;clear hR hs hl ht;go_enter Tryz.func86,Tryz.ntmps86;go_upto_region 5 with (fail)
 rw [<- HS.out];have hk0:=HW0.out;simp only [jN] at hk0;rw [<- hk0];clear hk0;have IT:=hid (IC.out W0.drew ((jm0 W0.heap.size W0).drew));have hadd:∀ w:jp3,(Op.stringOp .add (⟨#[104]⟩:ByteArray) (gD n)).run Tryz.prog w=.ok (.string (⟨#[104]⟩++gD n)) w:=fun w=>run_string_add_sum w _ _ q5
 clear q5;have SF:=hid (fun (w':jp3) (hb:jp4 W0.heap.size W0 w')=>(⟨(SX.out w' hb).1,(SX.out w' hb).2.2.2.2.2.1,(SX.out w' hb).2.2.2.2.2.2.1,(SX.out w' hb).2.2.2.2.2.2.2.1,(SX.out w' hb).2.2.2.2.2.2.2.2.1⟩:w'.cell? ⟨S,1,none⟩=some (.int .i64 lv)/\w'.cell? ⟨S,6,none⟩=some (.string at_.id)/\w'.cell? ⟨S,7,none⟩=some (.slice ac nc cc)/\w'.cell? ⟨S,8,none⟩=some (.slice ap np cp)/\w'.cell? ⟨S,9,none⟩=some (.slice al nl cl)));have S0:=SF.out _ ((jm0 W0.heap.size W0).drew);go_wp2_with fail
 go_region_held3 (fun w'=>w'.cell? ⟨S,1,none⟩=some (.int .i64 lv)/\w'.cell? ⟨S,6,none⟩=some (.string at_.id)/\w'.cell? ⟨S,7,none⟩=some (.slice ac nc cc)/\w'.cell? ⟨S,8,none⟩=some (.slice ap np cp)/\w'.cell? ⟨S,9,none⟩=some (.slice al nl cl))
  (with_reducible assumption)
  (first
   | (go_simp;go_at_call 136;(with_reducible refine IT.out.mono ?_);rintro e w1 ⟨rfl,b1⟩;have B1:Hid (jp4 W0.heap.size W0 w1):=((jm0 W0.heap.size W0).drew).trans b1;have S1:=SF.out (w1) B1.out;have AC:=hid (Y1 at_ [] (.slice ac nc cc) (.slice ap np cp) (.slice none 0 0) w1 w1 oq.nil (Bc HR.out.at_ B1.out (by have:=Z0.out;omega)) (ML jM.out.at_).1 (ML jM.out.at_).2))
   | (go_simp;go_at_call 137;(with_reducible refine AC.out.mono ?_);rintro e w3 ⟨dM,v3,rfl,hrow3⟩;obtain ⟨a3,n3,c3,rfl⟩:=hrow3.slice3;have B3:Hid (jp4 W0.heap.size W0 w3):=(B1.out).trans (hrow3.aI.mono (B1.out).size);have Bg:Hid (Rd (W0.heap.size<=·) w3 (bP (lG at_ [])) [.slice a3 n3 c3]):=hrow3.fD.weaken (fun b hb=>jm2 (B1.out).size hb);have S3:=SF.out (w3) B3.out;have LC:=hid (lV.out w3 B3.out))
   | (go_simp;go_at_call 78;(with_reducible refine LC.out.mono ?_);rintro e w4 ⟨dX,v4,rfl,hrow4⟩;obtain ⟨a4,n4,c4,rfl⟩:=hrow4.slice3;have b4:=hrow4.aI;have B4:=hid (aP B3.out b4);have gF:=hid (show Rd (W0.heap.size<=·) w4 (cO (kG li)) [.slice a4 n4 c4] from hrow4.fD.weaken (fun b hb=>jm2 B3.out.size hb));have oO:=hid (Bg.out.aY b4);have S4:=SF.out (w4) B4.out;have EC:=hid (kM ((⟨#[104]⟩:ByteArray)++gD n) a3 a4 n3 n4 c3 c4 w4))
   | (go_simp;go_at_call 40;(with_reducible refine EC.out.mono ?_);rintro e w5 ⟨rfl,b5⟩;have BL:=hid (aP B4.out b5);obtain ⟨x0,x1,x2,x3,xf⟩:=pY (K1.out.below BL.out);have S5:=SF.out (w5) BL.out;have K6:=sJ S w5 (.string ((⟨#[104]⟩:ByteArray)++gD n)) (.string ⟨#[]⟩) (.slice a3 n3 c3) (.slice a4 n4 c4);have S6:=And.imp (K6 _ _) (And.imp (K6 _ _) (And.imp (K6 _ _) (And.imp (K6 _ _) (K6 _ _)))) (SF.out w5 BL.out);clear K6))
 all_goals
  have HN:=hid (show kZ (W0.heap.size<=·) w5 (lG at_ []) (kG li) (.slice a3 n3 c3) (.slice a4 n4 c4) from ⟨oO.out.aY b5,gF.out.aY b5⟩);clear b5 gF EC oO hrow3 hrow4 b4 S0 S3 S4 S5 S6 Bg S1 b1;obtain ⟨w9,bM⟩:∃ w9,w9=four w5 (S+1) (.string ((⟨#[104]⟩:ByteArray)++gD n)) (.string ⟨#[]⟩) (.slice a3 n3 c3) (.slice a4 n4 c4):=⟨_,rfl⟩;have hf:=fE ((⟨#[104]⟩:ByteArray)++gD n) ⟨#[]⟩ (lG at_ []) (kG li) HS.out Z0.out B0.out K1.out BL.out HN.out;rw [<- bM] at hf;have HC:=hid hf.1;have HP:=hid hf.2;clear hf;have hw8:=bM;simp only [four] at hw8;clear bM;obtain ⟨x0,x1,x2,x3,xf⟩:=pY (K1.out.below BL.out);go_wp2;rw [<- hw8];have r0:=HC.out.cell 0 _ rfl;have r1:=HC.out.cell 1 _ rfl;have r2:=HC.out.cell 2 _ rfl;have r3:=HC.out.cell 3 _ rfl;exact bodyPost_ret (v:=.agg #[.string ((⟨#[104]⟩:ByteArray)++gD n),.string ⟨#[]⟩,(.slice a3 n3 c3),(.slice a4 n4 c4)]) (by simp [results,Tryz.results86,go_sem,r0,r1,r2,r3]) rfl HP.out
theorem VD (pv:jp5) (lv:Int) (i t d ti:ByteArray) (at_:At) (li:List aj) (ks:List ah) (vc vp vl vk:jp5) (w:jp3) (hR:kN (·<w.heap.size) w at_ li ks vc vp vl vk) (hs:Ga i t at_ li) (hl:dV pv w ks vk) (ht:PT w) : Calls Tryz.prog 86 #[pv,.agg #[.int .i64 4,.int .i64 lv,.string i,.string t,.string d,.string ti,.string at_.id,vc,vp,vl,vk]] w (sI w (aQ qc (lG at_ [⟨#[109,97,116,104]⟩]) (bS t))):=by
 obtain ⟨ac,nc,cc,ap,np,cp,al,nl,cl,ak,nk,ck,S,W0,rfl,rfl,rfl,rfl,HS,HW0,e0,SX,HR,Z0,B0,K1⟩:=kP (.int .i64 4) lv i t d ti hR;have vD:=gQ HS.out hl B0.out;have pX:=Ki HS.out ht B0.out;have lV:=qQ hs HR;have jM:=hid hs;have hst:t.size<=300:=hs.t;have hsi:i.size<=300:=hs.i;clear hR hs hl ht;go_enter Tryz.func86,Tryz.ntmps86;go_upto_region 12 with (fail)
 rw [<- HS.out];have hk0:=HW0.out;simp only [jN] at hk0;rw [<- hk0];clear hk0;have lY:Hid (jp4 W0.heap.size W0 (W0.alloc (.cells #[.string ⟨#[109,97,116,104]⟩] 9)).drew):=nG W0 (.cells #[.string ⟨#[109,97,116,104]⟩] 9);have AC:Hid (Calls Tryz.prog 137 #[.agg #[.string at_.id,.slice ac nc cc,.slice ap np cp],.slice (some ⟨W0.heap.size,0,none⟩) 1 1] (W0.alloc (.cells #[.string ⟨#[109,97,116,104]⟩] 9)).drew (bI W0.drew (lG at_ [⟨#[109,97,116,104]⟩]))):=Y1 at_ [⟨#[109,97,116,104]⟩] (.slice ac nc cc) (.slice ap np cp) (.slice (some ⟨W0.heap.size,0,none⟩) 1 1) W0.drew (W0.alloc (.cells #[.string ⟨#[109,97,116,104]⟩] 9)).drew (oq.one W0.drew ⟨#[109,97,116,104]⟩) (Bc HR.out.at_ lY.out (by have:=Z0.out;omega)) (uj jM.out.at_ ⟨#[109,97,116,104]⟩ (by have:=jM.out.i;decide)).1 (uj jM.out.at_ ⟨#[109,97,116,104]⟩ (by have:=jM.out.i;decide)).2
 have SF:=hid (fun (w':jp3) (hb:jp4 W0.heap.size W0 w')=>(⟨(SX.out w' hb).2.2.1,(SX.out w' hb).2.2.2.2.2.1,(SX.out w' hb).2.2.2.2.2.2.1,(SX.out w' hb).2.2.2.2.2.2.2.1⟩:w'.cell? ⟨S,3,none⟩=some (.string t)/\w'.cell? ⟨S,6,none⟩=some (.string at_.id)/\w'.cell? ⟨S,7,none⟩=some (.slice ac nc cc)/\w'.cell? ⟨S,8,none⟩=some (.slice ap np cp)));have S1:=SF.out _ lY.out;have VE:Hid (∀ W:jp3,Calls Tryz.prog 53 #[.string t] W (dw W (bS t))):=fun W=>fQ t W
 have S0:=SF.out _ ((jm0 W0.heap.size W0).drew);go_wp2_with fail
 go_region_held3 (fun w'=>w'.cell? ⟨S,3,none⟩=some (.string t)/\w'.cell? ⟨S,6,none⟩=some (.string at_.id)/\w'.cell? ⟨S,7,none⟩=some (.slice ac nc cc)/\w'.cell? ⟨S,8,none⟩=some (.slice ap np cp))
  (with_reducible assumption)
  (first
   | (go_simp;go_at_call 137;(with_reducible refine AC.out.mono ?_);rintro e w3 ⟨dM,v3,rfl,hrow3⟩;obtain ⟨a3,n3,c3,rfl⟩:=hrow3.slice3;have B3:Hid (jp4 W0.heap.size W0 w3):=(((jm0 W0.heap.size W0).drew)).trans (hrow3.aI.mono (((jm0 W0.heap.size W0).drew)).size);have Bg:Hid (Rd (W0.heap.size<=·) w3 (bP (lG at_ [⟨#[109,97,116,104]⟩])) [.slice a3 n3 c3]):=hrow3.fD.weaken (fun b hb=>jm2 (((jm0 W0.heap.size W0).drew)).size hb);have S3:=SF.out (w3) B3.out;have LC:=hid (VE.out w3))
   | (go_simp;go_at_call 53;(with_reducible refine LC.out.mono ?_);rintro e w4 ⟨dX,v4,rfl,hrow4⟩;obtain ⟨a4,n4,c4,rfl⟩:=hrow4.slice3;have b4:=hrow4.aI;have B4:=hid (aP B3.out b4);have gF:=hid (show Rd (W0.heap.size<=·) w4 (cO (bS t)) [.slice a4 n4 c4] from hrow4.fD.weaken (fun b hb=>jm2 B3.out.size hb));have oO:=hid (Bg.out.aY b4);have S4:=SF.out (w4) B4.out;have EC:=hid (kM ⟨#[100,105,118]⟩ a3 a4 n3 n4 c3 c4 w4))
   | (go_simp;go_at_call 40;(with_reducible refine EC.out.mono ?_);rintro e w5 ⟨rfl,b5⟩;have BL:=hid (aP B4.out b5);obtain ⟨x0,x1,x2,x3,xf⟩:=pY (K1.out.below BL.out);have S5:=SF.out (w5) BL.out;have K6:=sJ S w5 (.string ⟨#[100,105,118]⟩) (.string ⟨#[]⟩) (.slice a3 n3 c3) (.slice a4 n4 c4);have S6:=And.imp (K6 _ _) (And.imp (K6 _ _) (And.imp (K6 _ _) (K6 _ _))) (SF.out w5 BL.out);clear K6))
 all_goals
  have HN:=hid (show kZ (W0.heap.size<=·) w5 (lG at_ [⟨#[109,97,116,104]⟩]) (bS t) (.slice a3 n3 c3) (.slice a4 n4 c4) from ⟨oO.out.aY b5,gF.out.aY b5⟩);clear b5 gF EC oO hrow3 hrow4 b4 S0 S3 S4 S5 S6 Bg S1;obtain ⟨w9,bM⟩:∃ w9,w9=four w5 (S+1) (.string ⟨#[100,105,118]⟩) (.string ⟨#[]⟩) (.slice a3 n3 c3) (.slice a4 n4 c4):=⟨_,rfl⟩;have hf:=fE ⟨#[100,105,118]⟩ ⟨#[]⟩ (lG at_ [⟨#[109,97,116,104]⟩]) (bS t) HS.out Z0.out B0.out K1.out BL.out HN.out;rw [<- bM] at hf;have HC:=hid hf.1;have HP:=hid hf.2;clear hf;have hw8:=bM;simp only [four] at hw8;clear bM;obtain ⟨x0,x1,x2,x3,xf⟩:=pY (K1.out.below BL.out);go_wp2;rw [<- hw8];have r0:=HC.out.cell 0 _ rfl;have r1:=HC.out.cell 1 _ rfl;have r2:=HC.out.cell 2 _ rfl;have r3:=HC.out.cell 3 _ rfl;exact bodyPost_ret (v:=.agg #[.string ⟨#[100,105,118]⟩,.string ⟨#[]⟩,(.slice a3 n3 c3),(.slice a4 n4 c4)]) (by simp [results,Tryz.results86,go_sem,r0,r1,r2,r3]) rfl HP.out
theorem QH (pv:jp5) (lv:Int) (i t d ti:ByteArray) (at_:At) (li:List aj) (ks:List ah) (vc vp vl vk:jp5) (w:jp3) (hR:kN (·<w.heap.size) w at_ li ks vc vp vl vk) (hs:Ga i t at_ li) (hl:dV pv w ks vk) (ht:PT w) : Calls Tryz.prog 86 #[pv,.agg #[.int .i64 13,.int .i64 lv,.string i,.string t,.string d,.string ti,.string at_.id,vc,vp,vl,vk]] w (sI w (aQ qc (lG at_ [i]) (ah.aW ks))):=by
 obtain ⟨ac,nc,cc,ap,np,cp,al,nl,cl,ak,nk,ck,S,W0,rfl,rfl,rfl,rfl,HS,HW0,e0,SX,HR,Z0,B0,K1⟩:=kP (.int .i64 13) lv i t d ti hR;have vD:=gQ HS.out hl B0.out;have pX:=Ki HS.out ht B0.out;have lV:=qQ hs HR;have jM:=hid hs;have hst:t.size<=300:=hs.t;have hsi:i.size<=300:=hs.i;clear hR hs hl ht;go_enter Tryz.func86,Tryz.ntmps86;go_upto_region 28 with (fail)
 rw [<- HS.out];have hk0:=HW0.out;simp only [jN] at hk0;rw [<- hk0];clear hk0;have lY:Hid (jp4 W0.heap.size W0 (W0.alloc (.cells #[.string i] 9)).drew):=nG W0 (.cells #[.string i] 9);have AC:Hid (Calls Tryz.prog 137 #[.agg #[.string at_.id,.slice ac nc cc,.slice ap np cp],.slice (some ⟨W0.heap.size,0,none⟩) 1 1] (W0.alloc (.cells #[.string i] 9)).drew (bI W0.drew (lG at_ [i]))):=Y1 at_ [i] (.slice ac nc cc) (.slice ap np cp) (.slice (some ⟨W0.heap.size,0,none⟩) 1 1) W0.drew (W0.alloc (.cells #[.string i] 9)).drew (oq.one W0.drew i) (Bc HR.out.at_ lY.out (by have:=Z0.out;omega)) (uj jM.out.at_ i (by have:=jM.out.i;omega)).1 (uj jM.out.at_ i (by have:=jM.out.i;omega)).2
 have SF:=hid (fun (w':jp3) (hb:jp4 W0.heap.size W0 w')=>(⟨(SX.out w' hb).2.1,(SX.out w' hb).2.2.2.2.2.1,(SX.out w' hb).2.2.2.2.2.2.1,(SX.out w' hb).2.2.2.2.2.2.2.1,(SX.out w' hb).2.2.2.2.2.2.2.2.2⟩:w'.cell? ⟨S,2,none⟩=some (.string i)/\w'.cell? ⟨S,6,none⟩=some (.string at_.id)/\w'.cell? ⟨S,7,none⟩=some (.slice ac nc cc)/\w'.cell? ⟨S,8,none⟩=some (.slice ap np cp)/\w'.cell? ⟨S,10,none⟩=some (.slice ak nk ck)));have S1:=SF.out _ lY.out;have S0:=SF.out _ ((jm0 W0.heap.size W0).drew);go_wp2_with fail
 go_region_held3 (fun w'=>w'.cell? ⟨S,2,none⟩=some (.string i)/\w'.cell? ⟨S,6,none⟩=some (.string at_.id)/\w'.cell? ⟨S,7,none⟩=some (.slice ac nc cc)/\w'.cell? ⟨S,8,none⟩=some (.slice ap np cp)/\w'.cell? ⟨S,10,none⟩=some (.slice ak nk ck))
  (with_reducible assumption)
  (first
   | (go_simp;go_at_call 137;(with_reducible refine AC.out.mono ?_);rintro e w3 ⟨dM,v3,rfl,hrow3⟩;obtain ⟨a3,n3,c3,rfl⟩:=hrow3.slice3;have B3:Hid (jp4 W0.heap.size W0 w3):=(((jm0 W0.heap.size W0).drew)).trans (hrow3.aI.mono (((jm0 W0.heap.size W0).drew)).size);have Bg:Hid (Rd (W0.heap.size<=·) w3 (bP (lG at_ [i])) [.slice a3 n3 c3]):=hrow3.fD.weaken (fun b hb=>jm2 (((jm0 W0.heap.size W0).drew)).size hb);have S3:=SF.out (w3) B3.out;have LC:=hid (vD.out w3 B3.out))
   | (go_simp;go_at_call 38;(with_reducible refine LC.out.mono ?_);rintro e w4 ⟨dX,v4,rfl,hrow4⟩;obtain ⟨a4,n4,c4,rfl⟩:=hrow4.slice3;have b4:=hrow4.aI;have B4:=hid (aP B3.out b4);have gF:=hid (show Rd (W0.heap.size<=·) w4 (cO (ah.aW ks)) [.slice a4 n4 c4] from hrow4.fD.weaken (fun b hb=>jm2 B3.out.size hb));have oO:=hid (Bg.out.aY b4);have S4:=SF.out (w4) B4.out;have EC:=hid (kM ⟨#[100,105,118]⟩ a3 a4 n3 n4 c3 c4 w4))
   | (go_simp;go_at_call 40;(with_reducible refine EC.out.mono ?_);rintro e w5 ⟨rfl,b5⟩;have BL:=hid (aP B4.out b5);obtain ⟨x0,x1,x2,x3,xf⟩:=pY (K1.out.below BL.out);have S5:=SF.out (w5) BL.out;have K6:=sJ S w5 (.string ⟨#[100,105,118]⟩) (.string ⟨#[]⟩) (.slice a3 n3 c3) (.slice a4 n4 c4);have S6:=And.imp (K6 _ _) (And.imp (K6 _ _) (And.imp (K6 _ _) (And.imp (K6 _ _) (K6 _ _)))) (SF.out w5 BL.out);clear K6))
 all_goals
  have HN:=hid (show kZ (W0.heap.size<=·) w5 (lG at_ [i]) (ah.aW ks) (.slice a3 n3 c3) (.slice a4 n4 c4) from ⟨oO.out.aY b5,gF.out.aY b5⟩);clear b5 gF EC oO hrow3 hrow4 b4 S0 S3 S4 S5 S6 Bg S1;obtain ⟨w9,bM⟩:∃ w9,w9=four w5 (S+1) (.string ⟨#[100,105,118]⟩) (.string ⟨#[]⟩) (.slice a3 n3 c3) (.slice a4 n4 c4):=⟨_,rfl⟩;have hf:=fE ⟨#[100,105,118]⟩ ⟨#[]⟩ (lG at_ [i]) (ah.aW ks) HS.out Z0.out B0.out K1.out BL.out HN.out;rw [<- bM] at hf;have HC:=hid hf.1;have HP:=hid hf.2;clear hf;have hw8:=bM;simp only [four] at hw8;clear bM;obtain ⟨x0,x1,x2,x3,xf⟩:=pY (K1.out.below BL.out);go_wp2;rw [<- hw8];have r0:=HC.out.cell 0 _ rfl;have r1:=HC.out.cell 1 _ rfl;have r2:=HC.out.cell 2 _ rfl;have r3:=HC.out.cell 3 _ rfl;exact bodyPost_ret (v:=.agg #[.string ⟨#[100,105,118]⟩,.string ⟨#[]⟩,(.slice a3 n3 c3),(.slice a4 n4 c4)]) (by simp [results,Tryz.results86,go_sem,r0,r1,r2,r3]) rfl HP.out
open Go.RowKit
mutual
def ah.walk:ah->Prop
 | .mk k lv i t d ti a li ks=>(1<=k/\k<=15/\k≠11/\k≠12)/\Ga i t a li/\(k=2\/k=8->0<=lv/\lv<=999999999)/\(k=10->TbW i ks)/\(k≠10->ah.kR ks)
def ah.kR:List ah->Prop
 | []=>True
 | x::l=>x.walk/\ah.kR l
end
theorem ah.zy:∀ (l:List ah),ah.kR l->∀ x∈l,x.walk
 | [],_,x,hx=>by cases hx
 | y::l,h,x,hx=>by
  rw [ah.kR] at h;rcases List.mem_cons.1 hx with rfl | hx
  ·exact h.1
  ·exact ah.zy l h.2 x hx
theorem Gc (pv:jp5) (k lv:Int) (i t d ti:ByteArray) (at_:At) (li:List aj) (ks:List ah) (vc vp vl vk:jp5) (w:jp3) (hR:kN (·<w.heap.size) w at_ li ks vc vp vl vk) (hw:(ah.mk k lv i t d ti at_ li ks).walk) (P8:k≠14) (yu:k≠15) (hl:k≠10->dV pv w ks vk) (ht:PT w) : ∃ x,(ah.mk k lv i t d ti at_ li ks).xO=[x]/\Calls Tryz.prog 86 #[pv,.agg #[.int .i64 k,.int .i64 lv,.string i,.string t,.string d,.string ti,.string at_.id,vc,vp,vl,vk]] w (sI w x):=by
 rw [ah.walk] at hw;obtain ⟨⟨g1,g2,g3,g4⟩,hs,hv,hT,-⟩:=hw;rcases (by omega:k=1\/k=2\/k=3\/k=4\/k=5\/k=6\/k=7\/k=8\/k=9\/k=10\/k=13) with rfl | rfl | rfl | rfl | rfl | rfl | rfl | rfl | rfl | rfl | rfl
 ·exact ⟨_,by rw [ah.xO];rfl,Vv pv lv i t d ti at_ li ks vc vp vl vk w hR hs (hl (by decide)) ht⟩
 ·obtain ⟨n,rfl⟩:∃ n:Nat,lv=(n:Int):=⟨lv.toNat,by have:=hv (by decide);omega⟩;exact ⟨aQ (nH++gD n) (lG at_ []) (kG li),by rw [ah.xO];rfl,VB pv n i t d ti at_ li ks vc vp vl vk w hR hs (hl (by decide)) ht n rfl (by have:=hv (by decide);omega)⟩
 ·by_cases hi:aZ i=true
  ·exact ⟨aQ Kj [] [aQ iV [] (bS t)],by rw [ah.xO,hi];rfl,QC pv lv i t d ti at_ li ks vc vp vl vk w hR hs (hl (by decide)) ht hi⟩
  ·have hi:aZ i=false:=by simpa using hi
   refine ⟨aQ Kj [] [aQ iV [⟨iF,D6++i⟩] (bS t)],?_,QD pv lv i t d ti at_ li ks vc vp vl vk w hR hs (hl (by decide)) ht hi⟩;rw [ah.xO,hi];show [aQ Kj [] [aQ iV (jL iF (D6++i)) (bS t)]]=_;unfold jL;rw [show aZ (D6++i)=false by rw [IW,hi,Bool.and_false]];rfl
 ·exact ⟨_,by rw [ah.xO];rfl,VD pv lv i t d ti at_ li ks vc vp vl vk w hR hs (hl (by decide)) ht⟩
 ·exact ⟨_,by rw [ah.xO];rfl,Vz pv lv i t d ti at_ li ks vc vp vl vk w hR hs (hl (by decide)) ht⟩
 ·exact ⟨_,by rw [ah.xO];rfl,Vw pv lv i t d ti at_ li ks vc vp vl vk w hR hs (hl (by decide)) ht⟩
 ·exact ⟨_,by rw [ah.xO];rfl,Vx pv lv i t d ti at_ li ks vc vp vl vk w hR hs (hl (by decide)) ht⟩
 ·by_cases h1:lv=1
  ·exact ⟨aQ Ya [] (ah.aW ks),by rw [ah.xO,h1];rfl,QF pv lv i t d ti at_ li ks vc vp vl vk w hR hs (hl (by decide)) ht h1⟩
  ·obtain ⟨n,rfl⟩:∃ n:Nat,lv=(n:Int):=⟨lv.toNat,by have:=hv (by decide);omega⟩;refine ⟨aQ Ya [⟨sStart,gD n⟩] (ah.aW ks),?_,QG pv n i t d ti at_ li ks vc vp vl vk w hR hs (hl (by decide)) ht n rfl (by have:=hv (by decide);omega) h1⟩;rw [ah.xO];show [aQ Ya (if (n:Int)=1 then [] else [⟨sStart,gD n⟩]) (ah.aW ks)]=_;rw [if_neg h1]
 ·exact ⟨_,by rw [ah.xO];rfl,Vy pv lv i t d ti at_ li ks vc vp vl vk w hR hs (hl (by decide)) ht⟩
 ·exact ⟨eY i ks,by rw [ah.xO];rfl,QB pv lv i t d ti at_ li ks vc vp vl vk w hR hs ht (hT rfl)⟩
 ·exact ⟨_,by rw [ah.xO];rfl,QH pv lv i t d ti at_ li ks vc vp vl vk w hR hs (hl (by decide)) ht⟩
theorem vG:∀ (l:List ah),(ah.aW l).length<=l.length
 | []=>by simp [ah.aW]
 | x::l=>by
  have h:=vG l;rw [ah.aW,jm5,List.length_cons];have h2:x.xO.length<=1:=by
   obtain ⟨k,lv,i,t,d,ti,a,li,ks⟩:=x;rw [ah.xO]
   (repeat' split)<;>simp
  omega
def D7 (w:jp3) (l:List ah) (v vi:jp5) (wr:jp3):Prop:=
 ∃ (k:Nat) (rows:List (List jp5)),k<=l.length/\vi=.int .i64 k/\ay 35 4 (fun _=>False) wr.heap.size w ((ah.aW (l.take k)).map Nd.d) rows v wr
theorem sK (pv:jp5) (n:Nat):∀ (l:List ah) (v:jp5) (w:jp3),ah.aR l<=n->n<=900000->Rd (·<w.heap.size) w (fC l) [v]->ah.kR l->PT w -> Calls Tryz.prog 38 #[pv,v] w (dw w (ah.aW l)):=by
 induction n using Nat.strongRecOn with
 | _ n ih=>
  intro l v w hn hnm hrd hwk ht;obtain ⟨iN,FH,nW,og,oh⟩:=info_parts mG;obtain ⟨ak,ck,hvk,hs⟩:=Rd.aB hrd;obtain ⟨nk,hnk⟩:∃ nk,nk=l.length:=⟨_,rfl⟩;obtain rfl:v=.slice ak nk ck:=by rw [hnk];simpa using hvk
  have hcap:nk<=ck:=by have:=hs.le;rw [jm6] at this;omega
  have hmx:=hs.max;unfold maxLen at hmx;have Y2:nk<=900000:=by have:=ah.cZ l;omega
  have HS2:=hid hs;have IY:=hid hnk;have HWK:=hid (ah.zy l hwk);have pX:=hid ht;have IH:=hid ih;have Y3:=hid (And.intro hn hnm);have R0:Hid (D7 w l (.slice none 0 0) (.int .i64 0) w):=⟨0,[],Nat.zero_le _,rfl,ay.nil _ _ _ _⟩;clear hrd hvk hs hnk hwk ht ih hn hnm;go_enter Tryz.func38,Tryz.ntmps38;go_wp2
  go_loopw [5,10] (fun v vi wr=>D7 w l v vi wr) (fun _ vi _=>nk-(intOf vi).toNat)
  case atStart=>exact R0.out
  case round=>
   clear R0;obtain ⟨j,rows,hj,rfl,hrow⟩:=hrel;obtain ⟨ds,hds⟩:∃ ds,ds=(ah.aW (l.take j)).map Nd.d:=⟨_,rfl⟩;rw [<- hds] at hrow;obtain ⟨m,hm⟩:∃ m,m=ds.length:=⟨_,rfl⟩;have hmj:m<=1000000:=by have h:=vG (l.take j);have h2:(l.take j).length<=l.length:=List.length_take_le' _ _;rw [hm,hds,jm6];have:=IY.out;omega
   obtain ⟨av,cv,rfl,-,-⟩:=hrow.cap hm.symm;have HM:=hid hm.symm;have FD:=hid hds.symm;have bV:=hid hrow;clear hrow hm hds;by_cases hlt:j<nk
   ·obtain ⟨y,hy⟩:∃ y,l[j]?=some y:=⟨_,jlz (by have:=IY.out;omega)⟩;have hsn:=zB l j y hy;have hwy:=HWK.out y (List.mem_of_getElem? hy);have hsz:=ah.bg l j y hy;obtain ⟨yk,IZ,yi,yt,yd,I5,Gd,Kk,I6⟩:=y;obtain ⟨ga,off,vc,vp,vl,vk,rfl,hok,hbl,hc,hR⟩:=I7 HS2.out hy;obtain ⟨c0,c1,c2,c3,c4,c5,c6,c7,c8,c9,c10⟩:=hc.at2 (w':=wr) (bV.out.aI.block ga hok);obtain ⟨MO,MP,MQ,rfl⟩:=Rd.au hR.at_.cls
    obtain ⟨MR,MS,MU,rfl⟩:=Rd.au hR.at_.aJ
    obtain ⟨CF,CG,CJ,rfl⟩:=Rd.au hR.line;obtain ⟨MV,MW,MX,rfl⟩:=Rd.au hR.kids;have HR:=hid hR;have HWY:=hid hwy;have CO:=hid hsz;clear hok hbl hc hR hwy hy hsz;go_upto_region 5 with (fail)
    obtain ⟨p,hp⟩:∃ p,p=wr.heap.size:=⟨_,rfl⟩;obtain ⟨wA,iL⟩:∃ wA,wA=wr.alloc (.cells #[.int .i64 yk,.int .i64 IZ,.string yi,.string yt,.string yd,.string I5,.string Gd.id,.slice MO MP MQ,.slice MR MS MU,.slice CF CG CJ,.slice MV MW MX] 48):=⟨_,rfl⟩;have PA:CB 48 p [.int .i64 yk,.int .i64 IZ,.string yi,.string yt,.string yd,.string I5,.string Gd.id,.slice MO MP MQ,.slice MR MS MU,.slice CF CG CJ,.slice MV MW MX] wA:=by rw [iL,hp];exact CB.new _ _ wr
    have bA:jp4 wr.heap.size wr wA:=by rw [iL];exact (jm0 _ _).alloc (jm1 _) _
    rw [<- iL,<- hp];have BA:=hid bA;have Yb:jp4 w.heap.size w wA:=bV.out.aI.trans (bA.mono bV.out.aI.size);have d0:=PA.cell 0 _ rfl;have d1:=PA.cell 1 _ rfl;have d2:=PA.cell 2 _ rfl;have d3:=PA.cell 3 _ rfl;have d4:=PA.cell 4 _ rfl;have d5:=PA.cell 5 _ rfl;have d6:=PA.cell 6 _ rfl;have d7:=PA.cell 7 _ rfl;have d8:=PA.cell 8 _ rfl;have d9:=PA.cell 9 _ rfl;have d10:=PA.cell 10 _ rfl;have B0A:=hid Yb;have hpw:wr.heap.size<=wA.heap.size:=bA.size;clear iL hp c0 c1 c2 c3 c4 c5 c6 c7 c8 c9 c10 PA bA Yb;by_cases P8:yk=14
    ·have q14:(yk==14)=true:=by rw [P8];rfl
     subst P8;have AZ:Hid ((ah.aW (l.take (j+1))).map Nd.d=ds):=by show _=_;rw [hsn,jn1,FD.out];show ds++(ah.xO _).map Nd.d=ds;rw [ah.xO];exact joz _
     have HF:Hid (D7 w l (.slice av m cv) (.int .i64 ((j+1:Nat):Int)) wA):=⟨j+1,_,by have:=IY.out;omega,rfl,by rw [AZ.out];exact (bV.out.below BA.out).top⟩;clear hsn;go_wp2;go_roundw;case rel=>exact HF.out
     case measure=>simp [intOf];omega
    by_cases yu:yk=15
    ·have q14:(yk==14)=false:=by rw [yu];rfl
     have XZ:(yk==15)=true:=by rw [yu];rfl
     subst yu;have AZ:Hid ((ah.aW (l.take (j+1))).map Nd.d=ds):=by show _=_;rw [hsn,jn1,FD.out];show ds++(ah.xO _).map Nd.d=ds;rw [ah.xO];exact joz _
     have HF:Hid (D7 w l (.slice av m cv) (.int .i64 ((j+1:Nat):Int)) wA):=⟨j+1,_,by have:=IY.out;omega,rfl,by rw [AZ.out];exact (bV.out.below BA.out).top⟩;clear hsn;go_wp2;go_roundw;case rel=>exact HF.out
     case measure=>simp [intOf];omega
    have q14:(yk==14)=false:=by rw [beq_eq_false_iff_ne];exact P8
    have XZ:(yk==15)=false:=by rw [beq_eq_false_iff_ne];exact yu
    have hRA:kN (·<wA.heap.size) wA Gd Kk I6 (.slice MO MP MQ) (.slice MR MS MU) (.slice CF CG CJ) (.slice MV MW MX):=kN.D5 HR.out (fun b (hb:b<w.heap.size) hlt=>⟨by show b<wA.heap.size;have:=B0A.out.size;omega,B0A.out.block b hb⟩);have hw2:=HWY.out;rw [ah.walk] at hw2;obtain ⟨x,hx,hcall⟩:=Gc pv yk IZ yi yt yd I5 Gd Kk I6 _ _ _ _ wA hRA HWY.out P8 yu (fun h10 W hW=>IH.out (ah.aR I6) (by have:=CO.out;rw [ah.sz] at this;have:=Y3.out;omega) I6 _ W (jm1 _) (by have:=CO.out;rw [ah.sz] at this;have:=Y3.out;omega) (Rd.keep (w:=wA) (w':=W) (ok:=(·<wA.heap.size)) (fun b (hb:b<wA.heap.size) hlt=>⟨by show b<W.heap.size;have:=hW.size;omega,hW.block b hb⟩) _ _ hRA.kids) (hw2.2.2.2.2 h10) ((pX.out.below B0A.out).below hW)) (pX.out.below B0A.out);obtain ⟨xn,xt,xa,CQ⟩:=x;have AZ:=hid (show (ah.aW (l.take (j+1))).map Nd.d=ds++[(Nd.mk xn xt xa CQ).d] by rw [hsn,hx,jn1,FD.out];rfl);have Y4:=hid hcall;clear hsn hx hcall hRA hw2;go_wp2_with fail
    (with_reducible refine Y4.out.mono ?_)
    rintro e w2 ⟨va,vk,he,hR2,hb2⟩;obtain ⟨aA,nA,cA,rfl⟩:=Rd.au hR2.at_
    obtain ⟨aK,nK,cK,rfl⟩:=Rd.au hR2.ks;have he:e=.returned (.agg #[.string xn,.string xt,.slice aA nA cA,.slice aK nK cK]):=he;subst he;have U2:=hid ((bV.out.below BA.out).below hb2);have XD:=hid ((Nd.eH xn xt hR2).weaken (ok':=fun b=>False\/wr.heap.size<=b) (fun b hb=>.inr (jm2 hpw hb)));clear Y4 hR2 hb2 d0 d1 d2 d3 d4 d5 d6 d7 d8 d9 d10;go_wp2_with (at_builtin;refine eX rfl _ _ 28 rfl iN _ 80 Tryz.underlying28 FH nW og oh rfl (by decide) U2.out (fun _=>False.elim) (Nd.mk xn xt xa CQ).d [.string xn,.string xt,.slice aA nA cA,.slice aK nK cK] XD.out rfl jO HM.out (by omega) (by decide) rfl rfl ?_)
    intro a' c' w5 hrow hg5;have HF:Hid (D7 w l (.slice a' (m+1) c') (.int .i64 ((j+1:Nat):Int)) w5):=⟨j+1,_,by have:=IY.out;omega,rfl,by rw [AZ.out];exact hrow⟩;clear hrow hg5 XD U2 bV;go_wp2;go_roundw;case rel=>exact HF.out
    case measure=>simp [intOf];omega
   ·have hjl:j=l.length:=by have:=IY.out;omega
    have HP:Hid (dw w (ah.aW l) (.returned (.slice av m cv)) wr):=by refine ⟨rows,_,rfl,?_⟩;have h:=bV.out;rw [<- FD.out,hjl,jn6] at h;exact h
    clear hjl;go_wp2;go_ret;exact HP.out
theorem qR:∀ (l:List ah),ah.aF l->∀ x∈l,x.small
 | [],_,x,hx=>by cases hx
 | y::l,h,x,hx=>by
  rw [ah.aF] at h;rcases List.mem_cons.1 hx with rfl | hx
  ·exact h.1
  ·exact qR l h.2 x hx
theorem oP {x:ah} (h:x.small):ah.aF x.kids/\aj.aF x.mI/\aj.aR x.mI<=120:=by obtain ⟨k,lv,i,t,d,ti,a,li,ks⟩:=x;rw [ah.small] at h;exact ⟨h.2.2.2.2.2.2.2,h.2.2.2.2.2.1,h.2.2.2.2.2.2.1⟩
theorem Y5 (l:List ah) (x:ah) (hx:x∈l):x.sz<=ah.aR l:=by obtain ⟨j,hj⟩:=List.mem_iff_getElem?.1 hx;exact ah.bg l j x hj
theorem MZ (x:ah):x.kids.length<=x.sz:=by obtain ⟨k,lv,i,t,d,ti,a,li,ks⟩:=x;have:=ah.cZ ks;rw [ah.sz];show ks.length<=_;omega
mutual
theorem ah.QI (cl:ByteArray->Bool):∀ (b:ah) (par:Int) (dp:Nat),b.err cl par dp=0->b.M4->b.small->b.sz<=900000->b.walk
 | .mk k lv i t d ti a li ks,par,dp,he,hh,hs,hz=>by
  obtain ⟨h2,hbf,h3⟩:=kS cl he;rw [ah.M4] at hh;obtain ⟨g1,g2,g3,g4,g5,g6,g7,g8⟩:=hh;rw [ah.small] at hs;obtain ⟨s1,s2,s3,s4,s5,s6,s7,s8⟩:=hs;rw [ah.sz] at hz;have hk:1<=k/\k<=15:=by unfold Cy at hbf;simp only [Bool.and_eq_true,decide_eq_true_iff] at hbf;obtain ⟨⟨⟨⟨⟨⟨⟨⟨h1,h2⟩,-⟩,-⟩,-⟩,-⟩,-⟩,-⟩,-⟩:=hbf;exact ⟨h1,h2⟩
  rw [ah.walk];refine ⟨⟨hk.1,hk.2,g6,g7⟩,⟨s1,s2,s5,⟨by omega,s6,g1⟩⟩,g2,fun h10=>⟨(g3 h10).1,by have:=ah.cZ ks;omega,fun r hr=>?_⟩,fun h10=>ah.qd cl ks k (dp+1) h3 (g8 h10) s8 (by omega)⟩;have hr2:=oP (qR ks s8 r hr);have hr3:=Y5 ks r hr;have hr4:=MZ r;refine ⟨((g3 h10).2 r hr).1,by omega,fun c hc=>?_⟩;have hc2:=oP (qR r.kids hr2.1 c hc);exact ⟨by omega,hc2.2.1,((g3 h10).2 r hr).2 c hc⟩
theorem ah.qd (cl:ByteArray->Bool):∀ (l:List ah) (par:Int) (dp:Nat),ah.aT cl par dp l=0->ah.sM l->ah.aF l->ah.aR l<=900000->ah.kR l
 | [],_,_,_,_,_,_=>by rw [ah.kR];trivial
 | x::l,par,dp,he,hh,hs,hz=>by
  rw [ah.aT] at he;rw [ah.sM] at hh;rw [ah.aF] at hs;rw [ah.aR] at hz;rw [ah.kR];by_cases h1:x.err cl par dp≠0
  ·rw [if_pos h1] at he;exact absurd he h1
  ·rw [if_neg h1] at he;exact ⟨ah.QI cl x par dp (Classical.not_not.1 h1) hh.1 hs.1 (by omega),ah.qd cl l par dp he hh.2 hs.2 (by omega)⟩
end
open Go.RowKit
open Go.RowKit
open Go.RowKit
open Go.RowKit
def vH (W1:jp3) (f:Nat->List ByteArray) (n:Nat) (v vi:jp5) (wr:jp3):Prop:=∃ k:Nat,k<=n/\vi=.int .i64 k/\wr.ownsRow W1.heap.size 9 1 v (f k).length ((f k).map Value.string)/\jp4 W1.heap.size W1 wr
theorem yD (key:ByteArray) (N:Nat):∀ (x:Nd) (va vk:jp5) (w:jp3),x.sz<=N->(x.vals key).length<=1000000->kZ (·<w.heap.size) w x.at_ x.ks va vk -> Calls Tryz.prog 56 #[.agg #[.string x.nm,.string x.tx,va,vk],.string key] w (qg w (x.vals key)):=by
 induction N using Nat.strongRecOn with
 | _ N ih=>
  intro x va vk w hN hpl hA;obtain ⟨i0,hi0,hz0,hz1,hz2⟩:=info_parts I8;obtain ⟨nm,tx,at_,ks⟩:=x;dsimp only [Nd.nm,Nd.tx,Nd.at_,Nd.ks] at hA ⊢;obtain ⟨a1,c1,h1,s1⟩:=Rd.aB hA.at_
  obtain ⟨a2,c2,h2,s2⟩:=Rd.aB hA.ks;obtain ⟨n1,hn1⟩:∃ n,n=at_.length:=⟨_,rfl⟩
  obtain ⟨n2,hn2⟩:∃ n,n=ks.length:=⟨_,rfl⟩;obtain rfl:va=.slice a1 n1 c1:=by rw [hn1];simpa using h1
  obtain rfl:vk=.slice a2 n2 c2:=by rw [hn2];simpa using h2
  have l1:=s1.le;have l2:=s2.le;rw [jm6,<- hn1] at l1;rw [jm6,<- hn2] at l2;have m1:=s1.max;have m2:=s2.max;unfold maxLen at m1 m2;rw [Nd.sz] at hN;have hks:=Nd.bg ks;obtain ⟨S,hS⟩:∃ S,S=w.heap.size:=⟨_,rfl⟩;obtain ⟨W1,hW1⟩:∃ W,W=w.alloc (.cells #[.string nm,.string tx,.slice a1 n1 c1,.slice a2 n2 c2] 35):=⟨_,rfl⟩;have k0:CB 35 S [.string nm,.string tx,.slice a1 n1 c1,.slice a2 n2 c2] W1:=by rw [hW1,hS];exact CB.new _ _ w
  have bW:jp4 w.heap.size w W1:=by rw [hW1];exact (jm0 _ _).alloc (jm1 _) _
  have CL:Hid (∀ w':jp3,jp4 W1.heap.size W1 w'->w'.cell? ⟨S,2,none⟩=some (.slice a1 n1 c1)/\w'.cell? ⟨S,3,none⟩=some (.slice a2 n2 c2)):=fun w' hb=>⟨(k0.below hb).cell 2 _ rfl,(k0.below hb).cell 3 _ rfl⟩
  have e0:=k0.cell 0 _ rfl;have TA:nm.toList.isEmpty=aZ nm:=by rw [Lib.toList_data,Bool.eq_iff_iff,List.isEmpty_iff,aZ,decide_eq_true_iff]
  have H1:=hid s1;have H2:=hid s2;have IH:=hid ih;have HKS:=hid hks;have BW:=hid bW;have QJ:=hid hn1;have Tv:=hid hn2;have HN:=hid hN;have hv0:(Nd.mk nm tx at_ ks).vals key=if aZ nm=true then [] else fv key at_++Nd.bT key ks:=by rw [Nd.vals];rfl
  clear hA h1 h2 s1 s2 ih hks k0 bW hn1 hn2 hN;by_cases hne:aZ nm=true
  ·rw [hne] at TA;have HF:Hid ((Nd.mk nm tx at_ ks).vals key=[]):=by show _=_;rw [hv0,if_pos hne]
   clear hne hv0 hpl;go_enter Tryz.func56,Tryz.ntmps56;go_upto_region 2 with (fail)
   rw [<- hW1,<- hS];clear hW1 hS;go_wp2;go_ret;exact ⟨.slice none 0 0,rfl,by rw [HF.out];exact World.ownsRow_nil _ _ _ _,BW.out⟩
  ·have hne:aZ nm=false:=by simpa using hne
   rw [hne] at TA;have HF:Hid ((Nd.mk nm tx at_ ks).vals key=fv key at_++Nd.bT key ks):=by show _=_;rw [hv0,if_neg (by rw [hne];decide)]
   rw [HF.out,jm5] at hpl;have P9:=hid hpl;have R0:Hid (vH W1 (fun k=>fv key (at_.take k)) n1 (.slice none 0 0) (.int .i64 0) W1):=⟨0,Nat.zero_le _,rfl,World.ownsRow_nil _ _ _ _,jm0 _ _⟩;clear hne hv0 hpl;go_enter Tryz.func56,Tryz.ntmps56;go_upto_region 2 with (fail)
   rw [<- hW1,<- hS];clear hW1 hS;go_wp2
   go_loopw [5,6] (fun v vi wr=>vH W1 (fun k=>fv key (at_.take k)) n1 v vi wr) (fun _ i _=>n1-(intOf i).toNat)
   case atStart=>exact R0.out
   case round=>
    clear R0 e0 TA;obtain ⟨j,hj,rfl,hown,hbel⟩:=hrel;obtain ⟨e2,e3⟩:=CL.out _ hbel;have hfl:=VF key at_ j
    obtain ⟨m,hm⟩:∃ m,m=(fv key (at_.take j)).length:=⟨_,rfl⟩;have hm1:m<=1000000:=by have:=P9.out;omega
    dsimp only at hown;rw [<- hm] at hown;obtain ⟨av,cv,rfl⟩:=sN hown;have HOW:=hid hown;have HB:=hid hbel;have HM:=hid hm;have hsz:=hbel.size;clear hown hbel hm hfl;by_cases hlt:j<n1
    ·obtain ⟨y,hy⟩:∃ y,at_[j]?=some y:=⟨_,jlz (by have:=QJ.out;omega)⟩
     have hsn:=QK key at_ j y hy
     obtain ⟨g1,o1,rfl,-,hg1,k1,k2⟩:=oJ H1.out hy;have M6:=BW.out.trans (HB.out.mono BW.out.size);have r1:wr.cell? ⟨g1,o1+j*2,none⟩=some (.string y.key):=(M6.cell (p:=⟨g1,_,none⟩) hg1).trans k1;have r2:wr.cell? ⟨g1,o1+j*2+1,none⟩=some (.string y.val):=(M6.cell (p:=⟨g1,_,none⟩) hg1).trans k2;clear hy k1 k2 M6;obtain ⟨yk,yv⟩:=y;dsimp only at r1 r2 hsn;by_cases hkey:yk=key
     ·subst hkey;have hq:(yk.toList==yk.toList)=true:=by simp
      have AZ:=hid (show fv yk (at_.take (j+1))=fv yk (at_.take j)++[yv] by rw [hsn,if_pos rfl]);clear hsn;go_wp2_with (at_builtin;refine wpList_append_own_at _ rfl _ _ 43 rfl W1.heap.size 9 i0 _ 1 16 Tryz.underlying43 hi0 hz0 hz1 hz2 rfl (by decide) _ _ _ rfl (HOW.out.alloc _) ⟨wr.heap.size,0,none⟩ 1 1 [.string yv] rfl rfl (QL wr (.string yv) 9) (by intro u hu;simp at hu;subst hu;rfl) (by unfold maxLen;omega) (by omega) (by simp;omega) ?_)
      intro v2 w3 hown3 hg3 _ vI;obtain ⟨a3,c3,rfl⟩:=sN hown3;have Y6:Hid (vH W1 (fun k=>fv yk (at_.take k)) n1 (.slice a3 (m+1) c3) (.int .i64 ((j+1:Nat):Int)) w3):=⟨j+1,by omega,rfl,by
       show w3.ownsRow _ _ _ _ (fv yk (at_.take (j+1))).length ((fv yk (at_.take (j+1))).map Value.string);rw [AZ.out,jm5,List.length_singleton,<- HM.out,jn1];exact hown3,(HB.out.alloc hsz _).grown hg3 (by simp;omega) (fun b hb=>(HOW.out.lt b hb).1)⟩
      clear hown3 hg3 vI r1 r2;go_wp2;go_roundw;case rel=>exact Y6.out
      case measure=>simp [intOf];omega
     ·have hq:(yk.toList==key.toList)=false:=by
       rw [beq_eq_false_iff_ne];intro e;rw [Lib.toList_data,Lib.toList_data] at e;exact hkey (ByteArray.ext (Array.toList_inj.1 e))
      have AZ:=hid (show fv key (at_.take (j+1))=fv key (at_.take j) by rw [hsn,if_neg hkey,joz]);have Y6:Hid (vH W1 (fun k=>fv key (at_.take k)) n1 (.slice av m cv) (.int .i64 ((j+1:Nat):Int)) wr):=⟨j+1,by omega,rfl,by
       show wr.ownsRow _ _ _ _ (fv key (at_.take (j+1))).length ((fv key (at_.take (j+1))).map Value.string);rw [AZ.out,<- HM.out];exact HOW.out,HB.out⟩
      clear hsn hkey;go_wp2;go_roundw;case rel=>exact Y6.out
      case measure=>simp [intOf];omega
    ·have hjl:j=at_.length:=by have:=QJ.out;omega
     have R2:Hid (vH W1 (fun k=>fv key at_++Nd.bT key (ks.take k)) n2 (.slice av m cv) (.int .i64 0) wr):=⟨0,Nat.zero_le _,rfl,by
      have h:=HOW.out;rw [HM.out,hjl,jn6] at h;show wr.ownsRow _ _ _ _ (fv key at_++Nd.bT key []).length ((fv key at_++Nd.bT key []).map Value.string);rw [Nd.bT,joz];rw [HM.out,hjl,jn6];exact h,HB.out⟩
     obtain ⟨wq,hwq⟩:∃ wq:jp3,wq=wr:=⟨_,rfl⟩;subst hwq;clear hjl HM HOW HB;go_wp2
     go_loopw [5,7] (fun v vi wr=>vH W1 (fun k=>fv key at_++Nd.bT key (ks.take k)) n2 v vi wr) (fun _ i _=>n2-(intOf i).toNat)
     case atStart=>exact R2.out
     case round=>
      clear R2 e2 e3;obtain ⟨q,hq,rfl,hown,hbel⟩:=hrel;obtain ⟨e2,e3⟩:=CL.out _ hbel;have hvl:=zC key ks q;obtain ⟨m,hm⟩:∃ m,m=(fv key at_++Nd.bT key (ks.take q)).length:=⟨_,rfl⟩;have hm1:m<=1000000:=by have:=P9.out;rw [hm,jm5];omega
      dsimp only at hown;rw [<- hm] at hown;obtain ⟨av,cv,rfl⟩:=sN hown;have HOW:=hid hown;have HB:=hid hbel;have HM:=hid hm;have hsz:=hbel.size;clear hown hbel hm hvl;by_cases hlt:q<n2
      ·obtain ⟨y,hy⟩:∃ y,ks[q]?=some y:=⟨_,jlz (by have:=Tv.out;omega)⟩;have jf0:=HKS.out q y hy;have hsn:=Gf key ks q y hy;have hle:=zC key ks (q+1);rw [hsn,jm5] at hle;obtain ⟨yn,yt,ya,yk⟩:=y;obtain ⟨g1,o1,u1,u2,rfl,-,hg1,x0,x1,x2,x3,hR1⟩:=Gg H2.out hy;obtain ⟨i1,i2,i3,rfl⟩:=Rd.au hR1.at_
       obtain ⟨i4,i5,i6,rfl⟩:=Rd.au hR1.ks;have M6:=BW.out.trans (HB.out.mono BW.out.size);have y0:wr.cell? ⟨g1,o1+q*4,none⟩=some (.string yn):=(M6.cell (p:=⟨_,_,none⟩) hg1).trans x0;have y1:wr.cell? ⟨g1,o1+q*4+1,none⟩=some (.string yt):=(M6.cell (p:=⟨_,_,none⟩) hg1).trans x1;have y2:wr.cell? ⟨g1,o1+q*4+2,none⟩=some (.slice i1 i2 i3):=(M6.cell (p:=⟨_,_,none⟩) hg1).trans x2;have y3:wr.cell? ⟨g1,o1+q*4+3,none⟩=some (.slice i4 i5 i6):=(M6.cell (p:=⟨_,_,none⟩) hg1).trans x3;have IC:Hid (Calls Tryz.prog 56 #[.agg #[.string yn,.string yt,.slice i1 i2 i3,.slice i4 i5 i6],.string key] wr (qg wr ((Nd.mk yn yt ya yk).vals key))):=
        IH.out (Nd.mk yn yt ya yk).sz (by have:=HN.out;omega) (Nd.mk yn yt ya yk) _ _ wr (jm1 _) (by have:=P9.out;omega) (hR1.keep (fun b (hb:b<w.heap.size) _=>⟨Nat.lt_of_lt_of_le hb M6.size,M6.block b hb⟩))
       obtain ⟨Y,hY⟩:∃ Y,Y=(Nd.mk yn yt ya yk).vals key:=⟨_,rfl⟩;have HAY:=hid (show fv key at_++Nd.bT key (ks.take (q+1))=(fv key at_++Nd.bT key (ks.take q))++Y by rw [hsn,List.append_assoc,hY]);have hYl:Y.length<=1000000:=by rw [hY];have:=P9.out;omega
       rw [<- hY] at IC;clear hy jf0 hsn hle x0 x1 x2 x3 hR1 M6 hY;go_wp2_with fail
       (with_reducible refine IC.out.mono ?_)
       rintro e w2 ⟨v2,rfl,hown2,b2⟩;obtain ⟨M,hM⟩:∃ M,M=Y.length:=⟨_,rfl⟩;rw [<- hM] at hown2 hYl;obtain ⟨a2',c2',rfl⟩:=sN hown2;have OW2:=hid (Yc HOW.out b2);have B2:=hid (aP HB.out b2);have jk5:=b2.size;have RD2:=hid (Reads.AJ hown2);have ON2:Hid (∀ u∈Y.map Value.string,u.oneCell'=true):=fun u hu=>by
        obtain ⟨s,-,rfl⟩:=List.mem_map.1 hu;rfl
       have HMY:=hid hM;clear IC hown2 b2 y0 y1 y2 y3 hM;go_wp2_with (at_builtin;refine PS _ rfl (.tmp 43) (.tmp 50) 43 rfl W1.heap.size 9 i0 _ 1 16 Tryz.underlying43 hi0 hz0 hz1 hz2 rfl (by decide) (.slice av m cv) m _ rfl OW2.out w2.heap.size a2' M c2' (Y.map Value.string) rfl RD2.out ON2.out ?k3 ?k4 ?k5 ?_)
       case k3=>unfold maxLen;omega
       case k4=>omega
       case k5=>omega
       intro v3 w3 hown3 hg3 _;obtain ⟨a3,c3,rfl⟩:=sN hown3;have Y6:Hid (vH W1 (fun k=>fv key at_++Nd.bT key (ks.take k)) n2 (.slice a3 (m+M) c3) (.int .i64 ((q+1:Nat):Int)) w3):=⟨q+1,by omega,rfl,by
        show w3.ownsRow _ _ _ _ (fv key at_++Nd.bT key (ks.take (q+1))).length ((fv key at_++Nd.bT key (ks.take (q+1))).map Value.string);rw [HAY.out,jm5,<- HM.out,<- HMY.out,jn1,jn1,List.append_assoc];exact hown3,B2.out.grown hg3 (by omega) (fun b hb=>(OW2.out.lt b hb).1)⟩
       clear hown3 hg3 RD2 ON2;go_wp2;go_roundw;case rel=>exact Y6.out
       case measure=>simp [intOf];omega
      ·have Y7:q=ks.length:=by have:=Tv.out;omega
       have HFN:Hid (qg w ((Nd.mk nm tx at_ ks).vals key) (.returned (.slice av m cv)) wr):=by refine ⟨_,rfl,?_,BW.out.trans (HB.out.mono BW.out.size)⟩;have h:=HOW.out;rw [HM.out,Y7,jn6,<- HF.out] at h;rw [HM.out,Y7,jn6,<- HF.out];exact D8 h BW.out.size
       clear Y7;go_wp2;go_ret;exact HFN.out
end Go.Proofs.YtkfnkeflalcphaaGreatDoor

