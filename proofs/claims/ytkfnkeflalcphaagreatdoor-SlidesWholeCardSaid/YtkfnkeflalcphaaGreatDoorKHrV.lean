/- Contract of publisherref34.one, given that of nodes at the Kids. Contract of publisherref34.nodes: the nodes of inlines; plain part: the classes of well-formed inlines are not empty. Contracts of html.unresolved and publisherref34.unresolved. Contract of (*html.builder).block, kind by kind: the node of a block. Contracts of (*html.builder).block and (*html.builder).blocks: the nodes of blocks. Plain part: a well-formed, small document without unresolved inlines is one that the walk of html.Blocks asks. Contract of publisherref34.row. A literal of one node, whose data are newer than a world, is a row of one's own since that world. Contract of publisherref34.block, kind by kind: the nodes of a block. Contracts of publisherref33.Plain and publisherref33.Values. -/
import Derived.Test.YtkfnkeflalcphaaGreatDoorKNdL
set_option maxHeartbeats 8000000
set_option maxRecDepth 100000
open Go.Lib (hid)
namespace Go.Proofs.YtkfnkeflalcphaaGreatDoor
open List renaming getElem?_eq_getElem->jj7,length_append->jjx,length_map->jjz,map_append->jk9,take_length->jkz,append_nil->jm7
open Go.RowKit.Below renaming refl->jj8
open Nat renaming le_refl->jj9,le_trans->jjj
open Go renaming World->jmj,Value->jmq
open Go.RowKit renaming Below->jmk
open Go.RowKit
set_option linter.unusedVariables false
set_option linter.unusedSimpArgs false
open Go.RowKit
open Go.RowKit
def Sw (w:jmj) (l:List aj) (vi:jmq) (wr:jmj):Prop:=∃ k:Nat,k<=l.length/\vi=.int .i64 k/\(l.take k).any iQ=false/\jmk w.heap.size w wr
def UM (w:jmj) (b:Bool) (e:Ending) (w':jmj):Prop:=e=.returned (.bool b)/\jmk w.heap.size w w'
theorem Dz {l:List aj} {k:Nat} {x:aj} (hx:l[k]?=some x) (h:iQ x=true):l.any iQ=true:=List.any_eq_true.2 ⟨x,List.mem_of_getElem? hx,h⟩
theorem AA {l:List aj} {k:Nat} {x:aj} (hx:l[k]?=some x) (h:iQ x=false) (hk:(l.take k).any iQ=false):(l.take (k+1)).any iQ=false:=by rw [List.take_add_one,hx,List.any_append,hk];simp [h]
theorem FJ (l:List aj) (ok:Nat->Prop) (v:jmq) (w:jmj) (hrd:Rd ok w (aY l) [v]):Calls Tryz.prog 36 #[v] w (UM w (l.any iQ)):=by
 obtain ⟨a,cap,hv,hs⟩:=Rd.aB hrd;obtain rfl:v=.slice a l.length cap:=by simpa using hv
 have hcap:l.length<=cap:=by simpa using hs.le
 have hmx:=hs.max;unfold maxLen at hmx;have HS:=hid hs;have R0:Hid (Sw w l (.int .i64 0) w):=⟨0,Nat.zero_le _,rfl,by simp,jj8 _ _⟩;clear hs hv hrd;go_enter Tryz.func36,Tryz.ntmps36;go_wp2
 go_loopw [7] (fun vi wr=>Sw w l vi wr) (fun i _=>l.length-(intOf i).toNat)
 case atStart=>exact R0.out
 case round=>
  clear R0;obtain ⟨k,hk,rfl,hany,hbel⟩:=hrel;have HK:=hid hany;clear hany;by_cases hlt:k<l.length
  ·obtain ⟨x,hx⟩:∃ x,l[k]?=some x:=⟨_,jj7 hlt⟩;obtain ⟨kd,t,d,ti,at_,ar,ci,ks⟩:=x;obtain ⟨g,off,vc,vp,va,vi,vk,rfl,hok,hbl,hc,hR⟩:=fH HS.out hx;obtain ⟨c0,c1,c2,c3,c4,c5,c6,c7,c8,c9⟩:=hc.below hbel;obtain ⟨ac,nc,cc,rfl⟩:=Rd.ay hR.at_.cls
   obtain ⟨ap,np,cp,rfl⟩:=Rd.ay hR.at_.aJ
   obtain ⟨aa,na,ca,rfl⟩:=Rd.ay hR.args;obtain ⟨ai,ni,jU,rfl⟩:=Rd.ay hR.dF;obtain ⟨ak,nk,ck,rfl⟩:=Rd.ay hR.kids;have HX:=hid hx;have qe:=uP t;obtain ⟨p,hp⟩:∃ p,p=wr.heap.size:=⟨_,rfl⟩;obtain ⟨wA,iF⟩:∃ wA,wA=wr.alloc (.cells #[.int .i64 kd,.string t,.string d,.string ti,.string at_.id,.slice ac nc cc,.slice ap np cp,.slice aa na ca,.slice ai ni jU,.slice ak nk ck] 66):=⟨_,rfl⟩;have PA:PB p [.int .i64 kd,.string t,.string d,.string ti,.string at_.id,.slice ac nc cc,.slice ap np cp,.slice aa na ca,.slice ai ni jU,.slice ak nk ck] wA:=by rw [iF,hp];exact heap_alloc_new wr _
   have yV:Hid (jmk w.heap.size w wA):=by rw [iF];exact hbel.alloc hbel.size _
   clear hc hok hbl hR hx hbel;go_upto_region 4 with (fail)
   rw [<- iF,<- hp];obtain ⟨e0,e1,-,-,-,-,-,-,-,-⟩:=LY PA;clear iF hp PA c0 c1 c2 c3 c4 c5 c6 c7 c8 c9;by_cases xS:kd=15
   ·subst xS;have HT:=hid (Dz HX.out (show iQ (aj.mk 15 t d ti at_ ar ci ks)=true by unfold iQ;simp));clear HX;go_wp2;go_ret;exact ⟨by rw [HT.out];rfl,yV.out⟩
   by_cases h13:kd=13
   ·subst h13;have HT:=hid (Dz HX.out (show iQ (aj.mk 13 t d ti at_ ar ci ks)=true by unfold iQ;simp));clear HX;go_wp2;go_ret;exact ⟨by rw [HT.out];rfl,yV.out⟩
   by_cases Pm:kd=14
   ·subst Pm;have HT:=hid (Dz HX.out (show iQ (aj.mk 14 t d ti at_ ar ci ks)=true by unfold iQ;simp));clear HX;go_wp2;go_ret;exact ⟨by rw [HT.out];rfl,yV.out⟩
   by_cases h9:kd=9
   ·subst h9;cases ht:bg t
    ·have q1:t.toList.isEmpty=false:=by rw [qe];exact ht
     have HT:=hid (Dz HX.out (show iQ (aj.mk 9 t d ti at_ ar ci ks)=true by unfold iQ;simp [ht]));clear HX ht qe;go_wp2;go_ret;exact ⟨by rw [HT.out];rfl,yV.out⟩
    ·have q1:t.toList.isEmpty=true:=by rw [qe];exact ht
     have q2:t.toList=[]:=by rw [List.isEmpty_iff] at q1;exact q1
     have HT:=hid (AA HX.out (show iQ (aj.mk 9 t d ti at_ ar ci ks)=false by unfold iQ;simp [ht]) HK.out);clear HX HK ht qe;go_wp2;go_roundw;case rel=>exact ⟨k+1,by omega,by go_num,HT.out,yV.out⟩
     case measure=>simp [intOf];omega
   by_cases h10:kd=10
   ·subst h10;cases ht:bg t
    ·have q1:t.toList.isEmpty=false:=by rw [qe];exact ht
     have HT:=hid (Dz HX.out (show iQ (aj.mk 10 t d ti at_ ar ci ks)=true by unfold iQ;simp [ht]));clear HX ht qe;go_wp2;go_ret;exact ⟨by rw [HT.out];rfl,yV.out⟩
    ·have q1:t.toList.isEmpty=true:=by rw [qe];exact ht
     have q2:t.toList=[]:=by rw [List.isEmpty_iff] at q1;exact q1
     have HT:=hid (AA HX.out (show iQ (aj.mk 10 t d ti at_ ar ci ks)=false by unfold iQ;simp [ht]) HK.out);clear HX HK ht qe;go_wp2;go_roundw;case rel=>exact ⟨k+1,by omega,by go_num,HT.out,yV.out⟩
     case measure=>simp [intOf];omega
   have Xn:(kd==15)=false:=by rw [beq_eq_false_iff_ne];exact xS
   have q13:(kd==13)=false:=by rw [beq_eq_false_iff_ne];exact h13
   have q14:(kd==14)=false:=by rw [beq_eq_false_iff_ne];exact Pm
   have q9:(kd==9)=false:=by rw [beq_eq_false_iff_ne];exact h9
   have q10:(kd==10)=false:=by rw [beq_eq_false_iff_ne];exact h10
   have HT:=hid (AA HX.out (show iQ (aj.mk kd t d ti at_ ar ci ks)=false by unfold iQ;simp [xS,h13,Pm,h9,h10]) HK.out);clear HX HK xS h13 Pm h9 h10 qe;go_wp2;go_roundw;case rel=>exact ⟨k+1,by omega,by go_num,HT.out,yV.out⟩
   case measure=>simp [intOf];omega
  ·have hkl:k=l.length:=by omega
   have HT:Hid (l.any iQ=false):=by
    have h:=HK.out
    rwa [hkl,jkz] at h
   clear hkl;go_wp2;go_ret;exact ⟨by rw [HT.out];rfl,hbel⟩
open Go.RowKit
theorem DF (n:Nat) (w:jmj) (hn:n<=999999999) (ht:PT w) : Calls Tryz.prog 136 #[.int .i64 (n:Int)] w fun e w'=>e=.returned (.string (gu n))/\jmk w.heap.size w w':=by
 refine (Tryz.strconv_Itoa (n:Int) (by omega) (by omega) w ht.2).mono ?_;rintro e w' ⟨rfl,k,os,rfl⟩;refine ⟨?_,Lib.below_grow _ w (jj9 _) k os⟩;have:Lib.itoa (n:Int)=Lib.decDigits n:=by unfold Lib.itoa;rw [if_neg (by omega)];simp
 rw [this];rfl
theorem yX (n:Nat) (hn:n<=999999999):(gu n).size<=1000000:=by have h:=LZ n 8 (by omega);show (Lib.decDigits n).toArray.size<=1000000;simp;omega
theorem L6 {a:At} (h:a.short):([]++a.cls).length<=100/\∀ c∈[]++a.cls,c.size<=1000:=by unfold At.short at h;rw [List.nil_append];exact ⟨by omega,fun c hc=>by have:=h.2.2.2.1 c hc;omega⟩
theorem tO {a:At} (h:a.short) (s:ByteArray) (hs:s.size<=1000):([s]++a.cls).length<=100/\∀ c∈[s]++a.cls,c.size<=1000:=by
 unfold At.short at h;refine ⟨by simp;omega,fun c hc=>?_⟩;rcases List.mem_cons.1 hc with rfl | hc
 ·exact hs
 ·have:=h.2.2.2.1 c hc;omega
def dS (pv:jmq) (w:jmj) (ks:List ah) (vk:jmq):Prop:=∀ W:jmj,jmk w.heap.size w W->Calls Tryz.prog 38 #[pv,vk] W (dn W (ah.aX ks))
structure FM (i t:ByteArray) (at_:At) (li:List aj):Prop where
 i:i.size<=300
 t:t.size<=300
 at_:at_.short
 li:Yp li
theorem JM {S:Nat} {w W0:jmj} (hS:S=w.heap.size) (ht:PT w) (b0:jmk S w W0):Hid (∀ W:jmj,jmk W0.heap.size W0 W->PT W):=
 fun W hW=>ht.below (by rw [<- hS];exact b0.trans (hW.mono (by have:=b0.size;omega)))
theorem qH {S nl cl:Nat} {al:Option Addr} {W0:jmj} {i t:ByteArray} {at_:At} {li:List aj} {ks:List ah} {vc vp vk:jmq} (hs:FM i t at_ li) (HR:Hid (ku (·<S) W0 at_ li ks vc vp (.slice al nl cl) vk)) : Hid (∀ W:jmj,jmk W0.heap.size W0 W->Calls Tryz.prog 78 #[.slice al nl cl] W (dn W (jZ li))):=fun W hW=>
 yY 900000 li _ W hs.li.sz (by decide) (Rd.keep (w:=W0) (w':=W) (ok:=(·<S)) (fun b (hb:b<S) hlt=>⟨by show b<W.heap.size;have:=hW.size;omega,hW.block b hlt⟩) _ _ HR.out.line) hs.li.sm hs.li.tf
theorem UO (pv:jmq) (lv:Int) (i t d ti:ByteArray) (at_:At) (li:List aj) (ks:List ah) (vc vp vl vk:jmq) (w:jmj) (hR:ku (·<w.heap.size) w at_ li ks vc vp vl vk) (hs:FM i t at_ li) (hl:dS pv w ks vk) (ht:PT w) : Calls Tryz.prog 86 #[pv,.agg #[.int .i64 1,.int .i64 lv,.string i,.string t,.string d,.string ti,.string at_.id,vc,vp,vl,vk]] w (rY w (aQ nP [] (jZ li))):=by
 obtain ⟨ac,nc,cc,ap,np,cp,al,nl,cl,ak,nk,ck,S,W0,rfl,rfl,rfl,rfl,HS,HW0,e0,SX,HR,Z0,B0,K1⟩:=kE (.int .i64 1) lv i t d ti hR;have uQ:=gM HS.out hl B0.out;have qC:=JM HS.out ht B0.out;have lS:=qH hs HR;have jH:=hid hs;have hst:t.size<=300:=hs.t;have hsi:i.size<=300:=hs.i;clear hR hs hl ht;go_enter Tryz.func86,Tryz.ntmps86;go_upto_region 3 with (fail)
 rw [<- HS.out];have hk0:=HW0.out;simp only [jI] at hk0;rw [<- hk0];clear hk0;have LC:=hid (lS.out W0 (jj8 _ _));have g9:=(SX.out W0 (jj8 _ _)).2.2.2.2.2.2.2.2.1;go_wp2_with fail
 (with_reducible refine LC.out.mono ?_)
 rintro e w4 ⟨dU,v4,rfl,hrow4⟩;obtain ⟨a4,n4,c4,rfl⟩:=hrow4.slice3;have b4:=hrow4.aP;have B4:=hid b4;have gy:=hid (show Rd (W0.heap.size<=·) w4 (cZ (jZ li)) [.slice a4 n4 c4] from hrow4.fu);have EC:=hid (ko ⟨#[112]⟩ none a4 0 n4 0 c4 w4);clear b4 hrow4 LC g9;go_wp2_with fail
 (with_reducible refine EC.out.mono ?_)
 rintro e w5 ⟨rfl,b5⟩;have BL:=hid (aR B4.out b5);have HN:=hid (show kU (W0.heap.size<=·) w5 [] (jZ li) (.slice none 0 0) (.slice a4 n4 c4) from ⟨Rd.aF _ _ _,gy.out.aZ b5⟩);clear b5 gy EC;obtain ⟨w9,hw8,r0,r1,r2,r3,HP,x0,x1,x2,x3,xf⟩:=iq ⟨#[112]⟩ ⟨#[]⟩ [] (jZ li) HS Z0 B0 K1 BL HN.out;go_wp2;rw [<- hw8];exact bodyPost_ret (v:=.agg #[.string ⟨#[112]⟩,.string ⟨#[]⟩,(.slice none 0 0),(.slice a4 n4 c4)]) (by simp [results,Tryz.results86,go_sem,r0,r1,r2,r3]) rfl HP.out
theorem UQ (pv:jmq) (lv:Int) (i t d ti:ByteArray) (at_:At) (li:List aj) (ks:List ah) (vc vp vl vk:jmq) (w:jmj) (hR:ku (·<w.heap.size) w at_ li ks vc vp vl vk) (hs:FM i t at_ li) (hl:dS pv w ks vk) (ht:PT w) : Calls Tryz.prog 86 #[pv,.agg #[.int .i64 6,.int .i64 lv,.string i,.string t,.string d,.string ti,.string at_.id,vc,vp,vl,vk]] w (rY w (aQ L8 [] (ah.aX ks))):=by
 obtain ⟨ac,nc,cc,ap,np,cp,al,nl,cl,ak,nk,ck,S,W0,rfl,rfl,rfl,rfl,HS,HW0,e0,SX,HR,Z0,B0,K1⟩:=kE (.int .i64 6) lv i t d ti hR;have uQ:=gM HS.out hl B0.out;have qC:=JM HS.out ht B0.out;have lS:=qH hs HR;have jH:=hid hs;have hst:t.size<=300:=hs.t;have hsi:i.size<=300:=hs.i;clear hR hs hl ht;go_enter Tryz.func86,Tryz.ntmps86;go_upto_region 16 with (fail)
 rw [<- HS.out];have hk0:=HW0.out;simp only [jI] at hk0;rw [<- hk0];clear hk0;have LC:=hid (uQ.out W0 (jj8 _ _));have g9:=(SX.out W0 (jj8 _ _)).2.2.2.2.2.2.2.2.2;go_wp2_with fail
 (with_reducible refine LC.out.mono ?_)
 rintro e w4 ⟨dU,v4,rfl,hrow4⟩;obtain ⟨a4,n4,c4,rfl⟩:=hrow4.slice3;have b4:=hrow4.aP;have B4:=hid b4;have gy:=hid (show Rd (W0.heap.size<=·) w4 (cZ (ah.aX ks)) [.slice a4 n4 c4] from hrow4.fu);have EC:=hid (ko ⟨#[98,108,111,99,107,113,117,111,116,101]⟩ none a4 0 n4 0 c4 w4);clear b4 hrow4 LC g9;go_wp2_with fail
 (with_reducible refine EC.out.mono ?_)
 rintro e w5 ⟨rfl,b5⟩;have BL:=hid (aR B4.out b5);have HN:=hid (show kU (W0.heap.size<=·) w5 [] (ah.aX ks) (.slice none 0 0) (.slice a4 n4 c4) from ⟨Rd.aF _ _ _,gy.out.aZ b5⟩);clear b5 gy EC;obtain ⟨w9,hw8,r0,r1,r2,r3,HP,x0,x1,x2,x3,xf⟩:=iq ⟨#[98,108,111,99,107,113,117,111,116,101]⟩ ⟨#[]⟩ [] (ah.aX ks) HS Z0 B0 K1 BL HN.out;go_wp2;rw [<- hw8];exact bodyPost_ret (v:=.agg #[.string ⟨#[98,108,111,99,107,113,117,111,116,101]⟩,.string ⟨#[]⟩,(.slice none 0 0),(.slice a4 n4 c4)]) (by simp [results,Tryz.results86,go_sem,r0,r1,r2,r3]) rfl HP.out
theorem UR (pv:jmq) (lv:Int) (i t d ti:ByteArray) (at_:At) (li:List aj) (ks:List ah) (vc vp vl vk:jmq) (w:jmj) (hR:ku (·<w.heap.size) w at_ li ks vc vp vl vk) (hs:FM i t at_ li) (hl:dS pv w ks vk) (ht:PT w) : Calls Tryz.prog 86 #[pv,.agg #[.int .i64 7,.int .i64 lv,.string i,.string t,.string d,.string ti,.string at_.id,vc,vp,vl,vk]] w (rY w (aQ nUl [] (ah.aX ks))):=by
 obtain ⟨ac,nc,cc,ap,np,cp,al,nl,cl,ak,nk,ck,S,W0,rfl,rfl,rfl,rfl,HS,HW0,e0,SX,HR,Z0,B0,K1⟩:=kE (.int .i64 7) lv i t d ti hR;have uQ:=gM HS.out hl B0.out;have qC:=JM HS.out ht B0.out;have lS:=qH hs HR;have jH:=hid hs;have hst:t.size<=300:=hs.t;have hsi:i.size<=300:=hs.i;clear hR hs hl ht;go_enter Tryz.func86,Tryz.ntmps86;go_upto_region 18 with (fail)
 rw [<- HS.out];have hk0:=HW0.out;simp only [jI] at hk0;rw [<- hk0];clear hk0;have LC:=hid (uQ.out W0 (jj8 _ _));have g9:=(SX.out W0 (jj8 _ _)).2.2.2.2.2.2.2.2.2;go_wp2_with fail
 (with_reducible refine LC.out.mono ?_)
 rintro e w4 ⟨dU,v4,rfl,hrow4⟩;obtain ⟨a4,n4,c4,rfl⟩:=hrow4.slice3;have b4:=hrow4.aP;have B4:=hid b4;have gy:=hid (show Rd (W0.heap.size<=·) w4 (cZ (ah.aX ks)) [.slice a4 n4 c4] from hrow4.fu);have EC:=hid (ko ⟨#[117,108]⟩ none a4 0 n4 0 c4 w4);clear b4 hrow4 LC g9;go_wp2_with fail
 (with_reducible refine EC.out.mono ?_)
 rintro e w5 ⟨rfl,b5⟩;have BL:=hid (aR B4.out b5);have HN:=hid (show kU (W0.heap.size<=·) w5 [] (ah.aX ks) (.slice none 0 0) (.slice a4 n4 c4) from ⟨Rd.aF _ _ _,gy.out.aZ b5⟩);clear b5 gy EC;obtain ⟨w9,hw8,r0,r1,r2,r3,HP,x0,x1,x2,x3,xf⟩:=iq ⟨#[117,108]⟩ ⟨#[]⟩ [] (ah.aX ks) HS Z0 B0 K1 BL HN.out;go_wp2;rw [<- hw8];exact bodyPost_ret (v:=.agg #[.string ⟨#[117,108]⟩,.string ⟨#[]⟩,(.slice none 0 0),(.slice a4 n4 c4)]) (by simp [results,Tryz.results86,go_sem,r0,r1,r2,r3]) rfl HP.out
theorem UU (pv:jmq) (lv:Int) (i t d ti:ByteArray) (at_:At) (li:List aj) (ks:List ah) (vc vp vl vk:jmq) (w:jmj) (hR:ku (·<w.heap.size) w at_ li ks vc vp vl vk) (hs:FM i t at_ li) (hl:dS pv w ks vk) (ht:PT w) : Calls Tryz.prog 86 #[pv,.agg #[.int .i64 9,.int .i64 lv,.string i,.string t,.string d,.string ti,.string at_.id,vc,vp,vl,vk]] w (rY w (aQ nLi [] (ah.aX ks))):=by
 obtain ⟨ac,nc,cc,ap,np,cp,al,nl,cl,ak,nk,ck,S,W0,rfl,rfl,rfl,rfl,HS,HW0,e0,SX,HR,Z0,B0,K1⟩:=kE (.int .i64 9) lv i t d ti hR;have uQ:=gM HS.out hl B0.out;have qC:=JM HS.out ht B0.out;have lS:=qH hs HR;have jH:=hid hs;have hst:t.size<=300:=hs.t;have hsi:i.size<=300:=hs.i;clear hR hs hl ht;go_enter Tryz.func86,Tryz.ntmps86;go_upto_region 25 with (fail)
 rw [<- HS.out];have hk0:=HW0.out;simp only [jI] at hk0;rw [<- hk0];clear hk0;have LC:=hid (uQ.out W0 (jj8 _ _));have g9:=(SX.out W0 (jj8 _ _)).2.2.2.2.2.2.2.2.2;go_wp2_with fail
 (with_reducible refine LC.out.mono ?_)
 rintro e w4 ⟨dU,v4,rfl,hrow4⟩;obtain ⟨a4,n4,c4,rfl⟩:=hrow4.slice3;have b4:=hrow4.aP;have B4:=hid b4;have gy:=hid (show Rd (W0.heap.size<=·) w4 (cZ (ah.aX ks)) [.slice a4 n4 c4] from hrow4.fu);have EC:=hid (ko ⟨#[108,105]⟩ none a4 0 n4 0 c4 w4);clear b4 hrow4 LC g9;go_wp2_with fail
 (with_reducible refine EC.out.mono ?_)
 rintro e w5 ⟨rfl,b5⟩;have BL:=hid (aR B4.out b5);have HN:=hid (show kU (W0.heap.size<=·) w5 [] (ah.aX ks) (.slice none 0 0) (.slice a4 n4 c4) from ⟨Rd.aF _ _ _,gy.out.aZ b5⟩);clear b5 gy EC;obtain ⟨w9,hw8,r0,r1,r2,r3,HP,x0,x1,x2,x3,xf⟩:=iq ⟨#[108,105]⟩ ⟨#[]⟩ [] (ah.aX ks) HS Z0 B0 K1 BL HN.out;go_wp2;rw [<- hw8];exact bodyPost_ret (v:=.agg #[.string ⟨#[108,105]⟩,.string ⟨#[]⟩,(.slice none 0 0),(.slice a4 n4 c4)]) (by simp [results,Tryz.results86,go_sem,r0,r1,r2,r3]) rfl HP.out
theorem UW (pv:jmq) (lv:Int) (i t d ti:ByteArray) (at_:At) (li:List aj) (ks:List ah) (vc vp vl vk:jmq) (w:jmj) (hR:ku (·<w.heap.size) w at_ li ks vc vp vl vk) (hs:FM i t at_ li) (hl:dS pv w ks vk) (ht:PT w) : Calls Tryz.prog 86 #[pv,.agg #[.int .i64 5,.int .i64 lv,.string i,.string t,.string d,.string ti,.string at_.id,vc,vp,vl,vk]] w (rY w (aQ nHr [] [])):=by
 obtain ⟨ac,nc,cc,ap,np,cp,al,nl,cl,ak,nk,ck,S,W0,rfl,rfl,rfl,rfl,HS,HW0,e0,SX,HR,Z0,B0,K1⟩:=kE (.int .i64 5) lv i t d ti hR;have uQ:=gM HS.out hl B0.out;have qC:=JM HS.out ht B0.out;have lS:=qH hs HR;have jH:=hid hs;have hst:t.size<=300:=hs.t;have hsi:i.size<=300:=hs.i;clear hR hs hl ht;go_enter Tryz.func86,Tryz.ntmps86;go_upto_region 14 with (fail)
 rw [<- HS.out];have hk0:=HW0.out;simp only [jI] at hk0;rw [<- hk0];clear hk0;have EC:=hid (ko ⟨#[104,114]⟩ none none 0 0 0 0 W0);have B4:Hid (jmk W0.heap.size W0 W0):=jj8 _ _;go_wp2_with fail
 (with_reducible refine EC.out.mono ?_)
 rintro e w5 ⟨rfl,b5⟩;have BL:=hid (aR B4.out b5);clear b5;obtain ⟨w9,hw8,r0,r1,r2,r3,HP,x0,x1,x2,x3,xf⟩:=iq ⟨#[104,114]⟩ ⟨#[]⟩ [] [] HS Z0 B0 K1 BL ⟨Rd.aF _ _ _,Rd.aF _ _ _⟩;go_wp2;rw [<- hw8];exact bodyPost_ret (v:=.agg #[.string ⟨#[104,114]⟩,.string ⟨#[]⟩,(.slice none 0 0),(.slice none 0 0)]) (by simp [results,Tryz.results86,go_sem,r0,r1,r2,r3]) rfl HP.out
theorem P6 (pv:jmq) (lv:Int) (i t d ti:ByteArray) (at_:At) (li:List aj) (ks:List ah) (vc vp vl vk:jmq) (w:jmj) (hR:ku (·<w.heap.size) w at_ li ks vc vp vl vk) (hs:FM i t at_ li) (ht:PT w) (hT:TbW i ks) : Calls Tryz.prog 86 #[pv,.agg #[.int .i64 10,.int .i64 lv,.string i,.string t,.string d,.string ti,.string at_.id,vc,vp,vl,vk]] w (rY w (eP i ks)):=by
 obtain ⟨ac,nc,cc,ap,np,cp,al,nl,cl,ak,nk,ck,S,W0,rfl,rfl,rfl,rfl,HS,HW0,e0,SX,HR,Z0,B0,K1⟩:=kE (.int .i64 10) lv i t d ti hR;have qC:=JM HS.out ht B0.out;have lS:=qH hs HR;have jH:=hid hs;have hst:t.size<=300:=hs.t;have hsi:i.size<=300:=hs.i;have HT:=hid hT;clear hT;clear hR hs ht;go_enter Tryz.func86,Tryz.ntmps86;go_upto_region 27 with (fail)
 rw [<- HS.out];have hk0:=HW0.out;simp only [jI] at hk0;rw [<- hk0];clear hk0;have TC:=hid (FN 10 lv i t d ti at_ li ks (.slice ac nc cc) (.slice ap np cp) (.slice al nl cl) (.slice ak nk ck) W0 (ku.DI HR.out (fun b (hb:b<S) hlt=>⟨hlt,rfl⟩)) HT.out);obtain ⟨g1,g2,g3,g4,g5,g6,g7,g8,g9,g10⟩:=SX.out W0 (jj8 _ _);have htb:(eP i ks).nm=⟨#[116,97,98,108,101]⟩/\(eP i ks).tx=⟨#[]⟩/\(eP i ks).at_=[]:=by cases ks<;>exact ⟨rfl,rfl,rfl⟩
 have Sy:=hid htb;clear htb;go_wp2_with fail
 (with_reducible refine TC.out.mono ?_)
 rintro e w5 ⟨va,vk,he,hN,hb5⟩;obtain ⟨aA,nA,cA,rfl⟩:=Rd.ay hN.at_
 obtain ⟨aK,nK,cK,rfl⟩:=Rd.ay hN.ks;rw [Sy.out.1,Sy.out.2.1] at he;subst he;have BL:=hid hb5;have HN:=hid hN;have HE:Hid (eP i ks=.mk ⟨#[116,97,98,108,101]⟩ ⟨#[]⟩ (eP i ks).at_ (eP i ks).ks):=by show _=_;rw [<- Sy.out.1,<- Sy.out.2.1];cases eP i ks;rfl
 rw [HE.out];clear hN hb5 g1 g2 g3 g4 g5 g6 g7 g8 g9 g10 TC;obtain ⟨w9,hw8,r0,r1,r2,r3,HP,x0,x1,x2,x3,xf⟩:=iq ⟨#[116,97,98,108,101]⟩ ⟨#[]⟩ (eP i ks).at_ (eP i ks).ks HS Z0 B0 K1 BL HN.out
 go_wp2;rw [<- hw8];exact bodyPost_ret (v:=.agg #[.string ⟨#[116,97,98,108,101]⟩,.string ⟨#[]⟩,(.slice aA nA cA),(.slice aK nK cK)]) (by simp [results,Tryz.results86,go_sem,r0,r1,r2,r3]) rfl (by rw [HE.out];exact HP.out)
theorem P7 (pv:jmq) (lv:Int) (i t d ti:ByteArray) (at_:At) (li:List aj) (ks:List ah) (vc vp vl vk:jmq) (w:jmj) (hR:ku (·<w.heap.size) w at_ li ks vc vp vl vk) (hs:FM i t at_ li) (hl:dS pv w ks vk) (ht:PT w) (hi:bg i=true) : Calls Tryz.prog 86 #[pv,.agg #[.int .i64 3,.int .i64 lv,.string i,.string t,.string d,.string ti,.string at_.id,vc,vp,vl,vk]] w (rY w (aQ JO [] [aQ iR [] (bT t)])):=by
 obtain ⟨ac,nc,cc,ap,np,cp,al,nl,cl,ak,nk,ck,S,W0,rfl,rfl,rfl,rfl,HS,HW0,e0,SX,HR,Z0,B0,K1⟩:=kE (.int .i64 3) lv i t d ti hR;have uQ:=gM HS.out hl B0.out;have qC:=JM HS.out ht B0.out;have lS:=qH hs HR;have jH:=hid hs;have hst:t.size<=300:=hs.t;have hsi:i.size<=300:=hs.i;have Sz:i.toList.isEmpty=true:=by
  have h:i.toList.isEmpty=bg i:=by rw [Lib.toList_data,Bool.eq_iff_iff,List.isEmpty_iff,bg,decide_eq_true_iff]
  rw [h];exact hi
 clear hi;clear hR hs hl ht;go_enter Tryz.func86,Tryz.ntmps86;go_upto_region 7 with (fail)
 rw [<- HS.out];have hk0:=HW0.out;simp only [jI] at hk0;rw [<- hk0];clear hk0;have SA:jmk W0.heap.size W0 W0:=jj8 _ _;have uR:Hid (Rd (W0.heap.size<=·) W0 (bS []) [.slice none 0 0]):=Rd.aF _ _ _;have e2:=(SX.out W0 (jj8 _ _)).2.1;have DC:=hid (fM t W0);have g3:=(SX.out W0 SA).2.2.1;go_wp2_with fail
 (with_reducible refine DC.out.mono ?_)
 rintro e w4 ⟨dU,v4,rfl,hrow4⟩;obtain ⟨a4,n4,c4,rfl⟩:=hrow4.slice3;have b4:=hrow4.aP;have B4:=hid (aR SA b4);have gy:=hid (show Rd (W0.heap.size<=·) w4 (cZ (bT t)) [.slice a4 n4 c4] from hrow4.fu.weaken (fun b hb=>jjj (SA).size hb));have oI:=hid (uR.out.aZ b4);have EC:=hid (ko ⟨#[99,111,100,101]⟩ none a4 0 n4 0 c4 w4);clear b4 hrow4 DC g3;go_wp2_with fail
 (with_reducible refine EC.out.mono ?_)
 rintro e w5 ⟨rfl,b5⟩;have XD:yZ W0 none w5 (aQ iR [] (bT t)).d [.string ⟨#[99,111,100,101]⟩,.string ⟨#[]⟩,.slice none 0 0,.slice a4 n4 c4]:=⟨aR B4.out b5,fun p hp=>by simp at hp,(Nd.eu iR ⟨#[]⟩ (kU.keep ⟨oI.out,gy.out⟩ (fun b hb hlt=>⟨⟨hb,by simp⟩,b5.block b hlt⟩)))⟩;have XL:=hid XD.lit;have SE:=hid (ko ⟨#[112,114,101]⟩ none (some ⟨w5.heap.size,0,none⟩) 0 1 0 1 (w5.alloc (.cells #[.string ⟨#[99,111,100,101]⟩,.string ⟨#[]⟩,.slice none 0 0,.slice a4 n4 c4] 35)));clear XD b5 EC;go_wp2_with fail
 (with_reducible refine SE.out.mono ?_)
 rintro e w6 ⟨rfl,b6⟩;have BL:=hid (aR XL.out.aP b6);have HN:=hid (show kU (W0.heap.size<=·) w6 [] [aQ iR [] (bT t)] (.slice none 0 0) (.slice (some ⟨w5.heap.size,0,none⟩) 1 1) from ⟨Rd.aF _ _ _,(XL.out.rd.aZ b6).weaken (fun b hb=>hb.1)⟩);clear b6 XL SE;obtain ⟨w9,hw8,r0,r1,r2,r3,HP,x0,x1,x2,x3,xf⟩:=iq ⟨#[112,114,101]⟩ ⟨#[]⟩ [] [aQ iR [] (bT t)] HS Z0 B0 K1 BL HN.out;go_wp2;rw [<- hw8];exact bodyPost_ret (v:=.agg #[.string ⟨#[112,114,101]⟩,.string ⟨#[]⟩,(.slice none 0 0),(.slice (some ⟨w5.heap.size,0,none⟩) 1 1)]) (by simp [results,Tryz.results86,go_sem,r0,r1,r2,r3]) rfl HP.out
theorem P8 (pv:jmq) (lv:Int) (i t d ti:ByteArray) (at_:At) (li:List aj) (ks:List ah) (vc vp vl vk:jmq) (w:jmj) (hR:ku (·<w.heap.size) w at_ li ks vc vp vl vk) (hs:FM i t at_ li) (hl:dS pv w ks vk) (ht:PT w) (hi:bg i=false) : Calls Tryz.prog 86 #[pv,.agg #[.int .i64 3,.int .i64 lv,.string i,.string t,.string d,.string ti,.string at_.id,vc,vp,vl,vk]] w (rY w (aQ JO [] [aQ iR [⟨iw,⟨#[108,97,110,103,117,97,103,101,45]⟩++i⟩] (bT t)])):=by
 obtain ⟨ac,nc,cc,ap,np,cp,al,nl,cl,ak,nk,ck,S,W0,rfl,rfl,rfl,rfl,HS,HW0,e0,SX,HR,Z0,B0,K1⟩:=kE (.int .i64 3) lv i t d ti hR;have uQ:=gM HS.out hl B0.out;have qC:=JM HS.out ht B0.out;have lS:=qH hs HR;have jH:=hid hs;have hst:t.size<=300:=hs.t;have hsi:i.size<=300:=hs.i;have Sz:i.toList.isEmpty=false:=by
  have h:i.toList.isEmpty=bg i:=by rw [Lib.toList_data,Bool.eq_iff_iff,List.isEmpty_iff,bg,decide_eq_true_iff]
  rw [h];exact hi
 clear hi;clear hR hs hl ht;go_enter Tryz.func86,Tryz.ntmps86;go_upto_region 7 with (fail)
 rw [<- HS.out];have hk0:=HW0.out;simp only [jI] at hk0;rw [<- hk0];clear hk0;have e2:=(SX.out W0 (jj8 _ _)).2.1;have q5:(⟨#[108,97,110,103,117,97,103,101,45]⟩:ByteArray).size+i.size<=9223372036854775807:=by have:(⟨#[108,97,110,103,117,97,103,101,45]⟩:ByteArray).size=9:=rfl;omega
 have q6:9+i.size<=9223372036854775807:=by omega
 have PC:Hid (Calls Tryz.prog 41 #[.slice (some ⟨W0.heap.size,0,none⟩) 2 2] (W0.alloc (.cells #[.string ⟨#[99,108,97,115,115]⟩,.string (⟨#[108,97,110,103,117,97,103,101,45]⟩++i)] 9)) (bJ (W0.alloc (.cells #[.string ⟨#[99,108,97,115,115]⟩,.string (⟨#[108,97,110,103,117,97,103,101,45]⟩++i)] 9)) [⟨iw,⟨#[108,97,110,103,117,97,103,101,45]⟩++i⟩])):=P9 iw (DJ++i) W0;go_wp2_with fail
 (with_reducible refine PC.out.mono ?_)
 rintro e w2 ⟨bR,v2,rfl,hrow2⟩;obtain ⟨a2,c2,rfl,-,-⟩:=hrow2.cap (n:=1) rfl;have bl:jmk W0.heap.size W0 (W0.alloc (.cells #[.string ⟨#[99,108,97,115,115]⟩,.string (⟨#[108,97,110,103,117,97,103,101,45]⟩++i)] 9)):=(jj8 _ _).alloc (jj9 _) _;have B2:=hid (bl.trans (hrow2.aP.mono bl.size));have uR:=hid (show Rd (W0.heap.size<=·) w2 (bS [⟨iw,⟨#[108,97,110,103,117,97,103,101,45]⟩++i⟩]) [.slice a2 1 c2] from hrow2.fu.weaken (fun b hb=>jjj bl.size hb));clear hrow2 bl PC q5 q6 e2;have DC:=hid (fM t w2);have g3:=(SX.out w2 B2.out).2.2.1;go_wp2_with fail
 (with_reducible refine DC.out.mono ?_)
 rintro e w4 ⟨dU,v4,rfl,hrow4⟩;obtain ⟨a4,n4,c4,rfl⟩:=hrow4.slice3;have b4:=hrow4.aP;have B4:=hid (aR B2.out b4);have gy:=hid (show Rd (W0.heap.size<=·) w4 (cZ (bT t)) [.slice a4 n4 c4] from hrow4.fu.weaken (fun b hb=>jjj (B2.out).size hb));have oI:=hid (uR.out.aZ b4);have EC:=hid (ko ⟨#[99,111,100,101]⟩ a2 a4 1 n4 c2 c4 w4);clear b4 hrow4 DC g3;go_wp2_with fail
 (with_reducible refine EC.out.mono ?_)
 rintro e w5 ⟨rfl,b5⟩;have XD:yZ W0 none w5 (aQ iR [⟨iw,⟨#[108,97,110,103,117,97,103,101,45]⟩++i⟩] (bT t)).d [.string ⟨#[99,111,100,101]⟩,.string ⟨#[]⟩,.slice a2 1 c2,.slice a4 n4 c4]:=⟨aR B4.out b5,fun p hp=>by simp at hp,(Nd.eu iR ⟨#[]⟩ (kU.keep ⟨oI.out,gy.out⟩ (fun b hb hlt=>⟨⟨hb,by simp⟩,b5.block b hlt⟩)))⟩;have XL:=hid XD.lit;have SE:=hid (ko ⟨#[112,114,101]⟩ none (some ⟨w5.heap.size,0,none⟩) 0 1 0 1 (w5.alloc (.cells #[.string ⟨#[99,111,100,101]⟩,.string ⟨#[]⟩,.slice a2 1 c2,.slice a4 n4 c4] 35)));clear XD b5 EC;go_wp2_with fail
 (with_reducible refine SE.out.mono ?_)
 rintro e w6 ⟨rfl,b6⟩;have BL:=hid (aR XL.out.aP b6);have HN:=hid (show kU (W0.heap.size<=·) w6 [] [aQ iR [⟨iw,⟨#[108,97,110,103,117,97,103,101,45]⟩++i⟩] (bT t)] (.slice none 0 0) (.slice (some ⟨w5.heap.size,0,none⟩) 1 1) from ⟨Rd.aF _ _ _,(XL.out.rd.aZ b6).weaken (fun b hb=>hb.1)⟩);clear b6 XL SE;obtain ⟨w9,hw8,r0,r1,r2,r3,HP,x0,x1,x2,x3,xf⟩:=iq ⟨#[112,114,101]⟩ ⟨#[]⟩ [] [aQ iR [⟨iw,⟨#[108,97,110,103,117,97,103,101,45]⟩++i⟩] (bT t)] HS Z0 B0 K1 BL HN.out;go_wp2;rw [<- hw8];exact bodyPost_ret (v:=.agg #[.string ⟨#[112,114,101]⟩,.string ⟨#[]⟩,(.slice none 0 0),(.slice (some ⟨w5.heap.size,0,none⟩) 1 1)]) (by simp [results,Tryz.results86,go_sem,r0,r1,r2,r3]) rfl HP.out
theorem Qa (pv:jmq) (lv:Int) (i t d ti:ByteArray) (at_:At) (li:List aj) (ks:List ah) (vc vp vl vk:jmq) (w:jmj) (hR:ku (·<w.heap.size) w at_ li ks vc vp vl vk) (hs:FM i t at_ li) (hl:dS pv w ks vk) (ht:PT w) (hv:lv=1) : Calls Tryz.prog 86 #[pv,.agg #[.int .i64 8,.int .i64 lv,.string i,.string t,.string d,.string ti,.string at_.id,vc,vp,vl,vk]] w (rY w (aQ Xp [] (ah.aX ks))):=by
 obtain ⟨ac,nc,cc,ap,np,cp,al,nl,cl,ak,nk,ck,S,W0,rfl,rfl,rfl,rfl,HS,HW0,e0,SX,HR,Z0,B0,K1⟩:=kE (.int .i64 8) lv i t d ti hR;have uQ:=gM HS.out hl B0.out;have qC:=JM HS.out ht B0.out;have lS:=qH hs HR;have jH:=hid hs;have hst:t.size<=300:=hs.t;have hsi:i.size<=300:=hs.i;have qv:(lv==1)=true:=by rw [hv];rfl
 clear hv;clear hR hs hl ht;go_enter Tryz.func86,Tryz.ntmps86;go_upto_region 20 with (fail)
 rw [<- HS.out];have hk0:=HW0.out;simp only [jI] at hk0;rw [<- hk0];clear hk0;have SA:jmk W0.heap.size W0 W0:=jj8 _ _;have uR:Hid (Rd (W0.heap.size<=·) W0 (bS []) [.slice none 0 0]):=Rd.aF _ _ _;have e1:=(SX.out W0 (jj8 _ _)).1;have LC:=hid (uQ.out W0 SA);have g10:=(SX.out W0 SA).2.2.2.2.2.2.2.2.2;go_wp2_with fail
 (with_reducible refine LC.out.mono ?_)
 rintro e w4 ⟨dU,v4,rfl,hrow4⟩;obtain ⟨a4,n4,c4,rfl⟩:=hrow4.slice3;have b4:=hrow4.aP;have B4:=hid (aR SA b4);have gy:=hid (show Rd (W0.heap.size<=·) w4 (cZ (ah.aX ks)) [.slice a4 n4 c4] from hrow4.fu.weaken (fun b hb=>jjj (SA).size hb));have oI:=hid (uR.out.aZ b4);have EC:=hid (ko ⟨#[111,108]⟩ none a4 0 n4 0 c4 w4);clear b4 hrow4 LC g10;go_wp2_with fail
 (with_reducible refine EC.out.mono ?_)
 rintro e w5 ⟨rfl,b5⟩;have BL:=hid (aR B4.out b5);have HN:=hid (show kU (W0.heap.size<=·) w5 [] (ah.aX ks) (.slice none 0 0) (.slice a4 n4 c4) from ⟨oI.out.aZ b5,gy.out.aZ b5⟩);clear b5 gy EC;obtain ⟨w9,hw8,r0,r1,r2,r3,HP,x0,x1,x2,x3,xf⟩:=iq ⟨#[111,108]⟩ ⟨#[]⟩ [] (ah.aX ks) HS Z0 B0 K1 BL HN.out;go_wp2;rw [<- hw8];exact bodyPost_ret (v:=.agg #[.string ⟨#[111,108]⟩,.string ⟨#[]⟩,(.slice none 0 0),(.slice a4 n4 c4)]) (by simp [results,Tryz.results86,go_sem,r0,r1,r2,r3]) rfl HP.out
theorem Qb (pv:jmq) (lv:Int) (i t d ti:ByteArray) (at_:At) (li:List aj) (ks:List ah) (vc vp vl vk:jmq) (w:jmj) (hR:ku (·<w.heap.size) w at_ li ks vc vp vl vk) (hs:FM i t at_ li) (hl:dS pv w ks vk) (ht:PT w) (n:Nat) (hv:lv=(n:Int)) (hn:n<=999999999) (h1:lv≠1) : Calls Tryz.prog 86 #[pv,.agg #[.int .i64 8,.int .i64 lv,.string i,.string t,.string d,.string ti,.string at_.id,vc,vp,vl,vk]] w (rY w (aQ Xp [⟨sStart,gu n⟩] (ah.aX ks))):=by
 obtain ⟨ac,nc,cc,ap,np,cp,al,nl,cl,ak,nk,ck,S,W0,rfl,rfl,rfl,rfl,HS,HW0,e0,SX,HR,Z0,B0,K1⟩:=kE (.int .i64 8) lv i t d ti hR;have uQ:=gM HS.out hl B0.out;have qC:=JM HS.out ht B0.out;have lS:=qH hs HR;have jH:=hid hs;have hst:t.size<=300:=hs.t;have hsi:i.size<=300:=hs.i;have qv:(lv==1)=false:=by rw [beq_eq_false_iff_ne];exact h1
 have IC:Hid (∀ W:jmj,jmk W0.heap.size W0 W->Calls Tryz.prog 136 #[.int .i64 lv] W (fun e w'=>e=.returned (.string (gu n))/\jmk W.heap.size W w')):=fun W hW=>by rw [hv];exact DF n W hn (qC.out W hW)
 clear hv hn h1;clear hR hs hl ht;go_enter Tryz.func86,Tryz.ntmps86;go_upto_region 20 with (fail)
 rw [<- HS.out];have hk0:=HW0.out;simp only [jI] at hk0;rw [<- hk0];clear hk0;have e1:=(SX.out W0 (jj8 _ _)).1;have IT:=hid (IC.out W0 (jj8 _ _));go_wp2_with fail
 (with_reducible refine IT.out.mono ?_)
 rintro e w1 ⟨rfl,b1⟩;have PC:Hid (Calls Tryz.prog 41 #[.slice (some ⟨w1.heap.size,0,none⟩) 2 2] (w1.alloc (.cells #[.string ⟨#[115,116,97,114,116]⟩,.string (gu n)] 9)) (bJ (w1.alloc (.cells #[.string ⟨#[115,116,97,114,116]⟩,.string (gu n)] 9)) [⟨sStart,gu n⟩])):=P9 sStart (gu n) w1;have bl:jmk W0.heap.size W0 (w1.alloc (.cells #[.string ⟨#[115,116,97,114,116]⟩,.string (gu n)] 9)):=b1.alloc b1.size _;clear IT e1;go_wp2_with fail
 (with_reducible refine PC.out.mono ?_)
 rintro e w2 ⟨bR,v2,rfl,hrow2⟩;obtain ⟨a2,c2,rfl,-,-⟩:=hrow2.cap (n:=1) rfl;have B2:=hid (bl.trans (hrow2.aP.mono bl.size));have uR:=hid (show Rd (W0.heap.size<=·) w2 (bS [⟨sStart,gu n⟩]) [.slice a2 1 c2] from hrow2.fu.weaken (fun b hb=>jjj bl.size hb));clear hrow2 bl PC b1;have LC:=hid (uQ.out w2 B2.out);have g10:=(SX.out w2 B2.out).2.2.2.2.2.2.2.2.2;go_wp2_with fail
 (with_reducible refine LC.out.mono ?_)
 rintro e w4 ⟨dU,v4,rfl,hrow4⟩;obtain ⟨a4,n4,c4,rfl⟩:=hrow4.slice3;have b4:=hrow4.aP;have B4:=hid (aR B2.out b4);have gy:=hid (show Rd (W0.heap.size<=·) w4 (cZ (ah.aX ks)) [.slice a4 n4 c4] from hrow4.fu.weaken (fun b hb=>jjj (B2.out).size hb));have oI:=hid (uR.out.aZ b4);have EC:=hid (ko ⟨#[111,108]⟩ a2 a4 1 n4 c2 c4 w4);clear b4 hrow4 LC g10;go_wp2_with fail
 (with_reducible refine EC.out.mono ?_)
 rintro e w5 ⟨rfl,b5⟩;have BL:=hid (aR B4.out b5);have HN:=hid (show kU (W0.heap.size<=·) w5 [⟨sStart,gu n⟩] (ah.aX ks) (.slice a2 1 c2) (.slice a4 n4 c4) from ⟨oI.out.aZ b5,gy.out.aZ b5⟩);clear b5 gy EC;obtain ⟨w9,hw8,r0,r1,r2,r3,HP,x0,x1,x2,x3,xf⟩:=iq ⟨#[111,108]⟩ ⟨#[]⟩ [⟨sStart,gu n⟩] (ah.aX ks) HS Z0 B0 K1 BL HN.out;go_wp2;rw [<- hw8];exact bodyPost_ret (v:=.agg #[.string ⟨#[111,108]⟩,.string ⟨#[]⟩,(.slice a2 1 c2),(.slice a4 n4 c4)]) (by simp [results,Tryz.results86,go_sem,r0,r1,r2,r3]) rfl HP.out
theorem UY (pv:jmq) (lv:Int) (i t d ti:ByteArray) (at_:At) (li:List aj) (ks:List ah) (vc vp vl vk:jmq) (w:jmj) (hR:ku (·<w.heap.size) w at_ li ks vc vp vl vk) (hs:FM i t at_ li) (hl:dS pv w ks vk) (ht:PT w) (n:Nat) (hv:lv=(n:Int)) (hn:n<=999999999) : Calls Tryz.prog 86 #[pv,.agg #[.int .i64 2,.int .i64 lv,.string i,.string t,.string d,.string ti,.string at_.id,vc,vp,vl,vk]] w (rY w (aQ (⟨#[104]⟩++gu n) (lC at_ []) (jZ li))):=by
 obtain ⟨ac,nc,cc,ap,np,cp,al,nl,cl,ak,nk,ck,S,W0,rfl,rfl,rfl,rfl,HS,HW0,e0,SX,HR,Z0,B0,K1⟩:=kE (.int .i64 2) lv i t d ti hR;have uQ:=gM HS.out hl B0.out;have qC:=JM HS.out ht B0.out;have lS:=qH hs HR;have jH:=hid hs;have hst:t.size<=300:=hs.t;have hsi:i.size<=300:=hs.i;have IC:Hid (∀ W:jmj,jmk W0.heap.size W0 W->Calls Tryz.prog 136 #[.int .i64 lv] W (fun e w'=>e=.returned (.string (gu n))/\jmk W.heap.size W w')):=fun W hW=>by rw [hv];exact DF n W hn (qC.out W hW)
 have q5:(⟨#[104]⟩:ByteArray).size+(gu n).size<=9223372036854775807:=by have:(⟨#[104]⟩:ByteArray).size=1:=rfl;have:=yX n hn;omega
 have q6:1+(gu n).size<=9223372036854775807:=by have:=yX n hn;omega
 clear hv hn;clear hR hs hl ht;go_enter Tryz.func86,Tryz.ntmps86;go_upto_region 5 with (fail)
 rw [<- HS.out];have hk0:=HW0.out;simp only [jI] at hk0;rw [<- hk0];clear hk0;have IT:=hid (IC.out W0.drew ((jj8 W0.heap.size W0).drew));have hadd:∀ w:jmj,(Op.stringOp .add (⟨#[104]⟩:ByteArray) (gu n)).run Tryz.prog w=.ok (.string (⟨#[104]⟩++gu n)) w:=fun w=>run_string_add_sum w _ _ q5
 clear q5;have SF:=hid (fun (w':jmj) (hb:jmk W0.heap.size W0 w')=>(⟨(SX.out w' hb).1,(SX.out w' hb).2.2.2.2.2.1,(SX.out w' hb).2.2.2.2.2.2.1,(SX.out w' hb).2.2.2.2.2.2.2.1,(SX.out w' hb).2.2.2.2.2.2.2.2.1⟩:w'.cell? ⟨S,1,none⟩=some (.int .i64 lv)/\w'.cell? ⟨S,6,none⟩=some (.string at_.id)/\w'.cell? ⟨S,7,none⟩=some (.slice ac nc cc)/\w'.cell? ⟨S,8,none⟩=some (.slice ap np cp)/\w'.cell? ⟨S,9,none⟩=some (.slice al nl cl)));have S0:=SF.out _ ((jj8 W0.heap.size W0).drew);go_wp2_with fail
 go_region_held3 (fun w'=>w'.cell? ⟨S,1,none⟩=some (.int .i64 lv)/\w'.cell? ⟨S,6,none⟩=some (.string at_.id)/\w'.cell? ⟨S,7,none⟩=some (.slice ac nc cc)/\w'.cell? ⟨S,8,none⟩=some (.slice ap np cp)/\w'.cell? ⟨S,9,none⟩=some (.slice al nl cl))
  (with_reducible assumption)
  (first
   | (go_simp;go_at_call 136;(with_reducible refine IT.out.mono ?_);rintro e w1 ⟨rfl,b1⟩;have B1:Hid (jmk W0.heap.size W0 w1):=((jj8 W0.heap.size W0).drew).trans b1;have S1:=SF.out (w1) B1.out;have AC:=hid (Yq at_ [] (.slice ac nc cc) (.slice ap np cp) (.slice none 0 0) w1 w1 nZ.nil (AJ HR.out.at_ B1.out (by have:=Z0.out;omega)) (L6 jH.out.at_).1 (L6 jH.out.at_).2))
   | (go_simp;go_at_call 137;(with_reducible refine AC.out.mono ?_);rintro e w3 ⟨gD,v3,rfl,hrow3⟩;obtain ⟨a3,n3,c3,rfl⟩:=hrow3.slice3;have B3:Hid (jmk W0.heap.size W0 w3):=(B1.out).trans (hrow3.aP.mono (B1.out).size);have AL:Hid (Rd (W0.heap.size<=·) w3 (bS (lC at_ [])) [.slice a3 n3 c3]):=hrow3.fu.weaken (fun b hb=>jjj (B1.out).size hb);have S3:=SF.out (w3) B3.out;have LC:=hid (lS.out w3 B3.out))
   | (go_simp;go_at_call 78;(with_reducible refine LC.out.mono ?_);rintro e w4 ⟨dU,v4,rfl,hrow4⟩;obtain ⟨a4,n4,c4,rfl⟩:=hrow4.slice3;have b4:=hrow4.aP;have B4:=hid (aR B3.out b4);have gy:=hid (show Rd (W0.heap.size<=·) w4 (cZ (jZ li)) [.slice a4 n4 c4] from hrow4.fu.weaken (fun b hb=>jjj B3.out.size hb));have oI:=hid (AL.out.aZ b4);have S4:=SF.out (w4) B4.out;have EC:=hid (ko ((⟨#[104]⟩:ByteArray)++gu n) a3 a4 n3 n4 c3 c4 w4))
   | (go_simp;go_at_call 40;(with_reducible refine EC.out.mono ?_);rintro e w5 ⟨rfl,b5⟩;have BL:=hid (aR B4.out b5);obtain ⟨x0,x1,x2,x3,xf⟩:=pJ (K1.out.below BL.out);have S5:=SF.out (w5) BL.out;have K6:=rZ S w5 (.string ((⟨#[104]⟩:ByteArray)++gu n)) (.string ⟨#[]⟩) (.slice a3 n3 c3) (.slice a4 n4 c4);have S6:=And.imp (K6 _ _) (And.imp (K6 _ _) (And.imp (K6 _ _) (And.imp (K6 _ _) (K6 _ _)))) (SF.out w5 BL.out);clear K6))
 all_goals
  have HN:=hid (show kU (W0.heap.size<=·) w5 (lC at_ []) (jZ li) (.slice a3 n3 c3) (.slice a4 n4 c4) from ⟨oI.out.aZ b5,gy.out.aZ b5⟩);clear b5 gy EC oI hrow3 hrow4 b4 S0 S3 S4 S5 S6 AL S1 b1;obtain ⟨w9,bO⟩:∃ w9,w9=four w5 (S+1) (.string ((⟨#[104]⟩:ByteArray)++gu n)) (.string ⟨#[]⟩) (.slice a3 n3 c3) (.slice a4 n4 c4):=⟨_,rfl⟩;have hf:=fA ((⟨#[104]⟩:ByteArray)++gu n) ⟨#[]⟩ (lC at_ []) (jZ li) HS.out Z0.out B0.out K1.out BL.out HN.out;rw [<- bO] at hf;have HC:=hid hf.1;have HP:=hid hf.2;clear hf;have hw8:=bO;simp only [four] at hw8;clear bO;obtain ⟨x0,x1,x2,x3,xf⟩:=pJ (K1.out.below BL.out);go_wp2;rw [<- hw8];have r0:=HC.out.cell 0 _ rfl;have r1:=HC.out.cell 1 _ rfl;have r2:=HC.out.cell 2 _ rfl;have r3:=HC.out.cell 3 _ rfl;exact bodyPost_ret (v:=.agg #[.string ((⟨#[104]⟩:ByteArray)++gu n),.string ⟨#[]⟩,(.slice a3 n3 c3),(.slice a4 n4 c4)]) (by simp [results,Tryz.results86,go_sem,r0,r1,r2,r3]) rfl HP.out
theorem UZ (pv:jmq) (lv:Int) (i t d ti:ByteArray) (at_:At) (li:List aj) (ks:List ah) (vc vp vl vk:jmq) (w:jmj) (hR:ku (·<w.heap.size) w at_ li ks vc vp vl vk) (hs:FM i t at_ li) (hl:dS pv w ks vk) (ht:PT w) : Calls Tryz.prog 86 #[pv,.agg #[.int .i64 4,.int .i64 lv,.string i,.string t,.string d,.string ti,.string at_.id,vc,vp,vl,vk]] w (rY w (aQ pK (lC at_ [⟨#[109,97,116,104]⟩]) (bT t))):=by
 obtain ⟨ac,nc,cc,ap,np,cp,al,nl,cl,ak,nk,ck,S,W0,rfl,rfl,rfl,rfl,HS,HW0,e0,SX,HR,Z0,B0,K1⟩:=kE (.int .i64 4) lv i t d ti hR;have uQ:=gM HS.out hl B0.out;have qC:=JM HS.out ht B0.out;have lS:=qH hs HR;have jH:=hid hs;have hst:t.size<=300:=hs.t;have hsi:i.size<=300:=hs.i;clear hR hs hl ht;go_enter Tryz.func86,Tryz.ntmps86;go_upto_region 12 with (fail)
 rw [<- HS.out];have hk0:=HW0.out;simp only [jI] at hk0;rw [<- hk0];clear hk0;have lV:Hid (jmk W0.heap.size W0 (W0.alloc (.cells #[.string ⟨#[109,97,116,104]⟩] 9)).drew):=nD W0 (.cells #[.string ⟨#[109,97,116,104]⟩] 9);have AC:Hid (Calls Tryz.prog 137 #[.agg #[.string at_.id,.slice ac nc cc,.slice ap np cp],.slice (some ⟨W0.heap.size,0,none⟩) 1 1] (W0.alloc (.cells #[.string ⟨#[109,97,116,104]⟩] 9)).drew (bJ W0.drew (lC at_ [⟨#[109,97,116,104]⟩]))):=Yq at_ [⟨#[109,97,116,104]⟩] (.slice ac nc cc) (.slice ap np cp) (.slice (some ⟨W0.heap.size,0,none⟩) 1 1) W0.drew (W0.alloc (.cells #[.string ⟨#[109,97,116,104]⟩] 9)).drew (nZ.one W0.drew ⟨#[109,97,116,104]⟩) (AJ HR.out.at_ lV.out (by have:=Z0.out;omega)) (tO jH.out.at_ ⟨#[109,97,116,104]⟩ (by have:=jH.out.i;decide)).1 (tO jH.out.at_ ⟨#[109,97,116,104]⟩ (by have:=jH.out.i;decide)).2
 have SF:=hid (fun (w':jmj) (hb:jmk W0.heap.size W0 w')=>(⟨(SX.out w' hb).2.2.1,(SX.out w' hb).2.2.2.2.2.1,(SX.out w' hb).2.2.2.2.2.2.1,(SX.out w' hb).2.2.2.2.2.2.2.1⟩:w'.cell? ⟨S,3,none⟩=some (.string t)/\w'.cell? ⟨S,6,none⟩=some (.string at_.id)/\w'.cell? ⟨S,7,none⟩=some (.slice ac nc cc)/\w'.cell? ⟨S,8,none⟩=some (.slice ap np cp)));have S1:=SF.out _ lV.out;have U0:Hid (∀ W:jmj,Calls Tryz.prog 53 #[.string t] W (dn W (bT t))):=fun W=>fM t W
 have S0:=SF.out _ ((jj8 W0.heap.size W0).drew);go_wp2_with fail
 go_region_held3 (fun w'=>w'.cell? ⟨S,3,none⟩=some (.string t)/\w'.cell? ⟨S,6,none⟩=some (.string at_.id)/\w'.cell? ⟨S,7,none⟩=some (.slice ac nc cc)/\w'.cell? ⟨S,8,none⟩=some (.slice ap np cp))
  (with_reducible assumption)
  (first
   | (go_simp;go_at_call 137;(with_reducible refine AC.out.mono ?_);rintro e w3 ⟨gD,v3,rfl,hrow3⟩;obtain ⟨a3,n3,c3,rfl⟩:=hrow3.slice3;have B3:Hid (jmk W0.heap.size W0 w3):=(((jj8 W0.heap.size W0).drew)).trans (hrow3.aP.mono (((jj8 W0.heap.size W0).drew)).size);have AL:Hid (Rd (W0.heap.size<=·) w3 (bS (lC at_ [⟨#[109,97,116,104]⟩])) [.slice a3 n3 c3]):=hrow3.fu.weaken (fun b hb=>jjj (((jj8 W0.heap.size W0).drew)).size hb);have S3:=SF.out (w3) B3.out;have LC:=hid (U0.out w3))
   | (go_simp;go_at_call 53;(with_reducible refine LC.out.mono ?_);rintro e w4 ⟨dU,v4,rfl,hrow4⟩;obtain ⟨a4,n4,c4,rfl⟩:=hrow4.slice3;have b4:=hrow4.aP;have B4:=hid (aR B3.out b4);have gy:=hid (show Rd (W0.heap.size<=·) w4 (cZ (bT t)) [.slice a4 n4 c4] from hrow4.fu.weaken (fun b hb=>jjj B3.out.size hb));have oI:=hid (AL.out.aZ b4);have S4:=SF.out (w4) B4.out;have EC:=hid (ko ⟨#[100,105,118]⟩ a3 a4 n3 n4 c3 c4 w4))
   | (go_simp;go_at_call 40;(with_reducible refine EC.out.mono ?_);rintro e w5 ⟨rfl,b5⟩;have BL:=hid (aR B4.out b5);obtain ⟨x0,x1,x2,x3,xf⟩:=pJ (K1.out.below BL.out);have S5:=SF.out (w5) BL.out;have K6:=rZ S w5 (.string ⟨#[100,105,118]⟩) (.string ⟨#[]⟩) (.slice a3 n3 c3) (.slice a4 n4 c4);have S6:=And.imp (K6 _ _) (And.imp (K6 _ _) (And.imp (K6 _ _) (K6 _ _))) (SF.out w5 BL.out);clear K6))
 all_goals
  have HN:=hid (show kU (W0.heap.size<=·) w5 (lC at_ [⟨#[109,97,116,104]⟩]) (bT t) (.slice a3 n3 c3) (.slice a4 n4 c4) from ⟨oI.out.aZ b5,gy.out.aZ b5⟩);clear b5 gy EC oI hrow3 hrow4 b4 S0 S3 S4 S5 S6 AL S1;obtain ⟨w9,bO⟩:∃ w9,w9=four w5 (S+1) (.string ⟨#[100,105,118]⟩) (.string ⟨#[]⟩) (.slice a3 n3 c3) (.slice a4 n4 c4):=⟨_,rfl⟩;have hf:=fA ⟨#[100,105,118]⟩ ⟨#[]⟩ (lC at_ [⟨#[109,97,116,104]⟩]) (bT t) HS.out Z0.out B0.out K1.out BL.out HN.out;rw [<- bO] at hf;have HC:=hid hf.1;have HP:=hid hf.2;clear hf;have hw8:=bO;simp only [four] at hw8;clear bO;obtain ⟨x0,x1,x2,x3,xf⟩:=pJ (K1.out.below BL.out);go_wp2;rw [<- hw8];have r0:=HC.out.cell 0 _ rfl;have r1:=HC.out.cell 1 _ rfl;have r2:=HC.out.cell 2 _ rfl;have r3:=HC.out.cell 3 _ rfl;exact bodyPost_ret (v:=.agg #[.string ⟨#[100,105,118]⟩,.string ⟨#[]⟩,(.slice a3 n3 c3),(.slice a4 n4 c4)]) (by simp [results,Tryz.results86,go_sem,r0,r1,r2,r3]) rfl HP.out
theorem Qc (pv:jmq) (lv:Int) (i t d ti:ByteArray) (at_:At) (li:List aj) (ks:List ah) (vc vp vl vk:jmq) (w:jmj) (hR:ku (·<w.heap.size) w at_ li ks vc vp vl vk) (hs:FM i t at_ li) (hl:dS pv w ks vk) (ht:PT w) : Calls Tryz.prog 86 #[pv,.agg #[.int .i64 13,.int .i64 lv,.string i,.string t,.string d,.string ti,.string at_.id,vc,vp,vl,vk]] w (rY w (aQ pK (lC at_ [i]) (ah.aX ks))):=by
 obtain ⟨ac,nc,cc,ap,np,cp,al,nl,cl,ak,nk,ck,S,W0,rfl,rfl,rfl,rfl,HS,HW0,e0,SX,HR,Z0,B0,K1⟩:=kE (.int .i64 13) lv i t d ti hR;have uQ:=gM HS.out hl B0.out;have qC:=JM HS.out ht B0.out;have lS:=qH hs HR;have jH:=hid hs;have hst:t.size<=300:=hs.t;have hsi:i.size<=300:=hs.i;clear hR hs hl ht;go_enter Tryz.func86,Tryz.ntmps86;go_upto_region 28 with (fail)
 rw [<- HS.out];have hk0:=HW0.out;simp only [jI] at hk0;rw [<- hk0];clear hk0;have lV:Hid (jmk W0.heap.size W0 (W0.alloc (.cells #[.string i] 9)).drew):=nD W0 (.cells #[.string i] 9);have AC:Hid (Calls Tryz.prog 137 #[.agg #[.string at_.id,.slice ac nc cc,.slice ap np cp],.slice (some ⟨W0.heap.size,0,none⟩) 1 1] (W0.alloc (.cells #[.string i] 9)).drew (bJ W0.drew (lC at_ [i]))):=Yq at_ [i] (.slice ac nc cc) (.slice ap np cp) (.slice (some ⟨W0.heap.size,0,none⟩) 1 1) W0.drew (W0.alloc (.cells #[.string i] 9)).drew (nZ.one W0.drew i) (AJ HR.out.at_ lV.out (by have:=Z0.out;omega)) (tO jH.out.at_ i (by have:=jH.out.i;omega)).1 (tO jH.out.at_ i (by have:=jH.out.i;omega)).2
 have SF:=hid (fun (w':jmj) (hb:jmk W0.heap.size W0 w')=>(⟨(SX.out w' hb).2.1,(SX.out w' hb).2.2.2.2.2.1,(SX.out w' hb).2.2.2.2.2.2.1,(SX.out w' hb).2.2.2.2.2.2.2.1,(SX.out w' hb).2.2.2.2.2.2.2.2.2⟩:w'.cell? ⟨S,2,none⟩=some (.string i)/\w'.cell? ⟨S,6,none⟩=some (.string at_.id)/\w'.cell? ⟨S,7,none⟩=some (.slice ac nc cc)/\w'.cell? ⟨S,8,none⟩=some (.slice ap np cp)/\w'.cell? ⟨S,10,none⟩=some (.slice ak nk ck)));have S1:=SF.out _ lV.out;have S0:=SF.out _ ((jj8 W0.heap.size W0).drew);go_wp2_with fail
 go_region_held3 (fun w'=>w'.cell? ⟨S,2,none⟩=some (.string i)/\w'.cell? ⟨S,6,none⟩=some (.string at_.id)/\w'.cell? ⟨S,7,none⟩=some (.slice ac nc cc)/\w'.cell? ⟨S,8,none⟩=some (.slice ap np cp)/\w'.cell? ⟨S,10,none⟩=some (.slice ak nk ck))
  (with_reducible assumption)
  (first
   | (go_simp;go_at_call 137;(with_reducible refine AC.out.mono ?_);rintro e w3 ⟨gD,v3,rfl,hrow3⟩;obtain ⟨a3,n3,c3,rfl⟩:=hrow3.slice3;have B3:Hid (jmk W0.heap.size W0 w3):=(((jj8 W0.heap.size W0).drew)).trans (hrow3.aP.mono (((jj8 W0.heap.size W0).drew)).size);have AL:Hid (Rd (W0.heap.size<=·) w3 (bS (lC at_ [i])) [.slice a3 n3 c3]):=hrow3.fu.weaken (fun b hb=>jjj (((jj8 W0.heap.size W0).drew)).size hb);have S3:=SF.out (w3) B3.out;have LC:=hid (uQ.out w3 B3.out))
   | (go_simp;go_at_call 38;(with_reducible refine LC.out.mono ?_);rintro e w4 ⟨dU,v4,rfl,hrow4⟩;obtain ⟨a4,n4,c4,rfl⟩:=hrow4.slice3;have b4:=hrow4.aP;have B4:=hid (aR B3.out b4);have gy:=hid (show Rd (W0.heap.size<=·) w4 (cZ (ah.aX ks)) [.slice a4 n4 c4] from hrow4.fu.weaken (fun b hb=>jjj B3.out.size hb));have oI:=hid (AL.out.aZ b4);have S4:=SF.out (w4) B4.out;have EC:=hid (ko ⟨#[100,105,118]⟩ a3 a4 n3 n4 c3 c4 w4))
   | (go_simp;go_at_call 40;(with_reducible refine EC.out.mono ?_);rintro e w5 ⟨rfl,b5⟩;have BL:=hid (aR B4.out b5);obtain ⟨x0,x1,x2,x3,xf⟩:=pJ (K1.out.below BL.out);have S5:=SF.out (w5) BL.out;have K6:=rZ S w5 (.string ⟨#[100,105,118]⟩) (.string ⟨#[]⟩) (.slice a3 n3 c3) (.slice a4 n4 c4);have S6:=And.imp (K6 _ _) (And.imp (K6 _ _) (And.imp (K6 _ _) (And.imp (K6 _ _) (K6 _ _)))) (SF.out w5 BL.out);clear K6))
 all_goals
  have HN:=hid (show kU (W0.heap.size<=·) w5 (lC at_ [i]) (ah.aX ks) (.slice a3 n3 c3) (.slice a4 n4 c4) from ⟨oI.out.aZ b5,gy.out.aZ b5⟩);clear b5 gy EC oI hrow3 hrow4 b4 S0 S3 S4 S5 S6 AL S1;obtain ⟨w9,bO⟩:∃ w9,w9=four w5 (S+1) (.string ⟨#[100,105,118]⟩) (.string ⟨#[]⟩) (.slice a3 n3 c3) (.slice a4 n4 c4):=⟨_,rfl⟩;have hf:=fA ⟨#[100,105,118]⟩ ⟨#[]⟩ (lC at_ [i]) (ah.aX ks) HS.out Z0.out B0.out K1.out BL.out HN.out;rw [<- bO] at hf;have HC:=hid hf.1;have HP:=hid hf.2;clear hf;have hw8:=bO;simp only [four] at hw8;clear bO;obtain ⟨x0,x1,x2,x3,xf⟩:=pJ (K1.out.below BL.out);go_wp2;rw [<- hw8];have r0:=HC.out.cell 0 _ rfl;have r1:=HC.out.cell 1 _ rfl;have r2:=HC.out.cell 2 _ rfl;have r3:=HC.out.cell 3 _ rfl;exact bodyPost_ret (v:=.agg #[.string ⟨#[100,105,118]⟩,.string ⟨#[]⟩,(.slice a3 n3 c3),(.slice a4 n4 c4)]) (by simp [results,Tryz.results86,go_sem,r0,r1,r2,r3]) rfl HP.out
open Go.RowKit
mutual
def ah.walk:ah->Prop
 | .mk k lv i t d ti a li ks=>(1<=k/\k<=15/\k≠11/\k≠12)/\FM i t a li/\(k=2\/k=8->0<=lv/\lv<=999999999)/\(k=10->TbW i ks)/\(k≠10->ah.kF ks)
def ah.kF:List ah->Prop
 | []=>True
 | x::l=>x.walk/\ah.kF l
end
theorem ah.za:∀ (l:List ah),ah.kF l->∀ x∈l,x.walk
 | [],_,x,hx=>by cases hx
 | y::l,h,x,hx=>by
  rw [ah.kF] at h;rcases List.mem_cons.1 hx with rfl | hx
  ·exact h.1
  ·exact ah.za l h.2 x hx
theorem FP (pv:jmq) (k lv:Int) (i t d ti:ByteArray) (at_:At) (li:List aj) (ks:List ah) (vc vp vl vk:jmq) (w:jmj) (hR:ku (·<w.heap.size) w at_ li ks vc vp vl vk) (hw:(ah.mk k lv i t d ti at_ li ks).walk) (Pm:k≠14) (xS:k≠15) (hl:k≠10->dS pv w ks vk) (ht:PT w) : ∃ x,(ah.mk k lv i t d ti at_ li ks).xE=[x]/\Calls Tryz.prog 86 #[pv,.agg #[.int .i64 k,.int .i64 lv,.string i,.string t,.string d,.string ti,.string at_.id,vc,vp,vl,vk]] w (rY w x):=by
 rw [ah.walk] at hw;obtain ⟨⟨g1,g2,g3,g4⟩,hs,hv,hT,-⟩:=hw;rcases (by omega:k=1\/k=2\/k=3\/k=4\/k=5\/k=6\/k=7\/k=8\/k=9\/k=10\/k=13) with rfl | rfl | rfl | rfl | rfl | rfl | rfl | rfl | rfl | rfl | rfl
 ·exact ⟨_,by rw [ah.xE];rfl,UO pv lv i t d ti at_ li ks vc vp vl vk w hR hs (hl (by decide)) ht⟩
 ·obtain ⟨n,rfl⟩:∃ n:Nat,lv=(n:Int):=⟨lv.toNat,by have:=hv (by decide);omega⟩;exact ⟨aQ (nH++gu n) (lC at_ []) (jZ li),by rw [ah.xE];rfl,UY pv n i t d ti at_ li ks vc vp vl vk w hR hs (hl (by decide)) ht n rfl (by have:=hv (by decide);omega)⟩
 ·by_cases hi:bg i=true
  ·exact ⟨aQ JO [] [aQ iR [] (bT t)],by rw [ah.xE,hi];rfl,P7 pv lv i t d ti at_ li ks vc vp vl vk w hR hs (hl (by decide)) ht hi⟩
  ·have hi:bg i=false:=by simpa using hi
   refine ⟨aQ JO [] [aQ iR [⟨iw,DJ++i⟩] (bT t)],?_,P8 pv lv i t d ti at_ li ks vc vp vl vk w hR hs (hl (by decide)) ht hi⟩;rw [ah.xE,hi];show [aQ JO [] [aQ iR (jG iw (DJ++i)) (bT t)]]=_;unfold jG;rw [show bg (DJ++i)=false by rw [Ig,hi,Bool.and_false]];rfl
 ·exact ⟨_,by rw [ah.xE];rfl,UZ pv lv i t d ti at_ li ks vc vp vl vk w hR hs (hl (by decide)) ht⟩
 ·exact ⟨_,by rw [ah.xE];rfl,UW pv lv i t d ti at_ li ks vc vp vl vk w hR hs (hl (by decide)) ht⟩
 ·exact ⟨_,by rw [ah.xE];rfl,UQ pv lv i t d ti at_ li ks vc vp vl vk w hR hs (hl (by decide)) ht⟩
 ·exact ⟨_,by rw [ah.xE];rfl,UR pv lv i t d ti at_ li ks vc vp vl vk w hR hs (hl (by decide)) ht⟩
 ·by_cases h1:lv=1
  ·exact ⟨aQ Xp [] (ah.aX ks),by rw [ah.xE,h1];rfl,Qa pv lv i t d ti at_ li ks vc vp vl vk w hR hs (hl (by decide)) ht h1⟩
  ·obtain ⟨n,rfl⟩:∃ n:Nat,lv=(n:Int):=⟨lv.toNat,by have:=hv (by decide);omega⟩;refine ⟨aQ Xp [⟨sStart,gu n⟩] (ah.aX ks),?_,Qb pv n i t d ti at_ li ks vc vp vl vk w hR hs (hl (by decide)) ht n rfl (by have:=hv (by decide);omega) h1⟩;rw [ah.xE];show [aQ Xp (if (n:Int)=1 then [] else [⟨sStart,gu n⟩]) (ah.aX ks)]=_;rw [if_neg h1]
 ·exact ⟨_,by rw [ah.xE];rfl,UU pv lv i t d ti at_ li ks vc vp vl vk w hR hs (hl (by decide)) ht⟩
 ·exact ⟨eP i ks,by rw [ah.xE];rfl,P6 pv lv i t d ti at_ li ks vc vp vl vk w hR hs ht (hT rfl)⟩
 ·exact ⟨_,by rw [ah.xE];rfl,Qc pv lv i t d ti at_ li ks vc vp vl vk w hR hs (hl (by decide)) ht⟩
theorem uS:∀ (l:List ah),(ah.aX l).length<=l.length
 | []=>by simp [ah.aX]
 | x::l=>by
  have h:=uS l;rw [ah.aX,jjx,List.length_cons];have h2:x.xE.length<=1:=by
   obtain ⟨k,lv,i,t,d,ti,a,li,ks⟩:=x;rw [ah.xE]
   (repeat' split)<;>simp
  omega
def DK (w:jmj) (l:List ah) (v vi:jmq) (wr:jmj):Prop:=
 ∃ (k:Nat) (rows:List (List jmq)),k<=l.length/\vi=.int .i64 k/\aC 35 4 (fun _=>False) wr.heap.size w ((ah.aX (l.take k)).map Nd.d) rows v wr
theorem sj (pv:jmq) (n:Nat):∀ (l:List ah) (v:jmq) (w:jmj),ah.aV l<=n->n<=900000->Rd (·<w.heap.size) w (iO l) [v]->ah.kF l->PT w -> Calls Tryz.prog 38 #[pv,v] w (dn w (ah.aX l)):=by
 induction n using Nat.strongRecOn with
 | _ n ih=>
  intro l v w hn hnm hrd hwk ht;obtain ⟨iN,Fb,nU,nV,nW⟩:=info_parts mq;obtain ⟨ak,ck,hvk,hs⟩:=Rd.aB hrd;obtain ⟨nk,hnk⟩:∃ nk,nk=l.length:=⟨_,rfl⟩;obtain rfl:v=.slice ak nk ck:=by rw [hnk];simpa using hvk
  have hcap:nk<=ck:=by have:=hs.le;rw [jjz] at this;omega
  have hmx:=hs.max;unfold maxLen at hmx;have Yr:nk<=900000:=by have:=ah.dw l;omega
  have HS2:=hid hs;have Ih:=hid hnk;have HWK:=hid (ah.za l hwk);have qC:=hid ht;have IH:=hid ih;have Yt:=hid (And.intro hn hnm);have R0:Hid (DK w l (.slice none 0 0) (.int .i64 0) w):=⟨0,[],Nat.zero_le _,rfl,aC.nil _ _ _ _⟩;clear hrd hvk hs hnk hwk ht ih hn hnm;go_enter Tryz.func38,Tryz.ntmps38;go_wp2
  go_loopw [5,10] (fun v vi wr=>DK w l v vi wr) (fun _ vi _=>nk-(intOf vi).toNat)
  case atStart=>exact R0.out
  case round=>
   clear R0;obtain ⟨j,rows,hj,rfl,hrow⟩:=hrel;obtain ⟨ds,hds⟩:∃ ds,ds=(ah.aX (l.take j)).map Nd.d:=⟨_,rfl⟩;rw [<- hds] at hrow;obtain ⟨m,hm⟩:∃ m,m=ds.length:=⟨_,rfl⟩;have hmj:m<=1000000:=by have h:=uS (l.take j);have h2:(l.take j).length<=l.length:=List.length_take_le' _ _;rw [hm,hds,jjz];have:=Ih.out;omega
   obtain ⟨av,cv,rfl,-,-⟩:=hrow.cap hm.symm;have HM:=hid hm.symm;have Fa:=hid hds.symm;have bX:=hid hrow;clear hrow hm hds;by_cases hlt:j<nk
   ·obtain ⟨y,hy⟩:∃ y,l[j]?=some y:=⟨_,jj7 (by have:=Ih.out;omega)⟩;have hsn:=ze l j y hy;have hwy:=HWK.out y (List.mem_of_getElem? hy);have hsz:=ah.bq l j y hy;obtain ⟨yk,Ii,yi,yt,yd,Ij,FQ,JQ,Ik⟩:=y;obtain ⟨ga,off,vc,vp,vl,vk,rfl,hok,hbl,hc,hR⟩:=FR HS2.out hy;obtain ⟨c0,c1,c2,c3,c4,c5,c6,c7,c8,c9,c10⟩:=hc.at2 (w':=wr) (bX.out.aP.block ga hok);obtain ⟨L9,Ma,Mc,rfl⟩:=Rd.ay hR.at_.cls
    obtain ⟨Md,Me,Mf,rfl⟩:=Rd.ay hR.at_.aJ
    obtain ⟨Co,Cq,Cr,rfl⟩:=Rd.ay hR.line;obtain ⟨Mg,Mh,Mi,rfl⟩:=Rd.ay hR.kids;have HR:=hid hR;have HWY:=hid hwy;have FU:=hid hsz;clear hok hbl hc hR hwy hy hsz;go_upto_region 5 with (fail)
    obtain ⟨p,hp⟩:∃ p,p=wr.heap.size:=⟨_,rfl⟩;obtain ⟨wA,iF⟩:∃ wA,wA=wr.alloc (.cells #[.int .i64 yk,.int .i64 Ii,.string yi,.string yt,.string yd,.string Ij,.string FQ.id,.slice L9 Ma Mc,.slice Md Me Mf,.slice Co Cq Cr,.slice Mg Mh Mi] 48):=⟨_,rfl⟩;have PA:CB 48 p [.int .i64 yk,.int .i64 Ii,.string yi,.string yt,.string yd,.string Ij,.string FQ.id,.slice L9 Ma Mc,.slice Md Me Mf,.slice Co Cq Cr,.slice Mg Mh Mi] wA:=by rw [iF,hp];exact CB.new _ _ wr
    have bA:jmk wr.heap.size wr wA:=by rw [iF];exact (jj8 _ _).alloc (jj9 _) _
    rw [<- iF,<- hp];have BA:=hid bA;have Xq:jmk w.heap.size w wA:=bX.out.aP.trans (bA.mono bX.out.aP.size);have d0:=PA.cell 0 _ rfl;have d1:=PA.cell 1 _ rfl;have d2:=PA.cell 2 _ rfl;have d3:=PA.cell 3 _ rfl;have d4:=PA.cell 4 _ rfl;have d5:=PA.cell 5 _ rfl;have d6:=PA.cell 6 _ rfl;have d7:=PA.cell 7 _ rfl;have d8:=PA.cell 8 _ rfl;have d9:=PA.cell 9 _ rfl;have d10:=PA.cell 10 _ rfl;have B0A:=hid Xq;have hpw:wr.heap.size<=wA.heap.size:=bA.size;clear iF hp c0 c1 c2 c3 c4 c5 c6 c7 c8 c9 c10 PA bA Xq;by_cases Pm:yk=14
    ·have q14:(yk==14)=true:=by rw [Pm];rfl
     subst Pm;have xC:Hid ((ah.aX (l.take (j+1))).map Nd.d=ds):=by show _=_;rw [hsn,jk9,Fa.out];show ds++(ah.xE _).map Nd.d=ds;rw [ah.xE];exact jm7 _
     have HF:Hid (DK w l (.slice av m cv) (.int .i64 ((j+1:Nat):Int)) wA):=⟨j+1,_,by have:=Ih.out;omega,rfl,by rw [xC.out];exact (bX.out.below BA.out).top⟩;clear hsn;go_wp2;go_roundw;case rel=>exact HF.out
     case measure=>simp [intOf];omega
    by_cases xS:yk=15
    ·have q14:(yk==14)=false:=by rw [xS];rfl
     have Xn:(yk==15)=true:=by rw [xS];rfl
     subst xS;have xC:Hid ((ah.aX (l.take (j+1))).map Nd.d=ds):=by show _=_;rw [hsn,jk9,Fa.out];show ds++(ah.xE _).map Nd.d=ds;rw [ah.xE];exact jm7 _
     have HF:Hid (DK w l (.slice av m cv) (.int .i64 ((j+1:Nat):Int)) wA):=⟨j+1,_,by have:=Ih.out;omega,rfl,by rw [xC.out];exact (bX.out.below BA.out).top⟩;clear hsn;go_wp2;go_roundw;case rel=>exact HF.out
     case measure=>simp [intOf];omega
    have q14:(yk==14)=false:=by rw [beq_eq_false_iff_ne];exact Pm
    have Xn:(yk==15)=false:=by rw [beq_eq_false_iff_ne];exact xS
    have hRA:ku (·<wA.heap.size) wA FQ JQ Ik (.slice L9 Ma Mc) (.slice Md Me Mf) (.slice Co Cq Cr) (.slice Mg Mh Mi):=ku.DI HR.out (fun b (hb:b<w.heap.size) hlt=>⟨by show b<wA.heap.size;have:=B0A.out.size;omega,B0A.out.block b hb⟩);have hw2:=HWY.out;rw [ah.walk] at hw2;obtain ⟨x,hx,hcall⟩:=FP pv yk Ii yi yt yd Ij FQ JQ Ik _ _ _ _ wA hRA HWY.out Pm xS (fun h10 W hW=>IH.out (ah.aV Ik) (by have:=FU.out;rw [ah.sz] at this;have:=Yt.out;omega) Ik _ W (jj9 _) (by have:=FU.out;rw [ah.sz] at this;have:=Yt.out;omega) (Rd.keep (w:=wA) (w':=W) (ok:=(·<wA.heap.size)) (fun b (hb:b<wA.heap.size) hlt=>⟨by show b<W.heap.size;have:=hW.size;omega,hW.block b hb⟩) _ _ hRA.kids) (hw2.2.2.2.2 h10) ((qC.out.below B0A.out).below hW)) (qC.out.below B0A.out);obtain ⟨xn,xt,xa,Ct⟩:=x;have xC:=hid (show (ah.aX (l.take (j+1))).map Nd.d=ds++[(Nd.mk xn xt xa Ct).d] by rw [hsn,hx,jk9,Fa.out];rfl);have Yu:=hid hcall;clear hsn hx hcall hRA hw2;go_wp2_with fail
    (with_reducible refine Yu.out.mono ?_)
    rintro e w2 ⟨va,vk,he,hR2,hb2⟩;obtain ⟨aA,nA,cA,rfl⟩:=Rd.ay hR2.at_
    obtain ⟨aK,nK,cK,rfl⟩:=Rd.ay hR2.ks;have he:e=.returned (.agg #[.string xn,.string xt,.slice aA nA cA,.slice aK nK cK]):=he;subst he;have U2:=hid ((bX.out.below BA.out).below hb2);have XD:=hid ((Nd.eu xn xt hR2).weaken (ok':=fun b=>False\/wr.heap.size<=b) (fun b hb=>.inr (jjj hpw hb)));clear Yu hR2 hb2 d0 d1 d2 d3 d4 d5 d6 d7 d8 d9 d10;go_wp2_with (at_builtin;refine Sv rfl _ _ 28 rfl iN _ 80 Tryz.underlying28 Fb nU nV nW rfl (by decide) U2.out (fun _=>False.elim) (Nd.mk xn xt xa Ct).d [.string xn,.string xt,.slice aA nA cA,.slice aK nK cK] XD.out rfl jJ HM.out (by omega) (by decide) rfl rfl ?_)
    intro a' c' w5 hrow hg5;have HF:Hid (DK w l (.slice a' (m+1) c') (.int .i64 ((j+1:Nat):Int)) w5):=⟨j+1,_,by have:=Ih.out;omega,rfl,by rw [xC.out];exact hrow⟩;clear hrow hg5 XD U2 bX;go_wp2;go_roundw;case rel=>exact HF.out
    case measure=>simp [intOf];omega
   ·have hjl:j=l.length:=by have:=Ih.out;omega
    have HP:Hid (dn w (ah.aX l) (.returned (.slice av m cv)) wr):=by refine ⟨rows,_,rfl,?_⟩;have h:=bX.out;rw [<- Fa.out,hjl,jkz] at h;exact h
    clear hjl;go_wp2;go_ret;exact HP.out
theorem qI:∀ (l:List ah),ah.aG l->∀ x∈l,x.small
 | [],_,x,hx=>by cases hx
 | y::l,h,x,hx=>by
  rw [ah.aG] at h;rcases List.mem_cons.1 hx with rfl | hx
  ·exact h.1
  ·exact qI l h.2 x hx
theorem oJ {x:ah} (h:x.small):ah.aG x.kids/\aj.aG x.mE/\aj.aV x.mE<=120:=by obtain ⟨k,lv,i,t,d,ti,a,li,ks⟩:=x;rw [ah.small] at h;exact ⟨h.2.2.2.2.2.2.2,h.2.2.2.2.2.1,h.2.2.2.2.2.2.1⟩
theorem Yv (l:List ah) (x:ah) (hx:x∈l):x.sz<=ah.aV l:=by obtain ⟨j,hj⟩:=List.mem_iff_getElem?.1 hx;exact ah.bq l j x hj
theorem Mj (x:ah):x.kids.length<=x.sz:=by obtain ⟨k,lv,i,t,d,ti,a,li,ks⟩:=x;have:=ah.dw ks;rw [ah.sz];show ks.length<=_;omega
mutual
theorem ah.Qd (cl:ByteArray->Bool):∀ (b:ah) (par:Int) (dp:Nat),b.err cl par dp=0->b.Mk->b.small->b.sz<=900000->b.walk
 | .mk k lv i t d ti a li ks,par,dp,he,hh,hs,hz=>by
  obtain ⟨h2,hbf,h3⟩:=kG cl he;rw [ah.Mk] at hh;obtain ⟨g1,g2,g3,g4,g5,g6,g7,g8⟩:=hh;rw [ah.small] at hs;obtain ⟨s1,s2,s3,s4,s5,s6,s7,s8⟩:=hs;rw [ah.sz] at hz;have hk:1<=k/\k<=15:=by unfold Cm at hbf;simp only [Bool.and_eq_true,decide_eq_true_iff] at hbf;obtain ⟨⟨⟨⟨⟨⟨⟨⟨h1,h2⟩,-⟩,-⟩,-⟩,-⟩,-⟩,-⟩,-⟩:=hbf;exact ⟨h1,h2⟩
  rw [ah.walk];refine ⟨⟨hk.1,hk.2,g6,g7⟩,⟨s1,s2,s5,⟨by omega,s6,g1⟩⟩,g2,fun h10=>⟨(g3 h10).1,by have:=ah.dw ks;omega,fun r hr=>?_⟩,fun h10=>ah.pO cl ks k (dp+1) h3 (g8 h10) s8 (by omega)⟩;have hr2:=oJ (qI ks s8 r hr);have hr3:=Yv ks r hr;have hr4:=Mj r;refine ⟨((g3 h10).2 r hr).1,by omega,fun c hc=>?_⟩;have hc2:=oJ (qI r.kids hr2.1 c hc);exact ⟨by omega,hc2.2.1,((g3 h10).2 r hr).2 c hc⟩
theorem ah.pO (cl:ByteArray->Bool):∀ (l:List ah) (par:Int) (dp:Nat),ah.aT cl par dp l=0->ah.su l->ah.aG l->ah.aV l<=900000->ah.kF l
 | [],_,_,_,_,_,_=>by rw [ah.kF];trivial
 | x::l,par,dp,he,hh,hs,hz=>by
  rw [ah.aT] at he;rw [ah.su] at hh;rw [ah.aG] at hs;rw [ah.aV] at hz;rw [ah.kF];by_cases h1:x.err cl par dp≠0
  ·rw [if_pos h1] at he;exact absurd he h1
  ·rw [if_neg h1] at he;exact ⟨ah.Qd cl x par dp (Classical.not_not.1 h1) hh.1 hs.1 (by omega),ah.pO cl l par dp he hh.2 hs.2 (by omega)⟩
end
open Go.RowKit
open Go.RowKit
open Go.RowKit
open Go.RowKit
def uT (W1:jmj) (f:Nat->List ByteArray) (n:Nat) (v vi:jmq) (wr:jmj):Prop:=∃ k:Nat,k<=n/\vi=.int .i64 k/\wr.ownsRow W1.heap.size 9 1 v (f k).length ((f k).map Value.string)/\jmk W1.heap.size W1 wr
theorem xY (key:ByteArray) (N:Nat):∀ (x:Nd) (va vk:jmq) (w:jmj),x.sz<=N->(x.vals key).length<=1000000->kU (·<w.heap.size) w x.at_ x.ks va vk -> Calls Tryz.prog 56 #[.agg #[.string x.nm,.string x.tx,va,vk],.string key] w (pQ w (x.vals key)):=by
 induction N using Nat.strongRecOn with
 | _ N ih=>
  intro x va vk w hN hpl hA;obtain ⟨i0,hi0,hz0,hz1,hz2⟩:=info_parts Il;obtain ⟨nm,tx,at_,ks⟩:=x;dsimp only [Nd.nm,Nd.tx,Nd.at_,Nd.ks] at hA ⊢;obtain ⟨a1,c1,h1,s1⟩:=Rd.aB hA.at_
  obtain ⟨a2,c2,h2,s2⟩:=Rd.aB hA.ks;obtain ⟨n1,hn1⟩:∃ n,n=at_.length:=⟨_,rfl⟩
  obtain ⟨n2,hn2⟩:∃ n,n=ks.length:=⟨_,rfl⟩;obtain rfl:va=.slice a1 n1 c1:=by rw [hn1];simpa using h1
  obtain rfl:vk=.slice a2 n2 c2:=by rw [hn2];simpa using h2
  have l1:=s1.le;have l2:=s2.le;rw [jjz,<- hn1] at l1;rw [jjz,<- hn2] at l2;have m1:=s1.max;have m2:=s2.max;unfold maxLen at m1 m2;rw [Nd.sz] at hN;have hks:=Nd.bq ks;obtain ⟨S,hS⟩:∃ S,S=w.heap.size:=⟨_,rfl⟩;obtain ⟨W1,hW1⟩:∃ W,W=w.alloc (.cells #[.string nm,.string tx,.slice a1 n1 c1,.slice a2 n2 c2] 35):=⟨_,rfl⟩;have k0:CB 35 S [.string nm,.string tx,.slice a1 n1 c1,.slice a2 n2 c2] W1:=by rw [hW1,hS];exact CB.new _ _ w
  have bW:jmk w.heap.size w W1:=by rw [hW1];exact (jj8 _ _).alloc (jj9 _) _
  have CL:Hid (∀ w':jmj,jmk W1.heap.size W1 w'->w'.cell? ⟨S,2,none⟩=some (.slice a1 n1 c1)/\w'.cell? ⟨S,3,none⟩=some (.slice a2 n2 c2)):=fun w' hb=>⟨(k0.below hb).cell 2 _ rfl,(k0.below hb).cell 3 _ rfl⟩
  have e0:=k0.cell 0 _ rfl;have Sz:nm.toList.isEmpty=bg nm:=by rw [Lib.toList_data,Bool.eq_iff_iff,List.isEmpty_iff,bg,decide_eq_true_iff]
  have H1:=hid s1;have H2:=hid s2;have IH:=hid ih;have HKS:=hid hks;have BW:=hid bW;have Qe:=hid hn1;have Sn:=hid hn2;have HN:=hid hN;have hv0:(Nd.mk nm tx at_ ks).vals key=if bg nm=true then [] else fv key at_++Nd.bU key ks:=by rw [Nd.vals];rfl
  clear hA h1 h2 s1 s2 ih hks k0 bW hn1 hn2 hN;by_cases hne:bg nm=true
  ·rw [hne] at Sz;have HF:Hid ((Nd.mk nm tx at_ ks).vals key=[]):=by show _=_;rw [hv0,if_pos hne]
   clear hne hv0 hpl;go_enter Tryz.func56,Tryz.ntmps56;go_upto_region 2 with (fail)
   rw [<- hW1,<- hS];clear hW1 hS;go_wp2;go_ret;exact ⟨.slice none 0 0,rfl,by rw [HF.out];exact World.ownsRow_nil _ _ _ _,BW.out⟩
  ·have hne:bg nm=false:=by simpa using hne
   rw [hne] at Sz;have HF:Hid ((Nd.mk nm tx at_ ks).vals key=fv key at_++Nd.bU key ks):=by show _=_;rw [hv0,if_neg (by rw [hne];decide)]
   rw [HF.out,jjx] at hpl;have Pn:=hid hpl;have R0:Hid (uT W1 (fun k=>fv key (at_.take k)) n1 (.slice none 0 0) (.int .i64 0) W1):=⟨0,Nat.zero_le _,rfl,World.ownsRow_nil _ _ _ _,jj8 _ _⟩;clear hne hv0 hpl;go_enter Tryz.func56,Tryz.ntmps56;go_upto_region 2 with (fail)
   rw [<- hW1,<- hS];clear hW1 hS;go_wp2
   go_loopw [5,6] (fun v vi wr=>uT W1 (fun k=>fv key (at_.take k)) n1 v vi wr) (fun _ i _=>n1-(intOf i).toNat)
   case atStart=>exact R0.out
   case round=>
    clear R0 e0 Sz;obtain ⟨j,hj,rfl,hown,hbel⟩:=hrel;obtain ⟨e2,e3⟩:=CL.out _ hbel;have hfl:=U1 key at_ j
    obtain ⟨m,hm⟩:∃ m,m=(fv key (at_.take j)).length:=⟨_,rfl⟩;have hm1:m<=1000000:=by have:=Pn.out;omega
    dsimp only at hown;rw [<- hm] at hown;obtain ⟨av,cv,rfl⟩:=tQ hown;have HOW:=hid hown;have HB:=hid hbel;have HM:=hid hm;have hsz:=hbel.size;clear hown hbel hm hfl;by_cases hlt:j<n1
    ·obtain ⟨y,hy⟩:∃ y,at_[j]?=some y:=⟨_,jj7 (by have:=Qe.out;omega)⟩
     have hsn:=Qf key at_ j y hy
     obtain ⟨g1,o1,rfl,-,hg1,k1,k2⟩:=oH H1.out hy;have Ml:=BW.out.trans (HB.out.mono BW.out.size);have r1:wr.cell? ⟨g1,o1+j*2,none⟩=some (.string y.key):=(Ml.cell (p:=⟨g1,_,none⟩) hg1).trans k1;have r2:wr.cell? ⟨g1,o1+j*2+1,none⟩=some (.string y.val):=(Ml.cell (p:=⟨g1,_,none⟩) hg1).trans k2;clear hy k1 k2 Ml;obtain ⟨yk,yv⟩:=y;dsimp only at r1 r2 hsn;by_cases hkey:yk=key
     ·subst hkey;have hq:(yk.toList==yk.toList)=true:=by simp
      have xC:=hid (show fv yk (at_.take (j+1))=fv yk (at_.take j)++[yv] by rw [hsn,if_pos rfl]);clear hsn;go_wp2_with (at_builtin;refine wpList_append_own_at _ rfl _ _ 43 rfl W1.heap.size 9 i0 _ 1 16 Tryz.underlying43 hi0 hz0 hz1 hz2 rfl (by decide) _ _ _ rfl (HOW.out.alloc _) ⟨wr.heap.size,0,none⟩ 1 1 [.string yv] rfl rfl (Qg wr (.string yv) 9) (by intro u hu;simp at hu;subst hu;rfl) (by unfold maxLen;omega) (by omega) (by simp;omega) ?_)
      intro v2 w3 hown3 hg3 _ uU;obtain ⟨a3,c3,rfl⟩:=tQ hown3;have Yw:Hid (uT W1 (fun k=>fv yk (at_.take k)) n1 (.slice a3 (m+1) c3) (.int .i64 ((j+1:Nat):Int)) w3):=⟨j+1,by omega,rfl,by
       show w3.ownsRow _ _ _ _ (fv yk (at_.take (j+1))).length ((fv yk (at_.take (j+1))).map Value.string);rw [xC.out,jjx,List.length_singleton,<- HM.out,jk9];exact hown3,(HB.out.alloc hsz _).grown hg3 (by simp;omega) (fun b hb=>(HOW.out.lt b hb).1)⟩
      clear hown3 hg3 uU r1 r2;go_wp2;go_roundw;case rel=>exact Yw.out
      case measure=>simp [intOf];omega
     ·have hq:(yk.toList==key.toList)=false:=by
       rw [beq_eq_false_iff_ne];intro e;rw [Lib.toList_data,Lib.toList_data] at e;exact hkey (ByteArray.ext (Array.toList_inj.1 e))
      have xC:=hid (show fv key (at_.take (j+1))=fv key (at_.take j) by rw [hsn,if_neg hkey,jm7]);have Yw:Hid (uT W1 (fun k=>fv key (at_.take k)) n1 (.slice av m cv) (.int .i64 ((j+1:Nat):Int)) wr):=⟨j+1,by omega,rfl,by
       show wr.ownsRow _ _ _ _ (fv key (at_.take (j+1))).length ((fv key (at_.take (j+1))).map Value.string);rw [xC.out,<- HM.out];exact HOW.out,HB.out⟩
      clear hsn hkey;go_wp2;go_roundw;case rel=>exact Yw.out
      case measure=>simp [intOf];omega
    ·have hjl:j=at_.length:=by have:=Qe.out;omega
     have R2:Hid (uT W1 (fun k=>fv key at_++Nd.bU key (ks.take k)) n2 (.slice av m cv) (.int .i64 0) wr):=⟨0,Nat.zero_le _,rfl,by
      have h:=HOW.out;rw [HM.out,hjl,jkz] at h;show wr.ownsRow _ _ _ _ (fv key at_++Nd.bU key []).length ((fv key at_++Nd.bU key []).map Value.string);rw [Nd.bU,jm7];rw [HM.out,hjl,jkz];exact h,HB.out⟩
     obtain ⟨wq,hwq⟩:∃ wq:jmj,wq=wr:=⟨_,rfl⟩;subst hwq;clear hjl HM HOW HB;go_wp2
     go_loopw [5,7] (fun v vi wr=>uT W1 (fun k=>fv key at_++Nd.bU key (ks.take k)) n2 v vi wr) (fun _ i _=>n2-(intOf i).toNat)
     case atStart=>exact R2.out
     case round=>
      clear R2 e2 e3;obtain ⟨q,hq,rfl,hown,hbel⟩:=hrel;obtain ⟨e2,e3⟩:=CL.out _ hbel;have hvl:=zh key ks q;obtain ⟨m,hm⟩:∃ m,m=(fv key at_++Nd.bU key (ks.take q)).length:=⟨_,rfl⟩;have hm1:m<=1000000:=by have:=Pn.out;rw [hm,jjx];omega
      dsimp only at hown;rw [<- hm] at hown;obtain ⟨av,cv,rfl⟩:=tQ hown;have HOW:=hid hown;have HB:=hid hbel;have HM:=hid hm;have hsz:=hbel.size;clear hown hbel hm hvl;by_cases hlt:q<n2
      ·obtain ⟨y,hy⟩:∃ y,ks[q]?=some y:=⟨_,jj7 (by have:=Sn.out;omega)⟩;have jc7:=HKS.out q y hy;have hsn:=FV key ks q y hy;have hle:=zh key ks (q+1);rw [hsn,jjx] at hle;obtain ⟨yn,yt,ya,yk⟩:=y;obtain ⟨g1,o1,u1,u2,rfl,-,hg1,x0,x1,x2,x3,hR1⟩:=FW H2.out hy;obtain ⟨i1,i2,i3,rfl⟩:=Rd.ay hR1.at_
       obtain ⟨i4,i5,i6,rfl⟩:=Rd.ay hR1.ks;have Ml:=BW.out.trans (HB.out.mono BW.out.size);have y0:wr.cell? ⟨g1,o1+q*4,none⟩=some (.string yn):=(Ml.cell (p:=⟨_,_,none⟩) hg1).trans x0;have y1:wr.cell? ⟨g1,o1+q*4+1,none⟩=some (.string yt):=(Ml.cell (p:=⟨_,_,none⟩) hg1).trans x1;have y2:wr.cell? ⟨g1,o1+q*4+2,none⟩=some (.slice i1 i2 i3):=(Ml.cell (p:=⟨_,_,none⟩) hg1).trans x2;have y3:wr.cell? ⟨g1,o1+q*4+3,none⟩=some (.slice i4 i5 i6):=(Ml.cell (p:=⟨_,_,none⟩) hg1).trans x3;have IC:Hid (Calls Tryz.prog 56 #[.agg #[.string yn,.string yt,.slice i1 i2 i3,.slice i4 i5 i6],.string key] wr (pQ wr ((Nd.mk yn yt ya yk).vals key))):=
        IH.out (Nd.mk yn yt ya yk).sz (by have:=HN.out;omega) (Nd.mk yn yt ya yk) _ _ wr (jj9 _) (by have:=Pn.out;omega) (hR1.keep (fun b (hb:b<w.heap.size) _=>⟨Nat.lt_of_lt_of_le hb Ml.size,Ml.block b hb⟩))
       obtain ⟨Y,hY⟩:∃ Y,Y=(Nd.mk yn yt ya yk).vals key:=⟨_,rfl⟩;have HAY:=hid (show fv key at_++Nd.bU key (ks.take (q+1))=(fv key at_++Nd.bU key (ks.take q))++Y by rw [hsn,List.append_assoc,hY]);have hYl:Y.length<=1000000:=by rw [hY];have:=Pn.out;omega
       rw [<- hY] at IC;clear hy jc7 hsn hle x0 x1 x2 x3 hR1 Ml hY;go_wp2_with fail
       (with_reducible refine IC.out.mono ?_)
       rintro e w2 ⟨v2,rfl,hown2,b2⟩;obtain ⟨M,hM⟩:∃ M,M=Y.length:=⟨_,rfl⟩;rw [<- hM] at hown2 hYl;obtain ⟨a2',c2',rfl⟩:=tQ hown2;have OW2:=hid (Xr HOW.out b2);have B2:=hid (aR HB.out b2);have jh9:=b2.size;have RD2:=hid (Reads.Ap hown2);have ON2:Hid (∀ u∈Y.map Value.string,u.oneCell'=true):=fun u hu=>by
        obtain ⟨s,-,rfl⟩:=List.mem_map.1 hu;rfl
       have HMY:=hid hM;clear IC hown2 b2 y0 y1 y2 y3 hM;go_wp2_with (at_builtin;refine Pg _ rfl (.tmp 43) (.tmp 50) 43 rfl W1.heap.size 9 i0 _ 1 16 Tryz.underlying43 hi0 hz0 hz1 hz2 rfl (by decide) (.slice av m cv) m _ rfl OW2.out w2.heap.size a2' M c2' (Y.map Value.string) rfl RD2.out ON2.out ?k3 ?k4 ?k5 ?_)
       case k3=>unfold maxLen;omega
       case k4=>omega
       case k5=>omega
       intro v3 w3 hown3 hg3 _;obtain ⟨a3,c3,rfl⟩:=tQ hown3;have Yw:Hid (uT W1 (fun k=>fv key at_++Nd.bU key (ks.take k)) n2 (.slice a3 (m+M) c3) (.int .i64 ((q+1:Nat):Int)) w3):=⟨q+1,by omega,rfl,by
        show w3.ownsRow _ _ _ _ (fv key at_++Nd.bU key (ks.take (q+1))).length ((fv key at_++Nd.bU key (ks.take (q+1))).map Value.string);rw [HAY.out,jjx,<- HM.out,<- HMY.out,jk9,jk9,List.append_assoc];exact hown3,B2.out.grown hg3 (by omega) (fun b hb=>(OW2.out.lt b hb).1)⟩
       clear hown3 hg3 RD2 ON2;go_wp2;go_roundw;case rel=>exact Yw.out
       case measure=>simp [intOf];omega
      ·have Yx:q=ks.length:=by have:=Sn.out;omega
       have HFN:Hid (pQ w ((Nd.mk nm tx at_ ks).vals key) (.returned (.slice av m cv)) wr):=by refine ⟨_,rfl,?_,BW.out.trans (HB.out.mono BW.out.size)⟩;have h:=HOW.out;rw [HM.out,Yx,jkz,<- HF.out] at h;rw [HM.out,Yx,jkz,<- HF.out];exact DL h BW.out.size
       clear Yx;go_wp2;go_ret;exact HFN.out
end Go.Proofs.YtkfnkeflalcphaaGreatDoor

