/- Contract of publisherref34.one, given that of nodes at the Kids. Contract of publisherref34.nodes: the nodes of inlines; plain part: the classes of well-formed inlines are not empty. Contracts of html.unresolved and publisherref34.unresolved. Contract of (*html.builder).block, kind by kind: the node of a block. Contracts of (*html.builder).block and (*html.builder).blocks: the nodes of blocks. Plain part: a well-formed, small document without unresolved inlines is one that the walk of html.Blocks asks. Contract of publisherref34.row. A literal of one node, whose data are newer than a world, is a row of one's own since that world. Contract of publisherref34.block, kind by kind: the nodes of a block. Contracts of publisherref33.Plain and publisherref33.Values. -/
import Derived.Test.YtkfnkeflalcphaaGreatDoorKNdL
set_option maxHeartbeats 8000000
set_option maxRecDepth 100000
open Go.Lib (hid)
namespace Go.Proofs.YtkfnkeflalcphaaGreatDoor
open List renaming getElem?_eq_getElem->jk5,length_append->jkk,length_map->jkq,map_append->jl7,take_length->jlq,append_nil->jn5
open Go.RowKit.Below renaming refl->jk6
open Nat renaming le_refl->jk7,le_trans->jk8
open Go renaming World->jn8,Value->jnj
open Go.RowKit renaming Below->jn9
open Go.RowKit
set_option linter.unusedVariables false
set_option linter.unusedSimpArgs false
open Go.RowKit
open Go.RowKit
def SY (w:jn8) (l:List aj) (vi:jnj) (wr:jn8):Prop:=∃ k:Nat,k<=l.length/\vi=.int .i64 k/\(l.take k).any iM=false/\jn9 w.heap.size w wr
def U7 (w:jn8) (b:Bool) (e:Ending) (w':jn8):Prop:=e=.returned (.bool b)/\jn9 w.heap.size w w'
theorem DJ {l:List aj} {k:Nat} {x:aj} (hx:l[k]?=some x) (h:iM x=true):l.any iM=true:=List.any_eq_true.2 ⟨x,List.mem_of_getElem? hx,h⟩
theorem AQ {l:List aj} {k:Nat} {x:aj} (hx:l[k]?=some x) (h:iM x=false) (hk:(l.take k).any iM=false):(l.take (k+1)).any iM=false:=by rw [List.take_add_one,hx,List.any_append,hk];simp [h]
theorem FX (l:List aj) (ok:Nat->Prop) (v:jnj) (w:jn8) (hrd:Rd ok w (aV l) [v]):Calls Tryz.prog 36 #[v] w (U7 w (l.any iM)):=by
 obtain ⟨a,cap,hv,hs⟩:=Rd.ay hrd;obtain rfl:v=.slice a l.length cap:=by simpa using hv
 have hcap:l.length<=cap:=by simpa using hs.le
 have hmx:=hs.max;unfold maxLen at hmx;have HS:=hid hs;have R0:Hid (SY w l (.int .i64 0) w):=⟨0,Nat.zero_le _,rfl,by simp,jk6 _ _⟩;clear hs hv hrd;go_enter Tryz.func36,Tryz.ntmps36;go_wp2
 go_loopw [7] (fun vi wr=>SY w l vi wr) (fun i _=>l.length-(intOf i).toNat)
 case atStart=>exact R0.out
 case round=>
  clear R0;obtain ⟨k,hk,rfl,hany,hbel⟩:=hrel;have HK:=hid hany;clear hany;by_cases hlt:k<l.length
  ·obtain ⟨x,hx⟩:∃ x,l[k]?=some x:=⟨_,jk5 hlt⟩;obtain ⟨kd,t,d,ti,at_,ar,ci,ks⟩:=x;obtain ⟨g,off,vc,vp,va,vi,vk,rfl,hok,hbl,hc,hR⟩:=fF HS.out hx;obtain ⟨c0,c1,c2,c3,c4,c5,c6,c7,c8,c9⟩:=hc.below hbel;obtain ⟨ac,nc,cc,rfl⟩:=Rd.au hR.at_.cls
   obtain ⟨ap,np,cp,rfl⟩:=Rd.au hR.at_.aI
   obtain ⟨aa,na,ca,rfl⟩:=Rd.au hR.args;obtain ⟨ai,ni,jT,rfl⟩:=Rd.au hR.dD;obtain ⟨ak,nk,ck,rfl⟩:=Rd.au hR.kids;have HX:=hid hx;have qe:=uX t;obtain ⟨p,hp⟩:∃ p,p=wr.heap.size:=⟨_,rfl⟩;obtain ⟨wA,iE⟩:∃ wA,wA=wr.alloc (.cells #[.int .i64 kd,.string t,.string d,.string ti,.string at_.id,.slice ac nc cc,.slice ap np cp,.slice aa na ca,.slice ai ni jT,.slice ak nk ck] 66):=⟨_,rfl⟩;have PA:PB p [.int .i64 kd,.string t,.string d,.string ti,.string at_.id,.slice ac nc cc,.slice ap np cp,.slice aa na ca,.slice ai ni jT,.slice ak nk ck] wA:=by rw [iE,hp];exact heap_alloc_new wr _
   have zh:Hid (jn9 w.heap.size w wA):=by rw [iE];exact hbel.alloc hbel.size _
   clear hc hok hbl hR hx hbel;go_upto_region 4 with (fail)
   rw [<- iE,<- hp];obtain ⟨e0,e1,-,-,-,-,-,-,-,-⟩:=Mk PA;clear iE hp PA c0 c1 c2 c3 c4 c5 c6 c7 c8 c9;by_cases xX:kd=15
   ·subst xX;have HT:=hid (DJ HX.out (show iM (aj.mk 15 t d ti at_ ar ci ks)=true by unfold iM;simp));clear HX;go_wp2;go_ret;exact ⟨by rw [HT.out];rfl,zh.out⟩
   by_cases h13:kd=13
   ·subst h13;have HT:=hid (DJ HX.out (show iM (aj.mk 13 t d ti at_ ar ci ks)=true by unfold iM;simp));clear HX;go_wp2;go_ret;exact ⟨by rw [HT.out];rfl,zh.out⟩
   by_cases PI:kd=14
   ·subst PI;have HT:=hid (DJ HX.out (show iM (aj.mk 14 t d ti at_ ar ci ks)=true by unfold iM;simp));clear HX;go_wp2;go_ret;exact ⟨by rw [HT.out];rfl,zh.out⟩
   by_cases h9:kd=9
   ·subst h9;cases ht:aZ t
    ·have q1:t.toList.isEmpty=false:=by rw [qe];exact ht
     have HT:=hid (DJ HX.out (show iM (aj.mk 9 t d ti at_ ar ci ks)=true by unfold iM;simp [ht]));clear HX ht qe;go_wp2;go_ret;exact ⟨by rw [HT.out];rfl,zh.out⟩
    ·have q1:t.toList.isEmpty=true:=by rw [qe];exact ht
     have q2:t.toList=[]:=by rw [List.isEmpty_iff] at q1;exact q1
     have HT:=hid (AQ HX.out (show iM (aj.mk 9 t d ti at_ ar ci ks)=false by unfold iM;simp [ht]) HK.out);clear HX HK ht qe;go_wp2;go_roundw;case rel=>exact ⟨k+1,by omega,by go_num,HT.out,zh.out⟩
     case measure=>simp [intOf];omega
   by_cases h10:kd=10
   ·subst h10;cases ht:aZ t
    ·have q1:t.toList.isEmpty=false:=by rw [qe];exact ht
     have HT:=hid (DJ HX.out (show iM (aj.mk 10 t d ti at_ ar ci ks)=true by unfold iM;simp [ht]));clear HX ht qe;go_wp2;go_ret;exact ⟨by rw [HT.out];rfl,zh.out⟩
    ·have q1:t.toList.isEmpty=true:=by rw [qe];exact ht
     have q2:t.toList=[]:=by rw [List.isEmpty_iff] at q1;exact q1
     have HT:=hid (AQ HX.out (show iM (aj.mk 10 t d ti at_ ar ci ks)=false by unfold iM;simp [ht]) HK.out);clear HX HK ht qe;go_wp2;go_roundw;case rel=>exact ⟨k+1,by omega,by go_num,HT.out,zh.out⟩
     case measure=>simp [intOf];omega
   have XJ:(kd==15)=false:=by rw [beq_eq_false_iff_ne];exact xX
   have q13:(kd==13)=false:=by rw [beq_eq_false_iff_ne];exact h13
   have q14:(kd==14)=false:=by rw [beq_eq_false_iff_ne];exact PI
   have q9:(kd==9)=false:=by rw [beq_eq_false_iff_ne];exact h9
   have q10:(kd==10)=false:=by rw [beq_eq_false_iff_ne];exact h10
   have HT:=hid (AQ HX.out (show iM (aj.mk kd t d ti at_ ar ci ks)=false by unfold iM;simp [xX,h13,PI,h9,h10]) HK.out);clear HX HK xX h13 PI h9 h10 qe;go_wp2;go_roundw;case rel=>exact ⟨k+1,by omega,by go_num,HT.out,zh.out⟩
   case measure=>simp [intOf];omega
  ·have hkl:k=l.length:=by omega
   have HT:Hid (l.any iM=false):=by
    have h:=HK.out
    rwa [hkl,jlq] at h
   clear hkl;go_wp2;go_ret;exact ⟨by rw [HT.out];rfl,hbel⟩
open Go.RowKit
theorem DK (n:Nat) (w:jn8) (hn:n<=999999999) (ht:PT w) : Calls Tryz.prog 136 #[.int .i64 (n:Int)] w fun e w'=>e=.returned (.string (fZ n))/\jn9 w.heap.size w w':=by
 refine (Tryz.strconv_Itoa (n:Int) (by omega) (by omega) w ht.2).mono ?_;rintro e w' ⟨rfl,k,os,rfl⟩;refine ⟨?_,Lib.below_grow _ w (jk7 _) k os⟩;have:Lib.itoa (n:Int)=Lib.decDigits n:=by unfold Lib.itoa;rw [if_neg (by omega)];simp
 rw [this];rfl
theorem zi (n:Nat) (hn:n<=999999999):(fZ n).size<=1000000:=by have h:=Ml n 8 (by omega);show (Lib.decDigits n).toArray.size<=1000000;simp;omega
theorem Mq {a:At} (h:a.short):([]++a.cls).length<=100/\∀ c∈[]++a.cls,c.size<=1000:=by unfold At.short at h;rw [List.nil_append];exact ⟨by omega,fun c hc=>by have:=h.2.2.2.1 c hc;omega⟩
theorem tZ {a:At} (h:a.short) (s:ByteArray) (hs:s.size<=1000):([s]++a.cls).length<=100/\∀ c∈[s]++a.cls,c.size<=1000:=by
 unfold At.short at h;refine ⟨by simp;omega,fun c hc=>?_⟩;rcases List.mem_cons.1 hc with rfl | hc
 ·exact hs
 ·have:=h.2.2.2.1 c hc;omega
def dU (pv:jnj) (w:jn8) (ks:List ah) (vk:jnj):Prop:=∀ W:jn8,jn9 w.heap.size w W->Calls Tryz.prog 38 #[pv,vk] W (dh W (ah.aX ks))
structure FY (i t:ByteArray) (at_:At) (li:List aj):Prop where
 i:i.size<=300
 t:t.size<=300
 at_:at_.short
 li:YN li
theorem J5 {S:Nat} {w W0:jn8} (hS:S=w.heap.size) (ht:PT w) (b0:jn9 S w W0):Hid (∀ W:jn8,jn9 W0.heap.size W0 W->PT W):=
 fun W hW=>ht.below (by rw [<- hS];exact b0.trans (hW.mono (by have:=b0.size;omega)))
theorem qI {S nl cl:Nat} {al:Option Addr} {W0:jn8} {i t:ByteArray} {at_:At} {li:List aj} {ks:List ah} {vc vp vk:jnj} (hs:FY i t at_ li) (HR:Hid (kE (·<S) W0 at_ li ks vc vp (.slice al nl cl) vk)) : Hid (∀ W:jn8,jn9 W0.heap.size W0 W->Calls Tryz.prog 78 #[.slice al nl cl] W (dh W (jY li))):=fun W hW=>
 zl 900000 li _ W hs.li.sz (by decide) (Rd.keep (w:=W0) (w':=W) (ok:=(·<S)) (fun b (hb:b<S) hlt=>⟨by show b<W.heap.size;have:=hW.size;omega,hW.block b hlt⟩) _ _ HR.out.line) hs.li.sm hs.li.tf
theorem U8 (pv:jnj) (lv:Int) (i t d ti:ByteArray) (at_:At) (li:List aj) (ks:List ah) (vc vp vl vk:jnj) (w:jn8) (hR:kE (·<w.heap.size) w at_ li ks vc vp vl vk) (hs:FY i t at_ li) (hl:dU pv w ks vk) (ht:PT w) : Calls Tryz.prog 86 #[pv,.agg #[.int .i64 1,.int .i64 lv,.string i,.string t,.string d,.string ti,.string at_.id,vc,vp,vl,vk]] w (sw w (aP nP [] (jY li))):=by
 obtain ⟨ac,nc,cc,ap,np,cp,al,nl,cl,ak,nk,ck,S,W0,rfl,rfl,rfl,rfl,HS,HW0,e0,SX,HR,Z0,B0,K1⟩:=kF (.int .i64 1) lv i t d ti hR;have uY:=gL HS.out hl B0.out;have qE:=J5 HS.out ht B0.out;have lT:=qI hs HR;have jF:=hid hs;have hst:t.size<=300:=hs.t;have hsi:i.size<=300:=hs.i;clear hR hs hl ht;go_enter Tryz.func86,Tryz.ntmps86;go_upto_region 3 with (fail)
 rw [<- HS.out];have hk0:=HW0.out;simp only [jG] at hk0;rw [<- hk0];clear hk0;have LC:=hid (lT.out W0 (jk6 _ _));have g9:=(SX.out W0 (jk6 _ _)).2.2.2.2.2.2.2.2.1;go_wp2_with fail
 (with_reducible refine LC.out.mono ?_)
 rintro e w4 ⟨dV,v4,rfl,hrow4⟩;obtain ⟨a4,n4,c4,rfl⟩:=hrow4.slice3;have b4:=hrow4.aO;have B4:=hid b4;have gq:=hid (show Rd (W0.heap.size<=·) w4 (cO (jY li)) [.slice a4 n4 c4] from hrow4.fu);have EC:=hid (ku ⟨#[112]⟩ none a4 0 n4 0 c4 w4);clear b4 hrow4 LC g9;go_wp2_with fail
 (with_reducible refine EC.out.mono ?_)
 rintro e w5 ⟨rfl,b5⟩;have BL:=hid (aQ B4.out b5);have HN:=hid (show kU (W0.heap.size<=·) w5 [] (jY li) (.slice none 0 0) (.slice a4 n4 c4) from ⟨Rd.aC _ _ _,gq.out.aY b5⟩);clear b5 gq EC;obtain ⟨w9,hw8,r0,r1,r2,r3,HP,x0,x1,x2,x3,xf⟩:=iq ⟨#[112]⟩ ⟨#[]⟩ [] (jY li) HS Z0 B0 K1 BL HN.out;go_wp2;rw [<- hw8];exact bodyPost_ret (v:=.agg #[.string ⟨#[112]⟩,.string ⟨#[]⟩,(.slice none 0 0),(.slice a4 n4 c4)]) (by simp [results,Tryz.results86,go_sem,r0,r1,r2,r3]) rfl HP.out
theorem U9 (pv:jnj) (lv:Int) (i t d ti:ByteArray) (at_:At) (li:List aj) (ks:List ah) (vc vp vl vk:jnj) (w:jn8) (hR:kE (·<w.heap.size) w at_ li ks vc vp vl vk) (hs:FY i t at_ li) (hl:dU pv w ks vk) (ht:PT w) : Calls Tryz.prog 86 #[pv,.agg #[.int .i64 6,.int .i64 lv,.string i,.string t,.string d,.string ti,.string at_.id,vc,vp,vl,vk]] w (sw w (aP Mr [] (ah.aX ks))):=by
 obtain ⟨ac,nc,cc,ap,np,cp,al,nl,cl,ak,nk,ck,S,W0,rfl,rfl,rfl,rfl,HS,HW0,e0,SX,HR,Z0,B0,K1⟩:=kF (.int .i64 6) lv i t d ti hR;have uY:=gL HS.out hl B0.out;have qE:=J5 HS.out ht B0.out;have lT:=qI hs HR;have jF:=hid hs;have hst:t.size<=300:=hs.t;have hsi:i.size<=300:=hs.i;clear hR hs hl ht;go_enter Tryz.func86,Tryz.ntmps86;go_upto_region 16 with (fail)
 rw [<- HS.out];have hk0:=HW0.out;simp only [jG] at hk0;rw [<- hk0];clear hk0;have LC:=hid (uY.out W0 (jk6 _ _));have g9:=(SX.out W0 (jk6 _ _)).2.2.2.2.2.2.2.2.2;go_wp2_with fail
 (with_reducible refine LC.out.mono ?_)
 rintro e w4 ⟨dV,v4,rfl,hrow4⟩;obtain ⟨a4,n4,c4,rfl⟩:=hrow4.slice3;have b4:=hrow4.aO;have B4:=hid b4;have gq:=hid (show Rd (W0.heap.size<=·) w4 (cO (ah.aX ks)) [.slice a4 n4 c4] from hrow4.fu);have EC:=hid (ku ⟨#[98,108,111,99,107,113,117,111,116,101]⟩ none a4 0 n4 0 c4 w4);clear b4 hrow4 LC g9;go_wp2_with fail
 (with_reducible refine EC.out.mono ?_)
 rintro e w5 ⟨rfl,b5⟩;have BL:=hid (aQ B4.out b5);have HN:=hid (show kU (W0.heap.size<=·) w5 [] (ah.aX ks) (.slice none 0 0) (.slice a4 n4 c4) from ⟨Rd.aC _ _ _,gq.out.aY b5⟩);clear b5 gq EC;obtain ⟨w9,hw8,r0,r1,r2,r3,HP,x0,x1,x2,x3,xf⟩:=iq ⟨#[98,108,111,99,107,113,117,111,116,101]⟩ ⟨#[]⟩ [] (ah.aX ks) HS Z0 B0 K1 BL HN.out;go_wp2;rw [<- hw8];exact bodyPost_ret (v:=.agg #[.string ⟨#[98,108,111,99,107,113,117,111,116,101]⟩,.string ⟨#[]⟩,(.slice none 0 0),(.slice a4 n4 c4)]) (by simp [results,Tryz.results86,go_sem,r0,r1,r2,r3]) rfl HP.out
theorem Va (pv:jnj) (lv:Int) (i t d ti:ByteArray) (at_:At) (li:List aj) (ks:List ah) (vc vp vl vk:jnj) (w:jn8) (hR:kE (·<w.heap.size) w at_ li ks vc vp vl vk) (hs:FY i t at_ li) (hl:dU pv w ks vk) (ht:PT w) : Calls Tryz.prog 86 #[pv,.agg #[.int .i64 7,.int .i64 lv,.string i,.string t,.string d,.string ti,.string at_.id,vc,vp,vl,vk]] w (sw w (aP nUl [] (ah.aX ks))):=by
 obtain ⟨ac,nc,cc,ap,np,cp,al,nl,cl,ak,nk,ck,S,W0,rfl,rfl,rfl,rfl,HS,HW0,e0,SX,HR,Z0,B0,K1⟩:=kF (.int .i64 7) lv i t d ti hR;have uY:=gL HS.out hl B0.out;have qE:=J5 HS.out ht B0.out;have lT:=qI hs HR;have jF:=hid hs;have hst:t.size<=300:=hs.t;have hsi:i.size<=300:=hs.i;clear hR hs hl ht;go_enter Tryz.func86,Tryz.ntmps86;go_upto_region 18 with (fail)
 rw [<- HS.out];have hk0:=HW0.out;simp only [jG] at hk0;rw [<- hk0];clear hk0;have LC:=hid (uY.out W0 (jk6 _ _));have g9:=(SX.out W0 (jk6 _ _)).2.2.2.2.2.2.2.2.2;go_wp2_with fail
 (with_reducible refine LC.out.mono ?_)
 rintro e w4 ⟨dV,v4,rfl,hrow4⟩;obtain ⟨a4,n4,c4,rfl⟩:=hrow4.slice3;have b4:=hrow4.aO;have B4:=hid b4;have gq:=hid (show Rd (W0.heap.size<=·) w4 (cO (ah.aX ks)) [.slice a4 n4 c4] from hrow4.fu);have EC:=hid (ku ⟨#[117,108]⟩ none a4 0 n4 0 c4 w4);clear b4 hrow4 LC g9;go_wp2_with fail
 (with_reducible refine EC.out.mono ?_)
 rintro e w5 ⟨rfl,b5⟩;have BL:=hid (aQ B4.out b5);have HN:=hid (show kU (W0.heap.size<=·) w5 [] (ah.aX ks) (.slice none 0 0) (.slice a4 n4 c4) from ⟨Rd.aC _ _ _,gq.out.aY b5⟩);clear b5 gq EC;obtain ⟨w9,hw8,r0,r1,r2,r3,HP,x0,x1,x2,x3,xf⟩:=iq ⟨#[117,108]⟩ ⟨#[]⟩ [] (ah.aX ks) HS Z0 B0 K1 BL HN.out;go_wp2;rw [<- hw8];exact bodyPost_ret (v:=.agg #[.string ⟨#[117,108]⟩,.string ⟨#[]⟩,(.slice none 0 0),(.slice a4 n4 c4)]) (by simp [results,Tryz.results86,go_sem,r0,r1,r2,r3]) rfl HP.out
theorem Vb (pv:jnj) (lv:Int) (i t d ti:ByteArray) (at_:At) (li:List aj) (ks:List ah) (vc vp vl vk:jnj) (w:jn8) (hR:kE (·<w.heap.size) w at_ li ks vc vp vl vk) (hs:FY i t at_ li) (hl:dU pv w ks vk) (ht:PT w) : Calls Tryz.prog 86 #[pv,.agg #[.int .i64 9,.int .i64 lv,.string i,.string t,.string d,.string ti,.string at_.id,vc,vp,vl,vk]] w (sw w (aP nLi [] (ah.aX ks))):=by
 obtain ⟨ac,nc,cc,ap,np,cp,al,nl,cl,ak,nk,ck,S,W0,rfl,rfl,rfl,rfl,HS,HW0,e0,SX,HR,Z0,B0,K1⟩:=kF (.int .i64 9) lv i t d ti hR;have uY:=gL HS.out hl B0.out;have qE:=J5 HS.out ht B0.out;have lT:=qI hs HR;have jF:=hid hs;have hst:t.size<=300:=hs.t;have hsi:i.size<=300:=hs.i;clear hR hs hl ht;go_enter Tryz.func86,Tryz.ntmps86;go_upto_region 25 with (fail)
 rw [<- HS.out];have hk0:=HW0.out;simp only [jG] at hk0;rw [<- hk0];clear hk0;have LC:=hid (uY.out W0 (jk6 _ _));have g9:=(SX.out W0 (jk6 _ _)).2.2.2.2.2.2.2.2.2;go_wp2_with fail
 (with_reducible refine LC.out.mono ?_)
 rintro e w4 ⟨dV,v4,rfl,hrow4⟩;obtain ⟨a4,n4,c4,rfl⟩:=hrow4.slice3;have b4:=hrow4.aO;have B4:=hid b4;have gq:=hid (show Rd (W0.heap.size<=·) w4 (cO (ah.aX ks)) [.slice a4 n4 c4] from hrow4.fu);have EC:=hid (ku ⟨#[108,105]⟩ none a4 0 n4 0 c4 w4);clear b4 hrow4 LC g9;go_wp2_with fail
 (with_reducible refine EC.out.mono ?_)
 rintro e w5 ⟨rfl,b5⟩;have BL:=hid (aQ B4.out b5);have HN:=hid (show kU (W0.heap.size<=·) w5 [] (ah.aX ks) (.slice none 0 0) (.slice a4 n4 c4) from ⟨Rd.aC _ _ _,gq.out.aY b5⟩);clear b5 gq EC;obtain ⟨w9,hw8,r0,r1,r2,r3,HP,x0,x1,x2,x3,xf⟩:=iq ⟨#[108,105]⟩ ⟨#[]⟩ [] (ah.aX ks) HS Z0 B0 K1 BL HN.out;go_wp2;rw [<- hw8];exact bodyPost_ret (v:=.agg #[.string ⟨#[108,105]⟩,.string ⟨#[]⟩,(.slice none 0 0),(.slice a4 n4 c4)]) (by simp [results,Tryz.results86,go_sem,r0,r1,r2,r3]) rfl HP.out
theorem Vd (pv:jnj) (lv:Int) (i t d ti:ByteArray) (at_:At) (li:List aj) (ks:List ah) (vc vp vl vk:jnj) (w:jn8) (hR:kE (·<w.heap.size) w at_ li ks vc vp vl vk) (hs:FY i t at_ li) (hl:dU pv w ks vk) (ht:PT w) : Calls Tryz.prog 86 #[pv,.agg #[.int .i64 5,.int .i64 lv,.string i,.string t,.string d,.string ti,.string at_.id,vc,vp,vl,vk]] w (sw w (aP nHr [] [])):=by
 obtain ⟨ac,nc,cc,ap,np,cp,al,nl,cl,ak,nk,ck,S,W0,rfl,rfl,rfl,rfl,HS,HW0,e0,SX,HR,Z0,B0,K1⟩:=kF (.int .i64 5) lv i t d ti hR;have uY:=gL HS.out hl B0.out;have qE:=J5 HS.out ht B0.out;have lT:=qI hs HR;have jF:=hid hs;have hst:t.size<=300:=hs.t;have hsi:i.size<=300:=hs.i;clear hR hs hl ht;go_enter Tryz.func86,Tryz.ntmps86;go_upto_region 14 with (fail)
 rw [<- HS.out];have hk0:=HW0.out;simp only [jG] at hk0;rw [<- hk0];clear hk0;have EC:=hid (ku ⟨#[104,114]⟩ none none 0 0 0 0 W0);have B4:Hid (jn9 W0.heap.size W0 W0):=jk6 _ _;go_wp2_with fail
 (with_reducible refine EC.out.mono ?_)
 rintro e w5 ⟨rfl,b5⟩;have BL:=hid (aQ B4.out b5);clear b5;obtain ⟨w9,hw8,r0,r1,r2,r3,HP,x0,x1,x2,x3,xf⟩:=iq ⟨#[104,114]⟩ ⟨#[]⟩ [] [] HS Z0 B0 K1 BL ⟨Rd.aC _ _ _,Rd.aC _ _ _⟩;go_wp2;rw [<- hw8];exact bodyPost_ret (v:=.agg #[.string ⟨#[104,114]⟩,.string ⟨#[]⟩,(.slice none 0 0),(.slice none 0 0)]) (by simp [results,Tryz.results86,go_sem,r0,r1,r2,r3]) rfl HP.out
theorem Qg (pv:jnj) (lv:Int) (i t d ti:ByteArray) (at_:At) (li:List aj) (ks:List ah) (vc vp vl vk:jnj) (w:jn8) (hR:kE (·<w.heap.size) w at_ li ks vc vp vl vk) (hs:FY i t at_ li) (ht:PT w) (hT:TbW i ks) : Calls Tryz.prog 86 #[pv,.agg #[.int .i64 10,.int .i64 lv,.string i,.string t,.string d,.string ti,.string at_.id,vc,vp,vl,vk]] w (sw w (eP i ks)):=by
 obtain ⟨ac,nc,cc,ap,np,cp,al,nl,cl,ak,nk,ck,S,W0,rfl,rfl,rfl,rfl,HS,HW0,e0,SX,HR,Z0,B0,K1⟩:=kF (.int .i64 10) lv i t d ti hR;have qE:=J5 HS.out ht B0.out;have lT:=qI hs HR;have jF:=hid hs;have hst:t.size<=300:=hs.t;have hsi:i.size<=300:=hs.i;have HT:=hid hT;clear hT;clear hR hs ht;go_enter Tryz.func86,Tryz.ntmps86;go_upto_region 27 with (fail)
 rw [<- HS.out];have hk0:=HW0.out;simp only [jG] at hk0;rw [<- hk0];clear hk0;have TC:=hid (FZ 10 lv i t d ti at_ li ks (.slice ac nc cc) (.slice ap np cp) (.slice al nl cl) (.slice ak nk ck) W0 (kE.DL HR.out (fun b (hb:b<S) hlt=>⟨hlt,rfl⟩)) HT.out);obtain ⟨g1,g2,g3,g4,g5,g6,g7,g8,g9,g10⟩:=SX.out W0 (jk6 _ _);have htb:(eP i ks).nm=⟨#[116,97,98,108,101]⟩/\(eP i ks).tx=⟨#[]⟩/\(eP i ks).at_=[]:=by cases ks<;>exact ⟨rfl,rfl,rfl⟩
 have S9:=hid htb;clear htb;go_wp2_with fail
 (with_reducible refine TC.out.mono ?_)
 rintro e w5 ⟨va,vk,he,hN,hb5⟩;obtain ⟨aA,nA,cA,rfl⟩:=Rd.au hN.at_
 obtain ⟨aK,nK,cK,rfl⟩:=Rd.au hN.ks;rw [S9.out.1,S9.out.2.1] at he;subst he;have BL:=hid hb5;have HN:=hid hN;have HE:Hid (eP i ks=.mk ⟨#[116,97,98,108,101]⟩ ⟨#[]⟩ (eP i ks).at_ (eP i ks).ks):=by show _=_;rw [<- S9.out.1,<- S9.out.2.1];cases eP i ks;rfl
 rw [HE.out];clear hN hb5 g1 g2 g3 g4 g5 g6 g7 g8 g9 g10 TC;obtain ⟨w9,hw8,r0,r1,r2,r3,HP,x0,x1,x2,x3,xf⟩:=iq ⟨#[116,97,98,108,101]⟩ ⟨#[]⟩ (eP i ks).at_ (eP i ks).ks HS Z0 B0 K1 BL HN.out
 go_wp2;rw [<- hw8];exact bodyPost_ret (v:=.agg #[.string ⟨#[116,97,98,108,101]⟩,.string ⟨#[]⟩,(.slice aA nA cA),(.slice aK nK cK)]) (by simp [results,Tryz.results86,go_sem,r0,r1,r2,r3]) rfl (by rw [HE.out];exact HP.out)
theorem Qh (pv:jnj) (lv:Int) (i t d ti:ByteArray) (at_:At) (li:List aj) (ks:List ah) (vc vp vl vk:jnj) (w:jn8) (hR:kE (·<w.heap.size) w at_ li ks vc vp vl vk) (hs:FY i t at_ li) (hl:dU pv w ks vk) (ht:PT w) (hi:aZ i=true) : Calls Tryz.prog 86 #[pv,.agg #[.int .i64 3,.int .i64 lv,.string i,.string t,.string d,.string ti,.string at_.id,vc,vp,vl,vk]] w (sw w (aP J6 [] [aP iO [] (bS t)])):=by
 obtain ⟨ac,nc,cc,ap,np,cp,al,nl,cl,ak,nk,ck,S,W0,rfl,rfl,rfl,rfl,HS,HW0,e0,SX,HR,Z0,B0,K1⟩:=kF (.int .i64 3) lv i t d ti hR;have uY:=gL HS.out hl B0.out;have qE:=J5 HS.out ht B0.out;have lT:=qI hs HR;have jF:=hid hs;have hst:t.size<=300:=hs.t;have hsi:i.size<=300:=hs.i;have Ta:i.toList.isEmpty=true:=by
  have h:i.toList.isEmpty=aZ i:=by rw [Lib.toList_data,Bool.eq_iff_iff,List.isEmpty_iff,aZ,decide_eq_true_iff]
  rw [h];exact hi
 clear hi;clear hR hs hl ht;go_enter Tryz.func86,Tryz.ntmps86;go_upto_region 7 with (fail)
 rw [<- HS.out];have hk0:=HW0.out;simp only [jG] at hk0;rw [<- hk0];clear hk0;have Tc:jn9 W0.heap.size W0 W0:=jk6 _ _;have uZ:Hid (Rd (W0.heap.size<=·) W0 (bR []) [.slice none 0 0]):=Rd.aC _ _ _;have e2:=(SX.out W0 (jk6 _ _)).2.1;have DC:=hid (fJ t W0);have g3:=(SX.out W0 Tc).2.2.1;go_wp2_with fail
 (with_reducible refine DC.out.mono ?_)
 rintro e w4 ⟨dV,v4,rfl,hrow4⟩;obtain ⟨a4,n4,c4,rfl⟩:=hrow4.slice3;have b4:=hrow4.aO;have B4:=hid (aQ Tc b4);have gq:=hid (show Rd (W0.heap.size<=·) w4 (cO (bS t)) [.slice a4 n4 c4] from hrow4.fu.weaken (fun b hb=>jk8 (Tc).size hb));have oJ:=hid (uZ.out.aY b4);have EC:=hid (ku ⟨#[99,111,100,101]⟩ none a4 0 n4 0 c4 w4);clear b4 hrow4 DC g3;go_wp2_with fail
 (with_reducible refine EC.out.mono ?_)
 rintro e w5 ⟨rfl,b5⟩;have XD:zm W0 none w5 (aP iO [] (bS t)).d [.string ⟨#[99,111,100,101]⟩,.string ⟨#[]⟩,.slice none 0 0,.slice a4 n4 c4]:=⟨aQ B4.out b5,fun p hp=>by simp at hp,(Nd.dS iO ⟨#[]⟩ (kU.keep ⟨oJ.out,gq.out⟩ (fun b hb hlt=>⟨⟨hb,by simp⟩,b5.block b hlt⟩)))⟩;have XL:=hid XD.lit;have Td:=hid (ku ⟨#[112,114,101]⟩ none (some ⟨w5.heap.size,0,none⟩) 0 1 0 1 (w5.alloc (.cells #[.string ⟨#[99,111,100,101]⟩,.string ⟨#[]⟩,.slice none 0 0,.slice a4 n4 c4] 35)));clear XD b5 EC;go_wp2_with fail
 (with_reducible refine Td.out.mono ?_)
 rintro e w6 ⟨rfl,b6⟩;have BL:=hid (aQ XL.out.aO b6);have HN:=hid (show kU (W0.heap.size<=·) w6 [] [aP iO [] (bS t)] (.slice none 0 0) (.slice (some ⟨w5.heap.size,0,none⟩) 1 1) from ⟨Rd.aC _ _ _,(XL.out.rd.aY b6).weaken (fun b hb=>hb.1)⟩);clear b6 XL Td;obtain ⟨w9,hw8,r0,r1,r2,r3,HP,x0,x1,x2,x3,xf⟩:=iq ⟨#[112,114,101]⟩ ⟨#[]⟩ [] [aP iO [] (bS t)] HS Z0 B0 K1 BL HN.out;go_wp2;rw [<- hw8];exact bodyPost_ret (v:=.agg #[.string ⟨#[112,114,101]⟩,.string ⟨#[]⟩,(.slice none 0 0),(.slice (some ⟨w5.heap.size,0,none⟩) 1 1)]) (by simp [results,Tryz.results86,go_sem,r0,r1,r2,r3]) rfl HP.out
theorem Qi (pv:jnj) (lv:Int) (i t d ti:ByteArray) (at_:At) (li:List aj) (ks:List ah) (vc vp vl vk:jnj) (w:jn8) (hR:kE (·<w.heap.size) w at_ li ks vc vp vl vk) (hs:FY i t at_ li) (hl:dU pv w ks vk) (ht:PT w) (hi:aZ i=false) : Calls Tryz.prog 86 #[pv,.agg #[.int .i64 3,.int .i64 lv,.string i,.string t,.string d,.string ti,.string at_.id,vc,vp,vl,vk]] w (sw w (aP J6 [] [aP iO [⟨iw,⟨#[108,97,110,103,117,97,103,101,45]⟩++i⟩] (bS t)])):=by
 obtain ⟨ac,nc,cc,ap,np,cp,al,nl,cl,ak,nk,ck,S,W0,rfl,rfl,rfl,rfl,HS,HW0,e0,SX,HR,Z0,B0,K1⟩:=kF (.int .i64 3) lv i t d ti hR;have uY:=gL HS.out hl B0.out;have qE:=J5 HS.out ht B0.out;have lT:=qI hs HR;have jF:=hid hs;have hst:t.size<=300:=hs.t;have hsi:i.size<=300:=hs.i;have Ta:i.toList.isEmpty=false:=by
  have h:i.toList.isEmpty=aZ i:=by rw [Lib.toList_data,Bool.eq_iff_iff,List.isEmpty_iff,aZ,decide_eq_true_iff]
  rw [h];exact hi
 clear hi;clear hR hs hl ht;go_enter Tryz.func86,Tryz.ntmps86;go_upto_region 7 with (fail)
 rw [<- HS.out];have hk0:=HW0.out;simp only [jG] at hk0;rw [<- hk0];clear hk0;have e2:=(SX.out W0 (jk6 _ _)).2.1;have q5:(⟨#[108,97,110,103,117,97,103,101,45]⟩:ByteArray).size+i.size<=9223372036854775807:=by have:(⟨#[108,97,110,103,117,97,103,101,45]⟩:ByteArray).size=9:=rfl;omega
 have q6:9+i.size<=9223372036854775807:=by omega
 have PC:Hid (Calls Tryz.prog 41 #[.slice (some ⟨W0.heap.size,0,none⟩) 2 2] (W0.alloc (.cells #[.string ⟨#[99,108,97,115,115]⟩,.string (⟨#[108,97,110,103,117,97,103,101,45]⟩++i)] 9)) (bJ (W0.alloc (.cells #[.string ⟨#[99,108,97,115,115]⟩,.string (⟨#[108,97,110,103,117,97,103,101,45]⟩++i)] 9)) [⟨iw,⟨#[108,97,110,103,117,97,103,101,45]⟩++i⟩])):=Qj iw (DN++i) W0;go_wp2_with fail
 (with_reducible refine PC.out.mono ?_)
 rintro e w2 ⟨bP,v2,rfl,hrow2⟩;obtain ⟨a2,c2,rfl,-,-⟩:=hrow2.cap (n:=1) rfl;have bl:jn9 W0.heap.size W0 (W0.alloc (.cells #[.string ⟨#[99,108,97,115,115]⟩,.string (⟨#[108,97,110,103,117,97,103,101,45]⟩++i)] 9)):=(jk6 _ _).alloc (jk7 _) _;have B2:=hid (bl.trans (hrow2.aO.mono bl.size));have uZ:=hid (show Rd (W0.heap.size<=·) w2 (bR [⟨iw,⟨#[108,97,110,103,117,97,103,101,45]⟩++i⟩]) [.slice a2 1 c2] from hrow2.fu.weaken (fun b hb=>jk8 bl.size hb));clear hrow2 bl PC q5 q6 e2;have DC:=hid (fJ t w2);have g3:=(SX.out w2 B2.out).2.2.1;go_wp2_with fail
 (with_reducible refine DC.out.mono ?_)
 rintro e w4 ⟨dV,v4,rfl,hrow4⟩;obtain ⟨a4,n4,c4,rfl⟩:=hrow4.slice3;have b4:=hrow4.aO;have B4:=hid (aQ B2.out b4);have gq:=hid (show Rd (W0.heap.size<=·) w4 (cO (bS t)) [.slice a4 n4 c4] from hrow4.fu.weaken (fun b hb=>jk8 (B2.out).size hb));have oJ:=hid (uZ.out.aY b4);have EC:=hid (ku ⟨#[99,111,100,101]⟩ a2 a4 1 n4 c2 c4 w4);clear b4 hrow4 DC g3;go_wp2_with fail
 (with_reducible refine EC.out.mono ?_)
 rintro e w5 ⟨rfl,b5⟩;have XD:zm W0 none w5 (aP iO [⟨iw,⟨#[108,97,110,103,117,97,103,101,45]⟩++i⟩] (bS t)).d [.string ⟨#[99,111,100,101]⟩,.string ⟨#[]⟩,.slice a2 1 c2,.slice a4 n4 c4]:=⟨aQ B4.out b5,fun p hp=>by simp at hp,(Nd.dS iO ⟨#[]⟩ (kU.keep ⟨oJ.out,gq.out⟩ (fun b hb hlt=>⟨⟨hb,by simp⟩,b5.block b hlt⟩)))⟩;have XL:=hid XD.lit;have Td:=hid (ku ⟨#[112,114,101]⟩ none (some ⟨w5.heap.size,0,none⟩) 0 1 0 1 (w5.alloc (.cells #[.string ⟨#[99,111,100,101]⟩,.string ⟨#[]⟩,.slice a2 1 c2,.slice a4 n4 c4] 35)));clear XD b5 EC;go_wp2_with fail
 (with_reducible refine Td.out.mono ?_)
 rintro e w6 ⟨rfl,b6⟩;have BL:=hid (aQ XL.out.aO b6);have HN:=hid (show kU (W0.heap.size<=·) w6 [] [aP iO [⟨iw,⟨#[108,97,110,103,117,97,103,101,45]⟩++i⟩] (bS t)] (.slice none 0 0) (.slice (some ⟨w5.heap.size,0,none⟩) 1 1) from ⟨Rd.aC _ _ _,(XL.out.rd.aY b6).weaken (fun b hb=>hb.1)⟩);clear b6 XL Td;obtain ⟨w9,hw8,r0,r1,r2,r3,HP,x0,x1,x2,x3,xf⟩:=iq ⟨#[112,114,101]⟩ ⟨#[]⟩ [] [aP iO [⟨iw,⟨#[108,97,110,103,117,97,103,101,45]⟩++i⟩] (bS t)] HS Z0 B0 K1 BL HN.out;go_wp2;rw [<- hw8];exact bodyPost_ret (v:=.agg #[.string ⟨#[112,114,101]⟩,.string ⟨#[]⟩,(.slice none 0 0),(.slice (some ⟨w5.heap.size,0,none⟩) 1 1)]) (by simp [results,Tryz.results86,go_sem,r0,r1,r2,r3]) rfl HP.out
theorem Qk (pv:jnj) (lv:Int) (i t d ti:ByteArray) (at_:At) (li:List aj) (ks:List ah) (vc vp vl vk:jnj) (w:jn8) (hR:kE (·<w.heap.size) w at_ li ks vc vp vl vk) (hs:FY i t at_ li) (hl:dU pv w ks vk) (ht:PT w) (hv:lv=1) : Calls Tryz.prog 86 #[pv,.agg #[.int .i64 8,.int .i64 lv,.string i,.string t,.string d,.string ti,.string at_.id,vc,vp,vl,vk]] w (sw w (aP XO [] (ah.aX ks))):=by
 obtain ⟨ac,nc,cc,ap,np,cp,al,nl,cl,ak,nk,ck,S,W0,rfl,rfl,rfl,rfl,HS,HW0,e0,SX,HR,Z0,B0,K1⟩:=kF (.int .i64 8) lv i t d ti hR;have uY:=gL HS.out hl B0.out;have qE:=J5 HS.out ht B0.out;have lT:=qI hs HR;have jF:=hid hs;have hst:t.size<=300:=hs.t;have hsi:i.size<=300:=hs.i;have qv:(lv==1)=true:=by rw [hv];rfl
 clear hv;clear hR hs hl ht;go_enter Tryz.func86,Tryz.ntmps86;go_upto_region 20 with (fail)
 rw [<- HS.out];have hk0:=HW0.out;simp only [jG] at hk0;rw [<- hk0];clear hk0;have Tc:jn9 W0.heap.size W0 W0:=jk6 _ _;have uZ:Hid (Rd (W0.heap.size<=·) W0 (bR []) [.slice none 0 0]):=Rd.aC _ _ _;have e1:=(SX.out W0 (jk6 _ _)).1;have LC:=hid (uY.out W0 Tc);have g10:=(SX.out W0 Tc).2.2.2.2.2.2.2.2.2;go_wp2_with fail
 (with_reducible refine LC.out.mono ?_)
 rintro e w4 ⟨dV,v4,rfl,hrow4⟩;obtain ⟨a4,n4,c4,rfl⟩:=hrow4.slice3;have b4:=hrow4.aO;have B4:=hid (aQ Tc b4);have gq:=hid (show Rd (W0.heap.size<=·) w4 (cO (ah.aX ks)) [.slice a4 n4 c4] from hrow4.fu.weaken (fun b hb=>jk8 (Tc).size hb));have oJ:=hid (uZ.out.aY b4);have EC:=hid (ku ⟨#[111,108]⟩ none a4 0 n4 0 c4 w4);clear b4 hrow4 LC g10;go_wp2_with fail
 (with_reducible refine EC.out.mono ?_)
 rintro e w5 ⟨rfl,b5⟩;have BL:=hid (aQ B4.out b5);have HN:=hid (show kU (W0.heap.size<=·) w5 [] (ah.aX ks) (.slice none 0 0) (.slice a4 n4 c4) from ⟨oJ.out.aY b5,gq.out.aY b5⟩);clear b5 gq EC;obtain ⟨w9,hw8,r0,r1,r2,r3,HP,x0,x1,x2,x3,xf⟩:=iq ⟨#[111,108]⟩ ⟨#[]⟩ [] (ah.aX ks) HS Z0 B0 K1 BL HN.out;go_wp2;rw [<- hw8];exact bodyPost_ret (v:=.agg #[.string ⟨#[111,108]⟩,.string ⟨#[]⟩,(.slice none 0 0),(.slice a4 n4 c4)]) (by simp [results,Tryz.results86,go_sem,r0,r1,r2,r3]) rfl HP.out
theorem Ql (pv:jnj) (lv:Int) (i t d ti:ByteArray) (at_:At) (li:List aj) (ks:List ah) (vc vp vl vk:jnj) (w:jn8) (hR:kE (·<w.heap.size) w at_ li ks vc vp vl vk) (hs:FY i t at_ li) (hl:dU pv w ks vk) (ht:PT w) (n:Nat) (hv:lv=(n:Int)) (hn:n<=999999999) (h1:lv≠1) : Calls Tryz.prog 86 #[pv,.agg #[.int .i64 8,.int .i64 lv,.string i,.string t,.string d,.string ti,.string at_.id,vc,vp,vl,vk]] w (sw w (aP XO [⟨sStart,fZ n⟩] (ah.aX ks))):=by
 obtain ⟨ac,nc,cc,ap,np,cp,al,nl,cl,ak,nk,ck,S,W0,rfl,rfl,rfl,rfl,HS,HW0,e0,SX,HR,Z0,B0,K1⟩:=kF (.int .i64 8) lv i t d ti hR;have uY:=gL HS.out hl B0.out;have qE:=J5 HS.out ht B0.out;have lT:=qI hs HR;have jF:=hid hs;have hst:t.size<=300:=hs.t;have hsi:i.size<=300:=hs.i;have qv:(lv==1)=false:=by rw [beq_eq_false_iff_ne];exact h1
 have IC:Hid (∀ W:jn8,jn9 W0.heap.size W0 W->Calls Tryz.prog 136 #[.int .i64 lv] W (fun e w'=>e=.returned (.string (fZ n))/\jn9 W.heap.size W w')):=fun W hW=>by rw [hv];exact DK n W hn (qE.out W hW)
 clear hv hn h1;clear hR hs hl ht;go_enter Tryz.func86,Tryz.ntmps86;go_upto_region 20 with (fail)
 rw [<- HS.out];have hk0:=HW0.out;simp only [jG] at hk0;rw [<- hk0];clear hk0;have e1:=(SX.out W0 (jk6 _ _)).1;have IT:=hid (IC.out W0 (jk6 _ _));go_wp2_with fail
 (with_reducible refine IT.out.mono ?_)
 rintro e w1 ⟨rfl,b1⟩;have PC:Hid (Calls Tryz.prog 41 #[.slice (some ⟨w1.heap.size,0,none⟩) 2 2] (w1.alloc (.cells #[.string ⟨#[115,116,97,114,116]⟩,.string (fZ n)] 9)) (bJ (w1.alloc (.cells #[.string ⟨#[115,116,97,114,116]⟩,.string (fZ n)] 9)) [⟨sStart,fZ n⟩])):=Qj sStart (fZ n) w1;have bl:jn9 W0.heap.size W0 (w1.alloc (.cells #[.string ⟨#[115,116,97,114,116]⟩,.string (fZ n)] 9)):=b1.alloc b1.size _;clear IT e1;go_wp2_with fail
 (with_reducible refine PC.out.mono ?_)
 rintro e w2 ⟨bP,v2,rfl,hrow2⟩;obtain ⟨a2,c2,rfl,-,-⟩:=hrow2.cap (n:=1) rfl;have B2:=hid (bl.trans (hrow2.aO.mono bl.size));have uZ:=hid (show Rd (W0.heap.size<=·) w2 (bR [⟨sStart,fZ n⟩]) [.slice a2 1 c2] from hrow2.fu.weaken (fun b hb=>jk8 bl.size hb));clear hrow2 bl PC b1;have LC:=hid (uY.out w2 B2.out);have g10:=(SX.out w2 B2.out).2.2.2.2.2.2.2.2.2;go_wp2_with fail
 (with_reducible refine LC.out.mono ?_)
 rintro e w4 ⟨dV,v4,rfl,hrow4⟩;obtain ⟨a4,n4,c4,rfl⟩:=hrow4.slice3;have b4:=hrow4.aO;have B4:=hid (aQ B2.out b4);have gq:=hid (show Rd (W0.heap.size<=·) w4 (cO (ah.aX ks)) [.slice a4 n4 c4] from hrow4.fu.weaken (fun b hb=>jk8 (B2.out).size hb));have oJ:=hid (uZ.out.aY b4);have EC:=hid (ku ⟨#[111,108]⟩ a2 a4 1 n4 c2 c4 w4);clear b4 hrow4 LC g10;go_wp2_with fail
 (with_reducible refine EC.out.mono ?_)
 rintro e w5 ⟨rfl,b5⟩;have BL:=hid (aQ B4.out b5);have HN:=hid (show kU (W0.heap.size<=·) w5 [⟨sStart,fZ n⟩] (ah.aX ks) (.slice a2 1 c2) (.slice a4 n4 c4) from ⟨oJ.out.aY b5,gq.out.aY b5⟩);clear b5 gq EC;obtain ⟨w9,hw8,r0,r1,r2,r3,HP,x0,x1,x2,x3,xf⟩:=iq ⟨#[111,108]⟩ ⟨#[]⟩ [⟨sStart,fZ n⟩] (ah.aX ks) HS Z0 B0 K1 BL HN.out;go_wp2;rw [<- hw8];exact bodyPost_ret (v:=.agg #[.string ⟨#[111,108]⟩,.string ⟨#[]⟩,(.slice a2 1 c2),(.slice a4 n4 c4)]) (by simp [results,Tryz.results86,go_sem,r0,r1,r2,r3]) rfl HP.out
theorem Ve (pv:jnj) (lv:Int) (i t d ti:ByteArray) (at_:At) (li:List aj) (ks:List ah) (vc vp vl vk:jnj) (w:jn8) (hR:kE (·<w.heap.size) w at_ li ks vc vp vl vk) (hs:FY i t at_ li) (hl:dU pv w ks vk) (ht:PT w) (n:Nat) (hv:lv=(n:Int)) (hn:n<=999999999) : Calls Tryz.prog 86 #[pv,.agg #[.int .i64 2,.int .i64 lv,.string i,.string t,.string d,.string ti,.string at_.id,vc,vp,vl,vk]] w (sw w (aP (⟨#[104]⟩++fZ n) (lC at_ []) (jY li))):=by
 obtain ⟨ac,nc,cc,ap,np,cp,al,nl,cl,ak,nk,ck,S,W0,rfl,rfl,rfl,rfl,HS,HW0,e0,SX,HR,Z0,B0,K1⟩:=kF (.int .i64 2) lv i t d ti hR;have uY:=gL HS.out hl B0.out;have qE:=J5 HS.out ht B0.out;have lT:=qI hs HR;have jF:=hid hs;have hst:t.size<=300:=hs.t;have hsi:i.size<=300:=hs.i;have IC:Hid (∀ W:jn8,jn9 W0.heap.size W0 W->Calls Tryz.prog 136 #[.int .i64 lv] W (fun e w'=>e=.returned (.string (fZ n))/\jn9 W.heap.size W w')):=fun W hW=>by rw [hv];exact DK n W hn (qE.out W hW)
 have q5:(⟨#[104]⟩:ByteArray).size+(fZ n).size<=9223372036854775807:=by have:(⟨#[104]⟩:ByteArray).size=1:=rfl;have:=zi n hn;omega
 have q6:1+(fZ n).size<=9223372036854775807:=by have:=zi n hn;omega
 clear hv hn;clear hR hs hl ht;go_enter Tryz.func86,Tryz.ntmps86;go_upto_region 5 with (fail)
 rw [<- HS.out];have hk0:=HW0.out;simp only [jG] at hk0;rw [<- hk0];clear hk0;have IT:=hid (IC.out W0.drew ((jk6 W0.heap.size W0).drew));have hadd:∀ w:jn8,(Op.stringOp .add (⟨#[104]⟩:ByteArray) (fZ n)).run Tryz.prog w=.ok (.string (⟨#[104]⟩++fZ n)) w:=fun w=>run_string_add_sum w _ _ q5
 clear q5;have SF:=hid (fun (w':jn8) (hb:jn9 W0.heap.size W0 w')=>(⟨(SX.out w' hb).1,(SX.out w' hb).2.2.2.2.2.1,(SX.out w' hb).2.2.2.2.2.2.1,(SX.out w' hb).2.2.2.2.2.2.2.1,(SX.out w' hb).2.2.2.2.2.2.2.2.1⟩:w'.cell? ⟨S,1,none⟩=some (.int .i64 lv)/\w'.cell? ⟨S,6,none⟩=some (.string at_.id)/\w'.cell? ⟨S,7,none⟩=some (.slice ac nc cc)/\w'.cell? ⟨S,8,none⟩=some (.slice ap np cp)/\w'.cell? ⟨S,9,none⟩=some (.slice al nl cl)));have S0:=SF.out _ ((jk6 W0.heap.size W0).drew);go_wp2_with fail
 go_region_held3 (fun w'=>w'.cell? ⟨S,1,none⟩=some (.int .i64 lv)/\w'.cell? ⟨S,6,none⟩=some (.string at_.id)/\w'.cell? ⟨S,7,none⟩=some (.slice ac nc cc)/\w'.cell? ⟨S,8,none⟩=some (.slice ap np cp)/\w'.cell? ⟨S,9,none⟩=some (.slice al nl cl))
  (with_reducible assumption)
  (first
   | (go_simp;go_at_call 136;(with_reducible refine IT.out.mono ?_);rintro e w1 ⟨rfl,b1⟩;have B1:Hid (jn9 W0.heap.size W0 w1):=((jk6 W0.heap.size W0).drew).trans b1;have S1:=SF.out (w1) B1.out;have AC:=hid (YO at_ [] (.slice ac nc cc) (.slice ap np cp) (.slice none 0 0) w1 w1 om.nil (AU HR.out.at_ B1.out (by have:=Z0.out;omega)) (Mq jF.out.at_).1 (Mq jF.out.at_).2))
   | (go_simp;go_at_call 137;(with_reducible refine AC.out.mono ?_);rintro e w3 ⟨gu,v3,rfl,hrow3⟩;obtain ⟨a3,n3,c3,rfl⟩:=hrow3.slice3;have B3:Hid (jn9 W0.heap.size W0 w3):=(B1.out).trans (hrow3.aO.mono (B1.out).size);have AX:Hid (Rd (W0.heap.size<=·) w3 (bR (lC at_ [])) [.slice a3 n3 c3]):=hrow3.fu.weaken (fun b hb=>jk8 (B1.out).size hb);have S3:=SF.out (w3) B3.out;have LC:=hid (lT.out w3 B3.out))
   | (go_simp;go_at_call 78;(with_reducible refine LC.out.mono ?_);rintro e w4 ⟨dV,v4,rfl,hrow4⟩;obtain ⟨a4,n4,c4,rfl⟩:=hrow4.slice3;have b4:=hrow4.aO;have B4:=hid (aQ B3.out b4);have gq:=hid (show Rd (W0.heap.size<=·) w4 (cO (jY li)) [.slice a4 n4 c4] from hrow4.fu.weaken (fun b hb=>jk8 B3.out.size hb));have oJ:=hid (AX.out.aY b4);have S4:=SF.out (w4) B4.out;have EC:=hid (ku ((⟨#[104]⟩:ByteArray)++fZ n) a3 a4 n3 n4 c3 c4 w4))
   | (go_simp;go_at_call 40;(with_reducible refine EC.out.mono ?_);rintro e w5 ⟨rfl,b5⟩;have BL:=hid (aQ B4.out b5);obtain ⟨x0,x1,x2,x3,xf⟩:=pI (K1.out.below BL.out);have S5:=SF.out (w5) BL.out;have K6:=sD S w5 (.string ((⟨#[104]⟩:ByteArray)++fZ n)) (.string ⟨#[]⟩) (.slice a3 n3 c3) (.slice a4 n4 c4);have S6:=And.imp (K6 _ _) (And.imp (K6 _ _) (And.imp (K6 _ _) (And.imp (K6 _ _) (K6 _ _)))) (SF.out w5 BL.out);clear K6))
 all_goals
  have HN:=hid (show kU (W0.heap.size<=·) w5 (lC at_ []) (jY li) (.slice a3 n3 c3) (.slice a4 n4 c4) from ⟨oJ.out.aY b5,gq.out.aY b5⟩);clear b5 gq EC oJ hrow3 hrow4 b4 S0 S3 S4 S5 S6 AX S1 b1;obtain ⟨w9,bM⟩:∃ w9,w9=four w5 (S+1) (.string ((⟨#[104]⟩:ByteArray)++fZ n)) (.string ⟨#[]⟩) (.slice a3 n3 c3) (.slice a4 n4 c4):=⟨_,rfl⟩;have hf:=fA ((⟨#[104]⟩:ByteArray)++fZ n) ⟨#[]⟩ (lC at_ []) (jY li) HS.out Z0.out B0.out K1.out BL.out HN.out;rw [<- bM] at hf;have HC:=hid hf.1;have HP:=hid hf.2;clear hf;have hw8:=bM;simp only [four] at hw8;clear bM;obtain ⟨x0,x1,x2,x3,xf⟩:=pI (K1.out.below BL.out);go_wp2;rw [<- hw8];have r0:=HC.out.cell 0 _ rfl;have r1:=HC.out.cell 1 _ rfl;have r2:=HC.out.cell 2 _ rfl;have r3:=HC.out.cell 3 _ rfl;exact bodyPost_ret (v:=.agg #[.string ((⟨#[104]⟩:ByteArray)++fZ n),.string ⟨#[]⟩,(.slice a3 n3 c3),(.slice a4 n4 c4)]) (by simp [results,Tryz.results86,go_sem,r0,r1,r2,r3]) rfl HP.out
theorem Vf (pv:jnj) (lv:Int) (i t d ti:ByteArray) (at_:At) (li:List aj) (ks:List ah) (vc vp vl vk:jnj) (w:jn8) (hR:kE (·<w.heap.size) w at_ li ks vc vp vl vk) (hs:FY i t at_ li) (hl:dU pv w ks vk) (ht:PT w) : Calls Tryz.prog 86 #[pv,.agg #[.int .i64 4,.int .i64 lv,.string i,.string t,.string d,.string ti,.string at_.id,vc,vp,vl,vk]] w (sw w (aP pJ (lC at_ [⟨#[109,97,116,104]⟩]) (bS t))):=by
 obtain ⟨ac,nc,cc,ap,np,cp,al,nl,cl,ak,nk,ck,S,W0,rfl,rfl,rfl,rfl,HS,HW0,e0,SX,HR,Z0,B0,K1⟩:=kF (.int .i64 4) lv i t d ti hR;have uY:=gL HS.out hl B0.out;have qE:=J5 HS.out ht B0.out;have lT:=qI hs HR;have jF:=hid hs;have hst:t.size<=300:=hs.t;have hsi:i.size<=300:=hs.i;clear hR hs hl ht;go_enter Tryz.func86,Tryz.ntmps86;go_upto_region 12 with (fail)
 rw [<- HS.out];have hk0:=HW0.out;simp only [jG] at hk0;rw [<- hk0];clear hk0;have lW:Hid (jn9 W0.heap.size W0 (W0.alloc (.cells #[.string ⟨#[109,97,116,104]⟩] 9)).drew):=nI W0 (.cells #[.string ⟨#[109,97,116,104]⟩] 9);have AC:Hid (Calls Tryz.prog 137 #[.agg #[.string at_.id,.slice ac nc cc,.slice ap np cp],.slice (some ⟨W0.heap.size,0,none⟩) 1 1] (W0.alloc (.cells #[.string ⟨#[109,97,116,104]⟩] 9)).drew (bJ W0.drew (lC at_ [⟨#[109,97,116,104]⟩]))):=YO at_ [⟨#[109,97,116,104]⟩] (.slice ac nc cc) (.slice ap np cp) (.slice (some ⟨W0.heap.size,0,none⟩) 1 1) W0.drew (W0.alloc (.cells #[.string ⟨#[109,97,116,104]⟩] 9)).drew (om.one W0.drew ⟨#[109,97,116,104]⟩) (AU HR.out.at_ lW.out (by have:=Z0.out;omega)) (tZ jF.out.at_ ⟨#[109,97,116,104]⟩ (by have:=jF.out.i;decide)).1 (tZ jF.out.at_ ⟨#[109,97,116,104]⟩ (by have:=jF.out.i;decide)).2
 have SF:=hid (fun (w':jn8) (hb:jn9 W0.heap.size W0 w')=>(⟨(SX.out w' hb).2.2.1,(SX.out w' hb).2.2.2.2.2.1,(SX.out w' hb).2.2.2.2.2.2.1,(SX.out w' hb).2.2.2.2.2.2.2.1⟩:w'.cell? ⟨S,3,none⟩=some (.string t)/\w'.cell? ⟨S,6,none⟩=some (.string at_.id)/\w'.cell? ⟨S,7,none⟩=some (.slice ac nc cc)/\w'.cell? ⟨S,8,none⟩=some (.slice ap np cp)));have S1:=SF.out _ lW.out;have Vg:Hid (∀ W:jn8,Calls Tryz.prog 53 #[.string t] W (dh W (bS t))):=fun W=>fJ t W
 have S0:=SF.out _ ((jk6 W0.heap.size W0).drew);go_wp2_with fail
 go_region_held3 (fun w'=>w'.cell? ⟨S,3,none⟩=some (.string t)/\w'.cell? ⟨S,6,none⟩=some (.string at_.id)/\w'.cell? ⟨S,7,none⟩=some (.slice ac nc cc)/\w'.cell? ⟨S,8,none⟩=some (.slice ap np cp))
  (with_reducible assumption)
  (first
   | (go_simp;go_at_call 137;(with_reducible refine AC.out.mono ?_);rintro e w3 ⟨gu,v3,rfl,hrow3⟩;obtain ⟨a3,n3,c3,rfl⟩:=hrow3.slice3;have B3:Hid (jn9 W0.heap.size W0 w3):=(((jk6 W0.heap.size W0).drew)).trans (hrow3.aO.mono (((jk6 W0.heap.size W0).drew)).size);have AX:Hid (Rd (W0.heap.size<=·) w3 (bR (lC at_ [⟨#[109,97,116,104]⟩])) [.slice a3 n3 c3]):=hrow3.fu.weaken (fun b hb=>jk8 (((jk6 W0.heap.size W0).drew)).size hb);have S3:=SF.out (w3) B3.out;have LC:=hid (Vg.out w3))
   | (go_simp;go_at_call 53;(with_reducible refine LC.out.mono ?_);rintro e w4 ⟨dV,v4,rfl,hrow4⟩;obtain ⟨a4,n4,c4,rfl⟩:=hrow4.slice3;have b4:=hrow4.aO;have B4:=hid (aQ B3.out b4);have gq:=hid (show Rd (W0.heap.size<=·) w4 (cO (bS t)) [.slice a4 n4 c4] from hrow4.fu.weaken (fun b hb=>jk8 B3.out.size hb));have oJ:=hid (AX.out.aY b4);have S4:=SF.out (w4) B4.out;have EC:=hid (ku ⟨#[100,105,118]⟩ a3 a4 n3 n4 c3 c4 w4))
   | (go_simp;go_at_call 40;(with_reducible refine EC.out.mono ?_);rintro e w5 ⟨rfl,b5⟩;have BL:=hid (aQ B4.out b5);obtain ⟨x0,x1,x2,x3,xf⟩:=pI (K1.out.below BL.out);have S5:=SF.out (w5) BL.out;have K6:=sD S w5 (.string ⟨#[100,105,118]⟩) (.string ⟨#[]⟩) (.slice a3 n3 c3) (.slice a4 n4 c4);have S6:=And.imp (K6 _ _) (And.imp (K6 _ _) (And.imp (K6 _ _) (K6 _ _))) (SF.out w5 BL.out);clear K6))
 all_goals
  have HN:=hid (show kU (W0.heap.size<=·) w5 (lC at_ [⟨#[109,97,116,104]⟩]) (bS t) (.slice a3 n3 c3) (.slice a4 n4 c4) from ⟨oJ.out.aY b5,gq.out.aY b5⟩);clear b5 gq EC oJ hrow3 hrow4 b4 S0 S3 S4 S5 S6 AX S1;obtain ⟨w9,bM⟩:∃ w9,w9=four w5 (S+1) (.string ⟨#[100,105,118]⟩) (.string ⟨#[]⟩) (.slice a3 n3 c3) (.slice a4 n4 c4):=⟨_,rfl⟩;have hf:=fA ⟨#[100,105,118]⟩ ⟨#[]⟩ (lC at_ [⟨#[109,97,116,104]⟩]) (bS t) HS.out Z0.out B0.out K1.out BL.out HN.out;rw [<- bM] at hf;have HC:=hid hf.1;have HP:=hid hf.2;clear hf;have hw8:=bM;simp only [four] at hw8;clear bM;obtain ⟨x0,x1,x2,x3,xf⟩:=pI (K1.out.below BL.out);go_wp2;rw [<- hw8];have r0:=HC.out.cell 0 _ rfl;have r1:=HC.out.cell 1 _ rfl;have r2:=HC.out.cell 2 _ rfl;have r3:=HC.out.cell 3 _ rfl;exact bodyPost_ret (v:=.agg #[.string ⟨#[100,105,118]⟩,.string ⟨#[]⟩,(.slice a3 n3 c3),(.slice a4 n4 c4)]) (by simp [results,Tryz.results86,go_sem,r0,r1,r2,r3]) rfl HP.out
theorem Qm (pv:jnj) (lv:Int) (i t d ti:ByteArray) (at_:At) (li:List aj) (ks:List ah) (vc vp vl vk:jnj) (w:jn8) (hR:kE (·<w.heap.size) w at_ li ks vc vp vl vk) (hs:FY i t at_ li) (hl:dU pv w ks vk) (ht:PT w) : Calls Tryz.prog 86 #[pv,.agg #[.int .i64 13,.int .i64 lv,.string i,.string t,.string d,.string ti,.string at_.id,vc,vp,vl,vk]] w (sw w (aP pJ (lC at_ [i]) (ah.aX ks))):=by
 obtain ⟨ac,nc,cc,ap,np,cp,al,nl,cl,ak,nk,ck,S,W0,rfl,rfl,rfl,rfl,HS,HW0,e0,SX,HR,Z0,B0,K1⟩:=kF (.int .i64 13) lv i t d ti hR;have uY:=gL HS.out hl B0.out;have qE:=J5 HS.out ht B0.out;have lT:=qI hs HR;have jF:=hid hs;have hst:t.size<=300:=hs.t;have hsi:i.size<=300:=hs.i;clear hR hs hl ht;go_enter Tryz.func86,Tryz.ntmps86;go_upto_region 28 with (fail)
 rw [<- HS.out];have hk0:=HW0.out;simp only [jG] at hk0;rw [<- hk0];clear hk0;have lW:Hid (jn9 W0.heap.size W0 (W0.alloc (.cells #[.string i] 9)).drew):=nI W0 (.cells #[.string i] 9);have AC:Hid (Calls Tryz.prog 137 #[.agg #[.string at_.id,.slice ac nc cc,.slice ap np cp],.slice (some ⟨W0.heap.size,0,none⟩) 1 1] (W0.alloc (.cells #[.string i] 9)).drew (bJ W0.drew (lC at_ [i]))):=YO at_ [i] (.slice ac nc cc) (.slice ap np cp) (.slice (some ⟨W0.heap.size,0,none⟩) 1 1) W0.drew (W0.alloc (.cells #[.string i] 9)).drew (om.one W0.drew i) (AU HR.out.at_ lW.out (by have:=Z0.out;omega)) (tZ jF.out.at_ i (by have:=jF.out.i;omega)).1 (tZ jF.out.at_ i (by have:=jF.out.i;omega)).2
 have SF:=hid (fun (w':jn8) (hb:jn9 W0.heap.size W0 w')=>(⟨(SX.out w' hb).2.1,(SX.out w' hb).2.2.2.2.2.1,(SX.out w' hb).2.2.2.2.2.2.1,(SX.out w' hb).2.2.2.2.2.2.2.1,(SX.out w' hb).2.2.2.2.2.2.2.2.2⟩:w'.cell? ⟨S,2,none⟩=some (.string i)/\w'.cell? ⟨S,6,none⟩=some (.string at_.id)/\w'.cell? ⟨S,7,none⟩=some (.slice ac nc cc)/\w'.cell? ⟨S,8,none⟩=some (.slice ap np cp)/\w'.cell? ⟨S,10,none⟩=some (.slice ak nk ck)));have S1:=SF.out _ lW.out;have S0:=SF.out _ ((jk6 W0.heap.size W0).drew);go_wp2_with fail
 go_region_held3 (fun w'=>w'.cell? ⟨S,2,none⟩=some (.string i)/\w'.cell? ⟨S,6,none⟩=some (.string at_.id)/\w'.cell? ⟨S,7,none⟩=some (.slice ac nc cc)/\w'.cell? ⟨S,8,none⟩=some (.slice ap np cp)/\w'.cell? ⟨S,10,none⟩=some (.slice ak nk ck))
  (with_reducible assumption)
  (first
   | (go_simp;go_at_call 137;(with_reducible refine AC.out.mono ?_);rintro e w3 ⟨gu,v3,rfl,hrow3⟩;obtain ⟨a3,n3,c3,rfl⟩:=hrow3.slice3;have B3:Hid (jn9 W0.heap.size W0 w3):=(((jk6 W0.heap.size W0).drew)).trans (hrow3.aO.mono (((jk6 W0.heap.size W0).drew)).size);have AX:Hid (Rd (W0.heap.size<=·) w3 (bR (lC at_ [i])) [.slice a3 n3 c3]):=hrow3.fu.weaken (fun b hb=>jk8 (((jk6 W0.heap.size W0).drew)).size hb);have S3:=SF.out (w3) B3.out;have LC:=hid (uY.out w3 B3.out))
   | (go_simp;go_at_call 38;(with_reducible refine LC.out.mono ?_);rintro e w4 ⟨dV,v4,rfl,hrow4⟩;obtain ⟨a4,n4,c4,rfl⟩:=hrow4.slice3;have b4:=hrow4.aO;have B4:=hid (aQ B3.out b4);have gq:=hid (show Rd (W0.heap.size<=·) w4 (cO (ah.aX ks)) [.slice a4 n4 c4] from hrow4.fu.weaken (fun b hb=>jk8 B3.out.size hb));have oJ:=hid (AX.out.aY b4);have S4:=SF.out (w4) B4.out;have EC:=hid (ku ⟨#[100,105,118]⟩ a3 a4 n3 n4 c3 c4 w4))
   | (go_simp;go_at_call 40;(with_reducible refine EC.out.mono ?_);rintro e w5 ⟨rfl,b5⟩;have BL:=hid (aQ B4.out b5);obtain ⟨x0,x1,x2,x3,xf⟩:=pI (K1.out.below BL.out);have S5:=SF.out (w5) BL.out;have K6:=sD S w5 (.string ⟨#[100,105,118]⟩) (.string ⟨#[]⟩) (.slice a3 n3 c3) (.slice a4 n4 c4);have S6:=And.imp (K6 _ _) (And.imp (K6 _ _) (And.imp (K6 _ _) (And.imp (K6 _ _) (K6 _ _)))) (SF.out w5 BL.out);clear K6))
 all_goals
  have HN:=hid (show kU (W0.heap.size<=·) w5 (lC at_ [i]) (ah.aX ks) (.slice a3 n3 c3) (.slice a4 n4 c4) from ⟨oJ.out.aY b5,gq.out.aY b5⟩);clear b5 gq EC oJ hrow3 hrow4 b4 S0 S3 S4 S5 S6 AX S1;obtain ⟨w9,bM⟩:∃ w9,w9=four w5 (S+1) (.string ⟨#[100,105,118]⟩) (.string ⟨#[]⟩) (.slice a3 n3 c3) (.slice a4 n4 c4):=⟨_,rfl⟩;have hf:=fA ⟨#[100,105,118]⟩ ⟨#[]⟩ (lC at_ [i]) (ah.aX ks) HS.out Z0.out B0.out K1.out BL.out HN.out;rw [<- bM] at hf;have HC:=hid hf.1;have HP:=hid hf.2;clear hf;have hw8:=bM;simp only [four] at hw8;clear bM;obtain ⟨x0,x1,x2,x3,xf⟩:=pI (K1.out.below BL.out);go_wp2;rw [<- hw8];have r0:=HC.out.cell 0 _ rfl;have r1:=HC.out.cell 1 _ rfl;have r2:=HC.out.cell 2 _ rfl;have r3:=HC.out.cell 3 _ rfl;exact bodyPost_ret (v:=.agg #[.string ⟨#[100,105,118]⟩,.string ⟨#[]⟩,(.slice a3 n3 c3),(.slice a4 n4 c4)]) (by simp [results,Tryz.results86,go_sem,r0,r1,r2,r3]) rfl HP.out
open Go.RowKit
mutual
def ah.walk:ah->Prop
 | .mk k lv i t d ti a li ks=>(1<=k/\k<=15/\k≠11/\k≠12)/\FY i t a li/\(k=2\/k=8->0<=lv/\lv<=999999999)/\(k=10->TbW i ks)/\(k≠10->ah.kG ks)
def ah.kG:List ah->Prop
 | []=>True
 | x::l=>x.walk/\ah.kG l
end
theorem ah.zn:∀ (l:List ah),ah.kG l->∀ x∈l,x.walk
 | [],_,x,hx=>by cases hx
 | y::l,h,x,hx=>by
  rw [ah.kG] at h;rcases List.mem_cons.1 hx with rfl | hx
  ·exact h.1
  ·exact ah.zn l h.2 x hx
theorem F4 (pv:jnj) (k lv:Int) (i t d ti:ByteArray) (at_:At) (li:List aj) (ks:List ah) (vc vp vl vk:jnj) (w:jn8) (hR:kE (·<w.heap.size) w at_ li ks vc vp vl vk) (hw:(ah.mk k lv i t d ti at_ li ks).walk) (PI:k≠14) (xX:k≠15) (hl:k≠10->dU pv w ks vk) (ht:PT w) : ∃ x,(ah.mk k lv i t d ti at_ li ks).xK=[x]/\Calls Tryz.prog 86 #[pv,.agg #[.int .i64 k,.int .i64 lv,.string i,.string t,.string d,.string ti,.string at_.id,vc,vp,vl,vk]] w (sw w x):=by
 rw [ah.walk] at hw;obtain ⟨⟨g1,g2,g3,g4⟩,hs,hv,hT,-⟩:=hw;rcases (by omega:k=1\/k=2\/k=3\/k=4\/k=5\/k=6\/k=7\/k=8\/k=9\/k=10\/k=13) with rfl | rfl | rfl | rfl | rfl | rfl | rfl | rfl | rfl | rfl | rfl
 ·exact ⟨_,by rw [ah.xK];rfl,U8 pv lv i t d ti at_ li ks vc vp vl vk w hR hs (hl (by decide)) ht⟩
 ·obtain ⟨n,rfl⟩:∃ n:Nat,lv=(n:Int):=⟨lv.toNat,by have:=hv (by decide);omega⟩;exact ⟨aP (nH++fZ n) (lC at_ []) (jY li),by rw [ah.xK];rfl,Ve pv n i t d ti at_ li ks vc vp vl vk w hR hs (hl (by decide)) ht n rfl (by have:=hv (by decide);omega)⟩
 ·by_cases hi:aZ i=true
  ·exact ⟨aP J6 [] [aP iO [] (bS t)],by rw [ah.xK,hi];rfl,Qh pv lv i t d ti at_ li ks vc vp vl vk w hR hs (hl (by decide)) ht hi⟩
  ·have hi:aZ i=false:=by simpa using hi
   refine ⟨aP J6 [] [aP iO [⟨iw,DN++i⟩] (bS t)],?_,Qi pv lv i t d ti at_ li ks vc vp vl vk w hR hs (hl (by decide)) ht hi⟩;rw [ah.xK,hi];show [aP J6 [] [aP iO (jE iw (DN++i)) (bS t)]]=_;unfold jE;rw [show aZ (DN++i)=false by rw [Ip,hi,Bool.and_false]];rfl
 ·exact ⟨_,by rw [ah.xK];rfl,Vf pv lv i t d ti at_ li ks vc vp vl vk w hR hs (hl (by decide)) ht⟩
 ·exact ⟨_,by rw [ah.xK];rfl,Vd pv lv i t d ti at_ li ks vc vp vl vk w hR hs (hl (by decide)) ht⟩
 ·exact ⟨_,by rw [ah.xK];rfl,U9 pv lv i t d ti at_ li ks vc vp vl vk w hR hs (hl (by decide)) ht⟩
 ·exact ⟨_,by rw [ah.xK];rfl,Va pv lv i t d ti at_ li ks vc vp vl vk w hR hs (hl (by decide)) ht⟩
 ·by_cases h1:lv=1
  ·exact ⟨aP XO [] (ah.aX ks),by rw [ah.xK,h1];rfl,Qk pv lv i t d ti at_ li ks vc vp vl vk w hR hs (hl (by decide)) ht h1⟩
  ·obtain ⟨n,rfl⟩:∃ n:Nat,lv=(n:Int):=⟨lv.toNat,by have:=hv (by decide);omega⟩;refine ⟨aP XO [⟨sStart,fZ n⟩] (ah.aX ks),?_,Ql pv n i t d ti at_ li ks vc vp vl vk w hR hs (hl (by decide)) ht n rfl (by have:=hv (by decide);omega) h1⟩;rw [ah.xK];show [aP XO (if (n:Int)=1 then [] else [⟨sStart,fZ n⟩]) (ah.aX ks)]=_;rw [if_neg h1]
 ·exact ⟨_,by rw [ah.xK];rfl,Vb pv lv i t d ti at_ li ks vc vp vl vk w hR hs (hl (by decide)) ht⟩
 ·exact ⟨eP i ks,by rw [ah.xK];rfl,Qg pv lv i t d ti at_ li ks vc vp vl vk w hR hs ht (hT rfl)⟩
 ·exact ⟨_,by rw [ah.xK];rfl,Qm pv lv i t d ti at_ li ks vc vp vl vk w hR hs (hl (by decide)) ht⟩
theorem vv:∀ (l:List ah),(ah.aX l).length<=l.length
 | []=>by simp [ah.aX]
 | x::l=>by
  have h:=vv l;rw [ah.aX,jkk,List.length_cons];have h2:x.xK.length<=1:=by
   obtain ⟨k,lv,i,t,d,ti,a,li,ks⟩:=x;rw [ah.xK]
   (repeat' split)<;>simp
  omega
def DR (w:jn8) (l:List ah) (v vi:jnj) (wr:jn8):Prop:=
 ∃ (k:Nat) (rows:List (List jnj)),k<=l.length/\vi=.int .i64 k/\aB 35 4 (fun _=>False) wr.heap.size w ((ah.aX (l.take k)).map Nd.d) rows v wr
theorem sF (pv:jnj) (n:Nat):∀ (l:List ah) (v:jnj) (w:jn8),ah.aU l<=n->n<=900000->Rd (·<w.heap.size) w (iU l) [v]->ah.kG l->PT w -> Calls Tryz.prog 38 #[pv,v] w (dh w (ah.aX l)):=by
 induction n using Nat.strongRecOn with
 | _ n ih=>
  intro l v w hn hnm hrd hwk ht;obtain ⟨iN,Fv,nX,nY,nZ⟩:=info_parts mE;obtain ⟨ak,ck,hvk,hs⟩:=Rd.ay hrd;obtain ⟨nk,hnk⟩:∃ nk,nk=l.length:=⟨_,rfl⟩;obtain rfl:v=.slice ak nk ck:=by rw [hnk];simpa using hvk
  have hcap:nk<=ck:=by have:=hs.le;rw [jkq] at this;omega
  have hmx:=hs.max;unfold maxLen at hmx;have YP:nk<=900000:=by have:=ah.dn l;omega
  have HS2:=hid hs;have Iq:=hid hnk;have HWK:=hid (ah.zn l hwk);have qE:=hid ht;have IH:=hid ih;have YQ:=hid (And.intro hn hnm);have R0:Hid (DR w l (.slice none 0 0) (.int .i64 0) w):=⟨0,[],Nat.zero_le _,rfl,aB.nil _ _ _ _⟩;clear hrd hvk hs hnk hwk ht ih hn hnm;go_enter Tryz.func38,Tryz.ntmps38;go_wp2
  go_loopw [5,10] (fun v vi wr=>DR w l v vi wr) (fun _ vi _=>nk-(intOf vi).toNat)
  case atStart=>exact R0.out
  case round=>
   clear R0;obtain ⟨j,rows,hj,rfl,hrow⟩:=hrel;obtain ⟨ds,hds⟩:∃ ds,ds=(ah.aX (l.take j)).map Nd.d:=⟨_,rfl⟩;rw [<- hds] at hrow;obtain ⟨m,hm⟩:∃ m,m=ds.length:=⟨_,rfl⟩;have hmj:m<=1000000:=by have h:=vv (l.take j);have h2:(l.take j).length<=l.length:=List.length_take_le' _ _;rw [hm,hds,jkq];have:=Iq.out;omega
   obtain ⟨av,cv,rfl,-,-⟩:=hrow.cap hm.symm;have HM:=hid hm.symm;have Fu:=hid hds.symm;have bV:=hid hrow;clear hrow hm hds;by_cases hlt:j<nk
   ·obtain ⟨y,hy⟩:∃ y,l[j]?=some y:=⟨_,jk5 (by have:=Iq.out;omega)⟩;have hsn:=zo l j y hy;have hwy:=HWK.out y (List.mem_of_getElem? hy);have hsz:=ah.bq l j y hy;obtain ⟨yk,Ir,yi,yt,yd,Iu,F5,J7,Iw⟩:=y;obtain ⟨ga,off,vc,vp,vl,vk,rfl,hok,hbl,hc,hR⟩:=F6 HS2.out hy;obtain ⟨c0,c1,c2,c3,c4,c5,c6,c7,c8,c9,c10⟩:=hc.at2 (w':=wr) (bV.out.aO.block ga hok);obtain ⟨Ms,Mt,Mv,rfl⟩:=Rd.au hR.at_.cls
    obtain ⟨Mw,Mx,MB,rfl⟩:=Rd.au hR.at_.aI
    obtain ⟨Ct,Cu,Cv,rfl⟩:=Rd.au hR.line;obtain ⟨MC,ME,MF,rfl⟩:=Rd.au hR.kids;have HR:=hid hR;have HWY:=hid hwy;have Iy:=hid hsz;clear hok hbl hc hR hwy hy hsz;go_upto_region 5 with (fail)
    obtain ⟨p,hp⟩:∃ p,p=wr.heap.size:=⟨_,rfl⟩;obtain ⟨wA,iE⟩:∃ wA,wA=wr.alloc (.cells #[.int .i64 yk,.int .i64 Ir,.string yi,.string yt,.string yd,.string Iu,.string F5.id,.slice Ms Mt Mv,.slice Mw Mx MB,.slice Ct Cu Cv,.slice MC ME MF] 48):=⟨_,rfl⟩;have PA:CB 48 p [.int .i64 yk,.int .i64 Ir,.string yi,.string yt,.string yd,.string Iu,.string F5.id,.slice Ms Mt Mv,.slice Mw Mx MB,.slice Ct Cu Cv,.slice MC ME MF] wA:=by rw [iE,hp];exact CB.new _ _ wr
    have bA:jn9 wr.heap.size wr wA:=by rw [iE];exact (jk6 _ _).alloc (jk7 _) _
    rw [<- iE,<- hp];have BA:=hid bA;have XP:jn9 w.heap.size w wA:=bV.out.aO.trans (bA.mono bV.out.aO.size);have d0:=PA.cell 0 _ rfl;have d1:=PA.cell 1 _ rfl;have d2:=PA.cell 2 _ rfl;have d3:=PA.cell 3 _ rfl;have d4:=PA.cell 4 _ rfl;have d5:=PA.cell 5 _ rfl;have d6:=PA.cell 6 _ rfl;have d7:=PA.cell 7 _ rfl;have d8:=PA.cell 8 _ rfl;have d9:=PA.cell 9 _ rfl;have d10:=PA.cell 10 _ rfl;have B0A:=hid XP;have hpw:wr.heap.size<=wA.heap.size:=bA.size;clear iE hp c0 c1 c2 c3 c4 c5 c6 c7 c8 c9 c10 PA bA XP;by_cases PI:yk=14
    ·have q14:(yk==14)=true:=by rw [PI];rfl
     subst PI;have rX:Hid ((ah.aX (l.take (j+1))).map Nd.d=ds):=by show _=_;rw [hsn,jl7,Fu.out];show ds++(ah.xK _).map Nd.d=ds;rw [ah.xK];exact jn5 _
     have HF:Hid (DR w l (.slice av m cv) (.int .i64 ((j+1:Nat):Int)) wA):=⟨j+1,_,by have:=Iq.out;omega,rfl,by rw [rX.out];exact (bV.out.below BA.out).top⟩;clear hsn;go_wp2;go_roundw;case rel=>exact HF.out
     case measure=>simp [intOf];omega
    by_cases xX:yk=15
    ·have q14:(yk==14)=false:=by rw [xX];rfl
     have XJ:(yk==15)=true:=by rw [xX];rfl
     subst xX;have rX:Hid ((ah.aX (l.take (j+1))).map Nd.d=ds):=by show _=_;rw [hsn,jl7,Fu.out];show ds++(ah.xK _).map Nd.d=ds;rw [ah.xK];exact jn5 _
     have HF:Hid (DR w l (.slice av m cv) (.int .i64 ((j+1:Nat):Int)) wA):=⟨j+1,_,by have:=Iq.out;omega,rfl,by rw [rX.out];exact (bV.out.below BA.out).top⟩;clear hsn;go_wp2;go_roundw;case rel=>exact HF.out
     case measure=>simp [intOf];omega
    have q14:(yk==14)=false:=by rw [beq_eq_false_iff_ne];exact PI
    have XJ:(yk==15)=false:=by rw [beq_eq_false_iff_ne];exact xX
    have hRA:kE (·<wA.heap.size) wA F5 J7 Iw (.slice Ms Mt Mv) (.slice Mw Mx MB) (.slice Ct Cu Cv) (.slice MC ME MF):=kE.DL HR.out (fun b (hb:b<w.heap.size) hlt=>⟨by show b<wA.heap.size;have:=B0A.out.size;omega,B0A.out.block b hb⟩);have hw2:=HWY.out;rw [ah.walk] at hw2;obtain ⟨x,hx,hcall⟩:=F4 pv yk Ir yi yt yd Iu F5 J7 Iw _ _ _ _ wA hRA HWY.out PI xX (fun h10 W hW=>IH.out (ah.aU Iw) (by have:=Iy.out;rw [ah.sz] at this;have:=YQ.out;omega) Iw _ W (jk7 _) (by have:=Iy.out;rw [ah.sz] at this;have:=YQ.out;omega) (Rd.keep (w:=wA) (w':=W) (ok:=(·<wA.heap.size)) (fun b (hb:b<wA.heap.size) hlt=>⟨by show b<W.heap.size;have:=hW.size;omega,hW.block b hb⟩) _ _ hRA.kids) (hw2.2.2.2.2 h10) ((qE.out.below B0A.out).below hW)) (qE.out.below B0A.out);obtain ⟨xn,xt,xa,Cw⟩:=x;have rX:=hid (show (ah.aX (l.take (j+1))).map Nd.d=ds++[(Nd.mk xn xt xa Cw).d] by rw [hsn,hx,jl7,Fu.out];rfl);have YR:=hid hcall;clear hsn hx hcall hRA hw2;go_wp2_with fail
    (with_reducible refine YR.out.mono ?_)
    rintro e w2 ⟨va,vk,he,hR2,hb2⟩;obtain ⟨aA,nA,cA,rfl⟩:=Rd.au hR2.at_
    obtain ⟨aK,nK,cK,rfl⟩:=Rd.au hR2.ks;have he:e=.returned (.agg #[.string xn,.string xt,.slice aA nA cA,.slice aK nK cK]):=he;subst he;have U2:=hid ((bV.out.below BA.out).below hb2);have XD:=hid ((Nd.dS xn xt hR2).weaken (ok':=fun b=>False\/wr.heap.size<=b) (fun b hb=>.inr (jk8 hpw hb)));clear YR hR2 hb2 d0 d1 d2 d3 d4 d5 d6 d7 d8 d9 d10;go_wp2_with (at_builtin;refine SV rfl _ _ 28 rfl iN _ 80 Tryz.underlying28 Fv nX nY nZ rfl (by decide) U2.out (fun _=>False.elim) (Nd.mk xn xt xa Cw).d [.string xn,.string xt,.slice aA nA cA,.slice aK nK cK] XD.out rfl jH HM.out (by omega) (by decide) rfl rfl ?_)
    intro a' c' w5 hrow hg5;have HF:Hid (DR w l (.slice a' (m+1) c') (.int .i64 ((j+1:Nat):Int)) w5):=⟨j+1,_,by have:=Iq.out;omega,rfl,by rw [rX.out];exact hrow⟩;clear hrow hg5 XD U2 bV;go_wp2;go_roundw;case rel=>exact HF.out
    case measure=>simp [intOf];omega
   ·have hjl:j=l.length:=by have:=Iq.out;omega
    have HP:Hid (dh w (ah.aX l) (.returned (.slice av m cv)) wr):=by refine ⟨rows,_,rfl,?_⟩;have h:=bV.out;rw [<- Fu.out,hjl,jlq] at h;exact h
    clear hjl;go_wp2;go_ret;exact HP.out
theorem qJ:∀ (l:List ah),ah.aF l->∀ x∈l,x.small
 | [],_,x,hx=>by cases hx
 | y::l,h,x,hx=>by
  rw [ah.aF] at h;rcases List.mem_cons.1 hx with rfl | hx
  ·exact h.1
  ·exact qJ l h.2 x hx
theorem oK {x:ah} (h:x.small):ah.aF x.kids/\aj.aF x.mG/\aj.aU x.mG<=120:=by obtain ⟨k,lv,i,t,d,ti,a,li,ks⟩:=x;rw [ah.small] at h;exact ⟨h.2.2.2.2.2.2.2,h.2.2.2.2.2.1,h.2.2.2.2.2.2.1⟩
theorem YS (l:List ah) (x:ah) (hx:x∈l):x.sz<=ah.aU l:=by obtain ⟨j,hj⟩:=List.mem_iff_getElem?.1 hx;exact ah.bq l j x hj
theorem MG (x:ah):x.kids.length<=x.sz:=by obtain ⟨k,lv,i,t,d,ti,a,li,ks⟩:=x;have:=ah.dn ks;rw [ah.sz];show ks.length<=_;omega
mutual
theorem ah.Qn (cl:ByteArray->Bool):∀ (b:ah) (par:Int) (dp:Nat),b.err cl par dp=0->b.MH->b.small->b.sz<=900000->b.walk
 | .mk k lv i t d ti a li ks,par,dp,he,hh,hs,hz=>by
  obtain ⟨h2,hbf,h3⟩:=kI cl he;rw [ah.MH] at hh;obtain ⟨g1,g2,g3,g4,g5,g6,g7,g8⟩:=hh;rw [ah.small] at hs;obtain ⟨s1,s2,s3,s4,s5,s6,s7,s8⟩:=hs;rw [ah.sz] at hz;have hk:1<=k/\k<=15:=by unfold Cq at hbf;simp only [Bool.and_eq_true,decide_eq_true_iff] at hbf;obtain ⟨⟨⟨⟨⟨⟨⟨⟨h1,h2⟩,-⟩,-⟩,-⟩,-⟩,-⟩,-⟩,-⟩:=hbf;exact ⟨h1,h2⟩
  rw [ah.walk];refine ⟨⟨hk.1,hk.2,g6,g7⟩,⟨s1,s2,s5,⟨by omega,s6,g1⟩⟩,g2,fun h10=>⟨(g3 h10).1,by have:=ah.dn ks;omega,fun r hr=>?_⟩,fun h10=>ah.pK cl ks k (dp+1) h3 (g8 h10) s8 (by omega)⟩;have hr2:=oK (qJ ks s8 r hr);have hr3:=YS ks r hr;have hr4:=MG r;refine ⟨((g3 h10).2 r hr).1,by omega,fun c hc=>?_⟩;have hc2:=oK (qJ r.kids hr2.1 c hc);exact ⟨by omega,hc2.2.1,((g3 h10).2 r hr).2 c hc⟩
theorem ah.pK (cl:ByteArray->Bool):∀ (l:List ah) (par:Int) (dp:Nat),ah.aR cl par dp l=0->ah.sG l->ah.aF l->ah.aU l<=900000->ah.kG l
 | [],_,_,_,_,_,_=>by rw [ah.kG];trivial
 | x::l,par,dp,he,hh,hs,hz=>by
  rw [ah.aR] at he;rw [ah.sG] at hh;rw [ah.aF] at hs;rw [ah.aU] at hz;rw [ah.kG];by_cases h1:x.err cl par dp≠0
  ·rw [if_pos h1] at he;exact absurd he h1
  ·rw [if_neg h1] at he;exact ⟨ah.Qn cl x par dp (Classical.not_not.1 h1) hh.1 hs.1 (by omega),ah.pK cl l par dp he hh.2 hs.2 (by omega)⟩
end
open Go.RowKit
open Go.RowKit
open Go.RowKit
open Go.RowKit
def vw (W1:jn8) (f:Nat->List ByteArray) (n:Nat) (v vi:jnj) (wr:jn8):Prop:=∃ k:Nat,k<=n/\vi=.int .i64 k/\wr.ownsRow W1.heap.size 9 1 v (f k).length ((f k).map Value.string)/\jn9 W1.heap.size W1 wr
theorem yj (key:ByteArray) (N:Nat):∀ (x:Nd) (va vk:jnj) (w:jn8),x.sz<=N->(x.vals key).length<=1000000->kU (·<w.heap.size) w x.at_ x.ks va vk -> Calls Tryz.prog 56 #[.agg #[.string x.nm,.string x.tx,va,vk],.string key] w (pO w (x.vals key)):=by
 induction N using Nat.strongRecOn with
 | _ N ih=>
  intro x va vk w hN hpl hA;obtain ⟨i0,hi0,hz0,hz1,hz2⟩:=info_parts Iz;obtain ⟨nm,tx,at_,ks⟩:=x;dsimp only [Nd.nm,Nd.tx,Nd.at_,Nd.ks] at hA ⊢;obtain ⟨a1,c1,h1,s1⟩:=Rd.ay hA.at_
  obtain ⟨a2,c2,h2,s2⟩:=Rd.ay hA.ks;obtain ⟨n1,hn1⟩:∃ n,n=at_.length:=⟨_,rfl⟩
  obtain ⟨n2,hn2⟩:∃ n,n=ks.length:=⟨_,rfl⟩;obtain rfl:va=.slice a1 n1 c1:=by rw [hn1];simpa using h1
  obtain rfl:vk=.slice a2 n2 c2:=by rw [hn2];simpa using h2
  have l1:=s1.le;have l2:=s2.le;rw [jkq,<- hn1] at l1;rw [jkq,<- hn2] at l2;have m1:=s1.max;have m2:=s2.max;unfold maxLen at m1 m2;rw [Nd.sz] at hN;have hks:=Nd.bq ks;obtain ⟨S,hS⟩:∃ S,S=w.heap.size:=⟨_,rfl⟩;obtain ⟨W1,hW1⟩:∃ W,W=w.alloc (.cells #[.string nm,.string tx,.slice a1 n1 c1,.slice a2 n2 c2] 35):=⟨_,rfl⟩;have k0:CB 35 S [.string nm,.string tx,.slice a1 n1 c1,.slice a2 n2 c2] W1:=by rw [hW1,hS];exact CB.new _ _ w
  have bW:jn9 w.heap.size w W1:=by rw [hW1];exact (jk6 _ _).alloc (jk7 _) _
  have CL:Hid (∀ w':jn8,jn9 W1.heap.size W1 w'->w'.cell? ⟨S,2,none⟩=some (.slice a1 n1 c1)/\w'.cell? ⟨S,3,none⟩=some (.slice a2 n2 c2)):=fun w' hb=>⟨(k0.below hb).cell 2 _ rfl,(k0.below hb).cell 3 _ rfl⟩
  have e0:=k0.cell 0 _ rfl;have Ta:nm.toList.isEmpty=aZ nm:=by rw [Lib.toList_data,Bool.eq_iff_iff,List.isEmpty_iff,aZ,decide_eq_true_iff]
  have H1:=hid s1;have H2:=hid s2;have IH:=hid ih;have HKS:=hid hks;have BW:=hid bW;have Qo:=hid hn1;have SN:=hid hn2;have HN:=hid hN;have hv0:(Nd.mk nm tx at_ ks).vals key=if aZ nm=true then [] else fv key at_++Nd.bT key ks:=by rw [Nd.vals];rfl
  clear hA h1 h2 s1 s2 ih hks k0 bW hn1 hn2 hN;by_cases hne:aZ nm=true
  ·rw [hne] at Ta;have HF:Hid ((Nd.mk nm tx at_ ks).vals key=[]):=by show _=_;rw [hv0,if_pos hne]
   clear hne hv0 hpl;go_enter Tryz.func56,Tryz.ntmps56;go_upto_region 2 with (fail)
   rw [<- hW1,<- hS];clear hW1 hS;go_wp2;go_ret;exact ⟨.slice none 0 0,rfl,by rw [HF.out];exact World.ownsRow_nil _ _ _ _,BW.out⟩
  ·have hne:aZ nm=false:=by simpa using hne
   rw [hne] at Ta;have HF:Hid ((Nd.mk nm tx at_ ks).vals key=fv key at_++Nd.bT key ks):=by show _=_;rw [hv0,if_neg (by rw [hne];decide)]
   rw [HF.out,jkk] at hpl;have LD:=hid hpl;have R0:Hid (vw W1 (fun k=>fv key (at_.take k)) n1 (.slice none 0 0) (.int .i64 0) W1):=⟨0,Nat.zero_le _,rfl,World.ownsRow_nil _ _ _ _,jk6 _ _⟩;clear hne hv0 hpl;go_enter Tryz.func56,Tryz.ntmps56;go_upto_region 2 with (fail)
   rw [<- hW1,<- hS];clear hW1 hS;go_wp2
   go_loopw [5,6] (fun v vi wr=>vw W1 (fun k=>fv key (at_.take k)) n1 v vi wr) (fun _ i _=>n1-(intOf i).toNat)
   case atStart=>exact R0.out
   case round=>
    clear R0 e0 Ta;obtain ⟨j,hj,rfl,hown,hbel⟩:=hrel;obtain ⟨e2,e3⟩:=CL.out _ hbel;have hfl:=Vh key at_ j
    obtain ⟨m,hm⟩:∃ m,m=(fv key (at_.take j)).length:=⟨_,rfl⟩;have hm1:m<=1000000:=by have:=LD.out;omega
    dsimp only at hown;rw [<- hm] at hown;obtain ⟨av,cv,rfl⟩:=ug hown;have HOW:=hid hown;have HB:=hid hbel;have HM:=hid hm;have hsz:=hbel.size;clear hown hbel hm hfl;by_cases hlt:j<n1
    ·obtain ⟨y,hy⟩:∃ y,at_[j]?=some y:=⟨_,jk5 (by have:=Qo.out;omega)⟩
     have hsn:=Qp key at_ j y hy
     obtain ⟨g1,o1,rfl,-,hg1,k1,k2⟩:=oI H1.out hy;have MI:=BW.out.trans (HB.out.mono BW.out.size);have r1:wr.cell? ⟨g1,o1+j*2,none⟩=some (.string y.key):=(MI.cell (p:=⟨g1,_,none⟩) hg1).trans k1;have r2:wr.cell? ⟨g1,o1+j*2+1,none⟩=some (.string y.val):=(MI.cell (p:=⟨g1,_,none⟩) hg1).trans k2;clear hy k1 k2 MI;obtain ⟨yk,yv⟩:=y;dsimp only at r1 r2 hsn;by_cases hkey:yk=key
     ·subst hkey;have hq:(yk.toList==yk.toList)=true:=by simp
      have rX:=hid (show fv yk (at_.take (j+1))=fv yk (at_.take j)++[yv] by rw [hsn,if_pos rfl]);clear hsn;go_wp2_with (at_builtin;refine wpList_append_own_at _ rfl _ _ 43 rfl W1.heap.size 9 i0 _ 1 16 Tryz.underlying43 hi0 hz0 hz1 hz2 rfl (by decide) _ _ _ rfl (HOW.out.alloc _) ⟨wr.heap.size,0,none⟩ 1 1 [.string yv] rfl rfl (Qq wr (.string yv) 9) (by intro u hu;simp at hu;subst hu;rfl) (by unfold maxLen;omega) (by omega) (by simp;omega) ?_)
      intro v2 w3 hown3 hg3 _ vB;obtain ⟨a3,c3,rfl⟩:=ug hown3;have YT:Hid (vw W1 (fun k=>fv yk (at_.take k)) n1 (.slice a3 (m+1) c3) (.int .i64 ((j+1:Nat):Int)) w3):=⟨j+1,by omega,rfl,by
       show w3.ownsRow _ _ _ _ (fv yk (at_.take (j+1))).length ((fv yk (at_.take (j+1))).map Value.string);rw [rX.out,jkk,List.length_singleton,<- HM.out,jl7];exact hown3,(HB.out.alloc hsz _).grown hg3 (by simp;omega) (fun b hb=>(HOW.out.lt b hb).1)⟩
      clear hown3 hg3 vB r1 r2;go_wp2;go_roundw;case rel=>exact YT.out
      case measure=>simp [intOf];omega
     ·have hq:(yk.toList==key.toList)=false:=by
       rw [beq_eq_false_iff_ne];intro e;rw [Lib.toList_data,Lib.toList_data] at e;exact hkey (ByteArray.ext (Array.toList_inj.1 e))
      have rX:=hid (show fv key (at_.take (j+1))=fv key (at_.take j) by rw [hsn,if_neg hkey,jn5]);have YT:Hid (vw W1 (fun k=>fv key (at_.take k)) n1 (.slice av m cv) (.int .i64 ((j+1:Nat):Int)) wr):=⟨j+1,by omega,rfl,by
       show wr.ownsRow _ _ _ _ (fv key (at_.take (j+1))).length ((fv key (at_.take (j+1))).map Value.string);rw [rX.out,<- HM.out];exact HOW.out,HB.out⟩
      clear hsn hkey;go_wp2;go_roundw;case rel=>exact YT.out
      case measure=>simp [intOf];omega
    ·have hjl:j=at_.length:=by have:=Qo.out;omega
     have R2:Hid (vw W1 (fun k=>fv key at_++Nd.bT key (ks.take k)) n2 (.slice av m cv) (.int .i64 0) wr):=⟨0,Nat.zero_le _,rfl,by
      have h:=HOW.out;rw [HM.out,hjl,jlq] at h;show wr.ownsRow _ _ _ _ (fv key at_++Nd.bT key []).length ((fv key at_++Nd.bT key []).map Value.string);rw [Nd.bT,jn5];rw [HM.out,hjl,jlq];exact h,HB.out⟩
     obtain ⟨wq,hwq⟩:∃ wq:jn8,wq=wr:=⟨_,rfl⟩;subst hwq;clear hjl HM HOW HB;go_wp2
     go_loopw [5,7] (fun v vi wr=>vw W1 (fun k=>fv key at_++Nd.bT key (ks.take k)) n2 v vi wr) (fun _ i _=>n2-(intOf i).toNat)
     case atStart=>exact R2.out
     case round=>
      clear R2 e2 e3;obtain ⟨q,hq,rfl,hown,hbel⟩:=hrel;obtain ⟨e2,e3⟩:=CL.out _ hbel;have hvl:=zq key ks q;obtain ⟨m,hm⟩:∃ m,m=(fv key at_++Nd.bT key (ks.take q)).length:=⟨_,rfl⟩;have hm1:m<=1000000:=by have:=LD.out;rw [hm,jkk];omega
      dsimp only at hown;rw [<- hm] at hown;obtain ⟨av,cv,rfl⟩:=ug hown;have HOW:=hid hown;have HB:=hid hbel;have HM:=hid hm;have hsz:=hbel.size;clear hown hbel hm hvl;by_cases hlt:q<n2
      ·obtain ⟨y,hy⟩:∃ y,ks[q]?=some y:=⟨_,jk5 (by have:=SN.out;omega)⟩;have jd6:=HKS.out q y hy;have hsn:=F7 key ks q y hy;have hle:=zq key ks (q+1);rw [hsn,jkk] at hle;obtain ⟨yn,yt,ya,yk⟩:=y;obtain ⟨g1,o1,u1,u2,rfl,-,hg1,x0,x1,x2,x3,hR1⟩:=F8 H2.out hy;obtain ⟨i1,i2,i3,rfl⟩:=Rd.au hR1.at_
       obtain ⟨i4,i5,i6,rfl⟩:=Rd.au hR1.ks;have MI:=BW.out.trans (HB.out.mono BW.out.size);have y0:wr.cell? ⟨g1,o1+q*4,none⟩=some (.string yn):=(MI.cell (p:=⟨_,_,none⟩) hg1).trans x0;have y1:wr.cell? ⟨g1,o1+q*4+1,none⟩=some (.string yt):=(MI.cell (p:=⟨_,_,none⟩) hg1).trans x1;have y2:wr.cell? ⟨g1,o1+q*4+2,none⟩=some (.slice i1 i2 i3):=(MI.cell (p:=⟨_,_,none⟩) hg1).trans x2;have y3:wr.cell? ⟨g1,o1+q*4+3,none⟩=some (.slice i4 i5 i6):=(MI.cell (p:=⟨_,_,none⟩) hg1).trans x3;have IC:Hid (Calls Tryz.prog 56 #[.agg #[.string yn,.string yt,.slice i1 i2 i3,.slice i4 i5 i6],.string key] wr (pO wr ((Nd.mk yn yt ya yk).vals key))):=
        IH.out (Nd.mk yn yt ya yk).sz (by have:=HN.out;omega) (Nd.mk yn yt ya yk) _ _ wr (jk7 _) (by have:=LD.out;omega) (hR1.keep (fun b (hb:b<w.heap.size) _=>⟨Nat.lt_of_lt_of_le hb MI.size,MI.block b hb⟩))
       obtain ⟨Y,hY⟩:∃ Y,Y=(Nd.mk yn yt ya yk).vals key:=⟨_,rfl⟩;have HAY:=hid (show fv key at_++Nd.bT key (ks.take (q+1))=(fv key at_++Nd.bT key (ks.take q))++Y by rw [hsn,List.append_assoc,hY]);have hYl:Y.length<=1000000:=by rw [hY];have:=LD.out;omega
       rw [<- hY] at IC;clear hy jd6 hsn hle x0 x1 x2 x3 hR1 MI hY;go_wp2_with fail
       (with_reducible refine IC.out.mono ?_)
       rintro e w2 ⟨v2,rfl,hown2,b2⟩;obtain ⟨M,hM⟩:∃ M,M=Y.length:=⟨_,rfl⟩;rw [<- hM] at hown2 hYl;obtain ⟨a2',c2',rfl⟩:=ug hown2;have OW2:=hid (XQ HOW.out b2);have B2:=hid (aQ HB.out b2);have jik:=b2.size;have RD2:=hid (Reads.Av hown2);have ON2:Hid (∀ u∈Y.map Value.string,u.oneCell'=true):=fun u hu=>by
        obtain ⟨s,-,rfl⟩:=List.mem_map.1 hu;rfl
       have HMY:=hid hM;clear IC hown2 b2 y0 y1 y2 y3 hM;go_wp2_with (at_builtin;refine Py _ rfl (.tmp 43) (.tmp 50) 43 rfl W1.heap.size 9 i0 _ 1 16 Tryz.underlying43 hi0 hz0 hz1 hz2 rfl (by decide) (.slice av m cv) m _ rfl OW2.out w2.heap.size a2' M c2' (Y.map Value.string) rfl RD2.out ON2.out ?k3 ?k4 ?k5 ?_)
       case k3=>unfold maxLen;omega
       case k4=>omega
       case k5=>omega
       intro v3 w3 hown3 hg3 _;obtain ⟨a3,c3,rfl⟩:=ug hown3;have YT:Hid (vw W1 (fun k=>fv key at_++Nd.bT key (ks.take k)) n2 (.slice a3 (m+M) c3) (.int .i64 ((q+1:Nat):Int)) w3):=⟨q+1,by omega,rfl,by
        show w3.ownsRow _ _ _ _ (fv key at_++Nd.bT key (ks.take (q+1))).length ((fv key at_++Nd.bT key (ks.take (q+1))).map Value.string);rw [HAY.out,jkk,<- HM.out,<- HMY.out,jl7,jl7,List.append_assoc];exact hown3,B2.out.grown hg3 (by omega) (fun b hb=>(OW2.out.lt b hb).1)⟩
       clear hown3 hg3 RD2 ON2;go_wp2;go_roundw;case rel=>exact YT.out
       case measure=>simp [intOf];omega
      ·have YU:q=ks.length:=by have:=SN.out;omega
       have HFN:Hid (pO w ((Nd.mk nm tx at_ ks).vals key) (.returned (.slice av m cv)) wr):=by refine ⟨_,rfl,?_,BW.out.trans (HB.out.mono BW.out.size)⟩;have h:=HOW.out;rw [HM.out,YU,jlq,<- HF.out] at h;rw [HM.out,YU,jlq,<- HF.out];exact DU h BW.out.size
       clear YU;go_wp2;go_ret;exact HFN.out
end Go.Proofs.YtkfnkeflalcphaaGreatDoor

