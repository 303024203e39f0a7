/- Contract of publisherref34.one, given that of nodes at the Kids. Contract of publisherref34.nodes: the nodes of inlines; plain part: the classes of well-formed inlines are not empty. Contracts of html.unresolved and publisherref34.unresolved. Contract of (*html.builder).block, kind by kind: the node of a block. Contracts of (*html.builder).block and (*html.builder).blocks: the nodes of blocks. Plain part: a well-formed, small document without unresolved inlines is one that the walk of html.Blocks asks. Contract of publisherref34.row. A literal of one node, whose data are newer than a world, is a row of one's own since that world. Contract of publisherref34.block, kind by kind: the nodes of a block. -/
import Derived.Test.YtclikfjalmcoaaaGreatDoorKNdL
set_option maxHeartbeats 4000000
set_option maxRecDepth 100000
open Go.Lib (hid)
namespace Go.Proofs.YtclikfjalmcoaaaGreatDoor
open Go.RowKit.Below renaming refl->je7
open Nat renaming le_trans->je9
open Go renaming World->jh9,Value->jhk
open Go.RowKit renaming Below->jhj
open Go.RowKit
set_option linter.unusedVariables false
set_option linter.unusedSimpArgs false
open Go.RowKit
open Go.RowKit
def O7 (w:jh9) (l:List aj) (vi:jhk) (wr:jh9):Prop:=∃ k:Nat,k<=l.length/\vi=.int .i64 k/\(l.take k).any iB=false/\jhj w.heap.size w wr
def QK (w:jh9) (b:Bool) (e:Ending) (w':jh9):Prop:=e=.returned (.bool b)/\jhj w.heap.size w w'
theorem Ba {l:List aj} {k:Nat} {x:aj} (hx:l[k]?=some x) (h:iB x=true):l.any iB=true:=List.any_eq_true.2 ⟨x,List.mem_of_getElem? hx,h⟩
theorem yG {l:List aj} {k:Nat} {x:aj} (hx:l[k]?=some x) (h:iB x=false) (hk:(l.take k).any iB=false):(l.take (k+1)).any iB=false:=by rw [List.take_add_one,hx,List.any_append,hk];simp [h]
theorem tq (l:List aj) (ok:Nat->Prop) (v:jhk) (w:jh9) (hrd:Rd ok w (bD l) [v]):Calls Tryz.prog 48 #[v] w (QK w (l.any iB)):=by
 obtain ⟨a,cap,hv,hs⟩:=Rd.aC hrd;obtain rfl:v=.slice a l.length cap:=by simpa using hv
 have hcap:l.length<=cap:=by simpa using hs.le
 have hmx:=hs.max;unfold maxLen at hmx;have HS:=hid hs;have R0:Hid (O7 w l (.int .i64 0) w):=⟨0,Nat.zero_le _,rfl,by simp,je7 _ _⟩;clear hs hv hrd;go_enter Tryz.func48,Tryz.ntmps48;go_wp2
 go_loopw [7] (fun vi wr=>O7 w l vi wr) (fun i _=>l.length-(intOf i).toNat)
 case atStart=>exact R0.out
 case round=>
  clear R0;obtain ⟨k,hk,rfl,hany,hbel⟩:=hrel;have HK:=hid hany;clear hany;by_cases hlt:k<l.length
  ·obtain ⟨x,hx⟩:∃ x,l[k]?=some x:=⟨_,List.getElem?_eq_getElem hlt⟩;obtain ⟨kd,t,d,ti,at_,ar,ci,ks⟩:=x;obtain ⟨g,off,vc,vp,va,vi,vk,rfl,hok,hbl,hc,hR⟩:=iy HS.out hx;obtain ⟨c0,c1,c2,c3,c4,c5,c6,c7,c8,c9⟩:=hc.below hbel;obtain ⟨ac,nc,cc,rfl⟩:=Rd.au hR.at_.cls
   obtain ⟨ap,np,cp,rfl⟩:=Rd.au hR.at_.aP
   obtain ⟨aa,na,ca,rfl⟩:=Rd.au hR.args;obtain ⟨ai,ni,rP,rfl⟩:=Rd.au hR.iq;obtain ⟨ak,nk,ck,rfl⟩:=Rd.au hR.kids;have HX:=hid hx;have qe:=tu t;obtain ⟨p,hp⟩:∃ p,p=wr.heap.size:=⟨_,rfl⟩;obtain ⟨wA,gW⟩:∃ wA,wA=wr.alloc (.cells #[.int .i64 kd,.string t,.string d,.string ti,.string at_.id,.slice ac nc cc,.slice ap np cp,.slice aa na ca,.slice ai ni rP,.slice ak nk ck] 51):=⟨_,rfl⟩;have PA:PB p [.int .i64 kd,.string t,.string d,.string ti,.string at_.id,.slice ac nc cc,.slice ap np cp,.slice aa na ca,.slice ai ni rP,.slice ak nk ck] wA:=by rw [gW,hp];exact heap_alloc_new wr _
   have vR:Hid (jhj w.heap.size w wA):=by rw [gW];exact hbel.alloc hbel.size _
   clear hc hok hbl hR hx hbel;go_upto_region 4 with (fail)
   rw [<- gW,<- hp];obtain ⟨e0,e1,-,-,-,-,-,-,-,-⟩:=Jw PA;clear gW hp PA c0 c1 c2 c3 c4 c5 c6 c7 c8 c9;by_cases wh:kd=15
   ·subst wh;have HT:=hid (Ba HX.out (show iB (aj.mk 15 t d ti at_ ar ci ks)=true by unfold iB;simp));clear HX;go_wp2;go_ret;exact ⟨by rw [HT.out];rfl,vR.out⟩
   by_cases DN:kd=13
   ·subst DN;have HT:=hid (Ba HX.out (show iB (aj.mk 13 t d ti at_ ar ci ks)=true by unfold iB;simp));clear HX;go_wp2;go_ret;exact ⟨by rw [HT.out];rfl,vR.out⟩
   by_cases DR:kd=14
   ·subst DR;have HT:=hid (Ba HX.out (show iB (aj.mk 14 t d ti at_ ar ci ks)=true by unfold iB;simp));clear HX;go_wp2;go_ret;exact ⟨by rw [HT.out];rfl,vR.out⟩
   by_cases h9:kd=9
   ·subst h9;cases ht:q01 t
    ·have q1:t.toList.isEmpty=false:=by rw [qe];exact ht
     have HT:=hid (Ba HX.out (show iB (aj.mk 9 t d ti at_ ar ci ks)=true by unfold iB;simp [ht]));clear HX ht qe;go_wp2;go_ret;exact ⟨by rw [HT.out];rfl,vR.out⟩
    ·have q1:t.toList.isEmpty=true:=by rw [qe];exact ht
     have q2:t.toList=[]:=by rw [List.isEmpty_iff] at q1;exact q1
     have HT:=hid (yG HX.out (show iB (aj.mk 9 t d ti at_ ar ci ks)=false by unfold iB;simp [ht]) HK.out);clear HX HK ht qe;go_wp2;go_roundw;case rel=>exact ⟨k+1,by omega,by go_num,HT.out,vR.out⟩
     case measure=>simp [intOf];omega
   by_cases h10:kd=10
   ·subst h10;cases ht:q01 t
    ·have q1:t.toList.isEmpty=false:=by rw [qe];exact ht
     have HT:=hid (Ba HX.out (show iB (aj.mk 10 t d ti at_ ar ci ks)=true by unfold iB;simp [ht]));clear HX ht qe;go_wp2;go_ret;exact ⟨by rw [HT.out];rfl,vR.out⟩
    ·have q1:t.toList.isEmpty=true:=by rw [qe];exact ht
     have q2:t.toList=[]:=by rw [List.isEmpty_iff] at q1;exact q1
     have HT:=hid (yG HX.out (show iB (aj.mk 10 t d ti at_ ar ci ks)=false by unfold iB;simp [ht]) HK.out);clear HX HK ht qe;go_wp2;go_roundw;case rel=>exact ⟨k+1,by omega,by go_num,HT.out,vR.out⟩
     case measure=>simp [intOf];omega
   have Tp:(kd==15)=false:=by rw [beq_eq_false_iff_ne];exact wh
   have Xk:(kd==13)=false:=by rw [beq_eq_false_iff_ne];exact DN
   have Xl:(kd==14)=false:=by rw [beq_eq_false_iff_ne];exact DR
   have q9:(kd==9)=false:=by rw [beq_eq_false_iff_ne];exact h9
   have q10:(kd==10)=false:=by rw [beq_eq_false_iff_ne];exact h10
   have HT:=hid (yG HX.out (show iB (aj.mk kd t d ti at_ ar ci ks)=false by unfold iB;simp [wh,DN,DR,h9,h10]) HK.out);clear HX HK wh DN DR h9 h10 qe;go_wp2;go_roundw;case rel=>exact ⟨k+1,by omega,by go_num,HT.out,vR.out⟩
   case measure=>simp [intOf];omega
  ·have hkl:k=l.length:=by omega
   have HT:Hid (l.any iB=false):=by
    have h:=HK.out
    rwa [hkl,List.take_length] at h
   clear hkl;go_wp2;go_ret;exact ⟨by rw [HT.out];rfl,hbel⟩
open Go.RowKit
theorem Bc (n:Nat) (w:jh9) (hn:n<=999999999) (ht:PT w) : Calls Tryz.prog 159 #[.int .i64 (n:Int)] w fun e w'=>e=.returned (.string (fq n))/\jhj w.heap.size w w':=by
 refine (Tryz.strconv_Itoa (n:Int) (by omega) (by omega) w ht.2).mono ?_;rintro e w' ⟨rfl,k,os,rfl⟩;refine ⟨?_,Lib.below_grow _ w (Nat.le_refl _) k os⟩;have:Lib.itoa (n:Int)=Lib.decDigits n:=by unfold Lib.itoa;rw [if_neg (by omega)];simp
 rw [this];rfl
theorem xq (n:Nat) (hn:n<=999999999):(fq n).size<=1000000:=by have h:=Jy n 8 (by omega);show (Lib.decDigits n).toArray.size<=1000000;simp;omega
theorem Jz {a:At} (h:a.short):([]++a.cls).length<=100/\∀ c∈[]++a.cls,c.size<=1000:=by unfold At.short at h;rw [List.nil_append];exact ⟨by omega,fun c hc=>by have:=h.2.2.2.1 c hc;omega⟩
theorem rW {a:At} (h:a.short) (s:ByteArray) (hs:s.size<=1000):([s]++a.cls).length<=100/\∀ c∈[s]++a.cls,c.size<=1000:=by
 unfold At.short at h;refine ⟨by simp;omega,fun c hc=>?_⟩;rcases List.mem_cons.1 hc with rfl | hc
 ·exact hs
 ·have:=h.2.2.2.1 c hc;omega
def dH (pv:jhk) (w:jh9) (ks:List ah) (vk:jhk):Prop:=∀ W:jh9,jhj w.heap.size w W->Calls Tryz.prog 55 #[pv,vk] W (bU W (ah.aR ks))
structure DU (i t:ByteArray) (at_:At) (li:List aj):Prop where
 i:i.size<=300
 t:t.size<=300
 at_:at_.short
 li:Uu li
theorem He {S:Nat} {w W0:jh9} (hS:S=w.heap.size) (ht:PT w) (b0:jhj S w W0):Hid (∀ W:jh9,jhj W0.heap.size W0 W->PT W):=
 fun W hW=>ht.below (by rw [<- hS];exact b0.trans (hW.mono (by have:=b0.size;omega)))
theorem pY {S nl cl:Nat} {al:Option Addr} {W0:jh9} {i t:ByteArray} {at_:At} {li:List aj} {ks:List ah} {vc vp vk:jhk} (hs:DU i t at_ li) (HR:Hid (jV (·<S) W0 at_ li ks vc vp (.slice al nl cl) vk)) : Hid (∀ W:jh9,jhj W0.heap.size W0 W->Calls Tryz.prog 50 #[.slice al nl cl] W (bU W (iL li))):=fun W hW=>
 qc 900000 li _ W hs.li.sz (by decide) (Rd.keep (w:=W0) (w':=W) (ok:=(·<S)) (fun b (hb:b<S) hlt=>⟨by show b<W.heap.size;have:=hW.size;omega,hW.block b hlt⟩) _ _ HR.out.line) hs.li.sm hs.li.tf
theorem QL (pv:jhk) (lv:Int) (i t d ti:ByteArray) (at_:At) (li:List aj) (ks:List ah) (vc vp vl vk:jhk) (w:jh9) (hR:jV (·<w.heap.size) w at_ li ks vc vp vl vk) (hs:DU i t at_ li) (hl:dH pv w ks vk) (ht:PT w) : Calls Tryz.prog 106 #[pv,.agg #[.int .i64 1,.int .i64 lv,.string i,.string t,.string d,.string ti,.string at_.id,vc,vp,vl,vk]] w (rQ w (aN nP [] (iL li))):=by
 obtain ⟨ac,nc,cc,ap,np,cp,al,nl,cl,ak,nk,ck,S,W0,rfl,rfl,rfl,rfl,HS,HW0,e0,SX,HR,Z0,B0,K1⟩:=jL (.int .i64 1) lv i t d ti hR;have Bg:=fZ HS.out hl B0.out;have oo:=He HS.out ht B0.out;have kD:=pY hs HR;have iR:=hid hs;have hst:t.size<=300:=hs.t;have hsi:i.size<=300:=hs.i;clear hR hs hl ht;go_enter Tryz.func106,Tryz.ntmps106;go_upto_region 3 with (fail)
 rw [<- HS.out];have hk0:=HW0.out;simp only [jy] at hk0;rw [<- hk0];clear hk0;have LC:=hid (kD.out W0 (je7 _ _));have g9:=(SX.out W0 (je7 _ _)).2.2.2.2.2.2.2.2.1;go_wp2_with fail
 (with_reducible refine LC.out.mono ?_)
 rintro e w4 ⟨dw,v4,rfl,hrow4⟩;obtain ⟨a4,n4,c4,rfl⟩:=hrow4.slice3;have b4:=hrow4.aJ;have B4:=hid b4;have fI:=hid (show Rd (W0.heap.size<=·) w4 (bX (iL li)) [.slice a4 n4 c4] from hrow4.eO);have EC:=hid (iC ⟨#[112]⟩ none a4 0 n4 0 c4 w4);clear b4 hrow4 LC g9;go_wp2_with fail
 (with_reducible refine EC.out.mono ?_)
 rintro e w5 ⟨rfl,b5⟩;have BL:=hid (aU B4.out b5);have HN:=hid (show jA (W0.heap.size<=·) w5 [] (iL li) (.slice none 0 0) (.slice a4 n4 c4) from ⟨Rd.aB _ _ _,fI.out.aV b5⟩);clear b5 fI EC;obtain ⟨w9,hw8,r0,r1,r2,r3,HP,x0,x1,x2,x3,xf⟩:=gJ ⟨#[112]⟩ ⟨#[]⟩ [] (iL li) HS Z0 B0 K1 BL HN.out;go_wp2;rw [<- hw8];exact bodyPost_ret (v:=.agg #[.string ⟨#[112]⟩,.string ⟨#[]⟩,(.slice none 0 0),(.slice a4 n4 c4)]) (by simp [results,Tryz.results106,go_sem,r0,r1,r2,r3]) rfl HP.out
theorem QM (pv:jhk) (lv:Int) (i t d ti:ByteArray) (at_:At) (li:List aj) (ks:List ah) (vc vp vl vk:jhk) (w:jh9) (hR:jV (·<w.heap.size) w at_ li ks vc vp vl vk) (hs:DU i t at_ li) (hl:dH pv w ks vk) (ht:PT w) : Calls Tryz.prog 106 #[pv,.agg #[.int .i64 6,.int .i64 lv,.string i,.string t,.string d,.string ti,.string at_.id,vc,vp,vl,vk]] w (rQ w (aN tC [] (ah.aR ks))):=by
 obtain ⟨ac,nc,cc,ap,np,cp,al,nl,cl,ak,nk,ck,S,W0,rfl,rfl,rfl,rfl,HS,HW0,e0,SX,HR,Z0,B0,K1⟩:=jL (.int .i64 6) lv i t d ti hR;have Bg:=fZ HS.out hl B0.out;have oo:=He HS.out ht B0.out;have kD:=pY hs HR;have iR:=hid hs;have hst:t.size<=300:=hs.t;have hsi:i.size<=300:=hs.i;clear hR hs hl ht;go_enter Tryz.func106,Tryz.ntmps106;go_upto_region 16 with (fail)
 rw [<- HS.out];have hk0:=HW0.out;simp only [jy] at hk0;rw [<- hk0];clear hk0;have LC:=hid (Bg.out W0 (je7 _ _));have g9:=(SX.out W0 (je7 _ _)).2.2.2.2.2.2.2.2.2;go_wp2_with fail
 (with_reducible refine LC.out.mono ?_)
 rintro e w4 ⟨dw,v4,rfl,hrow4⟩;obtain ⟨a4,n4,c4,rfl⟩:=hrow4.slice3;have b4:=hrow4.aJ;have B4:=hid b4;have fI:=hid (show Rd (W0.heap.size<=·) w4 (bX (ah.aR ks)) [.slice a4 n4 c4] from hrow4.eO);have EC:=hid (iC ⟨#[98,108,111,99,107,113,117,111,116,101]⟩ none a4 0 n4 0 c4 w4);clear b4 hrow4 LC g9;go_wp2_with fail
 (with_reducible refine EC.out.mono ?_)
 rintro e w5 ⟨rfl,b5⟩;have BL:=hid (aU B4.out b5);have HN:=hid (show jA (W0.heap.size<=·) w5 [] (ah.aR ks) (.slice none 0 0) (.slice a4 n4 c4) from ⟨Rd.aB _ _ _,fI.out.aV b5⟩);clear b5 fI EC;obtain ⟨w9,hw8,r0,r1,r2,r3,HP,x0,x1,x2,x3,xf⟩:=gJ ⟨#[98,108,111,99,107,113,117,111,116,101]⟩ ⟨#[]⟩ [] (ah.aR ks) HS Z0 B0 K1 BL HN.out;go_wp2;rw [<- hw8];exact bodyPost_ret (v:=.agg #[.string ⟨#[98,108,111,99,107,113,117,111,116,101]⟩,.string ⟨#[]⟩,(.slice none 0 0),(.slice a4 n4 c4)]) (by simp [results,Tryz.results106,go_sem,r0,r1,r2,r3]) rfl HP.out
theorem QN (pv:jhk) (lv:Int) (i t d ti:ByteArray) (at_:At) (li:List aj) (ks:List ah) (vc vp vl vk:jhk) (w:jh9) (hR:jV (·<w.heap.size) w at_ li ks vc vp vl vk) (hs:DU i t at_ li) (hl:dH pv w ks vk) (ht:PT w) : Calls Tryz.prog 106 #[pv,.agg #[.int .i64 7,.int .i64 lv,.string i,.string t,.string d,.string ti,.string at_.id,vc,vp,vl,vk]] w (rQ w (aN nUl [] (ah.aR ks))):=by
 obtain ⟨ac,nc,cc,ap,np,cp,al,nl,cl,ak,nk,ck,S,W0,rfl,rfl,rfl,rfl,HS,HW0,e0,SX,HR,Z0,B0,K1⟩:=jL (.int .i64 7) lv i t d ti hR;have Bg:=fZ HS.out hl B0.out;have oo:=He HS.out ht B0.out;have kD:=pY hs HR;have iR:=hid hs;have hst:t.size<=300:=hs.t;have hsi:i.size<=300:=hs.i;clear hR hs hl ht;go_enter Tryz.func106,Tryz.ntmps106;go_upto_region 18 with (fail)
 rw [<- HS.out];have hk0:=HW0.out;simp only [jy] at hk0;rw [<- hk0];clear hk0;have LC:=hid (Bg.out W0 (je7 _ _));have g9:=(SX.out W0 (je7 _ _)).2.2.2.2.2.2.2.2.2;go_wp2_with fail
 (with_reducible refine LC.out.mono ?_)
 rintro e w4 ⟨dw,v4,rfl,hrow4⟩;obtain ⟨a4,n4,c4,rfl⟩:=hrow4.slice3;have b4:=hrow4.aJ;have B4:=hid b4;have fI:=hid (show Rd (W0.heap.size<=·) w4 (bX (ah.aR ks)) [.slice a4 n4 c4] from hrow4.eO);have EC:=hid (iC ⟨#[117,108]⟩ none a4 0 n4 0 c4 w4);clear b4 hrow4 LC g9;go_wp2_with fail
 (with_reducible refine EC.out.mono ?_)
 rintro e w5 ⟨rfl,b5⟩;have BL:=hid (aU B4.out b5);have HN:=hid (show jA (W0.heap.size<=·) w5 [] (ah.aR ks) (.slice none 0 0) (.slice a4 n4 c4) from ⟨Rd.aB _ _ _,fI.out.aV b5⟩);clear b5 fI EC;obtain ⟨w9,hw8,r0,r1,r2,r3,HP,x0,x1,x2,x3,xf⟩:=gJ ⟨#[117,108]⟩ ⟨#[]⟩ [] (ah.aR ks) HS Z0 B0 K1 BL HN.out;go_wp2;rw [<- hw8];exact bodyPost_ret (v:=.agg #[.string ⟨#[117,108]⟩,.string ⟨#[]⟩,(.slice none 0 0),(.slice a4 n4 c4)]) (by simp [results,Tryz.results106,go_sem,r0,r1,r2,r3]) rfl HP.out
theorem QO (pv:jhk) (lv:Int) (i t d ti:ByteArray) (at_:At) (li:List aj) (ks:List ah) (vc vp vl vk:jhk) (w:jh9) (hR:jV (·<w.heap.size) w at_ li ks vc vp vl vk) (hs:DU i t at_ li) (hl:dH pv w ks vk) (ht:PT w) : Calls Tryz.prog 106 #[pv,.agg #[.int .i64 9,.int .i64 lv,.string i,.string t,.string d,.string ti,.string at_.id,vc,vp,vl,vk]] w (rQ w (aN nLi [] (ah.aR ks))):=by
 obtain ⟨ac,nc,cc,ap,np,cp,al,nl,cl,ak,nk,ck,S,W0,rfl,rfl,rfl,rfl,HS,HW0,e0,SX,HR,Z0,B0,K1⟩:=jL (.int .i64 9) lv i t d ti hR;have Bg:=fZ HS.out hl B0.out;have oo:=He HS.out ht B0.out;have kD:=pY hs HR;have iR:=hid hs;have hst:t.size<=300:=hs.t;have hsi:i.size<=300:=hs.i;clear hR hs hl ht;go_enter Tryz.func106,Tryz.ntmps106;go_upto_region 25 with (fail)
 rw [<- HS.out];have hk0:=HW0.out;simp only [jy] at hk0;rw [<- hk0];clear hk0;have LC:=hid (Bg.out W0 (je7 _ _));have g9:=(SX.out W0 (je7 _ _)).2.2.2.2.2.2.2.2.2;go_wp2_with fail
 (with_reducible refine LC.out.mono ?_)
 rintro e w4 ⟨dw,v4,rfl,hrow4⟩;obtain ⟨a4,n4,c4,rfl⟩:=hrow4.slice3;have b4:=hrow4.aJ;have B4:=hid b4;have fI:=hid (show Rd (W0.heap.size<=·) w4 (bX (ah.aR ks)) [.slice a4 n4 c4] from hrow4.eO);have EC:=hid (iC ⟨#[108,105]⟩ none a4 0 n4 0 c4 w4);clear b4 hrow4 LC g9;go_wp2_with fail
 (with_reducible refine EC.out.mono ?_)
 rintro e w5 ⟨rfl,b5⟩;have BL:=hid (aU B4.out b5);have HN:=hid (show jA (W0.heap.size<=·) w5 [] (ah.aR ks) (.slice none 0 0) (.slice a4 n4 c4) from ⟨Rd.aB _ _ _,fI.out.aV b5⟩);clear b5 fI EC;obtain ⟨w9,hw8,r0,r1,r2,r3,HP,x0,x1,x2,x3,xf⟩:=gJ ⟨#[108,105]⟩ ⟨#[]⟩ [] (ah.aR ks) HS Z0 B0 K1 BL HN.out;go_wp2;rw [<- hw8];exact bodyPost_ret (v:=.agg #[.string ⟨#[108,105]⟩,.string ⟨#[]⟩,(.slice none 0 0),(.slice a4 n4 c4)]) (by simp [results,Tryz.results106,go_sem,r0,r1,r2,r3]) rfl HP.out
theorem QS (pv:jhk) (lv:Int) (i t d ti:ByteArray) (at_:At) (li:List aj) (ks:List ah) (vc vp vl vk:jhk) (w:jh9) (hR:jV (·<w.heap.size) w at_ li ks vc vp vl vk) (hs:DU i t at_ li) (hl:dH pv w ks vk) (ht:PT w) : Calls Tryz.prog 106 #[pv,.agg #[.int .i64 5,.int .i64 lv,.string i,.string t,.string d,.string ti,.string at_.id,vc,vp,vl,vk]] w (rQ w (aN Uv [] [])):=by
 obtain ⟨ac,nc,cc,ap,np,cp,al,nl,cl,ak,nk,ck,S,W0,rfl,rfl,rfl,rfl,HS,HW0,e0,SX,HR,Z0,B0,K1⟩:=jL (.int .i64 5) lv i t d ti hR;have Bg:=fZ HS.out hl B0.out;have oo:=He HS.out ht B0.out;have kD:=pY hs HR;have iR:=hid hs;have hst:t.size<=300:=hs.t;have hsi:i.size<=300:=hs.i;clear hR hs hl ht;go_enter Tryz.func106,Tryz.ntmps106;go_upto_region 14 with (fail)
 rw [<- HS.out];have hk0:=HW0.out;simp only [jy] at hk0;rw [<- hk0];clear hk0;have EC:=hid (iC ⟨#[104,114]⟩ none none 0 0 0 0 W0);have B4:Hid (jhj W0.heap.size W0 W0):=je7 _ _;go_wp2_with fail
 (with_reducible refine EC.out.mono ?_)
 rintro e w5 ⟨rfl,b5⟩;have BL:=hid (aU B4.out b5);clear b5;obtain ⟨w9,hw8,r0,r1,r2,r3,HP,x0,x1,x2,x3,xf⟩:=gJ ⟨#[104,114]⟩ ⟨#[]⟩ [] [] HS Z0 B0 K1 BL ⟨Rd.aB _ _ _,Rd.aB _ _ _⟩;go_wp2;rw [<- hw8];exact bodyPost_ret (v:=.agg #[.string ⟨#[104,114]⟩,.string ⟨#[]⟩,(.slice none 0 0),(.slice none 0 0)]) (by simp [results,Tryz.results106,go_sem,r0,r1,r2,r3]) rfl HP.out
theorem MU (pv:jhk) (lv:Int) (i t d ti:ByteArray) (at_:At) (li:List aj) (ks:List ah) (vc vp vl vk:jhk) (w:jh9) (hR:jV (·<w.heap.size) w at_ li ks vc vp vl vk) (hs:DU i t at_ li) (ht:PT w) (hT:YG i ks) : Calls Tryz.prog 106 #[pv,.agg #[.int .i64 10,.int .i64 lv,.string i,.string t,.string d,.string ti,.string at_.id,vc,vp,vl,vk]] w (rQ w (cO i ks)):=by
 obtain ⟨ac,nc,cc,ap,np,cp,al,nl,cl,ak,nk,ck,S,W0,rfl,rfl,rfl,rfl,HS,HW0,e0,SX,HR,Z0,B0,K1⟩:=jL (.int .i64 10) lv i t d ti hR;have oo:=He HS.out ht B0.out;have kD:=pY hs HR;have iR:=hid hs;have hst:t.size<=300:=hs.t;have hsi:i.size<=300:=hs.i;have HT:=hid hT;clear hT;clear hR hs ht;go_enter Tryz.func106,Tryz.ntmps106;go_upto_region 27 with (fail)
 rw [<- HS.out];have hk0:=HW0.out;simp only [jy] at hk0;rw [<- hk0];clear hk0;have TC:=hid (DV 10 lv i t d ti at_ li ks (.slice ac nc cc) (.slice ap np cp) (.slice al nl cl) (.slice ak nk ck) W0 (jV.Bj HR.out (fun b (hb:b<S) hlt=>⟨hlt,rfl⟩)) HT.out);obtain ⟨g1,g2,g3,g4,g5,g6,g7,g8,g9,g10⟩:=SX.out W0 (je7 _ _);have htb:(cO i ks).nm=⟨#[116,97,98,108,101]⟩/\(cO i ks).tx=⟨#[]⟩/\(cO i ks).at_=[]:=by cases ks<;>exact ⟨rfl,rfl,rfl⟩
 have Xm:=hid htb;clear htb;go_wp2_with fail
 (with_reducible refine TC.out.mono ?_)
 rintro e w5 ⟨va,vk,he,hN,hb5⟩;obtain ⟨aA,nA,cA,rfl⟩:=Rd.au hN.at_
 obtain ⟨aK,nK,cK,rfl⟩:=Rd.au hN.ks;rw [Xm.out.1,Xm.out.2.1] at he;subst he;have BL:=hid hb5;have HN:=hid hN;have HE:Hid (cO i ks=.mk ⟨#[116,97,98,108,101]⟩ ⟨#[]⟩ (cO i ks).at_ (cO i ks).ks):=by show _=_;rw [<- Xm.out.1,<- Xm.out.2.1];cases cO i ks;rfl
 rw [HE.out];clear hN hb5 g1 g2 g3 g4 g5 g6 g7 g8 g9 g10 TC;obtain ⟨w9,hw8,r0,r1,r2,r3,HP,x0,x1,x2,x3,xf⟩:=gJ ⟨#[116,97,98,108,101]⟩ ⟨#[]⟩ (cO i ks).at_ (cO i ks).ks HS Z0 B0 K1 BL HN.out
 go_wp2;rw [<- hw8];exact bodyPost_ret (v:=.agg #[.string ⟨#[116,97,98,108,101]⟩,.string ⟨#[]⟩,(.slice aA nA cA),(.slice aK nK cK)]) (by simp [results,Tryz.results106,go_sem,r0,r1,r2,r3]) rfl (by rw [HE.out];exact HP.out)
theorem MV (pv:jhk) (lv:Int) (i t d ti:ByteArray) (at_:At) (li:List aj) (ks:List ah) (vc vp vl vk:jhk) (w:jh9) (hR:jV (·<w.heap.size) w at_ li ks vc vp vl vk) (hs:DU i t at_ li) (hl:dH pv w ks vk) (ht:PT w) (hi:q01 i=true) : Calls Tryz.prog 106 #[pv,.agg #[.int .i64 3,.int .i64 lv,.string i,.string t,.string d,.string ti,.string at_.id,vc,vp,vl,vk]] w (rQ w (aN Hf [] [aN gK [] (bG t)])):=by
 obtain ⟨ac,nc,cc,ap,np,cp,al,nl,cl,ak,nk,ck,S,W0,rfl,rfl,rfl,rfl,HS,HW0,e0,SX,HR,Z0,B0,K1⟩:=jL (.int .i64 3) lv i t d ti hR;have Bg:=fZ HS.out hl B0.out;have oo:=He HS.out ht B0.out;have kD:=pY hs HR;have iR:=hid hs;have hst:t.size<=300:=hs.t;have hsi:i.size<=300:=hs.i;have DW:i.toList.isEmpty=true:=by
  have h:i.toList.isEmpty=q01 i:=by rw [Lib.toList_data,Bool.eq_iff_iff,List.isEmpty_iff,q01,decide_eq_true_iff]
  rw [h];exact hi
 clear hi;clear hR hs hl ht;go_enter Tryz.func106,Tryz.ntmps106;go_upto_region 7 with (fail)
 rw [<- HS.out];have hk0:=HW0.out;simp only [jy] at hk0;rw [<- hk0];clear hk0;have O8:jhj W0.heap.size W0 W0:=je7 _ _;have tF:Hid (Rd (W0.heap.size<=·) W0 (bS []) [.slice none 0 0]):=Rd.aB _ _ _;have e2:=(SX.out W0 (je7 _ _)).2.1;have DC:=hid (fu t W0);have g3:=(SX.out W0 O8).2.2.1;go_wp2_with fail
 (with_reducible refine DC.out.mono ?_)
 rintro e w4 ⟨dw,v4,rfl,hrow4⟩;obtain ⟨a4,n4,c4,rfl⟩:=hrow4.slice3;have b4:=hrow4.aJ;have B4:=hid (aU O8 b4);have fI:=hid (show Rd (W0.heap.size<=·) w4 (bX (bG t)) [.slice a4 n4 c4] from hrow4.eO.weaken (fun b hb=>je9 (O8).size hb));have mV:=hid (tF.out.aV b4);have EC:=hid (iC ⟨#[99,111,100,101]⟩ none a4 0 n4 0 c4 w4);clear b4 hrow4 DC g3;go_wp2_with fail
 (with_reducible refine EC.out.mono ?_)
 rintro e w5 ⟨rfl,b5⟩;have XD:xu W0 none w5 (aN gK [] (bG t)).d [.string ⟨#[99,111,100,101]⟩,.string ⟨#[]⟩,.slice none 0 0,.slice a4 n4 c4]:=⟨aU B4.out b5,fun p hp=>by simp at hp,(Nd.gI gK ⟨#[]⟩ (jA.keep ⟨mV.out,fI.out⟩ (fun b hb hlt=>⟨⟨hb,by simp⟩,b5.block b hlt⟩)))⟩;have XL:=hid XD.lit;have O9:=hid (iC ⟨#[112,114,101]⟩ none (some ⟨w5.heap.size,0,none⟩) 0 1 0 1 (w5.alloc (.cells #[.string ⟨#[99,111,100,101]⟩,.string ⟨#[]⟩,.slice none 0 0,.slice a4 n4 c4] 43)));clear XD b5 EC;go_wp2_with fail
 (with_reducible refine O9.out.mono ?_)
 rintro e w6 ⟨rfl,b6⟩;have BL:=hid (aU XL.out.aJ b6);have HN:=hid (show jA (W0.heap.size<=·) w6 [] [aN gK [] (bG t)] (.slice none 0 0) (.slice (some ⟨w5.heap.size,0,none⟩) 1 1) from ⟨Rd.aB _ _ _,(XL.out.rd.aV b6).weaken (fun b hb=>hb.1)⟩);clear b6 XL O9;obtain ⟨w9,hw8,r0,r1,r2,r3,HP,x0,x1,x2,x3,xf⟩:=gJ ⟨#[112,114,101]⟩ ⟨#[]⟩ [] [aN gK [] (bG t)] HS Z0 B0 K1 BL HN.out;go_wp2;rw [<- hw8];exact bodyPost_ret (v:=.agg #[.string ⟨#[112,114,101]⟩,.string ⟨#[]⟩,(.slice none 0 0),(.slice (some ⟨w5.heap.size,0,none⟩) 1 1)]) (by simp [results,Tryz.results106,go_sem,r0,r1,r2,r3]) rfl HP.out
theorem MW (pv:jhk) (lv:Int) (i t d ti:ByteArray) (at_:At) (li:List aj) (ks:List ah) (vc vp vl vk:jhk) (w:jh9) (hR:jV (·<w.heap.size) w at_ li ks vc vp vl vk) (hs:DU i t at_ li) (hl:dH pv w ks vk) (ht:PT w) (hi:q01 i=false) : Calls Tryz.prog 106 #[pv,.agg #[.int .i64 3,.int .i64 lv,.string i,.string t,.string d,.string ti,.string at_.id,vc,vp,vl,vk]] w (rQ w (aN Hf [] [aN gK [⟨eP,⟨#[108,97,110,103,117,97,103,101,45]⟩++i⟩] (bG t)])):=by
 obtain ⟨ac,nc,cc,ap,np,cp,al,nl,cl,ak,nk,ck,S,W0,rfl,rfl,rfl,rfl,HS,HW0,e0,SX,HR,Z0,B0,K1⟩:=jL (.int .i64 3) lv i t d ti hR;have Bg:=fZ HS.out hl B0.out;have oo:=He HS.out ht B0.out;have kD:=pY hs HR;have iR:=hid hs;have hst:t.size<=300:=hs.t;have hsi:i.size<=300:=hs.i;have DW:i.toList.isEmpty=false:=by
  have h:i.toList.isEmpty=q01 i:=by rw [Lib.toList_data,Bool.eq_iff_iff,List.isEmpty_iff,q01,decide_eq_true_iff]
  rw [h];exact hi
 clear hi;clear hR hs hl ht;go_enter Tryz.func106,Tryz.ntmps106;go_upto_region 7 with (fail)
 rw [<- HS.out];have hk0:=HW0.out;simp only [jy] at hk0;rw [<- hk0];clear hk0;have e2:=(SX.out W0 (je7 _ _)).2.1;have q5:(⟨#[108,97,110,103,117,97,103,101,45]⟩:ByteArray).size+i.size<=9223372036854775807:=by have:(⟨#[108,97,110,103,117,97,103,101,45]⟩:ByteArray).size=9:=rfl;omega
 have q6:9+i.size<=9223372036854775807:=by omega
 have PC:Hid (Calls Tryz.prog 58 #[.slice (some ⟨W0.heap.size,0,none⟩) 2 2] (W0.alloc (.cells #[.string ⟨#[99,108,97,115,115]⟩,.string (⟨#[108,97,110,103,117,97,103,101,45]⟩++i)] 9)) (bg (W0.alloc (.cells #[.string ⟨#[99,108,97,115,115]⟩,.string (⟨#[108,97,110,103,117,97,103,101,45]⟩++i)] 9)) [⟨eP,⟨#[108,97,110,103,117,97,103,101,45]⟩++i⟩])):=MX eP (tH++i) W0;go_wp2_with fail
 (with_reducible refine PC.out.mono ?_)
 rintro e w2 ⟨aW,v2,rfl,hrow2⟩;obtain ⟨a2,c2,rfl,-,-⟩:=hrow2.cap (n:=1) rfl;have bl:jhj W0.heap.size W0 (W0.alloc (.cells #[.string ⟨#[99,108,97,115,115]⟩,.string (⟨#[108,97,110,103,117,97,103,101,45]⟩++i)] 9)):=(je7 _ _).alloc (Nat.le_refl _) _;have B2:=hid (bl.trans (hrow2.aJ.mono bl.size));have tF:=hid (show Rd (W0.heap.size<=·) w2 (bS [⟨eP,⟨#[108,97,110,103,117,97,103,101,45]⟩++i⟩]) [.slice a2 1 c2] from hrow2.eO.weaken (fun b hb=>je9 bl.size hb));clear hrow2 bl PC q5 q6 e2;have DC:=hid (fu t w2);have g3:=(SX.out w2 B2.out).2.2.1;go_wp2_with fail
 (with_reducible refine DC.out.mono ?_)
 rintro e w4 ⟨dw,v4,rfl,hrow4⟩;obtain ⟨a4,n4,c4,rfl⟩:=hrow4.slice3;have b4:=hrow4.aJ;have B4:=hid (aU B2.out b4);have fI:=hid (show Rd (W0.heap.size<=·) w4 (bX (bG t)) [.slice a4 n4 c4] from hrow4.eO.weaken (fun b hb=>je9 (B2.out).size hb));have mV:=hid (tF.out.aV b4);have EC:=hid (iC ⟨#[99,111,100,101]⟩ a2 a4 1 n4 c2 c4 w4);clear b4 hrow4 DC g3;go_wp2_with fail
 (with_reducible refine EC.out.mono ?_)
 rintro e w5 ⟨rfl,b5⟩;have XD:xu W0 none w5 (aN gK [⟨eP,⟨#[108,97,110,103,117,97,103,101,45]⟩++i⟩] (bG t)).d [.string ⟨#[99,111,100,101]⟩,.string ⟨#[]⟩,.slice a2 1 c2,.slice a4 n4 c4]:=⟨aU B4.out b5,fun p hp=>by simp at hp,(Nd.gI gK ⟨#[]⟩ (jA.keep ⟨mV.out,fI.out⟩ (fun b hb hlt=>⟨⟨hb,by simp⟩,b5.block b hlt⟩)))⟩;have XL:=hid XD.lit;have O9:=hid (iC ⟨#[112,114,101]⟩ none (some ⟨w5.heap.size,0,none⟩) 0 1 0 1 (w5.alloc (.cells #[.string ⟨#[99,111,100,101]⟩,.string ⟨#[]⟩,.slice a2 1 c2,.slice a4 n4 c4] 43)));clear XD b5 EC;go_wp2_with fail
 (with_reducible refine O9.out.mono ?_)
 rintro e w6 ⟨rfl,b6⟩;have BL:=hid (aU XL.out.aJ b6);have HN:=hid (show jA (W0.heap.size<=·) w6 [] [aN gK [⟨eP,⟨#[108,97,110,103,117,97,103,101,45]⟩++i⟩] (bG t)] (.slice none 0 0) (.slice (some ⟨w5.heap.size,0,none⟩) 1 1) from ⟨Rd.aB _ _ _,(XL.out.rd.aV b6).weaken (fun b hb=>hb.1)⟩);clear b6 XL O9;obtain ⟨w9,hw8,r0,r1,r2,r3,HP,x0,x1,x2,x3,xf⟩:=gJ ⟨#[112,114,101]⟩ ⟨#[]⟩ [] [aN gK [⟨eP,⟨#[108,97,110,103,117,97,103,101,45]⟩++i⟩] (bG t)] HS Z0 B0 K1 BL HN.out;go_wp2;rw [<- hw8];exact bodyPost_ret (v:=.agg #[.string ⟨#[112,114,101]⟩,.string ⟨#[]⟩,(.slice none 0 0),(.slice (some ⟨w5.heap.size,0,none⟩) 1 1)]) (by simp [results,Tryz.results106,go_sem,r0,r1,r2,r3]) rfl HP.out
theorem MZ (pv:jhk) (lv:Int) (i t d ti:ByteArray) (at_:At) (li:List aj) (ks:List ah) (vc vp vl vk:jhk) (w:jh9) (hR:jV (·<w.heap.size) w at_ li ks vc vp vl vk) (hs:DU i t at_ li) (hl:dH pv w ks vk) (ht:PT w) (hv:lv=1) : Calls Tryz.prog 106 #[pv,.agg #[.int .i64 8,.int .i64 lv,.string i,.string t,.string d,.string ti,.string at_.id,vc,vp,vl,vk]] w (rQ w (aN Tt [] (ah.aR ks))):=by
 obtain ⟨ac,nc,cc,ap,np,cp,al,nl,cl,ak,nk,ck,S,W0,rfl,rfl,rfl,rfl,HS,HW0,e0,SX,HR,Z0,B0,K1⟩:=jL (.int .i64 8) lv i t d ti hR;have Bg:=fZ HS.out hl B0.out;have oo:=He HS.out ht B0.out;have kD:=pY hs HR;have iR:=hid hs;have hst:t.size<=300:=hs.t;have hsi:i.size<=300:=hs.i;have qv:(lv==1)=true:=by rw [hv];rfl
 clear hv;clear hR hs hl ht;go_enter Tryz.func106,Tryz.ntmps106;go_upto_region 20 with (fail)
 rw [<- HS.out];have hk0:=HW0.out;simp only [jy] at hk0;rw [<- hk0];clear hk0;have O8:jhj W0.heap.size W0 W0:=je7 _ _;have tF:Hid (Rd (W0.heap.size<=·) W0 (bS []) [.slice none 0 0]):=Rd.aB _ _ _;have e1:=(SX.out W0 (je7 _ _)).1;have LC:=hid (Bg.out W0 O8);have g10:=(SX.out W0 O8).2.2.2.2.2.2.2.2.2;go_wp2_with fail
 (with_reducible refine LC.out.mono ?_)
 rintro e w4 ⟨dw,v4,rfl,hrow4⟩;obtain ⟨a4,n4,c4,rfl⟩:=hrow4.slice3;have b4:=hrow4.aJ;have B4:=hid (aU O8 b4);have fI:=hid (show Rd (W0.heap.size<=·) w4 (bX (ah.aR ks)) [.slice a4 n4 c4] from hrow4.eO.weaken (fun b hb=>je9 (O8).size hb));have mV:=hid (tF.out.aV b4);have EC:=hid (iC ⟨#[111,108]⟩ none a4 0 n4 0 c4 w4);clear b4 hrow4 LC g10;go_wp2_with fail
 (with_reducible refine EC.out.mono ?_)
 rintro e w5 ⟨rfl,b5⟩;have BL:=hid (aU B4.out b5);have HN:=hid (show jA (W0.heap.size<=·) w5 [] (ah.aR ks) (.slice none 0 0) (.slice a4 n4 c4) from ⟨mV.out.aV b5,fI.out.aV b5⟩);clear b5 fI EC;obtain ⟨w9,hw8,r0,r1,r2,r3,HP,x0,x1,x2,x3,xf⟩:=gJ ⟨#[111,108]⟩ ⟨#[]⟩ [] (ah.aR ks) HS Z0 B0 K1 BL HN.out;go_wp2;rw [<- hw8];exact bodyPost_ret (v:=.agg #[.string ⟨#[111,108]⟩,.string ⟨#[]⟩,(.slice none 0 0),(.slice a4 n4 c4)]) (by simp [results,Tryz.results106,go_sem,r0,r1,r2,r3]) rfl HP.out
theorem M4 (pv:jhk) (lv:Int) (i t d ti:ByteArray) (at_:At) (li:List aj) (ks:List ah) (vc vp vl vk:jhk) (w:jh9) (hR:jV (·<w.heap.size) w at_ li ks vc vp vl vk) (hs:DU i t at_ li) (hl:dH pv w ks vk) (ht:PT w) (n:Nat) (hv:lv=(n:Int)) (hn:n<=999999999) (h1:lv≠1) : Calls Tryz.prog 106 #[pv,.agg #[.int .i64 8,.int .i64 lv,.string i,.string t,.string d,.string ti,.string at_.id,vc,vp,vl,vk]] w (rQ w (aN Tt [⟨sStart,fq n⟩] (ah.aR ks))):=by
 obtain ⟨ac,nc,cc,ap,np,cp,al,nl,cl,ak,nk,ck,S,W0,rfl,rfl,rfl,rfl,HS,HW0,e0,SX,HR,Z0,B0,K1⟩:=jL (.int .i64 8) lv i t d ti hR;have Bg:=fZ HS.out hl B0.out;have oo:=He HS.out ht B0.out;have kD:=pY hs HR;have iR:=hid hs;have hst:t.size<=300:=hs.t;have hsi:i.size<=300:=hs.i;have qv:(lv==1)=false:=by rw [beq_eq_false_iff_ne];exact h1
 have IC:Hid (∀ W:jh9,jhj W0.heap.size W0 W->Calls Tryz.prog 159 #[.int .i64 lv] W (fun e w'=>e=.returned (.string (fq n))/\jhj W.heap.size W w')):=fun W hW=>by rw [hv];exact Bc n W hn (oo.out W hW)
 clear hv hn h1;clear hR hs hl ht;go_enter Tryz.func106,Tryz.ntmps106;go_upto_region 20 with (fail)
 rw [<- HS.out];have hk0:=HW0.out;simp only [jy] at hk0;rw [<- hk0];clear hk0;have e1:=(SX.out W0 (je7 _ _)).1;have IT:=hid (IC.out W0 (je7 _ _));go_wp2_with fail
 (with_reducible refine IT.out.mono ?_)
 rintro e w1 ⟨rfl,b1⟩;have PC:Hid (Calls Tryz.prog 58 #[.slice (some ⟨w1.heap.size,0,none⟩) 2 2] (w1.alloc (.cells #[.string ⟨#[115,116,97,114,116]⟩,.string (fq n)] 9)) (bg (w1.alloc (.cells #[.string ⟨#[115,116,97,114,116]⟩,.string (fq n)] 9)) [⟨sStart,fq n⟩])):=MX sStart (fq n) w1;have bl:jhj W0.heap.size W0 (w1.alloc (.cells #[.string ⟨#[115,116,97,114,116]⟩,.string (fq n)] 9)):=b1.alloc b1.size _;clear IT e1;go_wp2_with fail
 (with_reducible refine PC.out.mono ?_)
 rintro e w2 ⟨aW,v2,rfl,hrow2⟩;obtain ⟨a2,c2,rfl,-,-⟩:=hrow2.cap (n:=1) rfl;have B2:=hid (bl.trans (hrow2.aJ.mono bl.size));have tF:=hid (show Rd (W0.heap.size<=·) w2 (bS [⟨sStart,fq n⟩]) [.slice a2 1 c2] from hrow2.eO.weaken (fun b hb=>je9 bl.size hb));clear hrow2 bl PC b1;have LC:=hid (Bg.out w2 B2.out);have g10:=(SX.out w2 B2.out).2.2.2.2.2.2.2.2.2;go_wp2_with fail
 (with_reducible refine LC.out.mono ?_)
 rintro e w4 ⟨dw,v4,rfl,hrow4⟩;obtain ⟨a4,n4,c4,rfl⟩:=hrow4.slice3;have b4:=hrow4.aJ;have B4:=hid (aU B2.out b4);have fI:=hid (show Rd (W0.heap.size<=·) w4 (bX (ah.aR ks)) [.slice a4 n4 c4] from hrow4.eO.weaken (fun b hb=>je9 (B2.out).size hb));have mV:=hid (tF.out.aV b4);have EC:=hid (iC ⟨#[111,108]⟩ a2 a4 1 n4 c2 c4 w4);clear b4 hrow4 LC g10;go_wp2_with fail
 (with_reducible refine EC.out.mono ?_)
 rintro e w5 ⟨rfl,b5⟩;have BL:=hid (aU B4.out b5);have HN:=hid (show jA (W0.heap.size<=·) w5 [⟨sStart,fq n⟩] (ah.aR ks) (.slice a2 1 c2) (.slice a4 n4 c4) from ⟨mV.out.aV b5,fI.out.aV b5⟩);clear b5 fI EC;obtain ⟨w9,hw8,r0,r1,r2,r3,HP,x0,x1,x2,x3,xf⟩:=gJ ⟨#[111,108]⟩ ⟨#[]⟩ [⟨sStart,fq n⟩] (ah.aR ks) HS Z0 B0 K1 BL HN.out;go_wp2;rw [<- hw8];exact bodyPost_ret (v:=.agg #[.string ⟨#[111,108]⟩,.string ⟨#[]⟩,(.slice a2 1 c2),(.slice a4 n4 c4)]) (by simp [results,Tryz.results106,go_sem,r0,r1,r2,r3]) rfl HP.out
theorem QT (pv:jhk) (lv:Int) (i t d ti:ByteArray) (at_:At) (li:List aj) (ks:List ah) (vc vp vl vk:jhk) (w:jh9) (hR:jV (·<w.heap.size) w at_ li ks vc vp vl vk) (hs:DU i t at_ li) (hl:dH pv w ks vk) (ht:PT w) (n:Nat) (hv:lv=(n:Int)) (hn:n<=999999999) : Calls Tryz.prog 106 #[pv,.agg #[.int .i64 2,.int .i64 lv,.string i,.string t,.string d,.string ti,.string at_.id,vc,vp,vl,vk]] w (rQ w (aN (⟨#[104]⟩++fq n) (jB at_ []) (iL li))):=by
 obtain ⟨ac,nc,cc,ap,np,cp,al,nl,cl,ak,nk,ck,S,W0,rfl,rfl,rfl,rfl,HS,HW0,e0,SX,HR,Z0,B0,K1⟩:=jL (.int .i64 2) lv i t d ti hR;have Bg:=fZ HS.out hl B0.out;have oo:=He HS.out ht B0.out;have kD:=pY hs HR;have iR:=hid hs;have hst:t.size<=300:=hs.t;have hsi:i.size<=300:=hs.i;have IC:Hid (∀ W:jh9,jhj W0.heap.size W0 W->Calls Tryz.prog 159 #[.int .i64 lv] W (fun e w'=>e=.returned (.string (fq n))/\jhj W.heap.size W w')):=fun W hW=>by rw [hv];exact Bc n W hn (oo.out W hW)
 have q5:(⟨#[104]⟩:ByteArray).size+(fq n).size<=9223372036854775807:=by have:(⟨#[104]⟩:ByteArray).size=1:=rfl;have:=xq n hn;omega
 have q6:1+(fq n).size<=9223372036854775807:=by have:=xq n hn;omega
 clear hv hn;clear hR hs hl ht;go_enter Tryz.func106,Tryz.ntmps106;go_upto_region 5 with (fail)
 rw [<- HS.out];have hk0:=HW0.out;simp only [jy] at hk0;rw [<- hk0];clear hk0;have IT:=hid (IC.out W0.drew ((je7 W0.heap.size W0).drew));have hadd:∀ w:jh9,(Op.stringOp .add (⟨#[104]⟩:ByteArray) (fq n)).run Tryz.prog w=.ok (.string (⟨#[104]⟩++fq n)) w:=fun w=>run_string_add_sum w _ _ q5
 clear q5;have SF:=hid (fun (w':jh9) (hb:jhj W0.heap.size W0 w')=>(⟨(SX.out w' hb).1,(SX.out w' hb).2.2.2.2.2.1,(SX.out w' hb).2.2.2.2.2.2.1,(SX.out w' hb).2.2.2.2.2.2.2.1,(SX.out w' hb).2.2.2.2.2.2.2.2.1⟩:w'.cell? ⟨S,1,none⟩=some (.int .i64 lv)/\w'.cell? ⟨S,6,none⟩=some (.string at_.id)/\w'.cell? ⟨S,7,none⟩=some (.slice ac nc cc)/\w'.cell? ⟨S,8,none⟩=some (.slice ap np cp)/\w'.cell? ⟨S,9,none⟩=some (.slice al nl cl)));have S0:=SF.out _ ((je7 W0.heap.size W0).drew);go_wp2_with fail
 go_region_held3 (fun w'=>w'.cell? ⟨S,1,none⟩=some (.int .i64 lv)/\w'.cell? ⟨S,6,none⟩=some (.string at_.id)/\w'.cell? ⟨S,7,none⟩=some (.slice ac nc cc)/\w'.cell? ⟨S,8,none⟩=some (.slice ap np cp)/\w'.cell? ⟨S,9,none⟩=some (.slice al nl cl))
  (with_reducible assumption)
  (first
   | (go_simp;go_at_call 159;(with_reducible refine IT.out.mono ?_);rintro e w1 ⟨rfl,b1⟩;have B1:Hid (jhj W0.heap.size W0 w1):=((je7 W0.heap.size W0).drew).trans b1;have S1:=SF.out (w1) B1.out;have AC:=hid (Uw at_ [] (.slice ac nc cc) (.slice ap np cp) (.slice none 0 0) w1 w1 mI.nil (yH HR.out.at_ B1.out (by have:=Z0.out;omega)) (Jz iR.out.at_).1 (Jz iR.out.at_).2))
   | (go_simp;go_at_call 152;(with_reducible refine AC.out.mono ?_);rintro e w3 ⟨fM,v3,rfl,hrow3⟩;obtain ⟨a3,n3,c3,rfl⟩:=hrow3.slice3;have B3:Hid (jhj W0.heap.size W0 w3):=(B1.out).trans (hrow3.aJ.mono (B1.out).size);have yJ:Hid (Rd (W0.heap.size<=·) w3 (bS (jB at_ [])) [.slice a3 n3 c3]):=hrow3.eO.weaken (fun b hb=>je9 (B1.out).size hb);have S3:=SF.out (w3) B3.out;have LC:=hid (kD.out w3 B3.out))
   | (go_simp;go_at_call 50;(with_reducible refine LC.out.mono ?_);rintro e w4 ⟨dw,v4,rfl,hrow4⟩;obtain ⟨a4,n4,c4,rfl⟩:=hrow4.slice3;have b4:=hrow4.aJ;have B4:=hid (aU B3.out b4);have fI:=hid (show Rd (W0.heap.size<=·) w4 (bX (iL li)) [.slice a4 n4 c4] from hrow4.eO.weaken (fun b hb=>je9 B3.out.size hb));have mV:=hid (yJ.out.aV b4);have S4:=SF.out (w4) B4.out;have EC:=hid (iC ((⟨#[104]⟩:ByteArray)++fq n) a3 a4 n3 n4 c3 c4 w4))
   | (go_simp;go_at_call 57;(with_reducible refine EC.out.mono ?_);rintro e w5 ⟨rfl,b5⟩;have BL:=hid (aU B4.out b5);obtain ⟨x0,x1,x2,x3,xf⟩:=mJ (K1.out.below BL.out);have S5:=SF.out (w5) BL.out;have K6:=qN S w5 (.string ((⟨#[104]⟩:ByteArray)++fq n)) (.string ⟨#[]⟩) (.slice a3 n3 c3) (.slice a4 n4 c4);have S6:=And.imp (K6 _ _) (And.imp (K6 _ _) (And.imp (K6 _ _) (And.imp (K6 _ _) (K6 _ _)))) (SF.out w5 BL.out);clear K6))
 all_goals
  have HN:=hid (show jA (W0.heap.size<=·) w5 (jB at_ []) (iL li) (.slice a3 n3 c3) (.slice a4 n4 c4) from ⟨mV.out.aV b5,fI.out.aV b5⟩);clear b5 fI EC mV hrow3 hrow4 b4 S0 S3 S4 S5 S6 yJ S1 b1;obtain ⟨w9,dG⟩:∃ w9,w9=four w5 (S+1) (.string ((⟨#[104]⟩:ByteArray)++fq n)) (.string ⟨#[]⟩) (.slice a3 n3 c3) (.slice a4 n4 c4):=⟨_,rfl⟩;have hf:=fO ((⟨#[104]⟩:ByteArray)++fq n) ⟨#[]⟩ (jB at_ []) (iL li) HS.out Z0.out B0.out K1.out BL.out HN.out;rw [<- dG] at hf;have HC:=hid hf.1;have HP:=hid hf.2;clear hf;have hw8:=dG;simp only [four] at hw8;clear dG;obtain ⟨x0,x1,x2,x3,xf⟩:=mJ (K1.out.below BL.out);go_wp2;rw [<- hw8];have r0:=HC.out.cell 0 _ rfl;have r1:=HC.out.cell 1 _ rfl;have r2:=HC.out.cell 2 _ rfl;have r3:=HC.out.cell 3 _ rfl;exact bodyPost_ret (v:=.agg #[.string ((⟨#[104]⟩:ByteArray)++fq n),.string ⟨#[]⟩,(.slice a3 n3 c3),(.slice a4 n4 c4)]) (by simp [results,Tryz.results106,go_sem,r0,r1,r2,r3]) rfl HP.out
theorem QU (pv:jhk) (lv:Int) (i t d ti:ByteArray) (at_:At) (li:List aj) (ks:List ah) (vc vp vl vk:jhk) (w:jh9) (hR:jV (·<w.heap.size) w at_ li ks vc vp vl vk) (hs:DU i t at_ li) (hl:dH pv w ks vk) (ht:PT w) : Calls Tryz.prog 106 #[pv,.agg #[.int .i64 4,.int .i64 lv,.string i,.string t,.string d,.string ti,.string at_.id,vc,vp,vl,vk]] w (rQ w (aN jM (jB at_ [⟨#[109,97,116,104]⟩]) (bG t))):=by
 obtain ⟨ac,nc,cc,ap,np,cp,al,nl,cl,ak,nk,ck,S,W0,rfl,rfl,rfl,rfl,HS,HW0,e0,SX,HR,Z0,B0,K1⟩:=jL (.int .i64 4) lv i t d ti hR;have Bg:=fZ HS.out hl B0.out;have oo:=He HS.out ht B0.out;have kD:=pY hs HR;have iR:=hid hs;have hst:t.size<=300:=hs.t;have hsi:i.size<=300:=hs.i;clear hR hs hl ht;go_enter Tryz.func106,Tryz.ntmps106;go_upto_region 12 with (fail)
 rw [<- HS.out];have hk0:=HW0.out;simp only [jy] at hk0;rw [<- hk0];clear hk0;have kF:Hid (jhj W0.heap.size W0 (W0.alloc (.cells #[.string ⟨#[109,97,116,104]⟩] 9)).drew):=lX W0 (.cells #[.string ⟨#[109,97,116,104]⟩] 9);have AC:Hid (Calls Tryz.prog 152 #[.agg #[.string at_.id,.slice ac nc cc,.slice ap np cp],.slice (some ⟨W0.heap.size,0,none⟩) 1 1] (W0.alloc (.cells #[.string ⟨#[109,97,116,104]⟩] 9)).drew (bg W0.drew (jB at_ [⟨#[109,97,116,104]⟩]))):=Uw at_ [⟨#[109,97,116,104]⟩] (.slice ac nc cc) (.slice ap np cp) (.slice (some ⟨W0.heap.size,0,none⟩) 1 1) W0.drew (W0.alloc (.cells #[.string ⟨#[109,97,116,104]⟩] 9)).drew (mI.one W0.drew ⟨#[109,97,116,104]⟩) (yH HR.out.at_ kF.out (by have:=Z0.out;omega)) (rW iR.out.at_ ⟨#[109,97,116,104]⟩ (by have:=iR.out.i;decide)).1 (rW iR.out.at_ ⟨#[109,97,116,104]⟩ (by have:=iR.out.i;decide)).2
 have SF:=hid (fun (w':jh9) (hb:jhj W0.heap.size W0 w')=>(⟨(SX.out w' hb).2.2.1,(SX.out w' hb).2.2.2.2.2.1,(SX.out w' hb).2.2.2.2.2.2.1,(SX.out w' hb).2.2.2.2.2.2.2.1⟩:w'.cell? ⟨S,3,none⟩=some (.string t)/\w'.cell? ⟨S,6,none⟩=some (.string at_.id)/\w'.cell? ⟨S,7,none⟩=some (.slice ac nc cc)/\w'.cell? ⟨S,8,none⟩=some (.slice ap np cp)));have S1:=SF.out _ kF.out;have QV:Hid (∀ W:jh9,Calls Tryz.prog 68 #[.string t] W (bU W (bG t))):=fun W=>fu t W
 have S0:=SF.out _ ((je7 W0.heap.size W0).drew);go_wp2_with fail
 go_region_held3 (fun w'=>w'.cell? ⟨S,3,none⟩=some (.string t)/\w'.cell? ⟨S,6,none⟩=some (.string at_.id)/\w'.cell? ⟨S,7,none⟩=some (.slice ac nc cc)/\w'.cell? ⟨S,8,none⟩=some (.slice ap np cp))
  (with_reducible assumption)
  (first
   | (go_simp;go_at_call 152;(with_reducible refine AC.out.mono ?_);rintro e w3 ⟨fM,v3,rfl,hrow3⟩;obtain ⟨a3,n3,c3,rfl⟩:=hrow3.slice3;have B3:Hid (jhj W0.heap.size W0 w3):=(((je7 W0.heap.size W0).drew)).trans (hrow3.aJ.mono (((je7 W0.heap.size W0).drew)).size);have yJ:Hid (Rd (W0.heap.size<=·) w3 (bS (jB at_ [⟨#[109,97,116,104]⟩])) [.slice a3 n3 c3]):=hrow3.eO.weaken (fun b hb=>je9 (((je7 W0.heap.size W0).drew)).size hb);have S3:=SF.out (w3) B3.out;have LC:=hid (QV.out w3))
   | (go_simp;go_at_call 68;(with_reducible refine LC.out.mono ?_);rintro e w4 ⟨dw,v4,rfl,hrow4⟩;obtain ⟨a4,n4,c4,rfl⟩:=hrow4.slice3;have b4:=hrow4.aJ;have B4:=hid (aU B3.out b4);have fI:=hid (show Rd (W0.heap.size<=·) w4 (bX (bG t)) [.slice a4 n4 c4] from hrow4.eO.weaken (fun b hb=>je9 B3.out.size hb));have mV:=hid (yJ.out.aV b4);have S4:=SF.out (w4) B4.out;have EC:=hid (iC ⟨#[100,105,118]⟩ a3 a4 n3 n4 c3 c4 w4))
   | (go_simp;go_at_call 57;(with_reducible refine EC.out.mono ?_);rintro e w5 ⟨rfl,b5⟩;have BL:=hid (aU B4.out b5);obtain ⟨x0,x1,x2,x3,xf⟩:=mJ (K1.out.below BL.out);have S5:=SF.out (w5) BL.out;have K6:=qN S w5 (.string ⟨#[100,105,118]⟩) (.string ⟨#[]⟩) (.slice a3 n3 c3) (.slice a4 n4 c4);have S6:=And.imp (K6 _ _) (And.imp (K6 _ _) (And.imp (K6 _ _) (K6 _ _))) (SF.out w5 BL.out);clear K6))
 all_goals
  have HN:=hid (show jA (W0.heap.size<=·) w5 (jB at_ [⟨#[109,97,116,104]⟩]) (bG t) (.slice a3 n3 c3) (.slice a4 n4 c4) from ⟨mV.out.aV b5,fI.out.aV b5⟩);clear b5 fI EC mV hrow3 hrow4 b4 S0 S3 S4 S5 S6 yJ S1;obtain ⟨w9,dG⟩:∃ w9,w9=four w5 (S+1) (.string ⟨#[100,105,118]⟩) (.string ⟨#[]⟩) (.slice a3 n3 c3) (.slice a4 n4 c4):=⟨_,rfl⟩;have hf:=fO ⟨#[100,105,118]⟩ ⟨#[]⟩ (jB at_ [⟨#[109,97,116,104]⟩]) (bG t) HS.out Z0.out B0.out K1.out BL.out HN.out;rw [<- dG] at hf;have HC:=hid hf.1;have HP:=hid hf.2;clear hf;have hw8:=dG;simp only [four] at hw8;clear dG;obtain ⟨x0,x1,x2,x3,xf⟩:=mJ (K1.out.below BL.out);go_wp2;rw [<- hw8];have r0:=HC.out.cell 0 _ rfl;have r1:=HC.out.cell 1 _ rfl;have r2:=HC.out.cell 2 _ rfl;have r3:=HC.out.cell 3 _ rfl;exact bodyPost_ret (v:=.agg #[.string ⟨#[100,105,118]⟩,.string ⟨#[]⟩,(.slice a3 n3 c3),(.slice a4 n4 c4)]) (by simp [results,Tryz.results106,go_sem,r0,r1,r2,r3]) rfl HP.out
theorem M6 (pv:jhk) (lv:Int) (i t d ti:ByteArray) (at_:At) (li:List aj) (ks:List ah) (vc vp vl vk:jhk) (w:jh9) (hR:jV (·<w.heap.size) w at_ li ks vc vp vl vk) (hs:DU i t at_ li) (hl:dH pv w ks vk) (ht:PT w) : Calls Tryz.prog 106 #[pv,.agg #[.int .i64 13,.int .i64 lv,.string i,.string t,.string d,.string ti,.string at_.id,vc,vp,vl,vk]] w (rQ w (aN jM (jB at_ [i]) (ah.aR ks))):=by
 obtain ⟨ac,nc,cc,ap,np,cp,al,nl,cl,ak,nk,ck,S,W0,rfl,rfl,rfl,rfl,HS,HW0,e0,SX,HR,Z0,B0,K1⟩:=jL (.int .i64 13) lv i t d ti hR;have Bg:=fZ HS.out hl B0.out;have oo:=He HS.out ht B0.out;have kD:=pY hs HR;have iR:=hid hs;have hst:t.size<=300:=hs.t;have hsi:i.size<=300:=hs.i;clear hR hs hl ht;go_enter Tryz.func106,Tryz.ntmps106;go_upto_region 28 with (fail)
 rw [<- HS.out];have hk0:=HW0.out;simp only [jy] at hk0;rw [<- hk0];clear hk0;have kF:Hid (jhj W0.heap.size W0 (W0.alloc (.cells #[.string i] 9)).drew):=lX W0 (.cells #[.string i] 9);have AC:Hid (Calls Tryz.prog 152 #[.agg #[.string at_.id,.slice ac nc cc,.slice ap np cp],.slice (some ⟨W0.heap.size,0,none⟩) 1 1] (W0.alloc (.cells #[.string i] 9)).drew (bg W0.drew (jB at_ [i]))):=Uw at_ [i] (.slice ac nc cc) (.slice ap np cp) (.slice (some ⟨W0.heap.size,0,none⟩) 1 1) W0.drew (W0.alloc (.cells #[.string i] 9)).drew (mI.one W0.drew i) (yH HR.out.at_ kF.out (by have:=Z0.out;omega)) (rW iR.out.at_ i (by have:=iR.out.i;omega)).1 (rW iR.out.at_ i (by have:=iR.out.i;omega)).2
 have SF:=hid (fun (w':jh9) (hb:jhj W0.heap.size W0 w')=>(⟨(SX.out w' hb).2.1,(SX.out w' hb).2.2.2.2.2.1,(SX.out w' hb).2.2.2.2.2.2.1,(SX.out w' hb).2.2.2.2.2.2.2.1,(SX.out w' hb).2.2.2.2.2.2.2.2.2⟩:w'.cell? ⟨S,2,none⟩=some (.string i)/\w'.cell? ⟨S,6,none⟩=some (.string at_.id)/\w'.cell? ⟨S,7,none⟩=some (.slice ac nc cc)/\w'.cell? ⟨S,8,none⟩=some (.slice ap np cp)/\w'.cell? ⟨S,10,none⟩=some (.slice ak nk ck)));have S1:=SF.out _ kF.out;have S0:=SF.out _ ((je7 W0.heap.size W0).drew);go_wp2_with fail
 go_region_held3 (fun w'=>w'.cell? ⟨S,2,none⟩=some (.string i)/\w'.cell? ⟨S,6,none⟩=some (.string at_.id)/\w'.cell? ⟨S,7,none⟩=some (.slice ac nc cc)/\w'.cell? ⟨S,8,none⟩=some (.slice ap np cp)/\w'.cell? ⟨S,10,none⟩=some (.slice ak nk ck))
  (with_reducible assumption)
  (first
   | (go_simp;go_at_call 152;(with_reducible refine AC.out.mono ?_);rintro e w3 ⟨fM,v3,rfl,hrow3⟩;obtain ⟨a3,n3,c3,rfl⟩:=hrow3.slice3;have B3:Hid (jhj W0.heap.size W0 w3):=(((je7 W0.heap.size W0).drew)).trans (hrow3.aJ.mono (((je7 W0.heap.size W0).drew)).size);have yJ:Hid (Rd (W0.heap.size<=·) w3 (bS (jB at_ [i])) [.slice a3 n3 c3]):=hrow3.eO.weaken (fun b hb=>je9 (((je7 W0.heap.size W0).drew)).size hb);have S3:=SF.out (w3) B3.out;have LC:=hid (Bg.out w3 B3.out))
   | (go_simp;go_at_call 55;(with_reducible refine LC.out.mono ?_);rintro e w4 ⟨dw,v4,rfl,hrow4⟩;obtain ⟨a4,n4,c4,rfl⟩:=hrow4.slice3;have b4:=hrow4.aJ;have B4:=hid (aU B3.out b4);have fI:=hid (show Rd (W0.heap.size<=·) w4 (bX (ah.aR ks)) [.slice a4 n4 c4] from hrow4.eO.weaken (fun b hb=>je9 B3.out.size hb));have mV:=hid (yJ.out.aV b4);have S4:=SF.out (w4) B4.out;have EC:=hid (iC ⟨#[100,105,118]⟩ a3 a4 n3 n4 c3 c4 w4))
   | (go_simp;go_at_call 57;(with_reducible refine EC.out.mono ?_);rintro e w5 ⟨rfl,b5⟩;have BL:=hid (aU B4.out b5);obtain ⟨x0,x1,x2,x3,xf⟩:=mJ (K1.out.below BL.out);have S5:=SF.out (w5) BL.out;have K6:=qN S w5 (.string ⟨#[100,105,118]⟩) (.string ⟨#[]⟩) (.slice a3 n3 c3) (.slice a4 n4 c4);have S6:=And.imp (K6 _ _) (And.imp (K6 _ _) (And.imp (K6 _ _) (And.imp (K6 _ _) (K6 _ _)))) (SF.out w5 BL.out);clear K6))
 all_goals
  have HN:=hid (show jA (W0.heap.size<=·) w5 (jB at_ [i]) (ah.aR ks) (.slice a3 n3 c3) (.slice a4 n4 c4) from ⟨mV.out.aV b5,fI.out.aV b5⟩);clear b5 fI EC mV hrow3 hrow4 b4 S0 S3 S4 S5 S6 yJ S1;obtain ⟨w9,dG⟩:∃ w9,w9=four w5 (S+1) (.string ⟨#[100,105,118]⟩) (.string ⟨#[]⟩) (.slice a3 n3 c3) (.slice a4 n4 c4):=⟨_,rfl⟩;have hf:=fO ⟨#[100,105,118]⟩ ⟨#[]⟩ (jB at_ [i]) (ah.aR ks) HS.out Z0.out B0.out K1.out BL.out HN.out;rw [<- dG] at hf;have HC:=hid hf.1;have HP:=hid hf.2;clear hf;have hw8:=dG;simp only [four] at hw8;clear dG;obtain ⟨x0,x1,x2,x3,xf⟩:=mJ (K1.out.below BL.out);go_wp2;rw [<- hw8];have r0:=HC.out.cell 0 _ rfl;have r1:=HC.out.cell 1 _ rfl;have r2:=HC.out.cell 2 _ rfl;have r3:=HC.out.cell 3 _ rfl;exact bodyPost_ret (v:=.agg #[.string ⟨#[100,105,118]⟩,.string ⟨#[]⟩,(.slice a3 n3 c3),(.slice a4 n4 c4)]) (by simp [results,Tryz.results106,go_sem,r0,r1,r2,r3]) rfl HP.out
open Go.RowKit
mutual
def ah.walk:ah->Prop
 | .mk k lv i t d ti a li ks=>(1<=k/\k<=15/\k≠11/\k≠12)/\DU i t a li/\(k=2\/k=8->0<=lv/\lv<=999999999)/\(k=10->YG i ks)/\(k≠10->ah.jN ks)
def ah.jN:List ah->Prop
 | []=>True
 | x::l=>x.walk/\ah.jN l
end
theorem ah.xw:∀ (l:List ah),ah.jN l->∀ x∈l,x.walk
 | [],_,x,hx=>by cases hx
 | y::l,h,x,hx=>by
  rw [ah.jN] at h;rcases List.mem_cons.1 hx with rfl | hx
  ·exact h.1
  ·exact ah.xw l h.2 x hx
theorem DX (pv:jhk) (k lv:Int) (i t d ti:ByteArray) (at_:At) (li:List aj) (ks:List ah) (vc vp vl vk:jhk) (w:jh9) (hR:jV (·<w.heap.size) w at_ li ks vc vp vl vk) (hw:(ah.mk k lv i t d ti at_ li ks).walk) (DR:k≠14) (wh:k≠15) (hl:k≠10->dH pv w ks vk) (ht:PT w) : ∃ x,(ah.mk k lv i t d ti at_ li ks).qd=[x]/\Calls Tryz.prog 106 #[pv,.agg #[.int .i64 k,.int .i64 lv,.string i,.string t,.string d,.string ti,.string at_.id,vc,vp,vl,vk]] w (rQ w x):=by
 rw [ah.walk] at hw;obtain ⟨⟨g1,g2,g3,g4⟩,hs,hv,hT,-⟩:=hw;rcases (by omega:k=1\/k=2\/k=3\/k=4\/k=5\/k=6\/k=7\/k=8\/k=9\/k=10\/k=13) with rfl | rfl | rfl | rfl | rfl | rfl | rfl | rfl | rfl | rfl | rfl
 ·exact ⟨_,by rw [ah.qd];rfl,QL pv lv i t d ti at_ li ks vc vp vl vk w hR hs (hl (by decide)) ht⟩
 ·obtain ⟨n,rfl⟩:∃ n:Nat,lv=(n:Int):=⟨lv.toNat,by have:=hv (by decide);omega⟩;exact ⟨aN (nH++fq n) (jB at_ []) (iL li),by rw [ah.qd];rfl,QT pv n i t d ti at_ li ks vc vp vl vk w hR hs (hl (by decide)) ht n rfl (by have:=hv (by decide);omega)⟩
 ·by_cases hi:q01 i=true
  ·exact ⟨aN Hf [] [aN gK [] (bG t)],by rw [ah.qd,hi];rfl,MV pv lv i t d ti at_ li ks vc vp vl vk w hR hs (hl (by decide)) ht hi⟩
  ·have hi:q01 i=false:=by simpa using hi
   refine ⟨aN Hf [] [aN gK [⟨eP,tH++i⟩] (bG t)],?_,MW pv lv i t d ti at_ li ks vc vp vl vk w hR hs (hl (by decide)) ht hi⟩;rw [ah.qd,hi];show [aN Hf [] [aN gK (iD eP (tH++i)) (bG t)]]=_;unfold iD;rw [show q01 (tH++i)=false by rw [yK,hi,Bool.and_false]];rfl
 ·exact ⟨_,by rw [ah.qd];rfl,QU pv lv i t d ti at_ li ks vc vp vl vk w hR hs (hl (by decide)) ht⟩
 ·exact ⟨_,by rw [ah.qd];rfl,QS pv lv i t d ti at_ li ks vc vp vl vk w hR hs (hl (by decide)) ht⟩
 ·exact ⟨_,by rw [ah.qd];rfl,QM pv lv i t d ti at_ li ks vc vp vl vk w hR hs (hl (by decide)) ht⟩
 ·exact ⟨_,by rw [ah.qd];rfl,QN pv lv i t d ti at_ li ks vc vp vl vk w hR hs (hl (by decide)) ht⟩
 ·by_cases h1:lv=1
  ·exact ⟨aN Tt [] (ah.aR ks),by rw [ah.qd,h1];rfl,MZ pv lv i t d ti at_ li ks vc vp vl vk w hR hs (hl (by decide)) ht h1⟩
  ·obtain ⟨n,rfl⟩:∃ n:Nat,lv=(n:Int):=⟨lv.toNat,by have:=hv (by decide);omega⟩;refine ⟨aN Tt [⟨sStart,fq n⟩] (ah.aR ks),?_,M4 pv n i t d ti at_ li ks vc vp vl vk w hR hs (hl (by decide)) ht n rfl (by have:=hv (by decide);omega) h1⟩;rw [ah.qd];show [aN Tt (if (n:Int)=1 then [] else [⟨sStart,fq n⟩]) (ah.aR ks)]=_;rw [if_neg h1]
 ·exact ⟨_,by rw [ah.qd];rfl,QO pv lv i t d ti at_ li ks vc vp vl vk w hR hs (hl (by decide)) ht⟩
 ·exact ⟨cO i ks,by rw [ah.qd];rfl,MU pv lv i t d ti at_ li ks vc vp vl vk w hR hs ht (hT rfl)⟩
 ·exact ⟨_,by rw [ah.qd];rfl,M6 pv lv i t d ti at_ li ks vc vp vl vk w hR hs (hl (by decide)) ht⟩
theorem tJ:∀ (l:List ah),(ah.aR l).length<=l.length
 | []=>by simp [ah.aR]
 | x::l=>by
  have h:=tJ l;rw [ah.aR,List.length_append,List.length_cons];have h2:x.qd.length<=1:=by
   obtain ⟨k,lv,i,t,d,ti,a,li,ks⟩:=x;rw [ah.qd]
   (repeat' split)<;>simp
  omega
def Bn (w:jh9) (l:List ah) (v vi:jhk) (wr:jh9):Prop:=
 ∃ (k:Nat) (rows:List (List jhk)),k<=l.length/\vi=.int .i64 k/\aI 43 4 (fun _=>False) wr.heap.size w ((ah.aR (l.take k)).map Nd.d) rows v wr
theorem qO (pv:jhk) (n:Nat):∀ (l:List ah) (v:jhk) (w:jh9),ah.aS l<=n->n<=900000->Rd (·<w.heap.size) w (nR l) [v]->ah.jN l->PT w -> Calls Tryz.prog 55 #[pv,v] w (bU w (ah.aR l)):=by
 induction n using Nat.strongRecOn with
 | _ n ih=>
  intro l v w hn hnm hrd hwk ht;obtain ⟨iN,FJ,oq,ou,ow⟩:=info_parts mW;obtain ⟨ak,ck,hvk,hs⟩:=Rd.aC hrd;obtain ⟨nk,hnk⟩:∃ nk,nk=l.length:=⟨_,rfl⟩;obtain rfl:v=.slice ak nk ck:=by rw [hnk];simpa using hvk
  have hcap:nk<=ck:=by have:=hs.le;rw [List.length_map] at this;omega
  have hmx:=hs.max;unfold maxLen at hmx;have Ux:nk<=900000:=by have:=ah.gZ l;omega
  have HS2:=hid hs;have Bo:=hid hnk;have HWK:=hid (ah.xw l hwk);have oo:=hid ht;have IH:=hid ih;have Uy:=hid (And.intro hn hnm);have R0:Hid (Bn w l (.slice none 0 0) (.int .i64 0) w):=⟨0,[],Nat.zero_le _,rfl,aI.nil _ _ _ _⟩;clear hrd hvk hs hnk hwk ht ih hn hnm;go_enter Tryz.func55,Tryz.ntmps55;go_wp2
  go_loopw [5,10] (fun v vi wr=>Bn w l v vi wr) (fun _ vi _=>nk-(intOf vi).toNat)
  case atStart=>exact R0.out
  case round=>
   clear R0;obtain ⟨j,rows,hj,rfl,hrow⟩:=hrel;obtain ⟨ds,hds⟩:∃ ds,ds=(ah.aR (l.take j)).map Nd.d:=⟨_,rfl⟩;rw [<- hds] at hrow;obtain ⟨m,hm⟩:∃ m,m=ds.length:=⟨_,rfl⟩;have YH:m<=1000000:=by have h:=tJ (l.take j);have h2:(l.take j).length<=l.length:=List.length_take_le' _ _;rw [hm,hds,List.length_map];have:=Bo.out;omega
   obtain ⟨av,cv,rfl,-,-⟩:=hrow.cap hm.symm;have HM:=hid hm.symm;have zR:=hid hds.symm;have bC:=hid hrow;clear hrow hm hds;by_cases hlt:j<nk
   ·obtain ⟨y,hy⟩:∃ y,l[j]?=some y:=⟨_,List.getElem?_eq_getElem (by have:=Bo.out;omega)⟩;have hsn:=xA l j y hy;have hwy:=HWK.out y (List.mem_of_getElem? hy);have hsz:=ah.aZ l j y hy;obtain ⟨yk,FM,yi,yt,yd,FN,DY,Hg,Bq⟩:=y;obtain ⟨ga,off,vc,vp,vl,vk,rfl,hok,hbl,hc,hR⟩:=dV HS2.out hy;obtain ⟨c0,c1,c2,c3,c4,c5,c6,c7,c8,c9,c10⟩:=hc.at2 (w':=wr) (bC.out.aJ.block ga hok);obtain ⟨JA,JB,JC,rfl⟩:=Rd.au hR.at_.cls
    obtain ⟨JD,JE,JF,rfl⟩:=Rd.au hR.at_.aP
    obtain ⟨zS,zT,zU,rfl⟩:=Rd.au hR.line;obtain ⟨JG,JH,JI,rfl⟩:=Rd.au hR.kids;have HR:=hid hR;have HWY:=hid hwy;have Hl:=hid hsz;clear hok hbl hc hR hwy hy hsz;go_upto_region 5 with (fail)
    obtain ⟨p,hp⟩:∃ p,p=wr.heap.size:=⟨_,rfl⟩;obtain ⟨wA,gW⟩:∃ wA,wA=wr.alloc (.cells #[.int .i64 yk,.int .i64 FM,.string yi,.string yt,.string yd,.string FN,.string DY.id,.slice JA JB JC,.slice JD JE JF,.slice zS zT zU,.slice JG JH JI] 30):=⟨_,rfl⟩;have PA:CB 30 p [.int .i64 yk,.int .i64 FM,.string yi,.string yt,.string yd,.string FN,.string DY.id,.slice JA JB JC,.slice JD JE JF,.slice zS zT zU,.slice JG JH JI] wA:=by rw [gW,hp];exact CB.new _ _ wr
    have bA:jhj wr.heap.size wr wA:=by rw [gW];exact (je7 _ _).alloc (Nat.le_refl _) _
    rw [<- gW,<- hp];have BA:=hid bA;have Tv:jhj w.heap.size w wA:=bC.out.aJ.trans (bA.mono bC.out.aJ.size);have d0:=PA.cell 0 _ rfl;have d1:=PA.cell 1 _ rfl;have d2:=PA.cell 2 _ rfl;have d3:=PA.cell 3 _ rfl;have d4:=PA.cell 4 _ rfl;have d5:=PA.cell 5 _ rfl;have d6:=PA.cell 6 _ rfl;have d7:=PA.cell 7 _ rfl;have d8:=PA.cell 8 _ rfl;have d9:=PA.cell 9 _ rfl;have d10:=PA.cell 10 _ rfl;have Xn:=hid Tv;have hpw:wr.heap.size<=wA.heap.size:=bA.size;clear gW hp c0 c1 c2 c3 c4 c5 c6 c7 c8 c9 c10 PA bA Tv;by_cases DR:yk=14
    ·have Xl:(yk==14)=true:=by rw [DR];rfl
     subst DR;have pJ:Hid ((ah.aR (l.take (j+1))).map Nd.d=ds):=by show _=_;rw [hsn,List.map_append,zR.out];show ds++(ah.qd _).map Nd.d=ds;rw [ah.qd];exact List.append_nil _
     have HF:Hid (Bn w l (.slice av m cv) (.int .i64 ((j+1:Nat):Int)) wA):=⟨j+1,_,by have:=Bo.out;omega,rfl,by rw [pJ.out];exact (bC.out.below BA.out).top⟩;clear hsn;go_wp2;go_roundw;case rel=>exact HF.out
     case measure=>simp [intOf];omega
    by_cases wh:yk=15
    ·have Xl:(yk==14)=false:=by rw [wh];rfl
     have Tp:(yk==15)=true:=by rw [wh];rfl
     subst wh;have pJ:Hid ((ah.aR (l.take (j+1))).map Nd.d=ds):=by show _=_;rw [hsn,List.map_append,zR.out];show ds++(ah.qd _).map Nd.d=ds;rw [ah.qd];exact List.append_nil _
     have HF:Hid (Bn w l (.slice av m cv) (.int .i64 ((j+1:Nat):Int)) wA):=⟨j+1,_,by have:=Bo.out;omega,rfl,by rw [pJ.out];exact (bC.out.below BA.out).top⟩;clear hsn;go_wp2;go_roundw;case rel=>exact HF.out
     case measure=>simp [intOf];omega
    have Xl:(yk==14)=false:=by rw [beq_eq_false_iff_ne];exact DR
    have Tp:(yk==15)=false:=by rw [beq_eq_false_iff_ne];exact wh
    have YI:jV (·<wA.heap.size) wA DY Hg Bq (.slice JA JB JC) (.slice JD JE JF) (.slice zS zT zU) (.slice JG JH JI):=jV.Bj HR.out (fun b (hb:b<w.heap.size) hlt=>⟨by show b<wA.heap.size;have:=Xn.out.size;omega,Xn.out.block b hb⟩);have hw2:=HWY.out;rw [ah.walk] at hw2;obtain ⟨x,hx,hcall⟩:=DX pv yk FM yi yt yd FN DY Hg Bq _ _ _ _ wA YI HWY.out DR wh (fun h10 W hW=>IH.out (ah.aS Bq) (by have:=Hl.out;rw [ah.sz] at this;have:=Uy.out;omega) Bq _ W (Nat.le_refl _) (by have:=Hl.out;rw [ah.sz] at this;have:=Uy.out;omega) (Rd.keep (w:=wA) (w':=W) (ok:=(·<wA.heap.size)) (fun b (hb:b<wA.heap.size) hlt=>⟨by show b<W.heap.size;have:=hW.size;omega,hW.block b hb⟩) _ _ YI.kids) (hw2.2.2.2.2 h10) ((oo.out.below Xn.out).below hW)) (oo.out.below Xn.out);obtain ⟨xn,xt,xa,zV⟩:=x;have pJ:=hid (show (ah.aR (l.take (j+1))).map Nd.d=ds++[(Nd.mk xn xt xa zV).d] by rw [hsn,hx,List.map_append,zR.out];rfl);have Uz:=hid hcall;clear hsn hx hcall YI hw2;go_wp2_with fail
    (with_reducible refine Uz.out.mono ?_)
    rintro e w2 ⟨va,vk,he,hR2,hb2⟩;obtain ⟨aA,nA,cA,rfl⟩:=Rd.au hR2.at_
    obtain ⟨aK,nK,cK,rfl⟩:=Rd.au hR2.ks;have he:e=.returned (.agg #[.string xn,.string xt,.slice aA nA cA,.slice aK nK cK]):=he;subst he;have U2:=hid ((bC.out.below BA.out).below hb2);have XD:=hid ((Nd.gI xn xt hR2).weaken (ok':=fun b=>False\/wr.heap.size<=b) (fun b hb=>.inr (je9 hpw hb)));clear Uz hR2 hb2 d0 d1 d2 d3 d4 d5 d6 d7 d8 d9 d10;go_wp2_with (at_builtin;refine iQ rfl _ _ 34 rfl iN _ 80 Tryz.underlying34 FJ oq ou ow rfl (by decide) U2.out (fun _=>False.elim) (Nd.mk xn xt xa zV).d [.string xn,.string xt,.slice aA nA cA,.slice aK nK cK] XD.out rfl j3 HM.out (by omega) (by decide) rfl rfl ?_)
    intro a' c' w5 hrow hg5;have HF:Hid (Bn w l (.slice a' (m+1) c') (.int .i64 ((j+1:Nat):Int)) w5):=⟨j+1,_,by have:=Bo.out;omega,rfl,by rw [pJ.out];exact hrow⟩;clear hrow hg5 XD U2 bC;go_wp2;go_roundw;case rel=>exact HF.out
    case measure=>simp [intOf];omega
   ·have hjl:j=l.length:=by have:=Bo.out;omega
    have HP:Hid (bU w (ah.aR l) (.returned (.slice av m cv)) wr):=by refine ⟨rows,_,rfl,?_⟩;have h:=bC.out;rw [<- zR.out,hjl,List.take_length] at h;exact h
    clear hjl;go_wp2;go_ret;exact HP.out
theorem qg:∀ (l:List ah),ah.ay l->∀ x∈l,x.small
 | [],_,x,hx=>by cases hx
 | y::l,h,x,hx=>by
  rw [ah.ay] at h;rcases List.mem_cons.1 hx with rfl | hx
  ·exact h.1
  ·exact qg l h.2 x hx
theorem mX {x:ah} (h:x.small):ah.ay x.kids/\aj.ay x.kX/\aj.aS x.kX<=120:=by obtain ⟨k,lv,i,t,d,ti,a,li,ks⟩:=x;rw [ah.small] at h;exact ⟨h.2.2.2.2.2.2.2,h.2.2.2.2.2.1,h.2.2.2.2.2.2.1⟩
theorem UA (l:List ah) (x:ah) (hx:x∈l):x.sz<=ah.aS l:=by obtain ⟨j,hj⟩:=List.mem_iff_getElem?.1 hx;exact ah.aZ l j x hj
theorem JJ (x:ah):x.kids.length<=x.sz:=by obtain ⟨k,lv,i,t,d,ti,a,li,ks⟩:=x;have:=ah.gZ ks;rw [ah.sz];show ks.length<=_;omega
mutual
theorem ah.M7 (cl:ByteArray->Bool):∀ (b:ah) (par:Int) (dp:Nat),b.err cl par dp=0->b.JK->b.small->b.sz<=900000->b.walk
 | .mk k lv i t d ti a li ks,par,dp,he,hh,hs,hz=>by
  obtain ⟨h2,hbf,h3⟩:=jO cl he;rw [ah.JK] at hh;obtain ⟨g1,g2,g3,g4,g5,g6,g7,g8⟩:=hh;rw [ah.small] at hs;obtain ⟨s1,s2,s3,s4,s5,s6,s7,s8⟩:=hs;rw [ah.sz] at hz;have hk:1<=k/\k<=15:=by unfold wm at hbf;simp only [Bool.and_eq_true,decide_eq_true_iff] at hbf;obtain ⟨⟨⟨⟨⟨⟨⟨⟨h1,h2⟩,-⟩,-⟩,-⟩,-⟩,-⟩,-⟩,-⟩:=hbf;exact ⟨h1,h2⟩
  rw [ah.walk];refine ⟨⟨hk.1,hk.2,g6,g7⟩,⟨s1,s2,s5,⟨by omega,s6,g1⟩⟩,g2,fun h10=>⟨(g3 h10).1,by have:=ah.gZ ks;omega,fun r hr=>?_⟩,fun h10=>ah.oz cl ks k (dp+1) h3 (g8 h10) s8 (by omega)⟩;have hr2:=mX (qg ks s8 r hr);have hr3:=UA ks r hr;have hr4:=JJ r;refine ⟨((g3 h10).2 r hr).1,by omega,fun c hc=>?_⟩;have hc2:=mX (qg r.kids hr2.1 c hc);exact ⟨by omega,hc2.2.1,((g3 h10).2 r hr).2 c hc⟩
theorem ah.oz (cl:ByteArray->Bool):∀ (l:List ah) (par:Int) (dp:Nat),ah.aQ cl par dp l=0->ah.qP l->ah.ay l->ah.aS l<=900000->ah.jN l
 | [],_,_,_,_,_,_=>by rw [ah.jN];trivial
 | x::l,par,dp,he,hh,hs,hz=>by
  rw [ah.aQ] at he;rw [ah.qP] at hh;rw [ah.ay] at hs;rw [ah.aS] at hz;rw [ah.jN];by_cases h1:x.err cl par dp≠0
  ·rw [if_pos h1] at he;exact absurd he h1
  ·rw [if_neg h1] at he;exact ⟨ah.M7 cl x par dp (Classical.not_not.1 h1) hh.1 hs.1 (by omega),ah.oz cl l par dp he hh.2 hs.2 (by omega)⟩
end
open Go.RowKit
open Go.RowKit
open Go.RowKit
end Go.Proofs.YtclikfjalmcoaaaGreatDoor

