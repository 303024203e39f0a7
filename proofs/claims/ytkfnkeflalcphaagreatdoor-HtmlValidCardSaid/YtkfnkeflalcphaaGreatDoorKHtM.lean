/- Contract of (*html.builder).block, kind by kind: the node of a block. Contracts of (*html.builder).block and (*html.builder).blocks: the nodes of blocks. Plain part: a well-formed, small document without unresolved inlines is one that the walk of html.Blocks asks. -/
import Derived.Test.YtkfnkeflalcphaaGreatDoorKNdL
set_option maxHeartbeats 4000000
set_option maxRecDepth 100000
open Go.Lib (hid)
namespace Go.Proofs.YtkfnkeflalcphaaGreatDoor
open Go.RowKit.Below renaming refl->jnk
open Nat renaming le_trans->jnx
open Go renaming World->jqz,Value->jr1
open Go.RowKit renaming Below->jr0
open Go.RowKit
set_option linter.unusedVariables false
set_option linter.unusedSimpArgs false
theorem Fh (n:Nat) (w:jqz) (hn:n<=999999999) (ht:PT w) : Calls Tryz.prog 136 #[.int .i64 (n:Int)] w fun e w'=>e=.returned (.string (dD n))/\jr0 w.heap.size w w':=by
 refine (Tryz.strconv_Itoa (n:Int) (by omega) (by omega) w ht.2).mono ?_;rintro e w' ⟨rfl,k,os,rfl⟩;refine ⟨?_,Lib.below_grow _ w (Nat.le_refl _) k os⟩;have:Lib.itoa (n:Int)=Lib.decDigits n:=by unfold Lib.itoa;rw [if_neg (by omega)];simp
 rw [this];rfl
theorem Av (n:Nat) (hn:n<=999999999):(dD n).size<=1000000:=by have h:=wT n 8 (by omega);show (Lib.decDigits n).toArray.size<=1000000;simp;omega
theorem NZ {a:At} (h:a.short):([]++a.cls).length<=100/\∀ c∈[]++a.cls,c.size<=1000:=by unfold At.short at h;rw [List.nil_append];exact ⟨by omega,fun c hc=>by have:=h.2.2.2.1 c hc;omega⟩
theorem vv {a:At} (h:a.short) (s:ByteArray) (hs:s.size<=1000):([s]++a.cls).length<=100/\∀ c∈[s]++a.cls,c.size<=1000:=by
 unfold At.short at h;refine ⟨by simp;omega,fun c hc=>?_⟩;rcases List.mem_cons.1 hc with rfl | hc
 ·exact hs
 ·have:=h.2.2.2.1 c hc;omega
def dV (pv:jr1) (w:jqz) (ks:List ah) (vk:jr1):Prop:=∀ W:jqz,jr0 w.heap.size w W->Calls Tryz.prog 38 #[pv,vk] W (cO W (ah.aS ks))
structure Ia (i t:ByteArray) (at_:At) (li:List aj):Prop where
 i:i.size<=300
 t:t.size<=300
 at_:at_.short
 li:LnW li
theorem LA {S:Nat} {w W0:jqz} (hS:S=w.heap.size) (ht:PT w) (b0:jr0 S w W0):Hid (∀ W:jqz,jr0 W0.heap.size W0 W->PT W):=
 fun W hW=>ht.below (by rw [<- hS];exact b0.trans (hW.mono (by have:=b0.size;omega)))
theorem sI {S nl cl:Nat} {al:Option Addr} {W0:jqz} {i t:ByteArray} {at_:At} {li:List aj} {ks:List ah} {vc vp vk:jr1} (hs:Ia i t at_ li) (HR:Hid (mg (·<S) W0 at_ li ks vc vp (.slice al nl cl) vk)) : Hid (∀ W:jqz,jr0 W0.heap.size W0 W->Calls Tryz.prog 78 #[.slice al nl cl] W (cO W (iY li))):=fun W hW=>
 sJ 900000 li _ W hs.li.sz (by decide) (Rd.keep (w:=W0) (w':=W) (ok:=(·<S)) (fun b (hb:b<S) hlt=>⟨by show b<W.heap.size;have:=hW.size;omega,hW.block b hlt⟩) _ _ HR.out.line) hs.li.sm hs.li.tf
theorem Xh (pv:jr1) (lv:Int) (i t d ti:ByteArray) (at_:At) (li:List aj) (ks:List ah) (vc vp vl vk:jr1) (w:jqz) (hR:mg (·<w.heap.size) w at_ li ks vc vp vl vk) (hs:Ia i t at_ li) (hl:dV pv w ks vk) (ht:PT w) : Calls Tryz.prog 86 #[pv,.agg #[.int .i64 1,.int .i64 lv,.string i,.string t,.string d,.string ti,.string at_.id,vc,vp,vl,vk]] w (uR w (aO nP [] (iY li))):=by
 obtain ⟨ac,nc,cc,ap,np,cp,al,nl,cl,ak,nk,ck,S,W0,rfl,rfl,rfl,rfl,HS,HW0,e0,SX,HR,Z0,B0,K1⟩:=lG (.int .i64 1) lv i t d ti hR;have Fj:=gX HS.out hl B0.out;have qX:=LA HS.out ht B0.out;have mX:=sI hs HR;have jO:=hid hs;have hst:t.size<=300:=hs.t;have hsi:i.size<=300:=hs.i;clear hR hs hl ht;go_enter Tryz.func86,Tryz.ntmps86;go_upto_region 3 with (fail)
 rw [<- HS.out];have hk0:=HW0.out;simp only [fP] at hk0;rw [<- hk0];clear hk0;have LC:=hid (mX.out W0 (jnk _ _));have g9:=(SX.out W0 (jnk _ _)).2.2.2.2.2.2.2.2.1;go_wp2_with fail
 (with_reducible refine LC.out.mono ?_)
 rintro e w4 ⟨dJ,v4,rfl,hrow4⟩;obtain ⟨a4,n4,c4,rfl⟩:=hrow4.slice3;have b4:=hrow4.aN;have B4:=hid b4;have gH:=hid (show Rd (W0.heap.size<=·) w4 (dh (iY li)) [.slice a4 n4 c4] from hrow4.eP);have EC:=hid (lD ⟨#[112]⟩ none a4 0 n4 0 c4 w4);clear b4 hrow4 LC g9;go_wp2_with fail
 (with_reducible refine EC.out.mono ?_)
 rintro e w5 ⟨rfl,b5⟩;have BL:=hid (aU B4.out b5);have HN:=hid (show gF (W0.heap.size<=·) w5 [] (iY li) (.slice none 0 0) (.slice a4 n4 c4) from ⟨Rd.aD _ _ _,gH.out.aV b5⟩);clear b5 gH EC;obtain ⟨w9,hw8,r0,r1,r2,r3,HP,x0,x1,x2,x3,xf⟩:=iK ⟨#[112]⟩ ⟨#[]⟩ [] (iY li) HS Z0 B0 K1 BL HN.out;go_wp2;rw [<- hw8];exact bodyPost_ret (v:=.agg #[.string ⟨#[112]⟩,.string ⟨#[]⟩,(.slice none 0 0),(.slice a4 n4 c4)]) (by simp [results,Tryz.results86,go_sem,r0,r1,r2,r3]) rfl HP.out
theorem Xi (pv:jr1) (lv:Int) (i t d ti:ByteArray) (at_:At) (li:List aj) (ks:List ah) (vc vp vl vk:jr1) (w:jqz) (hR:mg (·<w.heap.size) w at_ li ks vc vp vl vk) (hs:Ia i t at_ li) (hl:dV pv w ks vk) (ht:PT w) : Calls Tryz.prog 86 #[pv,.agg #[.int .i64 6,.int .i64 lv,.string i,.string t,.string d,.string ti,.string at_.id,vc,vp,vl,vk]] w (uR w (aO wU [] (ah.aS ks))):=by
 obtain ⟨ac,nc,cc,ap,np,cp,al,nl,cl,ak,nk,ck,S,W0,rfl,rfl,rfl,rfl,HS,HW0,e0,SX,HR,Z0,B0,K1⟩:=lG (.int .i64 6) lv i t d ti hR;have Fj:=gX HS.out hl B0.out;have qX:=LA HS.out ht B0.out;have mX:=sI hs HR;have jO:=hid hs;have hst:t.size<=300:=hs.t;have hsi:i.size<=300:=hs.i;clear hR hs hl ht;go_enter Tryz.func86,Tryz.ntmps86;go_upto_region 16 with (fail)
 rw [<- HS.out];have hk0:=HW0.out;simp only [fP] at hk0;rw [<- hk0];clear hk0;have LC:=hid (Fj.out W0 (jnk _ _));have g9:=(SX.out W0 (jnk _ _)).2.2.2.2.2.2.2.2.2;go_wp2_with fail
 (with_reducible refine LC.out.mono ?_)
 rintro e w4 ⟨dJ,v4,rfl,hrow4⟩;obtain ⟨a4,n4,c4,rfl⟩:=hrow4.slice3;have b4:=hrow4.aN;have B4:=hid b4;have gH:=hid (show Rd (W0.heap.size<=·) w4 (dh (ah.aS ks)) [.slice a4 n4 c4] from hrow4.eP);have EC:=hid (lD ⟨#[98,108,111,99,107,113,117,111,116,101]⟩ none a4 0 n4 0 c4 w4);clear b4 hrow4 LC g9;go_wp2_with fail
 (with_reducible refine EC.out.mono ?_)
 rintro e w5 ⟨rfl,b5⟩;have BL:=hid (aU B4.out b5);have HN:=hid (show gF (W0.heap.size<=·) w5 [] (ah.aS ks) (.slice none 0 0) (.slice a4 n4 c4) from ⟨Rd.aD _ _ _,gH.out.aV b5⟩);clear b5 gH EC;obtain ⟨w9,hw8,r0,r1,r2,r3,HP,x0,x1,x2,x3,xf⟩:=iK ⟨#[98,108,111,99,107,113,117,111,116,101]⟩ ⟨#[]⟩ [] (ah.aS ks) HS Z0 B0 K1 BL HN.out;go_wp2;rw [<- hw8];exact bodyPost_ret (v:=.agg #[.string ⟨#[98,108,111,99,107,113,117,111,116,101]⟩,.string ⟨#[]⟩,(.slice none 0 0),(.slice a4 n4 c4)]) (by simp [results,Tryz.results86,go_sem,r0,r1,r2,r3]) rfl HP.out
theorem Xj (pv:jr1) (lv:Int) (i t d ti:ByteArray) (at_:At) (li:List aj) (ks:List ah) (vc vp vl vk:jr1) (w:jqz) (hR:mg (·<w.heap.size) w at_ li ks vc vp vl vk) (hs:Ia i t at_ li) (hl:dV pv w ks vk) (ht:PT w) : Calls Tryz.prog 86 #[pv,.agg #[.int .i64 7,.int .i64 lv,.string i,.string t,.string d,.string ti,.string at_.id,vc,vp,vl,vk]] w (uR w (aO nUl [] (ah.aS ks))):=by
 obtain ⟨ac,nc,cc,ap,np,cp,al,nl,cl,ak,nk,ck,S,W0,rfl,rfl,rfl,rfl,HS,HW0,e0,SX,HR,Z0,B0,K1⟩:=lG (.int .i64 7) lv i t d ti hR;have Fj:=gX HS.out hl B0.out;have qX:=LA HS.out ht B0.out;have mX:=sI hs HR;have jO:=hid hs;have hst:t.size<=300:=hs.t;have hsi:i.size<=300:=hs.i;clear hR hs hl ht;go_enter Tryz.func86,Tryz.ntmps86;go_upto_region 18 with (fail)
 rw [<- HS.out];have hk0:=HW0.out;simp only [fP] at hk0;rw [<- hk0];clear hk0;have LC:=hid (Fj.out W0 (jnk _ _));have g9:=(SX.out W0 (jnk _ _)).2.2.2.2.2.2.2.2.2;go_wp2_with fail
 (with_reducible refine LC.out.mono ?_)
 rintro e w4 ⟨dJ,v4,rfl,hrow4⟩;obtain ⟨a4,n4,c4,rfl⟩:=hrow4.slice3;have b4:=hrow4.aN;have B4:=hid b4;have gH:=hid (show Rd (W0.heap.size<=·) w4 (dh (ah.aS ks)) [.slice a4 n4 c4] from hrow4.eP);have EC:=hid (lD ⟨#[117,108]⟩ none a4 0 n4 0 c4 w4);clear b4 hrow4 LC g9;go_wp2_with fail
 (with_reducible refine EC.out.mono ?_)
 rintro e w5 ⟨rfl,b5⟩;have BL:=hid (aU B4.out b5);have HN:=hid (show gF (W0.heap.size<=·) w5 [] (ah.aS ks) (.slice none 0 0) (.slice a4 n4 c4) from ⟨Rd.aD _ _ _,gH.out.aV b5⟩);clear b5 gH EC;obtain ⟨w9,hw8,r0,r1,r2,r3,HP,x0,x1,x2,x3,xf⟩:=iK ⟨#[117,108]⟩ ⟨#[]⟩ [] (ah.aS ks) HS Z0 B0 K1 BL HN.out;go_wp2;rw [<- hw8];exact bodyPost_ret (v:=.agg #[.string ⟨#[117,108]⟩,.string ⟨#[]⟩,(.slice none 0 0),(.slice a4 n4 c4)]) (by simp [results,Tryz.results86,go_sem,r0,r1,r2,r3]) rfl HP.out
theorem Xk (pv:jr1) (lv:Int) (i t d ti:ByteArray) (at_:At) (li:List aj) (ks:List ah) (vc vp vl vk:jr1) (w:jqz) (hR:mg (·<w.heap.size) w at_ li ks vc vp vl vk) (hs:Ia i t at_ li) (hl:dV pv w ks vk) (ht:PT w) : Calls Tryz.prog 86 #[pv,.agg #[.int .i64 9,.int .i64 lv,.string i,.string t,.string d,.string ti,.string at_.id,vc,vp,vl,vk]] w (uR w (aO nLi [] (ah.aS ks))):=by
 obtain ⟨ac,nc,cc,ap,np,cp,al,nl,cl,ak,nk,ck,S,W0,rfl,rfl,rfl,rfl,HS,HW0,e0,SX,HR,Z0,B0,K1⟩:=lG (.int .i64 9) lv i t d ti hR;have Fj:=gX HS.out hl B0.out;have qX:=LA HS.out ht B0.out;have mX:=sI hs HR;have jO:=hid hs;have hst:t.size<=300:=hs.t;have hsi:i.size<=300:=hs.i;clear hR hs hl ht;go_enter Tryz.func86,Tryz.ntmps86;go_upto_region 25 with (fail)
 rw [<- HS.out];have hk0:=HW0.out;simp only [fP] at hk0;rw [<- hk0];clear hk0;have LC:=hid (Fj.out W0 (jnk _ _));have g9:=(SX.out W0 (jnk _ _)).2.2.2.2.2.2.2.2.2;go_wp2_with fail
 (with_reducible refine LC.out.mono ?_)
 rintro e w4 ⟨dJ,v4,rfl,hrow4⟩;obtain ⟨a4,n4,c4,rfl⟩:=hrow4.slice3;have b4:=hrow4.aN;have B4:=hid b4;have gH:=hid (show Rd (W0.heap.size<=·) w4 (dh (ah.aS ks)) [.slice a4 n4 c4] from hrow4.eP);have EC:=hid (lD ⟨#[108,105]⟩ none a4 0 n4 0 c4 w4);clear b4 hrow4 LC g9;go_wp2_with fail
 (with_reducible refine EC.out.mono ?_)
 rintro e w5 ⟨rfl,b5⟩;have BL:=hid (aU B4.out b5);have HN:=hid (show gF (W0.heap.size<=·) w5 [] (ah.aS ks) (.slice none 0 0) (.slice a4 n4 c4) from ⟨Rd.aD _ _ _,gH.out.aV b5⟩);clear b5 gH EC;obtain ⟨w9,hw8,r0,r1,r2,r3,HP,x0,x1,x2,x3,xf⟩:=iK ⟨#[108,105]⟩ ⟨#[]⟩ [] (ah.aS ks) HS Z0 B0 K1 BL HN.out;go_wp2;rw [<- hw8];exact bodyPost_ret (v:=.agg #[.string ⟨#[108,105]⟩,.string ⟨#[]⟩,(.slice none 0 0),(.slice a4 n4 c4)]) (by simp [results,Tryz.results86,go_sem,r0,r1,r2,r3]) rfl HP.out
theorem Xl (pv:jr1) (lv:Int) (i t d ti:ByteArray) (at_:At) (li:List aj) (ks:List ah) (vc vp vl vk:jr1) (w:jqz) (hR:mg (·<w.heap.size) w at_ li ks vc vp vl vk) (hs:Ia i t at_ li) (hl:dV pv w ks vk) (ht:PT w) : Calls Tryz.prog 86 #[pv,.agg #[.int .i64 5,.int .i64 lv,.string i,.string t,.string d,.string ti,.string at_.id,vc,vp,vl,vk]] w (uR w (aO Xm [] [])):=by
 obtain ⟨ac,nc,cc,ap,np,cp,al,nl,cl,ak,nk,ck,S,W0,rfl,rfl,rfl,rfl,HS,HW0,e0,SX,HR,Z0,B0,K1⟩:=lG (.int .i64 5) lv i t d ti hR;have Fj:=gX HS.out hl B0.out;have qX:=LA HS.out ht B0.out;have mX:=sI hs HR;have jO:=hid hs;have hst:t.size<=300:=hs.t;have hsi:i.size<=300:=hs.i;clear hR hs hl ht;go_enter Tryz.func86,Tryz.ntmps86;go_upto_region 14 with (fail)
 rw [<- HS.out];have hk0:=HW0.out;simp only [fP] at hk0;rw [<- hk0];clear hk0;have EC:=hid (lD ⟨#[104,114]⟩ none none 0 0 0 0 W0);have B4:Hid (jr0 W0.heap.size W0 W0):=jnk _ _;go_wp2_with fail
 (with_reducible refine EC.out.mono ?_)
 rintro e w5 ⟨rfl,b5⟩;have BL:=hid (aU B4.out b5);clear b5;obtain ⟨w9,hw8,r0,r1,r2,r3,HP,x0,x1,x2,x3,xf⟩:=iK ⟨#[104,114]⟩ ⟨#[]⟩ [] [] HS Z0 B0 K1 BL ⟨Rd.aD _ _ _,Rd.aD _ _ _⟩;go_wp2;rw [<- hw8];exact bodyPost_ret (v:=.agg #[.string ⟨#[104,114]⟩,.string ⟨#[]⟩,(.slice none 0 0),(.slice none 0 0)]) (by simp [results,Tryz.results86,go_sem,r0,r1,r2,r3]) rfl HP.out
theorem Sm (pv:jr1) (lv:Int) (i t d ti:ByteArray) (at_:At) (li:List aj) (ks:List ah) (vc vp vl vk:jr1) (w:jqz) (hR:mg (·<w.heap.size) w at_ li ks vc vp vl vk) (hs:Ia i t at_ li) (ht:PT w) (hT:TbW i ks) : Calls Tryz.prog 86 #[pv,.agg #[.int .i64 10,.int .i64 lv,.string i,.string t,.string d,.string ti,.string at_.id,vc,vp,vl,vk]] w (uR w (Aw i ks)):=by
 obtain ⟨ac,nc,cc,ap,np,cp,al,nl,cl,ak,nk,ck,S,W0,rfl,rfl,rfl,rfl,HS,HW0,e0,SX,HR,Z0,B0,K1⟩:=lG (.int .i64 10) lv i t d ti hR;have qX:=LA HS.out ht B0.out;have mX:=sI hs HR;have jO:=hid hs;have hst:t.size<=300:=hs.t;have hsi:i.size<=300:=hs.i;have HT:=hid hT;clear hT;clear hR hs ht;go_enter Tryz.func86,Tryz.ntmps86;go_upto_region 27 with (fail)
 rw [<- HS.out];have hk0:=HW0.out;simp only [fP] at hk0;rw [<- hk0];clear hk0;have TC:=hid (Ib 10 lv i t d ti at_ li ks (.slice ac nc cc) (.slice ap np cp) (.slice al nl cl) (.slice ak nk ck) W0 (mg.Fp HR.out (fun b (hb:b<S) hlt=>⟨hlt,rfl⟩)) HT.out);obtain ⟨g1,g2,g3,g4,g5,g6,g7,g8,g9,g10⟩:=SX.out W0 (jnk _ _);have htb:(Aw i ks).nm=⟨#[116,97,98,108,101]⟩/\(Aw i ks).tx=⟨#[]⟩/\(Aw i ks).at_=[]:=by cases ks<;>exact ⟨rfl,rfl,rfl⟩
 have HTB:=hid htb;clear htb;go_wp2_with fail
 (with_reducible refine TC.out.mono ?_)
 rintro e w5 ⟨va,vk,he,hN,hb5⟩;obtain ⟨aA,nA,cA,rfl⟩:=Rd.au hN.at_
 obtain ⟨aK,nK,cK,rfl⟩:=Rd.au hN.ks;rw [HTB.out.1,HTB.out.2.1] at he;subst he;have BL:=hid hb5;have HN:=hid hN;have HE:Hid (Aw i ks=.mk ⟨#[116,97,98,108,101]⟩ ⟨#[]⟩ (Aw i ks).at_ (Aw i ks).ks):=by show _=_;rw [<- HTB.out.1,<- HTB.out.2.1];cases Aw i ks;rfl
 rw [HE.out];clear hN hb5 g1 g2 g3 g4 g5 g6 g7 g8 g9 g10 TC;obtain ⟨w9,hw8,r0,r1,r2,r3,HP,x0,x1,x2,x3,xf⟩:=iK ⟨#[116,97,98,108,101]⟩ ⟨#[]⟩ (Aw i ks).at_ (Aw i ks).ks HS Z0 B0 K1 BL HN.out
 go_wp2;rw [<- hw8];exact bodyPost_ret (v:=.agg #[.string ⟨#[116,97,98,108,101]⟩,.string ⟨#[]⟩,(.slice aA nA cA),(.slice aK nK cK)]) (by simp [results,Tryz.results86,go_sem,r0,r1,r2,r3]) rfl (by rw [HE.out];exact HP.out)
theorem Sn (pv:jr1) (lv:Int) (i t d ti:ByteArray) (at_:At) (li:List aj) (ks:List ah) (vc vp vl vk:jr1) (w:jqz) (hR:mg (·<w.heap.size) w at_ li ks vc vp vl vk) (hs:Ia i t at_ li) (hl:dV pv w ks vk) (ht:PT w) (hi:q01 i=true) : Calls Tryz.prog 86 #[pv,.agg #[.int .i64 3,.int .i64 lv,.string i,.string t,.string d,.string ti,.string at_.id,vc,vp,vl,vk]] w (uR w (aO LB [] [aO ji [] (bM t)])):=by
 obtain ⟨ac,nc,cc,ap,np,cp,al,nl,cl,ak,nk,ck,S,W0,rfl,rfl,rfl,rfl,HS,HW0,e0,SX,HR,Z0,B0,K1⟩:=lG (.int .i64 3) lv i t d ti hR;have Fj:=gX HS.out hl B0.out;have qX:=LA HS.out ht B0.out;have mX:=sI hs HR;have jO:=hid hs;have hst:t.size<=300:=hs.t;have hsi:i.size<=300:=hs.i;have EX:i.toList.isEmpty=true:=by
  have h:i.toList.isEmpty=q01 i:=by rw [Lib.toList_data,Bool.eq_iff_iff,List.isEmpty_iff,q01,decide_eq_true_iff]
  rw [h];exact hi
 clear hi;clear hR hs hl ht;go_enter Tryz.func86,Tryz.ntmps86;go_upto_region 7 with (fail)
 rw [<- HS.out];have hk0:=HW0.out;simp only [fP] at hk0;rw [<- hk0];clear hk0;have Ve:jr0 W0.heap.size W0 W0:=jnk _ _;have wM:Hid (Rd (W0.heap.size<=·) W0 (bD []) [.slice none 0 0]):=Rd.aD _ _ _;have e2:=(SX.out W0 (jnk _ _)).2.1;have DC:=hid (fO t W0);have g3:=(SX.out W0 Ve).2.2.1;go_wp2_with fail
 (with_reducible refine DC.out.mono ?_)
 rintro e w4 ⟨dJ,v4,rfl,hrow4⟩;obtain ⟨a4,n4,c4,rfl⟩:=hrow4.slice3;have b4:=hrow4.aN;have B4:=hid (aU Ve b4);have gH:=hid (show Rd (W0.heap.size<=·) w4 (dh (bM t)) [.slice a4 n4 c4] from hrow4.eP.weaken (fun b hb=>jnx (Ve).size hb));have pW:=hid (wM.out.aV b4);have EC:=hid (lD ⟨#[99,111,100,101]⟩ none a4 0 n4 0 c4 w4);clear b4 hrow4 DC g3;go_wp2_with fail
 (with_reducible refine EC.out.mono ?_)
 rintro e w5 ⟨rfl,b5⟩;have XD:Ay W0 none w5 (aO ji [] (bM t)).d [.string ⟨#[99,111,100,101]⟩,.string ⟨#[]⟩,.slice none 0 0,.slice a4 n4 c4]:=⟨aU B4.out b5,fun p hp=>by simp at hp,(Nd.iH ji ⟨#[]⟩ (gF.keep ⟨pW.out,gH.out⟩ (fun b hb hlt=>⟨⟨hb,by simp⟩,b5.block b hlt⟩)))⟩;have XL:=hid XD.lit;have Vf:=hid (lD ⟨#[112,114,101]⟩ none (some ⟨w5.heap.size,0,none⟩) 0 1 0 1 (w5.alloc (.cells #[.string ⟨#[99,111,100,101]⟩,.string ⟨#[]⟩,.slice none 0 0,.slice a4 n4 c4] 35)));clear XD b5 EC;go_wp2_with fail
 (with_reducible refine Vf.out.mono ?_)
 rintro e w6 ⟨rfl,b6⟩;have BL:=hid (aU XL.out.aN b6);have HN:=hid (show gF (W0.heap.size<=·) w6 [] [aO ji [] (bM t)] (.slice none 0 0) (.slice (some ⟨w5.heap.size,0,none⟩) 1 1) from ⟨Rd.aD _ _ _,(XL.out.rd.aV b6).weaken (fun b hb=>hb.1)⟩);clear b6 XL Vf;obtain ⟨w9,hw8,r0,r1,r2,r3,HP,x0,x1,x2,x3,xf⟩:=iK ⟨#[112,114,101]⟩ ⟨#[]⟩ [] [aO ji [] (bM t)] HS Z0 B0 K1 BL HN.out;go_wp2;rw [<- hw8];exact bodyPost_ret (v:=.agg #[.string ⟨#[112,114,101]⟩,.string ⟨#[]⟩,(.slice none 0 0),(.slice (some ⟨w5.heap.size,0,none⟩) 1 1)]) (by simp [results,Tryz.results86,go_sem,r0,r1,r2,r3]) rfl HP.out
theorem Sq (pv:jr1) (lv:Int) (i t d ti:ByteArray) (at_:At) (li:List aj) (ks:List ah) (vc vp vl vk:jr1) (w:jqz) (hR:mg (·<w.heap.size) w at_ li ks vc vp vl vk) (hs:Ia i t at_ li) (hl:dV pv w ks vk) (ht:PT w) (hi:q01 i=false) : Calls Tryz.prog 86 #[pv,.agg #[.int .i64 3,.int .i64 lv,.string i,.string t,.string d,.string ti,.string at_.id,vc,vp,vl,vk]] w (uR w (aO LB [] [aO ji [⟨eX,⟨#[108,97,110,103,117,97,103,101,45]⟩++i⟩] (bM t)])):=by
 obtain ⟨ac,nc,cc,ap,np,cp,al,nl,cl,ak,nk,ck,S,W0,rfl,rfl,rfl,rfl,HS,HW0,e0,SX,HR,Z0,B0,K1⟩:=lG (.int .i64 3) lv i t d ti hR;have Fj:=gX HS.out hl B0.out;have qX:=LA HS.out ht B0.out;have mX:=sI hs HR;have jO:=hid hs;have hst:t.size<=300:=hs.t;have hsi:i.size<=300:=hs.i;have EX:i.toList.isEmpty=false:=by
  have h:i.toList.isEmpty=q01 i:=by rw [Lib.toList_data,Bool.eq_iff_iff,List.isEmpty_iff,q01,decide_eq_true_iff]
  rw [h];exact hi
 clear hi;clear hR hs hl ht;go_enter Tryz.func86,Tryz.ntmps86;go_upto_region 7 with (fail)
 rw [<- HS.out];have hk0:=HW0.out;simp only [fP] at hk0;rw [<- hk0];clear hk0;have e2:=(SX.out W0 (jnk _ _)).2.1;have q5:(⟨#[108,97,110,103,117,97,103,101,45]⟩:ByteArray).size+i.size<=9223372036854775807:=by have:(⟨#[108,97,110,103,117,97,103,101,45]⟩:ByteArray).size=9:=rfl;omega
 have q6:9+i.size<=9223372036854775807:=by omega
 have PC:Hid (Calls Tryz.prog 41 #[.slice (some ⟨W0.heap.size,0,none⟩) 2 2] (W0.alloc (.cells #[.string ⟨#[99,108,97,115,115]⟩,.string (⟨#[108,97,110,103,117,97,103,101,45]⟩++i)] 9)) (bI (W0.alloc (.cells #[.string ⟨#[99,108,97,115,115]⟩,.string (⟨#[108,97,110,103,117,97,103,101,45]⟩++i)] 9)) [⟨eX,⟨#[108,97,110,103,117,97,103,101,45]⟩++i⟩])):=RZ eX (tY++i) W0;go_wp2_with fail
 (with_reducible refine PC.out.mono ?_)
 rintro e w2 ⟨bE,v2,rfl,hrow2⟩;obtain ⟨a2,c2,rfl,-,-⟩:=hrow2.cap (n:=1) rfl;have bl:jr0 W0.heap.size W0 (W0.alloc (.cells #[.string ⟨#[99,108,97,115,115]⟩,.string (⟨#[108,97,110,103,117,97,103,101,45]⟩++i)] 9)):=(jnk _ _).alloc (Nat.le_refl _) _;have B2:=hid (bl.trans (hrow2.aN.mono bl.size));have wM:=hid (show Rd (W0.heap.size<=·) w2 (bD [⟨eX,⟨#[108,97,110,103,117,97,103,101,45]⟩++i⟩]) [.slice a2 1 c2] from hrow2.eP.weaken (fun b hb=>jnx bl.size hb));clear hrow2 bl PC q5 q6 e2;have DC:=hid (fO t w2);have g3:=(SX.out w2 B2.out).2.2.1;go_wp2_with fail
 (with_reducible refine DC.out.mono ?_)
 rintro e w4 ⟨dJ,v4,rfl,hrow4⟩;obtain ⟨a4,n4,c4,rfl⟩:=hrow4.slice3;have b4:=hrow4.aN;have B4:=hid (aU B2.out b4);have gH:=hid (show Rd (W0.heap.size<=·) w4 (dh (bM t)) [.slice a4 n4 c4] from hrow4.eP.weaken (fun b hb=>jnx (B2.out).size hb));have pW:=hid (wM.out.aV b4);have EC:=hid (lD ⟨#[99,111,100,101]⟩ a2 a4 1 n4 c2 c4 w4);clear b4 hrow4 DC g3;go_wp2_with fail
 (with_reducible refine EC.out.mono ?_)
 rintro e w5 ⟨rfl,b5⟩;have XD:Ay W0 none w5 (aO ji [⟨eX,⟨#[108,97,110,103,117,97,103,101,45]⟩++i⟩] (bM t)).d [.string ⟨#[99,111,100,101]⟩,.string ⟨#[]⟩,.slice a2 1 c2,.slice a4 n4 c4]:=⟨aU B4.out b5,fun p hp=>by simp at hp,(Nd.iH ji ⟨#[]⟩ (gF.keep ⟨pW.out,gH.out⟩ (fun b hb hlt=>⟨⟨hb,by simp⟩,b5.block b hlt⟩)))⟩;have XL:=hid XD.lit;have Vf:=hid (lD ⟨#[112,114,101]⟩ none (some ⟨w5.heap.size,0,none⟩) 0 1 0 1 (w5.alloc (.cells #[.string ⟨#[99,111,100,101]⟩,.string ⟨#[]⟩,.slice a2 1 c2,.slice a4 n4 c4] 35)));clear XD b5 EC;go_wp2_with fail
 (with_reducible refine Vf.out.mono ?_)
 rintro e w6 ⟨rfl,b6⟩;have BL:=hid (aU XL.out.aN b6);have HN:=hid (show gF (W0.heap.size<=·) w6 [] [aO ji [⟨eX,⟨#[108,97,110,103,117,97,103,101,45]⟩++i⟩] (bM t)] (.slice none 0 0) (.slice (some ⟨w5.heap.size,0,none⟩) 1 1) from ⟨Rd.aD _ _ _,(XL.out.rd.aV b6).weaken (fun b hb=>hb.1)⟩);clear b6 XL Vf;obtain ⟨w9,hw8,r0,r1,r2,r3,HP,x0,x1,x2,x3,xf⟩:=iK ⟨#[112,114,101]⟩ ⟨#[]⟩ [] [aO ji [⟨eX,⟨#[108,97,110,103,117,97,103,101,45]⟩++i⟩] (bM t)] HS Z0 B0 K1 BL HN.out;go_wp2;rw [<- hw8];exact bodyPost_ret (v:=.agg #[.string ⟨#[112,114,101]⟩,.string ⟨#[]⟩,(.slice none 0 0),(.slice (some ⟨w5.heap.size,0,none⟩) 1 1)]) (by simp [results,Tryz.results86,go_sem,r0,r1,r2,r3]) rfl HP.out
theorem Sr (pv:jr1) (lv:Int) (i t d ti:ByteArray) (at_:At) (li:List aj) (ks:List ah) (vc vp vl vk:jr1) (w:jqz) (hR:mg (·<w.heap.size) w at_ li ks vc vp vl vk) (hs:Ia i t at_ li) (hl:dV pv w ks vk) (ht:PT w) (hv:lv=1) : Calls Tryz.prog 86 #[pv,.agg #[.int .i64 8,.int .i64 lv,.string i,.string t,.string d,.string ti,.string at_.id,vc,vp,vl,vk]] w (uR w (aO Y6 [] (ah.aS ks))):=by
 obtain ⟨ac,nc,cc,ap,np,cp,al,nl,cl,ak,nk,ck,S,W0,rfl,rfl,rfl,rfl,HS,HW0,e0,SX,HR,Z0,B0,K1⟩:=lG (.int .i64 8) lv i t d ti hR;have Fj:=gX HS.out hl B0.out;have qX:=LA HS.out ht B0.out;have mX:=sI hs HR;have jO:=hid hs;have hst:t.size<=300:=hs.t;have hsi:i.size<=300:=hs.i;have qv:(lv==1)=true:=by rw [hv];rfl
 clear hv;clear hR hs hl ht;go_enter Tryz.func86,Tryz.ntmps86;go_upto_region 20 with (fail)
 rw [<- HS.out];have hk0:=HW0.out;simp only [fP] at hk0;rw [<- hk0];clear hk0;have Ve:jr0 W0.heap.size W0 W0:=jnk _ _;have wM:Hid (Rd (W0.heap.size<=·) W0 (bD []) [.slice none 0 0]):=Rd.aD _ _ _;have e1:=(SX.out W0 (jnk _ _)).1;have LC:=hid (Fj.out W0 Ve);have g10:=(SX.out W0 Ve).2.2.2.2.2.2.2.2.2;go_wp2_with fail
 (with_reducible refine LC.out.mono ?_)
 rintro e w4 ⟨dJ,v4,rfl,hrow4⟩;obtain ⟨a4,n4,c4,rfl⟩:=hrow4.slice3;have b4:=hrow4.aN;have B4:=hid (aU Ve b4);have gH:=hid (show Rd (W0.heap.size<=·) w4 (dh (ah.aS ks)) [.slice a4 n4 c4] from hrow4.eP.weaken (fun b hb=>jnx (Ve).size hb));have pW:=hid (wM.out.aV b4);have EC:=hid (lD ⟨#[111,108]⟩ none a4 0 n4 0 c4 w4);clear b4 hrow4 LC g10;go_wp2_with fail
 (with_reducible refine EC.out.mono ?_)
 rintro e w5 ⟨rfl,b5⟩;have BL:=hid (aU B4.out b5);have HN:=hid (show gF (W0.heap.size<=·) w5 [] (ah.aS ks) (.slice none 0 0) (.slice a4 n4 c4) from ⟨pW.out.aV b5,gH.out.aV b5⟩);clear b5 gH EC;obtain ⟨w9,hw8,r0,r1,r2,r3,HP,x0,x1,x2,x3,xf⟩:=iK ⟨#[111,108]⟩ ⟨#[]⟩ [] (ah.aS ks) HS Z0 B0 K1 BL HN.out;go_wp2;rw [<- hw8];exact bodyPost_ret (v:=.agg #[.string ⟨#[111,108]⟩,.string ⟨#[]⟩,(.slice none 0 0),(.slice a4 n4 c4)]) (by simp [results,Tryz.results86,go_sem,r0,r1,r2,r3]) rfl HP.out
theorem Sv (pv:jr1) (lv:Int) (i t d ti:ByteArray) (at_:At) (li:List aj) (ks:List ah) (vc vp vl vk:jr1) (w:jqz) (hR:mg (·<w.heap.size) w at_ li ks vc vp vl vk) (hs:Ia i t at_ li) (hl:dV pv w ks vk) (ht:PT w) (n:Nat) (hv:lv=(n:Int)) (hn:n<=999999999) (h1:lv≠1) : Calls Tryz.prog 86 #[pv,.agg #[.int .i64 8,.int .i64 lv,.string i,.string t,.string d,.string ti,.string at_.id,vc,vp,vl,vk]] w (uR w (aO Y6 [⟨sStart,dD n⟩] (ah.aS ks))):=by
 obtain ⟨ac,nc,cc,ap,np,cp,al,nl,cl,ak,nk,ck,S,W0,rfl,rfl,rfl,rfl,HS,HW0,e0,SX,HR,Z0,B0,K1⟩:=lG (.int .i64 8) lv i t d ti hR;have Fj:=gX HS.out hl B0.out;have qX:=LA HS.out ht B0.out;have mX:=sI hs HR;have jO:=hid hs;have hst:t.size<=300:=hs.t;have hsi:i.size<=300:=hs.i;have qv:(lv==1)=false:=by rw [beq_eq_false_iff_ne];exact h1
 have IC:Hid (∀ W:jqz,jr0 W0.heap.size W0 W->Calls Tryz.prog 136 #[.int .i64 lv] W (fun e w'=>e=.returned (.string (dD n))/\jr0 W.heap.size W w')):=fun W hW=>by rw [hv];exact Fh n W hn (qX.out W hW)
 clear hv hn h1;clear hR hs hl ht;go_enter Tryz.func86,Tryz.ntmps86;go_upto_region 20 with (fail)
 rw [<- HS.out];have hk0:=HW0.out;simp only [fP] at hk0;rw [<- hk0];clear hk0;have e1:=(SX.out W0 (jnk _ _)).1;have IT:=hid (IC.out W0 (jnk _ _));go_wp2_with fail
 (with_reducible refine IT.out.mono ?_)
 rintro e w1 ⟨rfl,b1⟩;have PC:Hid (Calls Tryz.prog 41 #[.slice (some ⟨w1.heap.size,0,none⟩) 2 2] (w1.alloc (.cells #[.string ⟨#[115,116,97,114,116]⟩,.string (dD n)] 9)) (bI (w1.alloc (.cells #[.string ⟨#[115,116,97,114,116]⟩,.string (dD n)] 9)) [⟨sStart,dD n⟩])):=RZ sStart (dD n) w1;have bl:jr0 W0.heap.size W0 (w1.alloc (.cells #[.string ⟨#[115,116,97,114,116]⟩,.string (dD n)] 9)):=b1.alloc b1.size _;clear IT e1;go_wp2_with fail
 (with_reducible refine PC.out.mono ?_)
 rintro e w2 ⟨bE,v2,rfl,hrow2⟩;obtain ⟨a2,c2,rfl,-,-⟩:=hrow2.cap (n:=1) rfl;have B2:=hid (bl.trans (hrow2.aN.mono bl.size));have wM:=hid (show Rd (W0.heap.size<=·) w2 (bD [⟨sStart,dD n⟩]) [.slice a2 1 c2] from hrow2.eP.weaken (fun b hb=>jnx bl.size hb));clear hrow2 bl PC b1;have LC:=hid (Fj.out w2 B2.out);have g10:=(SX.out w2 B2.out).2.2.2.2.2.2.2.2.2;go_wp2_with fail
 (with_reducible refine LC.out.mono ?_)
 rintro e w4 ⟨dJ,v4,rfl,hrow4⟩;obtain ⟨a4,n4,c4,rfl⟩:=hrow4.slice3;have b4:=hrow4.aN;have B4:=hid (aU B2.out b4);have gH:=hid (show Rd (W0.heap.size<=·) w4 (dh (ah.aS ks)) [.slice a4 n4 c4] from hrow4.eP.weaken (fun b hb=>jnx (B2.out).size hb));have pW:=hid (wM.out.aV b4);have EC:=hid (lD ⟨#[111,108]⟩ a2 a4 1 n4 c2 c4 w4);clear b4 hrow4 LC g10;go_wp2_with fail
 (with_reducible refine EC.out.mono ?_)
 rintro e w5 ⟨rfl,b5⟩;have BL:=hid (aU B4.out b5);have HN:=hid (show gF (W0.heap.size<=·) w5 [⟨sStart,dD n⟩] (ah.aS ks) (.slice a2 1 c2) (.slice a4 n4 c4) from ⟨pW.out.aV b5,gH.out.aV b5⟩);clear b5 gH EC;obtain ⟨w9,hw8,r0,r1,r2,r3,HP,x0,x1,x2,x3,xf⟩:=iK ⟨#[111,108]⟩ ⟨#[]⟩ [⟨sStart,dD n⟩] (ah.aS ks) HS Z0 B0 K1 BL HN.out;go_wp2;rw [<- hw8];exact bodyPost_ret (v:=.agg #[.string ⟨#[111,108]⟩,.string ⟨#[]⟩,(.slice a2 1 c2),(.slice a4 n4 c4)]) (by simp [results,Tryz.results86,go_sem,r0,r1,r2,r3]) rfl HP.out
theorem Xn (pv:jr1) (lv:Int) (i t d ti:ByteArray) (at_:At) (li:List aj) (ks:List ah) (vc vp vl vk:jr1) (w:jqz) (hR:mg (·<w.heap.size) w at_ li ks vc vp vl vk) (hs:Ia i t at_ li) (hl:dV pv w ks vk) (ht:PT w) (n:Nat) (hv:lv=(n:Int)) (hn:n<=999999999) : Calls Tryz.prog 86 #[pv,.agg #[.int .i64 2,.int .i64 lv,.string i,.string t,.string d,.string ti,.string at_.id,vc,vp,vl,vk]] w (uR w (aO (⟨#[104]⟩++dD n) (q0z at_ []) (iY li))):=by
 obtain ⟨ac,nc,cc,ap,np,cp,al,nl,cl,ak,nk,ck,S,W0,rfl,rfl,rfl,rfl,HS,HW0,e0,SX,HR,Z0,B0,K1⟩:=lG (.int .i64 2) lv i t d ti hR;have Fj:=gX HS.out hl B0.out;have qX:=LA HS.out ht B0.out;have mX:=sI hs HR;have jO:=hid hs;have hst:t.size<=300:=hs.t;have hsi:i.size<=300:=hs.i;have IC:Hid (∀ W:jqz,jr0 W0.heap.size W0 W->Calls Tryz.prog 136 #[.int .i64 lv] W (fun e w'=>e=.returned (.string (dD n))/\jr0 W.heap.size W w')):=fun W hW=>by rw [hv];exact Fh n W hn (qX.out W hW)
 have q5:(⟨#[104]⟩:ByteArray).size+(dD n).size<=9223372036854775807:=by have:(⟨#[104]⟩:ByteArray).size=1:=rfl;have:=Av n hn;omega
 have q6:1+(dD n).size<=9223372036854775807:=by have:=Av n hn;omega
 clear hv hn;clear hR hs hl ht;go_enter Tryz.func86,Tryz.ntmps86;go_upto_region 5 with (fail)
 rw [<- HS.out];have hk0:=HW0.out;simp only [fP] at hk0;rw [<- hk0];clear hk0;have IT:=hid (IC.out W0.drew ((jnk W0.heap.size W0).drew));have hadd:∀ w:jqz,(Op.stringOp .add (⟨#[104]⟩:ByteArray) (dD n)).run Tryz.prog w=.ok (.string (⟨#[104]⟩++dD n)) w:=fun w=>run_string_add_sum w _ _ q5
 clear q5;have SF:=hid (fun (w':jqz) (hb:jr0 W0.heap.size W0 w')=>(⟨(SX.out w' hb).1,(SX.out w' hb).2.2.2.2.2.1,(SX.out w' hb).2.2.2.2.2.2.1,(SX.out w' hb).2.2.2.2.2.2.2.1,(SX.out w' hb).2.2.2.2.2.2.2.2.1⟩:w'.cell? ⟨S,1,none⟩=some (.int .i64 lv)/\w'.cell? ⟨S,6,none⟩=some (.string at_.id)/\w'.cell? ⟨S,7,none⟩=some (.slice ac nc cc)/\w'.cell? ⟨S,8,none⟩=some (.slice ap np cp)/\w'.cell? ⟨S,9,none⟩=some (.slice al nl cl)));have S0:=SF.out _ ((jnk W0.heap.size W0).drew);go_wp2_with fail
 go_region_held3 (fun w'=>w'.cell? ⟨S,1,none⟩=some (.int .i64 lv)/\w'.cell? ⟨S,6,none⟩=some (.string at_.id)/\w'.cell? ⟨S,7,none⟩=some (.slice ac nc cc)/\w'.cell? ⟨S,8,none⟩=some (.slice ap np cp)/\w'.cell? ⟨S,9,none⟩=some (.slice al nl cl))
  (with_reducible assumption)
  (first
   | (go_simp;go_at_call 136;(with_reducible refine IT.out.mono ?_);rintro e w1 ⟨rfl,b1⟩;have B1:Hid (jr0 W0.heap.size W0 w1):=((jnk W0.heap.size W0).drew).trans b1;have S1:=SF.out (w1) B1.out;have AC:=hid (q1z at_ [] (.slice ac nc cc) (.slice ap np cp) (.slice none 0 0) w1 w1 pI.nil (Cq HR.out.at_ B1.out (by have:=Z0.out;omega)) (NZ jO.out.at_).1 (NZ jO.out.at_).2))
   | (go_simp;go_at_call 137;(with_reducible refine AC.out.mono ?_);rintro e w3 ⟨gL,v3,rfl,hrow3⟩;obtain ⟨a3,n3,c3,rfl⟩:=hrow3.slice3;have B3:Hid (jr0 W0.heap.size W0 w3):=(B1.out).trans (hrow3.aN.mono (B1.out).size);have Ct:Hid (Rd (W0.heap.size<=·) w3 (bD (q0z at_ [])) [.slice a3 n3 c3]):=hrow3.eP.weaken (fun b hb=>jnx (B1.out).size hb);have S3:=SF.out (w3) B3.out;have LC:=hid (mX.out w3 B3.out))
   | (go_simp;go_at_call 78;(with_reducible refine LC.out.mono ?_);rintro e w4 ⟨dJ,v4,rfl,hrow4⟩;obtain ⟨a4,n4,c4,rfl⟩:=hrow4.slice3;have b4:=hrow4.aN;have B4:=hid (aU B3.out b4);have gH:=hid (show Rd (W0.heap.size<=·) w4 (dh (iY li)) [.slice a4 n4 c4] from hrow4.eP.weaken (fun b hb=>jnx B3.out.size hb));have pW:=hid (Ct.out.aV b4);have S4:=SF.out (w4) B4.out;have EC:=hid (lD ((⟨#[104]⟩:ByteArray)++dD n) a3 a4 n3 n4 c3 c4 w4))
   | (go_simp;go_at_call 40;(with_reducible refine EC.out.mono ?_);rintro e w5 ⟨rfl,b5⟩;have BL:=hid (aU B4.out b5);obtain ⟨x0,x1,x2,x3,xf⟩:=oC (K1.out.below BL.out);have S5:=SF.out (w5) BL.out;have K6:=tX S w5 (.string ((⟨#[104]⟩:ByteArray)++dD n)) (.string ⟨#[]⟩) (.slice a3 n3 c3) (.slice a4 n4 c4);have S6:=And.imp (K6 _ _) (And.imp (K6 _ _) (And.imp (K6 _ _) (And.imp (K6 _ _) (K6 _ _)))) (SF.out w5 BL.out);clear K6))
 all_goals
  have HN:=hid (show gF (W0.heap.size<=·) w5 (q0z at_ []) (iY li) (.slice a3 n3 c3) (.slice a4 n4 c4) from ⟨pW.out.aV b5,gH.out.aV b5⟩);clear b5 gH EC pW hrow3 hrow4 b4 S0 S3 S4 S5 S6 Ct S1 b1;obtain ⟨w9,dU⟩:∃ w9,w9=dY w5 (S+1) (.string ((⟨#[104]⟩:ByteArray)++dD n)) (.string ⟨#[]⟩) (.slice a3 n3 c3) (.slice a4 n4 c4):=⟨_,rfl⟩;have hf:=gK ((⟨#[104]⟩:ByteArray)++dD n) ⟨#[]⟩ (q0z at_ []) (iY li) HS.out Z0.out B0.out K1.out BL.out HN.out;rw [<- dU] at hf;have HC:=hid hf.1;have HP:=hid hf.2;clear hf;have hw8:=dU;simp only [dY] at hw8;clear dU;obtain ⟨x0,x1,x2,x3,xf⟩:=oC (K1.out.below BL.out);go_wp2;rw [<- hw8];have r0:=HC.out.cell 0 _ rfl;have r1:=HC.out.cell 1 _ rfl;have r2:=HC.out.cell 2 _ rfl;have r3:=HC.out.cell 3 _ rfl;exact bodyPost_ret (v:=.agg #[.string ((⟨#[104]⟩:ByteArray)++dD n),.string ⟨#[]⟩,(.slice a3 n3 c3),(.slice a4 n4 c4)]) (by simp [results,Tryz.results86,go_sem,r0,r1,r2,r3]) rfl HP.out
theorem Xo (pv:jr1) (lv:Int) (i t d ti:ByteArray) (at_:At) (li:List aj) (ks:List ah) (vc vp vl vk:jr1) (w:jqz) (hR:mg (·<w.heap.size) w at_ li ks vc vp vl vk) (hs:Ia i t at_ li) (hl:dV pv w ks vk) (ht:PT w) : Calls Tryz.prog 86 #[pv,.agg #[.int .i64 4,.int .i64 lv,.string i,.string t,.string d,.string ti,.string at_.id,vc,vp,vl,vk]] w (uR w (aO mH (q0z at_ [⟨#[109,97,116,104]⟩]) (bM t))):=by
 obtain ⟨ac,nc,cc,ap,np,cp,al,nl,cl,ak,nk,ck,S,W0,rfl,rfl,rfl,rfl,HS,HW0,e0,SX,HR,Z0,B0,K1⟩:=lG (.int .i64 4) lv i t d ti hR;have Fj:=gX HS.out hl B0.out;have qX:=LA HS.out ht B0.out;have mX:=sI hs HR;have jO:=hid hs;have hst:t.size<=300:=hs.t;have hsi:i.size<=300:=hs.i;clear hR hs hl ht;go_enter Tryz.func86,Tryz.ntmps86;go_upto_region 12 with (fail)
 rw [<- HS.out];have hk0:=HW0.out;simp only [fP] at hk0;rw [<- hk0];clear hk0;have ng:Hid (jr0 W0.heap.size W0 (W0.alloc (.cells #[.string ⟨#[109,97,116,104]⟩] 9)).drew):=oD W0 (.cells #[.string ⟨#[109,97,116,104]⟩] 9);have AC:Hid (Calls Tryz.prog 137 #[.agg #[.string at_.id,.slice ac nc cc,.slice ap np cp],.slice (some ⟨W0.heap.size,0,none⟩) 1 1] (W0.alloc (.cells #[.string ⟨#[109,97,116,104]⟩] 9)).drew (bI W0.drew (q0z at_ [⟨#[109,97,116,104]⟩]))):=q1z at_ [⟨#[109,97,116,104]⟩] (.slice ac nc cc) (.slice ap np cp) (.slice (some ⟨W0.heap.size,0,none⟩) 1 1) W0.drew (W0.alloc (.cells #[.string ⟨#[109,97,116,104]⟩] 9)).drew (pI.one W0.drew ⟨#[109,97,116,104]⟩) (Cq HR.out.at_ ng.out (by have:=Z0.out;omega)) (vv jO.out.at_ ⟨#[109,97,116,104]⟩ (by have:=jO.out.i;decide)).1 (vv jO.out.at_ ⟨#[109,97,116,104]⟩ (by have:=jO.out.i;decide)).2
 have SF:=hid (fun (w':jqz) (hb:jr0 W0.heap.size W0 w')=>(⟨(SX.out w' hb).2.2.1,(SX.out w' hb).2.2.2.2.2.1,(SX.out w' hb).2.2.2.2.2.2.1,(SX.out w' hb).2.2.2.2.2.2.2.1⟩:w'.cell? ⟨S,3,none⟩=some (.string t)/\w'.cell? ⟨S,6,none⟩=some (.string at_.id)/\w'.cell? ⟨S,7,none⟩=some (.slice ac nc cc)/\w'.cell? ⟨S,8,none⟩=some (.slice ap np cp)));have S1:=SF.out _ ng.out;have Xb:Hid (∀ W:jqz,Calls Tryz.prog 53 #[.string t] W (cO W (bM t))):=fun W=>fO t W
 have S0:=SF.out _ ((jnk W0.heap.size W0).drew);go_wp2_with fail
 go_region_held3 (fun w'=>w'.cell? ⟨S,3,none⟩=some (.string t)/\w'.cell? ⟨S,6,none⟩=some (.string at_.id)/\w'.cell? ⟨S,7,none⟩=some (.slice ac nc cc)/\w'.cell? ⟨S,8,none⟩=some (.slice ap np cp))
  (with_reducible assumption)
  (first
   | (go_simp;go_at_call 137;(with_reducible refine AC.out.mono ?_);rintro e w3 ⟨gL,v3,rfl,hrow3⟩;obtain ⟨a3,n3,c3,rfl⟩:=hrow3.slice3;have B3:Hid (jr0 W0.heap.size W0 w3):=(((jnk W0.heap.size W0).drew)).trans (hrow3.aN.mono (((jnk W0.heap.size W0).drew)).size);have Ct:Hid (Rd (W0.heap.size<=·) w3 (bD (q0z at_ [⟨#[109,97,116,104]⟩])) [.slice a3 n3 c3]):=hrow3.eP.weaken (fun b hb=>jnx (((jnk W0.heap.size W0).drew)).size hb);have S3:=SF.out (w3) B3.out;have LC:=hid (Xb.out w3))
   | (go_simp;go_at_call 53;(with_reducible refine LC.out.mono ?_);rintro e w4 ⟨dJ,v4,rfl,hrow4⟩;obtain ⟨a4,n4,c4,rfl⟩:=hrow4.slice3;have b4:=hrow4.aN;have B4:=hid (aU B3.out b4);have gH:=hid (show Rd (W0.heap.size<=·) w4 (dh (bM t)) [.slice a4 n4 c4] from hrow4.eP.weaken (fun b hb=>jnx B3.out.size hb));have pW:=hid (Ct.out.aV b4);have S4:=SF.out (w4) B4.out;have EC:=hid (lD ⟨#[100,105,118]⟩ a3 a4 n3 n4 c3 c4 w4))
   | (go_simp;go_at_call 40;(with_reducible refine EC.out.mono ?_);rintro e w5 ⟨rfl,b5⟩;have BL:=hid (aU B4.out b5);obtain ⟨x0,x1,x2,x3,xf⟩:=oC (K1.out.below BL.out);have S5:=SF.out (w5) BL.out;have K6:=tX S w5 (.string ⟨#[100,105,118]⟩) (.string ⟨#[]⟩) (.slice a3 n3 c3) (.slice a4 n4 c4);have S6:=And.imp (K6 _ _) (And.imp (K6 _ _) (And.imp (K6 _ _) (K6 _ _))) (SF.out w5 BL.out);clear K6))
 all_goals
  have HN:=hid (show gF (W0.heap.size<=·) w5 (q0z at_ [⟨#[109,97,116,104]⟩]) (bM t) (.slice a3 n3 c3) (.slice a4 n4 c4) from ⟨pW.out.aV b5,gH.out.aV b5⟩);clear b5 gH EC pW hrow3 hrow4 b4 S0 S3 S4 S5 S6 Ct S1;obtain ⟨w9,dU⟩:∃ w9,w9=dY w5 (S+1) (.string ⟨#[100,105,118]⟩) (.string ⟨#[]⟩) (.slice a3 n3 c3) (.slice a4 n4 c4):=⟨_,rfl⟩;have hf:=gK ⟨#[100,105,118]⟩ ⟨#[]⟩ (q0z at_ [⟨#[109,97,116,104]⟩]) (bM t) HS.out Z0.out B0.out K1.out BL.out HN.out;rw [<- dU] at hf;have HC:=hid hf.1;have HP:=hid hf.2;clear hf;have hw8:=dU;simp only [dY] at hw8;clear dU;obtain ⟨x0,x1,x2,x3,xf⟩:=oC (K1.out.below BL.out);go_wp2;rw [<- hw8];have r0:=HC.out.cell 0 _ rfl;have r1:=HC.out.cell 1 _ rfl;have r2:=HC.out.cell 2 _ rfl;have r3:=HC.out.cell 3 _ rfl;exact bodyPost_ret (v:=.agg #[.string ⟨#[100,105,118]⟩,.string ⟨#[]⟩,(.slice a3 n3 c3),(.slice a4 n4 c4)]) (by simp [results,Tryz.results86,go_sem,r0,r1,r2,r3]) rfl HP.out
theorem Sw (pv:jr1) (lv:Int) (i t d ti:ByteArray) (at_:At) (li:List aj) (ks:List ah) (vc vp vl vk:jr1) (w:jqz) (hR:mg (·<w.heap.size) w at_ li ks vc vp vl vk) (hs:Ia i t at_ li) (hl:dV pv w ks vk) (ht:PT w) : Calls Tryz.prog 86 #[pv,.agg #[.int .i64 13,.int .i64 lv,.string i,.string t,.string d,.string ti,.string at_.id,vc,vp,vl,vk]] w (uR w (aO mH (q0z at_ [i]) (ah.aS ks))):=by
 obtain ⟨ac,nc,cc,ap,np,cp,al,nl,cl,ak,nk,ck,S,W0,rfl,rfl,rfl,rfl,HS,HW0,e0,SX,HR,Z0,B0,K1⟩:=lG (.int .i64 13) lv i t d ti hR;have Fj:=gX HS.out hl B0.out;have qX:=LA HS.out ht B0.out;have mX:=sI hs HR;have jO:=hid hs;have hst:t.size<=300:=hs.t;have hsi:i.size<=300:=hs.i;clear hR hs hl ht;go_enter Tryz.func86,Tryz.ntmps86;go_upto_region 28 with (fail)
 rw [<- HS.out];have hk0:=HW0.out;simp only [fP] at hk0;rw [<- hk0];clear hk0;have ng:Hid (jr0 W0.heap.size W0 (W0.alloc (.cells #[.string i] 9)).drew):=oD W0 (.cells #[.string i] 9);have AC:Hid (Calls Tryz.prog 137 #[.agg #[.string at_.id,.slice ac nc cc,.slice ap np cp],.slice (some ⟨W0.heap.size,0,none⟩) 1 1] (W0.alloc (.cells #[.string i] 9)).drew (bI W0.drew (q0z at_ [i]))):=q1z at_ [i] (.slice ac nc cc) (.slice ap np cp) (.slice (some ⟨W0.heap.size,0,none⟩) 1 1) W0.drew (W0.alloc (.cells #[.string i] 9)).drew (pI.one W0.drew i) (Cq HR.out.at_ ng.out (by have:=Z0.out;omega)) (vv jO.out.at_ i (by have:=jO.out.i;omega)).1 (vv jO.out.at_ i (by have:=jO.out.i;omega)).2
 have SF:=hid (fun (w':jqz) (hb:jr0 W0.heap.size W0 w')=>(⟨(SX.out w' hb).2.1,(SX.out w' hb).2.2.2.2.2.1,(SX.out w' hb).2.2.2.2.2.2.1,(SX.out w' hb).2.2.2.2.2.2.2.1,(SX.out w' hb).2.2.2.2.2.2.2.2.2⟩:w'.cell? ⟨S,2,none⟩=some (.string i)/\w'.cell? ⟨S,6,none⟩=some (.string at_.id)/\w'.cell? ⟨S,7,none⟩=some (.slice ac nc cc)/\w'.cell? ⟨S,8,none⟩=some (.slice ap np cp)/\w'.cell? ⟨S,10,none⟩=some (.slice ak nk ck)));have S1:=SF.out _ ng.out;have S0:=SF.out _ ((jnk W0.heap.size W0).drew);go_wp2_with fail
 go_region_held3 (fun w'=>w'.cell? ⟨S,2,none⟩=some (.string i)/\w'.cell? ⟨S,6,none⟩=some (.string at_.id)/\w'.cell? ⟨S,7,none⟩=some (.slice ac nc cc)/\w'.cell? ⟨S,8,none⟩=some (.slice ap np cp)/\w'.cell? ⟨S,10,none⟩=some (.slice ak nk ck))
  (with_reducible assumption)
  (first
   | (go_simp;go_at_call 137;(with_reducible refine AC.out.mono ?_);rintro e w3 ⟨gL,v3,rfl,hrow3⟩;obtain ⟨a3,n3,c3,rfl⟩:=hrow3.slice3;have B3:Hid (jr0 W0.heap.size W0 w3):=(((jnk W0.heap.size W0).drew)).trans (hrow3.aN.mono (((jnk W0.heap.size W0).drew)).size);have Ct:Hid (Rd (W0.heap.size<=·) w3 (bD (q0z at_ [i])) [.slice a3 n3 c3]):=hrow3.eP.weaken (fun b hb=>jnx (((jnk W0.heap.size W0).drew)).size hb);have S3:=SF.out (w3) B3.out;have LC:=hid (Fj.out w3 B3.out))
   | (go_simp;go_at_call 38;(with_reducible refine LC.out.mono ?_);rintro e w4 ⟨dJ,v4,rfl,hrow4⟩;obtain ⟨a4,n4,c4,rfl⟩:=hrow4.slice3;have b4:=hrow4.aN;have B4:=hid (aU B3.out b4);have gH:=hid (show Rd (W0.heap.size<=·) w4 (dh (ah.aS ks)) [.slice a4 n4 c4] from hrow4.eP.weaken (fun b hb=>jnx B3.out.size hb));have pW:=hid (Ct.out.aV b4);have S4:=SF.out (w4) B4.out;have EC:=hid (lD ⟨#[100,105,118]⟩ a3 a4 n3 n4 c3 c4 w4))
   | (go_simp;go_at_call 40;(with_reducible refine EC.out.mono ?_);rintro e w5 ⟨rfl,b5⟩;have BL:=hid (aU B4.out b5);obtain ⟨x0,x1,x2,x3,xf⟩:=oC (K1.out.below BL.out);have S5:=SF.out (w5) BL.out;have K6:=tX S w5 (.string ⟨#[100,105,118]⟩) (.string ⟨#[]⟩) (.slice a3 n3 c3) (.slice a4 n4 c4);have S6:=And.imp (K6 _ _) (And.imp (K6 _ _) (And.imp (K6 _ _) (And.imp (K6 _ _) (K6 _ _)))) (SF.out w5 BL.out);clear K6))
 all_goals
  have HN:=hid (show gF (W0.heap.size<=·) w5 (q0z at_ [i]) (ah.aS ks) (.slice a3 n3 c3) (.slice a4 n4 c4) from ⟨pW.out.aV b5,gH.out.aV b5⟩);clear b5 gH EC pW hrow3 hrow4 b4 S0 S3 S4 S5 S6 Ct S1;obtain ⟨w9,dU⟩:∃ w9,w9=dY w5 (S+1) (.string ⟨#[100,105,118]⟩) (.string ⟨#[]⟩) (.slice a3 n3 c3) (.slice a4 n4 c4):=⟨_,rfl⟩;have hf:=gK ⟨#[100,105,118]⟩ ⟨#[]⟩ (q0z at_ [i]) (ah.aS ks) HS.out Z0.out B0.out K1.out BL.out HN.out;rw [<- dU] at hf;have HC:=hid hf.1;have HP:=hid hf.2;clear hf;have hw8:=dU;simp only [dY] at hw8;clear dU;obtain ⟨x0,x1,x2,x3,xf⟩:=oC (K1.out.below BL.out);go_wp2;rw [<- hw8];have r0:=HC.out.cell 0 _ rfl;have r1:=HC.out.cell 1 _ rfl;have r2:=HC.out.cell 2 _ rfl;have r3:=HC.out.cell 3 _ rfl;exact bodyPost_ret (v:=.agg #[.string ⟨#[100,105,118]⟩,.string ⟨#[]⟩,(.slice a3 n3 c3),(.slice a4 n4 c4)]) (by simp [results,Tryz.results86,go_sem,r0,r1,r2,r3]) rfl HP.out
open Go.RowKit
mutual
def ah.walk:ah->Prop
 | .mk k lv i t d ti a li ks=>(1<=k/\k<=15/\k≠11/\k≠12)/\Ia i t a li/\(k=2\/k=8->0<=lv/\lv<=999999999)/\(k=10->TbW i ks)/\(k≠10->ah.lJ ks)
def ah.lJ:List ah->Prop
 | []=>True
 | x::l=>x.walk/\ah.lJ l
end
theorem ah.Az:∀ (l:List ah),ah.lJ l->∀ x∈l,x.walk
 | [],_,x,hx=>by cases hx
 | y::l,h,x,hx=>by
  rw [ah.lJ] at h;rcases List.mem_cons.1 hx with rfl | hx
  ·exact h.1
  ·exact ah.Az l h.2 x hx
theorem Ic (pv:jr1) (k lv:Int) (i t d ti:ByteArray) (at_:At) (li:List aj) (ks:List ah) (vc vp vl vk:jr1) (w:jqz) (hR:mg (·<w.heap.size) w at_ li ks vc vp vl vk) (hw:(ah.mk k lv i t d ti at_ li ks).walk) (Ri:k≠14) (zI:k≠15) (hl:k≠10->dV pv w ks vk) (ht:PT w) : ∃ x,(ah.mk k lv i t d ti at_ li ks).tZ=[x]/\Calls Tryz.prog 86 #[pv,.agg #[.int .i64 k,.int .i64 lv,.string i,.string t,.string d,.string ti,.string at_.id,vc,vp,vl,vk]] w (uR w x):=by
 rw [ah.walk] at hw;obtain ⟨⟨g1,g2,g3,g4⟩,hs,hv,hT,-⟩:=hw;rcases (by omega:k=1\/k=2\/k=3\/k=4\/k=5\/k=6\/k=7\/k=8\/k=9\/k=10\/k=13) with rfl | rfl | rfl | rfl | rfl | rfl | rfl | rfl | rfl | rfl | rfl
 ·exact ⟨_,by rw [ah.tZ];rfl,Xh pv lv i t d ti at_ li ks vc vp vl vk w hR hs (hl (by decide)) ht⟩
 ·obtain ⟨n,rfl⟩:∃ n:Nat,lv=(n:Int):=⟨lv.toNat,by have:=hv (by decide);omega⟩;exact ⟨aO (nH++dD n) (q0z at_ []) (iY li),by rw [ah.tZ];rfl,Xn pv n i t d ti at_ li ks vc vp vl vk w hR hs (hl (by decide)) ht n rfl (by have:=hv (by decide);omega)⟩
 ·by_cases hi:q01 i=true
  ·exact ⟨aO LB [] [aO ji [] (bM t)],by rw [ah.tZ,hi];rfl,Sn pv lv i t d ti at_ li ks vc vp vl vk w hR hs (hl (by decide)) ht hi⟩
  ·have hi:q01 i=false:=by simpa using hi
   refine ⟨aO LB [] [aO ji [⟨eX,tY++i⟩] (bM t)],?_,Sq pv lv i t d ti at_ li ks vc vp vl vk w hR hs (hl (by decide)) ht hi⟩;rw [ah.tZ,hi];show [aO LB [] [aO ji (iJ eX (tY++i)) (bM t)]]=_;unfold iJ;rw [show q01 (tY++i)=false by rw [Cy,hi,Bool.and_false]];rfl
 ·exact ⟨_,by rw [ah.tZ];rfl,Xo pv lv i t d ti at_ li ks vc vp vl vk w hR hs (hl (by decide)) ht⟩
 ·exact ⟨_,by rw [ah.tZ];rfl,Xl pv lv i t d ti at_ li ks vc vp vl vk w hR hs (hl (by decide)) ht⟩
 ·exact ⟨_,by rw [ah.tZ];rfl,Xi pv lv i t d ti at_ li ks vc vp vl vk w hR hs (hl (by decide)) ht⟩
 ·exact ⟨_,by rw [ah.tZ];rfl,Xj pv lv i t d ti at_ li ks vc vp vl vk w hR hs (hl (by decide)) ht⟩
 ·by_cases h1:lv=1
  ·exact ⟨aO Y6 [] (ah.aS ks),by rw [ah.tZ,h1];rfl,Sr pv lv i t d ti at_ li ks vc vp vl vk w hR hs (hl (by decide)) ht h1⟩
  ·obtain ⟨n,rfl⟩:∃ n:Nat,lv=(n:Int):=⟨lv.toNat,by have:=hv (by decide);omega⟩;refine ⟨aO Y6 [⟨sStart,dD n⟩] (ah.aS ks),?_,Sv pv n i t d ti at_ li ks vc vp vl vk w hR hs (hl (by decide)) ht n rfl (by have:=hv (by decide);omega) h1⟩;rw [ah.tZ];show [aO Y6 (if (n:Int)=1 then [] else [⟨sStart,dD n⟩]) (ah.aS ks)]=_;rw [if_neg h1]
 ·exact ⟨_,by rw [ah.tZ];rfl,Xk pv lv i t d ti at_ li ks vc vp vl vk w hR hs (hl (by decide)) ht⟩
 ·exact ⟨Aw i ks,by rw [ah.tZ];rfl,Sm pv lv i t d ti at_ li ks vc vp vl vk w hR hs ht (hT rfl)⟩
 ·exact ⟨_,by rw [ah.tZ];rfl,Sw pv lv i t d ti at_ li ks vc vp vl vk w hR hs (hl (by decide)) ht⟩
theorem wV:∀ (l:List ah),(ah.aS l).length<=l.length
 | []=>by simp [ah.aS]
 | x::l=>by
  have h:=wV l;rw [ah.aS,List.length_append,List.length_cons];have h2:x.tZ.length<=1:=by
   obtain ⟨k,lv,i,t,d,ti,a,li,ks⟩:=x;rw [ah.tZ]
   (repeat' split)<;>simp
  omega
def Fq (w:jqz) (l:List ah) (v vi:jr1) (wr:jqz):Prop:=
 ∃ (k:Nat) (rows:List (List jr1)),k<=l.length/\vi=.int .i64 k/\aH 35 4 (fun _=>False) wr.heap.size w ((ah.aS (l.take k)).map Nd.d) rows v wr
theorem ug (pv:jr1) (n:Nat):∀ (l:List ah) (v:jr1) (w:jqz),ah.aW l<=n->n<=900000->Rd (·<w.heap.size) w (bZ l) [v]->ah.lJ l->PT w -> Calls Tryz.prog 38 #[pv,v] w (cO w (ah.aS l)):=by
 induction n using Nat.strongRecOn with
 | _ n ih=>
  intro l v w hn hnm hrd hwk ht;obtain ⟨iN,GR,oQ,oV,oW⟩:=info_parts nM;obtain ⟨ak,ck,hvk,hs⟩:=Rd.aC hrd;obtain ⟨nk,hnk⟩:∃ nk,nk=l.length:=⟨_,rfl⟩;obtain rfl:v=.slice ak nk ck:=by rw [hnk];simpa using hvk
  have hcap:nk<=ck:=by have:=hs.le;rw [List.length_map] at this;omega
  have hmx:=hs.max;unfold maxLen at hmx;have ja1:nk<=900000:=by have:=ah.iZ l;omega
  have HS2:=hid hs;have EW:=hid hnk;have HWK:=hid (ah.Az l hwk);have qX:=hid ht;have IH:=hid ih;have ja2:=hid (And.intro hn hnm);have R0:Hid (Fq w l (.slice none 0 0) (.int .i64 0) w):=⟨0,[],Nat.zero_le _,rfl,aH.nil _ _ _ _⟩;clear hrd hvk hs hnk hwk ht ih hn hnm;go_enter Tryz.func38,Tryz.ntmps38;go_wp2
  go_loopw [5,10] (fun v vi wr=>Fq w l v vi wr) (fun _ vi _=>nk-(intOf vi).toNat)
  case atStart=>exact R0.out
  case round=>
   clear R0;obtain ⟨j,rows,hj,rfl,hrow⟩:=hrel;obtain ⟨ds,hds⟩:∃ ds,ds=(ah.aS (l.take j)).map Nd.d:=⟨_,rfl⟩;rw [<- hds] at hrow;obtain ⟨m,hm⟩:∃ m,m=ds.length:=⟨_,rfl⟩;have hmj:m<=1000000:=by have h:=wV (l.take j);have h2:(l.take j).length<=l.length:=List.length_take_le' _ _;rw [hm,hds,List.length_map];have:=EW.out;omega
   obtain ⟨av,cv,rfl,-,-⟩:=hrow.cap hm.symm;have HM:=hid hm.symm;have GQ:=hid hds.symm;have bU:=hid hrow;clear hrow hm hds;by_cases hlt:j<nk
   ·obtain ⟨y,hy⟩:∃ y,l[j]?=some y:=⟨_,List.getElem?_eq_getElem (by have:=EW.out;omega)⟩;have hsn:=AA l j y hy;have hwy:=HWK.out y (List.mem_of_getElem? hy);have hsz:=ah.aZ l j y hy;obtain ⟨yk,J3,yi,yt,yd,J4,Ie,LD,EY⟩:=y;obtain ⟨ga,off,vc,vp,vl,vk,rfl,hok,hbl,hc,hR⟩:=iA HS2.out hy;obtain ⟨c0,c1,c2,c3,c4,c5,c6,c7,c8,c9,c10⟩:=hc.at2 (w':=wr) (bU.out.aN.block ga hok);obtain ⟨Oa,Ob,Oc,rfl⟩:=Rd.au hR.at_.cls
    obtain ⟨Od,Oe,Og,rfl⟩:=Rd.au hR.at_.aP
    obtain ⟨Ee,Ef,Eh,rfl⟩:=Rd.au hR.line;obtain ⟨Oh,Oi,Oj,rfl⟩:=Rd.au hR.kids;have HR:=hid hR;have HWY:=hid hwy;have NG:=hid hsz;clear hok hbl hc hR hwy hy hsz;go_upto_region 5 with (fail)
    obtain ⟨p,hp⟩:∃ p,p=wr.heap.size:=⟨_,rfl⟩;obtain ⟨wA,gD⟩:∃ wA,wA=wr.alloc (.cells #[.int .i64 yk,.int .i64 J3,.string yi,.string yt,.string yd,.string J4,.string Ie.id,.slice Oa Ob Oc,.slice Od Oe Og,.slice Ee Ef Eh,.slice Oh Oi Oj] 48):=⟨_,rfl⟩;have PA:CB 48 p [.int .i64 yk,.int .i64 J3,.string yi,.string yt,.string yd,.string J4,.string Ie.id,.slice Oa Ob Oc,.slice Od Oe Og,.slice Ee Ef Eh,.slice Oh Oi Oj] wA:=by rw [gD,hp];exact CB.new _ _ wr
    have bA:jr0 wr.heap.size wr wA:=by rw [gD];exact (jnk _ _).alloc (Nat.le_refl _) _
    rw [<- gD,<- hp];have BA:=hid bA;have Y7:jr0 w.heap.size w wA:=bU.out.aN.trans (bA.mono bU.out.aN.size);have d0:=PA.cell 0 _ rfl;have d1:=PA.cell 1 _ rfl;have d2:=PA.cell 2 _ rfl;have d3:=PA.cell 3 _ rfl;have d4:=PA.cell 4 _ rfl;have d5:=PA.cell 5 _ rfl;have d6:=PA.cell 6 _ rfl;have d7:=PA.cell 7 _ rfl;have d8:=PA.cell 8 _ rfl;have d9:=PA.cell 9 _ rfl;have d10:=PA.cell 10 _ rfl;have B0A:=hid Y7;have hpw:wr.heap.size<=wA.heap.size:=bA.size;clear gD hp c0 c1 c2 c3 c4 c5 c6 c7 c8 c9 c10 PA bA Y7;by_cases Ri:yk=14
    ·have q14:(yk==14)=true:=by rw [Ri];rfl
     subst Ri;have rX:Hid ((ah.aS (l.take (j+1))).map Nd.d=ds):=by show _=_;rw [hsn,List.map_append,GQ.out];show ds++(ah.tZ _).map Nd.d=ds;rw [ah.tZ];exact List.append_nil _
     have HF:Hid (Fq w l (.slice av m cv) (.int .i64 ((j+1:Nat):Int)) wA):=⟨j+1,_,by have:=EW.out;omega,rfl,by rw [rX.out];exact (bU.out.below BA.out).top⟩;clear hsn;go_wp2;go_roundw;case rel=>exact HF.out
     case measure=>simp [intOf];omega
    by_cases zI:yk=15
    ·have q14:(yk==14)=false:=by rw [zI];rfl
     have Y2:(yk==15)=true:=by rw [zI];rfl
     subst zI;have rX:Hid ((ah.aS (l.take (j+1))).map Nd.d=ds):=by show _=_;rw [hsn,List.map_append,GQ.out];show ds++(ah.tZ _).map Nd.d=ds;rw [ah.tZ];exact List.append_nil _
     have HF:Hid (Fq w l (.slice av m cv) (.int .i64 ((j+1:Nat):Int)) wA):=⟨j+1,_,by have:=EW.out;omega,rfl,by rw [rX.out];exact (bU.out.below BA.out).top⟩;clear hsn;go_wp2;go_roundw;case rel=>exact HF.out
     case measure=>simp [intOf];omega
    have q14:(yk==14)=false:=by rw [beq_eq_false_iff_ne];exact Ri
    have Y2:(yk==15)=false:=by rw [beq_eq_false_iff_ne];exact zI
    have hRA:mg (·<wA.heap.size) wA Ie LD EY (.slice Oa Ob Oc) (.slice Od Oe Og) (.slice Ee Ef Eh) (.slice Oh Oi Oj):=mg.Fp HR.out (fun b (hb:b<w.heap.size) hlt=>⟨by show b<wA.heap.size;have:=B0A.out.size;omega,B0A.out.block b hb⟩);have hw2:=HWY.out;rw [ah.walk] at hw2;obtain ⟨x,hx,hcall⟩:=Ic pv yk J3 yi yt yd J4 Ie LD EY _ _ _ _ wA hRA HWY.out Ri zI (fun h10 W hW=>IH.out (ah.aW EY) (by have:=NG.out;rw [ah.sz] at this;have:=ja2.out;omega) EY _ W (Nat.le_refl _) (by have:=NG.out;rw [ah.sz] at this;have:=ja2.out;omega) (Rd.keep (w:=wA) (w':=W) (ok:=(·<wA.heap.size)) (fun b (hb:b<wA.heap.size) hlt=>⟨by show b<W.heap.size;have:=hW.size;omega,hW.block b hb⟩) _ _ hRA.kids) (hw2.2.2.2.2 h10) ((qX.out.below B0A.out).below hW)) (qX.out.below B0A.out);obtain ⟨xn,xt,xa,Ei⟩:=x;have rX:=hid (show (ah.aS (l.take (j+1))).map Nd.d=ds++[(Nd.mk xn xt xa Ei).d] by rw [hsn,hx,List.map_append,GQ.out];rfl);have RC3:=hid hcall;clear hsn hx hcall hRA hw2;go_wp2_with fail
    (with_reducible refine RC3.out.mono ?_)
    rintro e w2 ⟨va,vk,he,hR2,hb2⟩;obtain ⟨aA,nA,cA,rfl⟩:=Rd.au hR2.at_
    obtain ⟨aK,nK,cK,rfl⟩:=Rd.au hR2.ks;have he:e=.returned (.agg #[.string xn,.string xt,.slice aA nA cA,.slice aK nK cK]):=he;subst he;have U2:=hid ((bU.out.below BA.out).below hb2);have XD:=hid ((Nd.iH xn xt hR2).weaken (ok':=fun b=>False\/wr.heap.size<=b) (fun b hb=>.inr (jnx hpw hb)));clear RC3 hR2 hb2 d0 d1 d2 d3 d4 d5 d6 d7 d8 d9 d10;go_wp2_with (at_builtin;refine jN rfl _ _ 28 rfl iN _ 80 Tryz.underlying28 GR oQ oV oW rfl (by decide) U2.out (fun _=>False.elim) (Nd.mk xn xt xa Ei).d [.string xn,.string xt,.slice aA nA cA,.slice aK nK cK] XD.out rfl kE HM.out (by omega) (by decide) rfl rfl ?_)
    intro a' c' w5 hrow hg5;have HF:Hid (Fq w l (.slice a' (m+1) c') (.int .i64 ((j+1:Nat):Int)) w5):=⟨j+1,_,by have:=EW.out;omega,rfl,by rw [rX.out];exact hrow⟩;clear hrow hg5 XD U2 bU;go_wp2;go_roundw;case rel=>exact HF.out
    case measure=>simp [intOf];omega
   ·have hjl:j=l.length:=by have:=EW.out;omega
    have HP:Hid (cO w (ah.aS l) (.returned (.slice av m cv)) wr):=by refine ⟨rows,_,rfl,?_⟩;have h:=bU.out;rw [<- GQ.out,hjl,List.take_length] at h;exact h
    clear hjl;go_wp2;go_ret;exact HP.out
theorem sK:∀ (l:List ah),ah.ay l->∀ x∈l,x.small
 | [],_,x,hx=>by cases hx
 | y::l,h,x,hx=>by
  rw [ah.ay] at h;rcases List.mem_cons.1 hx with rfl | hx
  ·exact h.1
  ·exact sK l h.2 x hx
theorem qc {x:ah} (h:x.small):ah.ay x.kids/\aj.ay x.mI/\aj.aW x.mI<=120:=by obtain ⟨k,lv,i,t,d,ti,a,li,ks⟩:=x;rw [ah.small] at h;exact ⟨h.2.2.2.2.2.2.2,h.2.2.2.2.2.1,h.2.2.2.2.2.2.1⟩
theorem ja3 (l:List ah) (x:ah) (hx:x∈l):x.sz<=ah.aW l:=by obtain ⟨j,hj⟩:=List.mem_iff_getElem?.1 hx;exact ah.aZ l j x hj
theorem Ol (x:ah):x.kids.length<=x.sz:=by obtain ⟨k,lv,i,t,d,ti,a,li,ks⟩:=x;have:=ah.iZ ks;rw [ah.sz];show ks.length<=_;omega
mutual
theorem ah.Sy (cl:ByteArray->Bool):∀ (b:ah) (par:Int) (dp:Nat),b.err cl par dp=0->b.Ig->b.small->b.sz<=900000->b.walk
 | .mk k lv i t d ti a li ks,par,dp,he,hh,hs,hz=>by
  obtain ⟨h2,hbf,h3⟩:=gY cl he;rw [ah.Ig] at hh;obtain ⟨g1,g2,g3,g4,g5,g6,g7,g8⟩:=hh;rw [ah.small] at hs;obtain ⟨s1,s2,s3,s4,s5,s6,s7,s8⟩:=hs;rw [ah.sz] at hz;have hk:1<=k/\k<=15:=by unfold D7 at hbf;simp only [Bool.and_eq_true,decide_eq_true_iff] at hbf;obtain ⟨⟨⟨⟨⟨⟨⟨⟨h1,h2⟩,-⟩,-⟩,-⟩,-⟩,-⟩,-⟩,-⟩:=hbf;exact ⟨h1,h2⟩
  rw [ah.walk];refine ⟨⟨hk.1,hk.2,g6,g7⟩,⟨s1,s2,s5,⟨by omega,s6,g1⟩⟩,g2,fun h10=>⟨(g3 h10).1,by have:=ah.iZ ks;omega,fun r hr=>?_⟩,fun h10=>ah.qY cl ks k (dp+1) h3 (g8 h10) s8 (by omega)⟩;have hr2:=qc (sK ks s8 r hr);have hr3:=ja3 ks r hr;have hr4:=Ol r;refine ⟨((g3 h10).2 r hr).1,by omega,fun c hc=>?_⟩;have hc2:=qc (sK r.kids hr2.1 c hc);exact ⟨by omega,hc2.2.1,((g3 h10).2 r hr).2 c hc⟩
theorem ah.qY (cl:ByteArray->Bool):∀ (l:List ah) (par:Int) (dp:Nat),ah.aR cl par dp l=0->ah.lK l->ah.ay l->ah.aW l<=900000->ah.lJ l
 | [],_,_,_,_,_,_=>by rw [ah.lJ];trivial
 | x::l,par,dp,he,hh,hs,hz=>by
  rw [ah.aR] at he;rw [ah.lK] at hh;rw [ah.ay] at hs;rw [ah.aW] at hz;rw [ah.lJ];by_cases h1:x.err cl par dp≠0
  ·rw [if_pos h1] at he;exact absurd he h1
  ·rw [if_neg h1] at he;exact ⟨ah.Sy cl x par dp (Classical.not_not.1 h1) hh.1 hs.1 (by omega),ah.qY cl l par dp he hh.2 hs.2 (by omega)⟩
end
end Go.Proofs.YtkfnkeflalcphaaGreatDoor

