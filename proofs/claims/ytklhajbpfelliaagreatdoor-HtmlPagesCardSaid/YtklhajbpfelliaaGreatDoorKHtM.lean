/- Contract of (*html.builder).block, kind by kind: the node of a block. Contracts of (*html.builder).block and (*html.builder).blocks: the nodes of blocks. Plain part: a well-formed, small document without unresolved inlines is one that the walk of html.Blocks asks. -/
import Derived.Test.YtklhajbpfelliaaGreatDoorKHrL
set_option maxHeartbeats 4000000
set_option maxRecDepth 100000
open Go.Lib (hid)
namespace Go.Proofs.YtklhajbpfelliaaGreatDoor
open Go.Proofs.Tryz
open Go.RowKit.Below renaming refl->jFj
open Nat renaming le_trans->jFq
open Go renaming World->jIq,Value->jIz
open Go.RowKit renaming Below->jIx
open Go.RowKit
set_option linter.unusedVariables false
set_option linter.unusedSimpArgs false
theorem Tt (n:Nat) (w:jIq) (hn:n<=999999999) (ht:PT w) : Calls prog 92 #[.int .i64 (n:Int)] w fun e w'=>e=.returned (.string (q2z n))/\jIx w.heap.size w w':=by
 refine (Tryz.strconv_Itoa (n:Int) (by omega) (by omega) w ht.2).mono ?_;rintro e w' ⟨rfl,k,os,rfl⟩;refine ⟨?_,Lib.below_grow _ w (Nat.le_refl _) k os⟩;have:Lib.itoa (n:Int)=Lib.decDigits n:=by unfold Lib.itoa;rw [if_neg (by omega)];simp
 rw [this];rfl
theorem Du (n:Nat) (hn:n<=999999999):(q2z n).size<=1000000:=by have h:=Tv n 8 (by omega);show (Lib.decDigits n).toArray.size<=1000000;simp;omega
theorem Tw {a:At} (h:a.short):([]++a.cls).length<=100/\∀ c∈[]++a.cls,c.size<=1000:=by unfold At.short at h;rw [List.nil_append];exact ⟨by omega,fun c hc=>by have:=h.2.2.2.1 c hc;omega⟩
theorem xP {a:At} (h:a.short) (s:ByteArray) (hs:s.size<=1000):([s]++a.cls).length<=100/\∀ c∈[s]++a.cls,c.size<=1000:=by
 unfold At.short at h;refine ⟨by simp;omega,fun c hc=>?_⟩;rcases List.mem_cons.1 hc with rfl | hc
 ·exact hs
 ·have:=h.2.2.2.1 c hc;omega
def eG (pv:jIz) (w:jIq) (ks:List ah) (vk:jIz):Prop:=∀ W:jIq,jIx w.heap.size w W->Calls prog 30 #[pv,vk] W (aQ W (ah.aZ ks))
structure KI (i t:ByteArray) (at_:At) (li:List aj):Prop where
 i:i.size<=300
 t:t.size<=300
 at_:at_.short
 li:LnW li
theorem ptH {S:Nat} {w W0:jIq} (hS:S=w.heap.size) (ht:PT w) (b0:jIx S w W0):Hid (∀ W:jIq,jIx W0.heap.size W0 W->PT W):=
 fun W hW=>ht.below (by rw [<- hS];exact b0.trans (hW.mono (by have:=b0.size;omega)))
theorem ju4 {S nl cl:Nat} {al:Option Addr} {W0:jIq} {i t:ByteArray} {at_:At} {li:List aj} {ks:List ah} {vc vp vk:jIz} (hs:KI i t at_ li) (HR:Hid (eT (·<S) W0 at_ li ks vc vp (.slice al nl cl) vk)) : Hid (∀ W:jIq,jIx W0.heap.size W0 W->Calls prog 28 #[.slice al nl cl] W (aQ W (dV li))):=fun W hW=>
 uR 900000 li _ W hs.li.sz (by decide) (Rd.keep (w:=W0) (w':=W) (ok:=(·<S)) (fun b (hb:b<S) hlt=>⟨by show b<W.heap.size;have:=hW.size;omega,hW.block b hlt⟩) _ _ HR.out.line) hs.li.sm hs.li.tf
theorem mX{P Q:Prop}(q:Q)(h:Nonempty Q->P:=by
 intro qQ;have BX:=Te HS.out hl B0.out;have pJ:=ptH HS.out ht B0.out;have dW:=ju4 hs HR;have dw:=hid hs;have hst:t.size<=300:=hs.t;have hsi:i.size<=300:=hs.i;revert BX pJ dW dw hst hsi;exact qQ.elim fun x=>x):P:=h ⟨q⟩
theorem jo3 (pv:Value) (lv:Int) (i t d ti:ByteArray) (at_:At) (li:List aj) (ks:List ah) (vc vp vl vk:Value) (w:World) (hR:eT (·<w.heap.size) w at_ li ks vc vp vl vk) (hs:KI i t at_ li) (hl:eG pv w ks vk) (ht:PT w) : Calls prog 63 #[pv,.agg #[.int .i64 1,.int .i64 lv,.string i,.string t,.string d,.string ti,.string at_.id,vc,vp,vl,vk]] w (o8 w (aH nP [] (dV li))):=by
 obtain ⟨ac,nc,cc,ap,np,cp,al,nl,cl,ak,nk,ck,S,W0,rfl,rfl,rfl,rfl,HS,HW0,e0,SX,HR,Z0,B0,K1⟩:=lJ (.int .i64 1) lv i t d ti hR;refine mX ?_;intro BX pJ dW dw hst hsi;clear hR hs hl ht;go_enter func63,ntmps63;go_upto_region 3 with (fail)
 refine bO ?_;have LC:=hid (dW.out W0 (Below.refl _ _));have g9:=(SX.out W0 (Below.refl _ _)).2.2.2.2.2.2.2.2.1;go_wp2_with fail
 (with_reducible refine LC.out.mono ?_)
 rintro e w4 ⟨bG,v4,rfl,hrow4⟩;obtain ⟨a4,n4,c4,rfl⟩:=hrow4.slice3;have b4:=hrow4.aO;have B4:=hid b4;have cZ:=hid (show Rd (W0.heap.size<=·) w4 (gH (dV li)) [.slice a4 n4 c4] from hrow4.cu);have EC:=hid (mg ⟨#[112]⟩ none a4 0 n4 0 c4 w4);clear b4 hrow4 LC g9;go_wp2_with fail
 (with_reducible refine EC.out.mono ?_)
 rintro e w5 ⟨rfl,b5⟩;have BL:=hid (q01 B4.out b5);have HN:=hid (show gP (W0.heap.size<=·) w5 [] (dV li) (.slice none 0 0) (.slice a4 n4 c4) from ⟨Rd.aD _ _ _,cZ.out.aX b5⟩);clear b5 cZ EC;obtain ⟨w9,hw8,r0,r1,r2,r3,HP,x0,x1,x2,x3,xf⟩:=dS ⟨#[112]⟩ ⟨#[]⟩ [] (dV li) HS Z0 B0 K1 BL HN.out;go_wp2;rw [<- hw8];exact bodyPost_ret (v:=.agg #[.string ⟨#[112]⟩,.string ⟨#[]⟩,(.slice none 0 0),(.slice a4 n4 c4)]) (by simp [results,results63,go_sem,r0,r1,r2,r3]) rfl HP.out
theorem Di{P Q:Prop}(q:Q)(h:Nonempty Q->P:=by
 intro qQ;have cZ:=hid (show Rd (W0.heap.size<=·) w4 (gH (ah.aZ ks)) [.slice a4 n4 c4] from hrow4.cu);revert cZ;exact qQ.elim fun x=>x):P:=h ⟨q⟩
theorem Tx{P Q:Prop}(q:Q)(h:Nonempty Q->P:=by
 intro qQ;have BL:=hid (q01 B4.out b5);have HN:=hid (show gP (W0.heap.size<=·) w5 [] (ah.aZ ks) (.slice none 0 0) (.slice a4 n4 c4) from ⟨Rd.aD _ _ _,cZ.out.aX b5⟩);revert BL HN;exact qQ.elim fun x=>x):P:=h ⟨q⟩
theorem Tz{P Q:Prop}(q:Q)(h:Nonempty Q->P:=by
 intro qQ;have LC:=hid (BX.out W0 (Below.refl _ _));have g9:=(SX.out W0 (Below.refl _ _)).2.2.2.2.2.2.2.2.2;revert LC g9;exact qQ.elim fun x=>x):P:=h ⟨q⟩
theorem jo4 (pv:Value) (lv:Int) (i t d ti:ByteArray) (at_:At) (li:List aj) (ks:List ah) (vc vp vl vk:Value) (w:World) (hR:eT (·<w.heap.size) w at_ li ks vc vp vl vk) (hs:KI i t at_ li) (hl:eG pv w ks vk) (ht:PT w) : Calls prog 63 #[pv,.agg #[.int .i64 6,.int .i64 lv,.string i,.string t,.string d,.string ti,.string at_.id,vc,vp,vl,vk]] w (o8 w (aH rC [] (ah.aZ ks))):=by
 obtain ⟨ac,nc,cc,ap,np,cp,al,nl,cl,ak,nk,ck,S,W0,rfl,rfl,rfl,rfl,HS,HW0,e0,SX,HR,Z0,B0,K1⟩:=lJ (.int .i64 6) lv i t d ti hR;refine mX ?_;intro BX pJ dW dw hst hsi;clear hR hs hl ht;go_enter func63,ntmps63;go_upto_region 16 with (fail)
 refine bO ?_;refine Tz ?_;intro LC g9;go_wp2_with fail
 (with_reducible refine LC.out.mono ?_)
 rintro e w4 ⟨bG,v4,rfl,hrow4⟩;obtain ⟨a4,n4,c4,rfl⟩:=hrow4.slice3;have b4:=hrow4.aO;have B4:=hid b4;refine Di ?_;intro cZ;have EC:=hid (mg ⟨#[98,108,111,99,107,113,117,111,116,101]⟩ none a4 0 n4 0 c4 w4);clear b4 hrow4 LC g9;go_wp2_with fail
 (with_reducible refine EC.out.mono ?_)
 rintro e w5 ⟨rfl,b5⟩;refine Tx ?_;intro BL HN;clear b5 cZ EC;obtain ⟨w9,hw8,r0,r1,r2,r3,HP,x0,x1,x2,x3,xf⟩:=dS ⟨#[98,108,111,99,107,113,117,111,116,101]⟩ ⟨#[]⟩ [] (ah.aZ ks) HS Z0 B0 K1 BL HN.out;go_wp2;rw [<- hw8];exact bodyPost_ret (v:=.agg #[.string ⟨#[98,108,111,99,107,113,117,111,116,101]⟩,.string ⟨#[]⟩,(.slice none 0 0),(.slice a4 n4 c4)]) (by simp [results,results63,go_sem,r0,r1,r2,r3]) rfl HP.out
theorem jo5 (pv:Value) (lv:Int) (i t d ti:ByteArray) (at_:At) (li:List aj) (ks:List ah) (vc vp vl vk:Value) (w:World) (hR:eT (·<w.heap.size) w at_ li ks vc vp vl vk) (hs:KI i t at_ li) (hl:eG pv w ks vk) (ht:PT w) : Calls prog 63 #[pv,.agg #[.int .i64 7,.int .i64 lv,.string i,.string t,.string d,.string ti,.string at_.id,vc,vp,vl,vk]] w (o8 w (aH nUl [] (ah.aZ ks))):=by
 obtain ⟨ac,nc,cc,ap,np,cp,al,nl,cl,ak,nk,ck,S,W0,rfl,rfl,rfl,rfl,HS,HW0,e0,SX,HR,Z0,B0,K1⟩:=lJ (.int .i64 7) lv i t d ti hR;refine mX ?_;intro BX pJ dW dw hst hsi;clear hR hs hl ht;go_enter func63,ntmps63;go_upto_region 18 with (fail)
 refine bO ?_;refine Tz ?_;intro LC g9;go_wp2_with fail
 (with_reducible refine LC.out.mono ?_)
 rintro e w4 ⟨bG,v4,rfl,hrow4⟩;obtain ⟨a4,n4,c4,rfl⟩:=hrow4.slice3;have b4:=hrow4.aO;have B4:=hid b4;refine Di ?_;intro cZ;have EC:=hid (mg ⟨#[117,108]⟩ none a4 0 n4 0 c4 w4);clear b4 hrow4 LC g9;go_wp2_with fail
 (with_reducible refine EC.out.mono ?_)
 rintro e w5 ⟨rfl,b5⟩;refine Tx ?_;intro BL HN;clear b5 cZ EC;obtain ⟨w9,hw8,r0,r1,r2,r3,HP,x0,x1,x2,x3,xf⟩:=dS ⟨#[117,108]⟩ ⟨#[]⟩ [] (ah.aZ ks) HS Z0 B0 K1 BL HN.out;go_wp2;rw [<- hw8];exact bodyPost_ret (v:=.agg #[.string ⟨#[117,108]⟩,.string ⟨#[]⟩,(.slice none 0 0),(.slice a4 n4 c4)]) (by simp [results,results63,go_sem,r0,r1,r2,r3]) rfl HP.out
theorem jo6 (pv:Value) (lv:Int) (i t d ti:ByteArray) (at_:At) (li:List aj) (ks:List ah) (vc vp vl vk:Value) (w:World) (hR:eT (·<w.heap.size) w at_ li ks vc vp vl vk) (hs:KI i t at_ li) (hl:eG pv w ks vk) (ht:PT w) : Calls prog 63 #[pv,.agg #[.int .i64 9,.int .i64 lv,.string i,.string t,.string d,.string ti,.string at_.id,vc,vp,vl,vk]] w (o8 w (aH nLi [] (ah.aZ ks))):=by
 obtain ⟨ac,nc,cc,ap,np,cp,al,nl,cl,ak,nk,ck,S,W0,rfl,rfl,rfl,rfl,HS,HW0,e0,SX,HR,Z0,B0,K1⟩:=lJ (.int .i64 9) lv i t d ti hR;refine mX ?_;intro BX pJ dW dw hst hsi;clear hR hs hl ht;go_enter func63,ntmps63;go_upto_region 25 with (fail)
 refine bO ?_;refine Tz ?_;intro LC g9;go_wp2_with fail
 (with_reducible refine LC.out.mono ?_)
 rintro e w4 ⟨bG,v4,rfl,hrow4⟩;obtain ⟨a4,n4,c4,rfl⟩:=hrow4.slice3;have b4:=hrow4.aO;have B4:=hid b4;refine Di ?_;intro cZ;have EC:=hid (mg ⟨#[108,105]⟩ none a4 0 n4 0 c4 w4);clear b4 hrow4 LC g9;go_wp2_with fail
 (with_reducible refine EC.out.mono ?_)
 rintro e w5 ⟨rfl,b5⟩;refine Tx ?_;intro BL HN;clear b5 cZ EC;obtain ⟨w9,hw8,r0,r1,r2,r3,HP,x0,x1,x2,x3,xf⟩:=dS ⟨#[108,105]⟩ ⟨#[]⟩ [] (ah.aZ ks) HS Z0 B0 K1 BL HN.out;go_wp2;rw [<- hw8];exact bodyPost_ret (v:=.agg #[.string ⟨#[108,105]⟩,.string ⟨#[]⟩,(.slice none 0 0),(.slice a4 n4 c4)]) (by simp [results,results63,go_sem,r0,r1,r2,r3]) rfl HP.out
theorem jo7 (pv:Value) (lv:Int) (i t d ti:ByteArray) (at_:At) (li:List aj) (ks:List ah) (vc vp vl vk:Value) (w:World) (hR:eT (·<w.heap.size) w at_ li ks vc vp vl vk) (hs:KI i t at_ li) (hl:eG pv w ks vk) (ht:PT w) : Calls prog 63 #[pv,.agg #[.int .i64 5,.int .i64 lv,.string i,.string t,.string d,.string ti,.string at_.id,vc,vp,vl,vk]] w (o8 w (aH nHr [] [])):=by
 obtain ⟨ac,nc,cc,ap,np,cp,al,nl,cl,ak,nk,ck,S,W0,rfl,rfl,rfl,rfl,HS,HW0,e0,SX,HR,Z0,B0,K1⟩:=lJ (.int .i64 5) lv i t d ti hR;refine mX ?_;intro BX pJ dW dw hst hsi;clear hR hs hl ht;go_enter func63,ntmps63;go_upto_region 14 with (fail)
 refine bO ?_;have EC:=hid (mg ⟨#[104,114]⟩ none none 0 0 0 0 W0);have B4:Hid (Below W0.heap.size W0 W0):=Below.refl _ _;go_wp2_with fail
 (with_reducible refine EC.out.mono ?_)
 rintro e w5 ⟨rfl,b5⟩;have BL:=hid (q01 B4.out b5);clear b5;obtain ⟨w9,hw8,r0,r1,r2,r3,HP,x0,x1,x2,x3,xf⟩:=dS ⟨#[104,114]⟩ ⟨#[]⟩ [] [] HS Z0 B0 K1 BL ⟨Rd.aD _ _ _,Rd.aD _ _ _⟩;go_wp2;rw [<- hw8];exact bodyPost_ret (v:=.agg #[.string ⟨#[104,114]⟩,.string ⟨#[]⟩,(.slice none 0 0),(.slice none 0 0)]) (by simp [results,results63,go_sem,r0,r1,r2,r3]) rfl HP.out
theorem Ya (pv:Value) (lv:Int) (i t d ti:ByteArray) (at_:At) (li:List aj) (ks:List ah) (vc vp vl vk:Value) (w:World) (hR:eT (·<w.heap.size) w at_ li ks vc vp vl vk) (hs:KI i t at_ li) (ht:PT w) (hT:TbW i ks) : Calls prog 63 #[pv,.agg #[.int .i64 10,.int .i64 lv,.string i,.string t,.string d,.string ti,.string at_.id,vc,vp,vl,vk]] w (o8 w (BJ i ks)):=by
 obtain ⟨ac,nc,cc,ap,np,cp,al,nl,cl,ak,nk,ck,S,W0,rfl,rfl,rfl,rfl,HS,HW0,e0,SX,HR,Z0,B0,K1⟩:=lJ (.int .i64 10) lv i t d ti hR;have pJ:=ptH HS.out ht B0.out;have dW:=ju4 hs HR;have dw:=hid hs;have hst:t.size<=300:=hs.t;have hsi:i.size<=300:=hs.i;have HT:=hid hT;clear hT;clear hR hs ht;go_enter func63,ntmps63;go_upto_region 27 with (fail)
 refine bO ?_;have TC:=hid (Kw 10 lv i t d ti at_ li ks (.slice ac nc cc) (.slice ap np cp) (.slice al nl cl) (.slice ak nk ck) W0 (eT.sK HR.out (fun b (hb:b<S) hlt=>⟨hlt,rfl⟩)) HT.out);obtain ⟨g1,g2,g3,g4,g5,g6,g7,g8,g9,g10⟩:=SX.out W0 (Below.refl _ _);have htb:(BJ i ks).nm=⟨#[116,97,98,108,101]⟩/\(BJ i ks).tx=⟨#[]⟩/\(BJ i ks).at_=[]:=by cases ks<;>exact ⟨rfl,rfl,rfl⟩
 have HTB:=hid htb;clear htb;go_wp2_with fail
 (with_reducible refine TC.out.mono ?_)
 rintro e w5 ⟨va,vk,he,hN,hb5⟩;obtain ⟨aA,nA,cA,rfl⟩:=Rd.au hN.at_
 obtain ⟨aK,nK,cK,rfl⟩:=Rd.au hN.ks;rw [HTB.out.1,HTB.out.2.1] at he;subst he;have BL:=hid hb5;have HN:=hid hN;have HE:Hid (BJ i ks=.mk ⟨#[116,97,98,108,101]⟩ ⟨#[]⟩ (BJ i ks).at_ (BJ i ks).ks):=by show _=_;rw [<- HTB.out.1,<- HTB.out.2.1];cases BJ i ks;rfl
 rw [HE.out];clear hN hb5 g1 g2 g3 g4 g5 g6 g7 g8 g9 g10 TC;obtain ⟨w9,hw8,r0,r1,r2,r3,HP,x0,x1,x2,x3,xf⟩:=dS ⟨#[116,97,98,108,101]⟩ ⟨#[]⟩ (BJ i ks).at_ (BJ i ks).ks HS Z0 B0 K1 BL HN.out
 go_wp2;rw [<- hw8];exact bodyPost_ret (v:=.agg #[.string ⟨#[116,97,98,108,101]⟩,.string ⟨#[]⟩,(.slice aA nA cA),(.slice aK nK cK)]) (by simp [results,results63,go_sem,r0,r1,r2,r3]) rfl (by rw [HE.out];exact HP.out)
theorem Ng{P:Prop}(h:P:=by
 have h:i.toList.isEmpty=bq i:=by rw [Lib.toList_data,Bool.eq_iff_iff,List.isEmpty_iff,bq,decide_eq_true_iff]
 rw [h];exact hi):P:=h
theorem jc9{P:Prop}(h:P:=by
 go_wp2;rw [<- hw8];exact bodyPost_ret (v:=.agg #[.string ⟨#[112,114,101]⟩,.string ⟨#[]⟩,(.slice none 0 0),(.slice (some ⟨w5.heap.size,0,none⟩) 1 1)]) (by simp [results,results63,go_sem,r0,r1,r2,r3]) rfl HP.out):P:=h
theorem Yb (pv:jIz) (lv:Int) (i t d ti:ByteArray) (at_:At) (li:List aj) (ks:List ah) (vc vp vl vk:jIz) (w:jIq) (hR:eT (·<w.heap.size) w at_ li ks vc vp vl vk) (hs:KI i t at_ li) (hl:eG pv w ks vk) (ht:PT w) (hi:bq i=true) : Calls prog 63 #[pv,.agg #[.int .i64 3,.int .i64 lv,.string i,.string t,.string d,.string ti,.string at_.id,vc,vp,vl,vk]] w (o8 w (aH Hr [] [aH dO [] (bK t)])):=by
 obtain ⟨ac,nc,cc,ap,np,cp,al,nl,cl,ak,nk,ck,S,W0,rfl,rfl,rfl,rfl,HS,HW0,e0,SX,HR,Z0,B0,K1⟩:=lJ (.int .i64 3) lv i t d ti hR;refine mX ?_;intro BX pJ dW dw hst hsi;have WJ:i.toList.isEmpty=true:=by exact Ng
 clear hi;clear hR hs hl ht;go_enter func63,ntmps63;go_upto_region 7 with (fail)
 refine bO ?_;have BW0:jIx W0.heap.size W0 W0:=jFj _ _;have xA:Hid (Rd (W0.heap.size<=·) W0 (fJ []) [.slice none 0 0]):=Rd.aD _ _ _;have e2:=(SX.out W0 (jFj _ _)).2.1;have DC:=hid (jD t W0);have g3:=(SX.out W0 BW0).2.2.1;go_wp2_with fail
 (with_reducible refine DC.out.mono ?_)
 rintro e w4 ⟨bG,v4,rfl,hrow4⟩;obtain ⟨a4,n4,c4,rfl⟩:=hrow4.slice3;have b4:=hrow4.aO;have B4:=hid (q01 BW0 b4);have cZ:=hid (show Rd (W0.heap.size<=·) w4 (gH (bK t)) [.slice a4 n4 c4] from hrow4.cu.weaken (fun b hb=>jFq (BW0).size hb));have jY:=hid (xA.out.aX b4);have EC:=hid (mg ⟨#[99,111,100,101]⟩ none a4 0 n4 0 c4 w4);clear b4 hrow4 DC g3;go_wp2_with fail
 (with_reducible refine EC.out.mono ?_)
 rintro e w5 ⟨rfl,b5⟩;have XD:Dl W0 none w5 (aH dO [] (bK t)).d [.string ⟨#[99,111,100,101]⟩,.string ⟨#[]⟩,.slice none 0 0,.slice a4 n4 c4]:=⟨q01 B4.out b5,fun p hp=>by simp at hp,(Nd.dJ dO ⟨#[]⟩ (gP.keep ⟨jY.out,cZ.out⟩ (fun b hb hlt=>⟨⟨hb,by simp⟩,b5.block b hlt⟩)))⟩;have XL:=hid XD.lit;have TA:=hid (mg ⟨#[112,114,101]⟩ none (some ⟨w5.heap.size,0,none⟩) 0 1 0 1 (w5.alloc (.cells #[.string ⟨#[99,111,100,101]⟩,.string ⟨#[]⟩,.slice none 0 0,.slice a4 n4 c4] 30)));clear XD b5 EC;go_wp2_with fail
 (with_reducible refine TA.out.mono ?_)
 rintro e w6 ⟨rfl,b6⟩;have BL:=hid (q01 XL.out.aO b6);have HN:=hid (show gP (W0.heap.size<=·) w6 [] [aH dO [] (bK t)] (.slice none 0 0) (.slice (some ⟨w5.heap.size,0,none⟩) 1 1) from ⟨Rd.aD _ _ _,(XL.out.rd.aX b6).weaken (fun b hb=>hb.1)⟩);clear b6 XL TA;obtain ⟨w9,hw8,r0,r1,r2,r3,HP,x0,x1,x2,x3,xf⟩:=dS ⟨#[112,114,101]⟩ ⟨#[]⟩ [] [aH dO [] (bK t)] HS Z0 B0 K1 BL HN.out;exact jc9
theorem Yc (pv:jIz) (lv:Int) (i t d ti:ByteArray) (at_:At) (li:List aj) (ks:List ah) (vc vp vl vk:jIz) (w:jIq) (hR:eT (·<w.heap.size) w at_ li ks vc vp vl vk) (hs:KI i t at_ li) (hl:eG pv w ks vk) (ht:PT w) (hi:bq i=false) : Calls prog 63 #[pv,.agg #[.int .i64 3,.int .i64 lv,.string i,.string t,.string d,.string ti,.string at_.id,vc,vp,vl,vk]] w (o8 w (aH Hr [] [aH dO [⟨dD,⟨#[108,97,110,103,117,97,103,101,45]⟩++i⟩] (bK t)])):=by
 obtain ⟨ac,nc,cc,ap,np,cp,al,nl,cl,ak,nk,ck,S,W0,rfl,rfl,rfl,rfl,HS,HW0,e0,SX,HR,Z0,B0,K1⟩:=lJ (.int .i64 3) lv i t d ti hR;refine mX ?_;intro BX pJ dW dw hst hsi;have WJ:i.toList.isEmpty=false:=by exact Ng
 clear hi;clear hR hs hl ht;go_enter func63,ntmps63;go_upto_region 7 with (fail)
 refine bO ?_;have e2:=(SX.out W0 (jFj _ _)).2.1;have q5:(⟨#[108,97,110,103,117,97,103,101,45]⟩:ByteArray).size+i.size<=9223372036854775807:=by have:(⟨#[108,97,110,103,117,97,103,101,45]⟩:ByteArray).size=9:=rfl;omega
 have q6:9+i.size<=9223372036854775807:=by omega
 have PC:Hid (Calls prog 18 #[.slice (some ⟨W0.heap.size,0,none⟩) 2 2] (W0.alloc (.cells #[.string ⟨#[99,108,97,115,115]⟩,.string (⟨#[108,97,110,103,117,97,103,101,45]⟩++i)] 9)) (aW (W0.alloc (.cells #[.string ⟨#[99,108,97,115,115]⟩,.string (⟨#[108,97,110,103,117,97,103,101,45]⟩++i)] 9)) [⟨dD,⟨#[108,97,110,103,117,97,103,101,45]⟩++i⟩])):=XR dD (H9++i) W0;go_wp2_with fail
 (with_reducible refine PC.out.mono ?_)
 rintro e w2 ⟨bD,v2,rfl,hrow2⟩;obtain ⟨a2,c2,rfl,-,-⟩:=hrow2.cap (n:=1) rfl;have bl:jIx W0.heap.size W0 (W0.alloc (.cells #[.string ⟨#[99,108,97,115,115]⟩,.string (⟨#[108,97,110,103,117,97,103,101,45]⟩++i)] 9)):=(jFj _ _).alloc (Nat.le_refl _) _;have B2:=hid (bl.trans (hrow2.aO.mono bl.size));have xA:=hid (show Rd (W0.heap.size<=·) w2 (fJ [⟨dD,⟨#[108,97,110,103,117,97,103,101,45]⟩++i⟩]) [.slice a2 1 c2] from hrow2.cu.weaken (fun b hb=>jFq bl.size hb));clear hrow2 bl PC q5 q6 e2;have DC:=hid (jD t w2);have g3:=(SX.out w2 B2.out).2.2.1;go_wp2_with fail
 (with_reducible refine DC.out.mono ?_)
 rintro e w4 ⟨bG,v4,rfl,hrow4⟩;obtain ⟨a4,n4,c4,rfl⟩:=hrow4.slice3;have b4:=hrow4.aO;have B4:=hid (q01 B2.out b4);have cZ:=hid (show Rd (W0.heap.size<=·) w4 (gH (bK t)) [.slice a4 n4 c4] from hrow4.cu.weaken (fun b hb=>jFq (B2.out).size hb));have jY:=hid (xA.out.aX b4);have EC:=hid (mg ⟨#[99,111,100,101]⟩ a2 a4 1 n4 c2 c4 w4);clear b4 hrow4 DC g3;go_wp2_with fail
 (with_reducible refine EC.out.mono ?_)
 rintro e w5 ⟨rfl,b5⟩;have XD:Dl W0 none w5 (aH dO [⟨dD,⟨#[108,97,110,103,117,97,103,101,45]⟩++i⟩] (bK t)).d [.string ⟨#[99,111,100,101]⟩,.string ⟨#[]⟩,.slice a2 1 c2,.slice a4 n4 c4]:=⟨q01 B4.out b5,fun p hp=>by simp at hp,(Nd.dJ dO ⟨#[]⟩ (gP.keep ⟨jY.out,cZ.out⟩ (fun b hb hlt=>⟨⟨hb,by simp⟩,b5.block b hlt⟩)))⟩;have XL:=hid XD.lit;have TA:=hid (mg ⟨#[112,114,101]⟩ none (some ⟨w5.heap.size,0,none⟩) 0 1 0 1 (w5.alloc (.cells #[.string ⟨#[99,111,100,101]⟩,.string ⟨#[]⟩,.slice a2 1 c2,.slice a4 n4 c4] 30)));clear XD b5 EC;go_wp2_with fail
 (with_reducible refine TA.out.mono ?_)
 rintro e w6 ⟨rfl,b6⟩;have BL:=hid (q01 XL.out.aO b6);have HN:=hid (show gP (W0.heap.size<=·) w6 [] [aH dO [⟨dD,⟨#[108,97,110,103,117,97,103,101,45]⟩++i⟩] (bK t)] (.slice none 0 0) (.slice (some ⟨w5.heap.size,0,none⟩) 1 1) from ⟨Rd.aD _ _ _,(XL.out.rd.aX b6).weaken (fun b hb=>hb.1)⟩);clear b6 XL TA;obtain ⟨w9,hw8,r0,r1,r2,r3,HP,x0,x1,x2,x3,xf⟩:=dS ⟨#[112,114,101]⟩ ⟨#[]⟩ [] [aH dO [⟨dD,⟨#[108,97,110,103,117,97,103,101,45]⟩++i⟩] (bK t)] HS Z0 B0 K1 BL HN.out;exact jc9
theorem Yd (pv:jIz) (lv:Int) (i t d ti:ByteArray) (at_:At) (li:List aj) (ks:List ah) (vc vp vl vk:jIz) (w:jIq) (hR:eT (·<w.heap.size) w at_ li ks vc vp vl vk) (hs:KI i t at_ li) (hl:eG pv w ks vk) (ht:PT w) (hv:lv=1) : Calls prog 63 #[pv,.agg #[.int .i64 8,.int .i64 lv,.string i,.string t,.string d,.string ti,.string at_.id,vc,vp,vl,vk]] w (o8 w (aH Xo [] (ah.aZ ks))):=by
 obtain ⟨ac,nc,cc,ap,np,cp,al,nl,cl,ak,nk,ck,S,W0,rfl,rfl,rfl,rfl,HS,HW0,e0,SX,HR,Z0,B0,K1⟩:=lJ (.int .i64 8) lv i t d ti hR;refine mX ?_;intro BX pJ dW dw hst hsi;have qv:(lv==1)=true:=by rw [hv];rfl
 clear hv;clear hR hs hl ht;go_enter func63,ntmps63;go_upto_region 20 with (fail)
 refine bO ?_;have BW0:jIx W0.heap.size W0 W0:=jFj _ _;have xA:Hid (Rd (W0.heap.size<=·) W0 (fJ []) [.slice none 0 0]):=Rd.aD _ _ _;have e1:=(SX.out W0 (jFj _ _)).1;have LC:=hid (BX.out W0 BW0);have g10:=(SX.out W0 BW0).2.2.2.2.2.2.2.2.2;go_wp2_with fail
 (with_reducible refine LC.out.mono ?_)
 rintro e w4 ⟨bG,v4,rfl,hrow4⟩;obtain ⟨a4,n4,c4,rfl⟩:=hrow4.slice3;have b4:=hrow4.aO;have B4:=hid (q01 BW0 b4);have cZ:=hid (show Rd (W0.heap.size<=·) w4 (gH (ah.aZ ks)) [.slice a4 n4 c4] from hrow4.cu.weaken (fun b hb=>jFq (BW0).size hb));have jY:=hid (xA.out.aX b4);have EC:=hid (mg ⟨#[111,108]⟩ none a4 0 n4 0 c4 w4);clear b4 hrow4 LC g10;go_wp2_with fail
 (with_reducible refine EC.out.mono ?_)
 rintro e w5 ⟨rfl,b5⟩;have BL:=hid (q01 B4.out b5);have HN:=hid (show gP (W0.heap.size<=·) w5 [] (ah.aZ ks) (.slice none 0 0) (.slice a4 n4 c4) from ⟨jY.out.aX b5,cZ.out.aX b5⟩);clear b5 cZ EC;obtain ⟨w9,hw8,r0,r1,r2,r3,HP,x0,x1,x2,x3,xf⟩:=dS ⟨#[111,108]⟩ ⟨#[]⟩ [] (ah.aZ ks) HS Z0 B0 K1 BL HN.out;go_wp2;rw [<- hw8];exact bodyPost_ret (v:=.agg #[.string ⟨#[111,108]⟩,.string ⟨#[]⟩,(.slice none 0 0),(.slice a4 n4 c4)]) (by simp [results,results63,go_sem,r0,r1,r2,r3]) rfl HP.out
theorem jcj{P Q:Prop}(q:Q)(h:Nonempty Q->P:=by
 intro qQ;have IC:Hid (∀ W:World,Below W0.heap.size W0 W->Calls prog 92 #[.int .i64 lv] W (fun e w'=>e=.returned (.string (q2z n))/\Below W.heap.size W w')):=fun W hW=>by rw [hv];exact Tt n W hn (pJ.out W hW)
 revert IC;exact qQ.elim fun x=>x):P:=h ⟨q⟩
theorem Ye (pv:Value) (lv:Int) (i t d ti:ByteArray) (at_:At) (li:List aj) (ks:List ah) (vc vp vl vk:Value) (w:World) (hR:eT (·<w.heap.size) w at_ li ks vc vp vl vk) (hs:KI i t at_ li) (hl:eG pv w ks vk) (ht:PT w) (n:Nat) (hv:lv=(n:Int)) (hn:n<=999999999) (h1:lv≠1) : Calls prog 63 #[pv,.agg #[.int .i64 8,.int .i64 lv,.string i,.string t,.string d,.string ti,.string at_.id,vc,vp,vl,vk]] w (o8 w (aH Xo [⟨CO,q2z n⟩] (ah.aZ ks))):=by
 obtain ⟨ac,nc,cc,ap,np,cp,al,nl,cl,ak,nk,ck,S,W0,rfl,rfl,rfl,rfl,HS,HW0,e0,SX,HR,Z0,B0,K1⟩:=lJ (.int .i64 8) lv i t d ti hR;refine mX ?_;intro BX pJ dW dw hst hsi;have qv:(lv==1)=false:=by rw [beq_eq_false_iff_ne];exact h1
 refine jcj ?_;intro IC;clear hv hn h1;clear hR hs hl ht;go_enter func63,ntmps63;go_upto_region 20 with (fail)
 refine bO ?_;have e1:=(SX.out W0 (Below.refl _ _)).1;have IT:=hid (IC.out W0 (Below.refl _ _));go_wp2_with fail
 (with_reducible refine IT.out.mono ?_)
 rintro e w1 ⟨rfl,b1⟩;have PC:Hid (Calls prog 18 #[.slice (some ⟨w1.heap.size,0,none⟩) 2 2] (w1.alloc (.cells #[.string ⟨#[115,116,97,114,116]⟩,.string (q2z n)] 9)) (aW (w1.alloc (.cells #[.string ⟨#[115,116,97,114,116]⟩,.string (q2z n)] 9)) [⟨CO,q2z n⟩])):=XR CO (q2z n) w1;have bl:Below W0.heap.size W0 (w1.alloc (.cells #[.string ⟨#[115,116,97,114,116]⟩,.string (q2z n)] 9)):=b1.alloc b1.size _;clear IT e1;go_wp2_with fail
 (with_reducible refine PC.out.mono ?_)
 rintro e w2 ⟨bD,v2,rfl,hrow2⟩;obtain ⟨a2,c2,rfl,-,-⟩:=hrow2.cap (n:=1) rfl;have B2:=hid (bl.trans (hrow2.aO.mono bl.size));have xA:=hid (show Rd (W0.heap.size<=·) w2 (fJ [⟨CO,q2z n⟩]) [.slice a2 1 c2] from hrow2.cu.weaken (fun b hb=>Nat.le_trans bl.size hb));clear hrow2 bl PC b1;have LC:=hid (BX.out w2 B2.out);have g10:=(SX.out w2 B2.out).2.2.2.2.2.2.2.2.2;go_wp2_with fail
 (with_reducible refine LC.out.mono ?_)
 rintro e w4 ⟨bG,v4,rfl,hrow4⟩;obtain ⟨a4,n4,c4,rfl⟩:=hrow4.slice3;have b4:=hrow4.aO;have B4:=hid (q01 B2.out b4);have cZ:=hid (show Rd (W0.heap.size<=·) w4 (gH (ah.aZ ks)) [.slice a4 n4 c4] from hrow4.cu.weaken (fun b hb=>Nat.le_trans (B2.out).size hb));have jY:=hid (xA.out.aX b4);have EC:=hid (mg ⟨#[111,108]⟩ a2 a4 1 n4 c2 c4 w4);clear b4 hrow4 LC g10;go_wp2_with fail
 (with_reducible refine EC.out.mono ?_)
 rintro e w5 ⟨rfl,b5⟩;have BL:=hid (q01 B4.out b5);have HN:=hid (show gP (W0.heap.size<=·) w5 [⟨CO,q2z n⟩] (ah.aZ ks) (.slice a2 1 c2) (.slice a4 n4 c4) from ⟨jY.out.aX b5,cZ.out.aX b5⟩);clear b5 cZ EC;obtain ⟨w9,hw8,r0,r1,r2,r3,HP,x0,x1,x2,x3,xf⟩:=dS ⟨#[111,108]⟩ ⟨#[]⟩ [⟨CO,q2z n⟩] (ah.aZ ks) HS Z0 B0 K1 BL HN.out;go_wp2;rw [<- hw8];exact bodyPost_ret (v:=.agg #[.string ⟨#[111,108]⟩,.string ⟨#[]⟩,(.slice a2 1 c2),(.slice a4 n4 c4)]) (by simp [results,results63,go_sem,r0,r1,r2,r3]) rfl HP.out
theorem jb1{P Q:Prop}(q:Q)(h:Nonempty Q->P:=by
 intro qQ;have q5:(⟨#[104]⟩:ByteArray).size+(q2z n).size<=9223372036854775807:=by have:(⟨#[104]⟩:ByteArray).size=1:=rfl;have:=Du n hn;omega
 have q6:1+(q2z n).size<=9223372036854775807:=by have:=Du n hn;omega
 revert q5 q6;exact qQ.elim fun x=>x):P:=h ⟨q⟩
theorem jo8 (pv:Value) (lv:Int) (i t d ti:ByteArray) (at_:At) (li:List aj) (ks:List ah) (vc vp vl vk:Value) (w:World) (hR:eT (·<w.heap.size) w at_ li ks vc vp vl vk) (hs:KI i t at_ li) (hl:eG pv w ks vk) (ht:PT w) (n:Nat) (hv:lv=(n:Int)) (hn:n<=999999999) : Calls prog 63 #[pv,.agg #[.int .i64 2,.int .i64 lv,.string i,.string t,.string d,.string ti,.string at_.id,vc,vp,vl,vk]] w (o8 w (aH (⟨#[104]⟩++q2z n) (eX at_ []) (dV li))):=by
 obtain ⟨ac,nc,cc,ap,np,cp,al,nl,cl,ak,nk,ck,S,W0,rfl,rfl,rfl,rfl,HS,HW0,e0,SX,HR,Z0,B0,K1⟩:=lJ (.int .i64 2) lv i t d ti hR;refine mX ?_;intro BX pJ dW dw hst hsi;refine jcj ?_;intro IC;refine jb1 ?_;intro q5 q6;clear hv hn;clear hR hs hl ht;go_enter func63,ntmps63;go_upto_region 5 with (fail)
 refine bO ?_;have IT:=hid (IC.out W0.drew ((Below.refl W0.heap.size W0).drew));have hadd:∀ w:World,(Op.stringOp .add (⟨#[104]⟩:ByteArray) (q2z n)).run prog w=.ok (.string (⟨#[104]⟩++q2z n)) w:=fun w=>run_string_add_sum w _ _ q5
 clear q5;have SF:=hid (fun (w':World) (hb:Below W0.heap.size W0 w')=>(⟨(SX.out w' hb).1,(SX.out w' hb).2.2.2.2.2.1,(SX.out w' hb).2.2.2.2.2.2.1,(SX.out w' hb).2.2.2.2.2.2.2.1,(SX.out w' hb).2.2.2.2.2.2.2.2.1⟩:w'.cell? ⟨S,1,none⟩=some (.int .i64 lv)/\w'.cell? ⟨S,6,none⟩=some (.string at_.id)/\w'.cell? ⟨S,7,none⟩=some (.slice ac nc cc)/\w'.cell? ⟨S,8,none⟩=some (.slice ap np cp)/\w'.cell? ⟨S,9,none⟩=some (.slice al nl cl)));have S0:=SF.out _ ((Below.refl W0.heap.size W0).drew);go_wp2_with fail
 go_region_held3 (fun w'=>w'.cell? ⟨S,1,none⟩=some (.int .i64 lv)/\w'.cell? ⟨S,6,none⟩=some (.string at_.id)/\w'.cell? ⟨S,7,none⟩=some (.slice ac nc cc)/\w'.cell? ⟨S,8,none⟩=some (.slice ap np cp)/\w'.cell? ⟨S,9,none⟩=some (.slice al nl cl))
  (with_reducible assumption)
  (first
   | (go_simp;go_at_call 92;(with_reducible refine IT.out.mono ?_);rintro e w1 ⟨rfl,b1⟩;have B1:Hid (Below W0.heap.size W0 w1):=((Below.refl W0.heap.size W0).drew).trans b1;have S1:=SF.out (w1) B1.out;have AC:=hid (q2v at_ [] (.slice ac nc cc) (.slice ap np cp) (.slice none 0 0) w1 w1 qL.nil (zB HR.out.at_ B1.out (by have:=Z0.out;omega)) (Tw dw.out.at_).1 (Tw dw.out.at_).2))
   | (go_simp;go_at_call 87;(with_reducible refine AC.out.mono ?_);rintro e w3 ⟨dH,v3,rfl,hrow3⟩;obtain ⟨a3,n3,c3,rfl⟩:=hrow3.slice3;have B3:Hid (Below W0.heap.size W0 w3):=(B1.out).trans (hrow3.aO.mono (B1.out).size);have xL:Hid (Rd (W0.heap.size<=·) w3 (fJ (eX at_ [])) [.slice a3 n3 c3]):=hrow3.cu.weaken (fun b hb=>Nat.le_trans (B1.out).size hb);have S3:=SF.out (w3) B3.out;have LC:=hid (dW.out w3 B3.out))
   | (go_simp;go_at_call 28;(with_reducible refine LC.out.mono ?_);rintro e w4 ⟨bG,v4,rfl,hrow4⟩;obtain ⟨a4,n4,c4,rfl⟩:=hrow4.slice3;have b4:=hrow4.aO;have B4:=hid (q01 B3.out b4);have cZ:=hid (show Rd (W0.heap.size<=·) w4 (gH (dV li)) [.slice a4 n4 c4] from hrow4.cu.weaken (fun b hb=>Nat.le_trans B3.out.size hb));have jY:=hid (xL.out.aX b4);have S4:=SF.out (w4) B4.out;have EC:=hid (mg ((⟨#[104]⟩:ByteArray)++q2z n) a3 a4 n3 n4 c3 c4 w4))
   | (go_simp;go_at_call 17;(with_reducible refine EC.out.mono ?_);rintro e w5 ⟨rfl,b5⟩;have BL:=hid (q01 B4.out b5);obtain ⟨x0,x1,x2,x3,xf⟩:=pq (K1.out.below BL.out);have S5:=SF.out (w5) BL.out;have K6:=jI S w5 (.string ((⟨#[104]⟩:ByteArray)++q2z n)) (.string ⟨#[]⟩) (.slice a3 n3 c3) (.slice a4 n4 c4);have S6:=And.imp (K6 _ _) (And.imp (K6 _ _) (And.imp (K6 _ _) (And.imp (K6 _ _) (K6 _ _)))) (SF.out w5 BL.out);clear K6))
 all_goals
  have HN:=hid (show gP (W0.heap.size<=·) w5 (eX at_ []) (dV li) (.slice a3 n3 c3) (.slice a4 n4 c4) from ⟨jY.out.aX b5,cZ.out.aX b5⟩);clear b5 cZ EC jY hrow3 hrow4 b4 S0 S3 S4 S5 S6 xL S1 b1;obtain ⟨w9,bZ⟩:∃ w9,w9=jV w5 (S+1) (.string ((⟨#[104]⟩:ByteArray)++q2z n)) (.string ⟨#[]⟩) (.slice a3 n3 c3) (.slice a4 n4 c4):=⟨_,rfl⟩;have hf:=uP ((⟨#[104]⟩:ByteArray)++q2z n) ⟨#[]⟩ (eX at_ []) (dV li) HS.out Z0.out B0.out K1.out BL.out HN.out;rw [<- bZ] at hf;have HC:=hid hf.1;have HP:=hid hf.2;clear hf;refine lH ?_;clear bZ;intro hw8 x0 x1 x2 x3 xf;go_wp2;refine lI ?_;intro r0 r1 r2 r3;exact bodyPost_ret (v:=.agg #[.string ((⟨#[104]⟩:ByteArray)++q2z n),.string ⟨#[]⟩,(.slice a3 n3 c3),(.slice a4 n4 c4)]) (by simp [results,results63,go_sem,r0,r1,r2,r3]) rfl HP.out
theorem jck{P:Prop}(h:P:=by
 exact bodyPost_ret (v:=.agg #[.string ⟨#[100,105,118]⟩,.string ⟨#[]⟩,(.slice a3 n3 c3),(.slice a4 n4 c4)]) (by simp [results,results63,go_sem,r0,r1,r2,r3]) rfl HP.out):P:=h
theorem jo9 (pv:jIz) (lv:Int) (i t d ti:ByteArray) (at_:At) (li:List aj) (ks:List ah) (vc vp vl vk:jIz) (w:jIq) (hR:eT (·<w.heap.size) w at_ li ks vc vp vl vk) (hs:KI i t at_ li) (hl:eG pv w ks vk) (ht:PT w) : Calls prog 63 #[pv,.agg #[.int .i64 4,.int .i64 lv,.string i,.string t,.string d,.string ti,.string at_.id,vc,vp,vl,vk]] w (o8 w (aH jW (eX at_ [⟨#[109,97,116,104]⟩]) (bK t))):=by
 obtain ⟨ac,nc,cc,ap,np,cp,al,nl,cl,ak,nk,ck,S,W0,rfl,rfl,rfl,rfl,HS,HW0,e0,SX,HR,Z0,B0,K1⟩:=lJ (.int .i64 4) lv i t d ti hR;refine mX ?_;intro BX pJ dW dw hst hsi;clear hR hs hl ht;go_enter func63,ntmps63;go_upto_region 12 with (fail)
 refine bO ?_;have je:Hid (jIx W0.heap.size W0 (W0.alloc (.cells #[.string ⟨#[109,97,116,104]⟩] 9)).drew):=gu W0 (.cells #[.string ⟨#[109,97,116,104]⟩] 9);have AC:Hid (Calls prog 87 #[.agg #[.string at_.id,.slice ac nc cc,.slice ap np cp],.slice (some ⟨W0.heap.size,0,none⟩) 1 1] (W0.alloc (.cells #[.string ⟨#[109,97,116,104]⟩] 9)).drew (aW W0.drew (eX at_ [⟨#[109,97,116,104]⟩]))):=q2v at_ [⟨#[109,97,116,104]⟩] (.slice ac nc cc) (.slice ap np cp) (.slice (some ⟨W0.heap.size,0,none⟩) 1 1) W0.drew (W0.alloc (.cells #[.string ⟨#[109,97,116,104]⟩] 9)).drew (qL.one W0.drew ⟨#[109,97,116,104]⟩) (zB HR.out.at_ je.out (by have:=Z0.out;omega)) (xP dw.out.at_ ⟨#[109,97,116,104]⟩ (by have:=dw.out.i;decide)).1 (xP dw.out.at_ ⟨#[109,97,116,104]⟩ (by have:=dw.out.i;decide)).2
 have SF:=hid (fun (w':jIq) (hb:jIx W0.heap.size W0 w')=>(⟨(SX.out w' hb).2.2.1,(SX.out w' hb).2.2.2.2.2.1,(SX.out w' hb).2.2.2.2.2.2.1,(SX.out w' hb).2.2.2.2.2.2.2.1⟩:w'.cell? ⟨S,3,none⟩=some (.string t)/\w'.cell? ⟨S,6,none⟩=some (.string at_.id)/\w'.cell? ⟨S,7,none⟩=some (.slice ac nc cc)/\w'.cell? ⟨S,8,none⟩=some (.slice ap np cp)));have S1:=SF.out _ je.out;refine Tm ?_;intro Tc;have S0:=SF.out _ ((jFj W0.heap.size W0).drew);go_wp2_with fail
 go_region_held3 (fun w'=>w'.cell? ⟨S,3,none⟩=some (.string t)/\w'.cell? ⟨S,6,none⟩=some (.string at_.id)/\w'.cell? ⟨S,7,none⟩=some (.slice ac nc cc)/\w'.cell? ⟨S,8,none⟩=some (.slice ap np cp))
  (with_reducible assumption)
  (first
   | (go_simp;go_at_call 87;(with_reducible refine AC.out.mono ?_);rintro e w3 ⟨dH,v3,rfl,hrow3⟩;obtain ⟨a3,n3,c3,rfl⟩:=hrow3.slice3;have B3:Hid (jIx W0.heap.size W0 w3):=(((jFj W0.heap.size W0).drew)).trans (hrow3.aO.mono (((jFj W0.heap.size W0).drew)).size);have xL:Hid (Rd (W0.heap.size<=·) w3 (fJ (eX at_ [⟨#[109,97,116,104]⟩])) [.slice a3 n3 c3]):=hrow3.cu.weaken (fun b hb=>jFq (((jFj W0.heap.size W0).drew)).size hb);have S3:=SF.out (w3) B3.out;have LC:=hid (Tc.out w3))
   | (go_simp;go_at_call 19;(with_reducible refine LC.out.mono ?_);rintro e w4 ⟨bG,v4,rfl,hrow4⟩;obtain ⟨a4,n4,c4,rfl⟩:=hrow4.slice3;have b4:=hrow4.aO;have B4:=hid (q01 B3.out b4);have cZ:=hid (show Rd (W0.heap.size<=·) w4 (gH (bK t)) [.slice a4 n4 c4] from hrow4.cu.weaken (fun b hb=>jFq B3.out.size hb));have jY:=hid (xL.out.aX b4);have S4:=SF.out (w4) B4.out;have EC:=hid (mg ⟨#[100,105,118]⟩ a3 a4 n3 n4 c3 c4 w4))
   | (go_simp;go_at_call 17;(with_reducible refine EC.out.mono ?_);rintro e w5 ⟨rfl,b5⟩;have BL:=hid (q01 B4.out b5);obtain ⟨x0,x1,x2,x3,xf⟩:=pq (K1.out.below BL.out);have S5:=SF.out (w5) BL.out;have K6:=jI S w5 (.string ⟨#[100,105,118]⟩) (.string ⟨#[]⟩) (.slice a3 n3 c3) (.slice a4 n4 c4);have S6:=And.imp (K6 _ _) (And.imp (K6 _ _) (And.imp (K6 _ _) (K6 _ _))) (SF.out w5 BL.out);clear K6))
 all_goals
  have HN:=hid (show gP (W0.heap.size<=·) w5 (eX at_ [⟨#[109,97,116,104]⟩]) (bK t) (.slice a3 n3 c3) (.slice a4 n4 c4) from ⟨jY.out.aX b5,cZ.out.aX b5⟩);clear b5 cZ EC jY hrow3 hrow4 b4 S0 S3 S4 S5 S6 xL S1;obtain ⟨w9,bZ⟩:∃ w9,w9=jV w5 (S+1) (.string ⟨#[100,105,118]⟩) (.string ⟨#[]⟩) (.slice a3 n3 c3) (.slice a4 n4 c4):=⟨_,rfl⟩;have hf:=uP ⟨#[100,105,118]⟩ ⟨#[]⟩ (eX at_ [⟨#[109,97,116,104]⟩]) (bK t) HS.out Z0.out B0.out K1.out BL.out HN.out;rw [<- bZ] at hf;have HC:=hid hf.1;have HP:=hid hf.2;clear hf;refine lH ?_;clear bZ;intro hw8 x0 x1 x2 x3 xf;go_wp2;refine lI ?_;intro r0 r1 r2 r3;exact jck
theorem Yf (pv:jIz) (lv:Int) (i t d ti:ByteArray) (at_:At) (li:List aj) (ks:List ah) (vc vp vl vk:jIz) (w:jIq) (hR:eT (·<w.heap.size) w at_ li ks vc vp vl vk) (hs:KI i t at_ li) (hl:eG pv w ks vk) (ht:PT w) : Calls prog 63 #[pv,.agg #[.int .i64 13,.int .i64 lv,.string i,.string t,.string d,.string ti,.string at_.id,vc,vp,vl,vk]] w (o8 w (aH jW (eX at_ [i]) (ah.aZ ks))):=by
 obtain ⟨ac,nc,cc,ap,np,cp,al,nl,cl,ak,nk,ck,S,W0,rfl,rfl,rfl,rfl,HS,HW0,e0,SX,HR,Z0,B0,K1⟩:=lJ (.int .i64 13) lv i t d ti hR;refine mX ?_;intro BX pJ dW dw hst hsi;clear hR hs hl ht;go_enter func63,ntmps63;go_upto_region 28 with (fail)
 refine bO ?_;have je:Hid (jIx W0.heap.size W0 (W0.alloc (.cells #[.string i] 9)).drew):=gu W0 (.cells #[.string i] 9);have AC:Hid (Calls prog 87 #[.agg #[.string at_.id,.slice ac nc cc,.slice ap np cp],.slice (some ⟨W0.heap.size,0,none⟩) 1 1] (W0.alloc (.cells #[.string i] 9)).drew (aW W0.drew (eX at_ [i]))):=q2v at_ [i] (.slice ac nc cc) (.slice ap np cp) (.slice (some ⟨W0.heap.size,0,none⟩) 1 1) W0.drew (W0.alloc (.cells #[.string i] 9)).drew (qL.one W0.drew i) (zB HR.out.at_ je.out (by have:=Z0.out;omega)) (xP dw.out.at_ i (by have:=dw.out.i;omega)).1 (xP dw.out.at_ i (by have:=dw.out.i;omega)).2
 have SF:=hid (fun (w':jIq) (hb:jIx W0.heap.size W0 w')=>(⟨(SX.out w' hb).2.1,(SX.out w' hb).2.2.2.2.2.1,(SX.out w' hb).2.2.2.2.2.2.1,(SX.out w' hb).2.2.2.2.2.2.2.1,(SX.out w' hb).2.2.2.2.2.2.2.2.2⟩:w'.cell? ⟨S,2,none⟩=some (.string i)/\w'.cell? ⟨S,6,none⟩=some (.string at_.id)/\w'.cell? ⟨S,7,none⟩=some (.slice ac nc cc)/\w'.cell? ⟨S,8,none⟩=some (.slice ap np cp)/\w'.cell? ⟨S,10,none⟩=some (.slice ak nk ck)));have S1:=SF.out _ je.out;have S0:=SF.out _ ((jFj W0.heap.size W0).drew);go_wp2_with fail
 go_region_held3 (fun w'=>w'.cell? ⟨S,2,none⟩=some (.string i)/\w'.cell? ⟨S,6,none⟩=some (.string at_.id)/\w'.cell? ⟨S,7,none⟩=some (.slice ac nc cc)/\w'.cell? ⟨S,8,none⟩=some (.slice ap np cp)/\w'.cell? ⟨S,10,none⟩=some (.slice ak nk ck))
  (with_reducible assumption)
  (first
   | (go_simp;go_at_call 87;(with_reducible refine AC.out.mono ?_);rintro e w3 ⟨dH,v3,rfl,hrow3⟩;obtain ⟨a3,n3,c3,rfl⟩:=hrow3.slice3;have B3:Hid (jIx W0.heap.size W0 w3):=(((jFj W0.heap.size W0).drew)).trans (hrow3.aO.mono (((jFj W0.heap.size W0).drew)).size);have xL:Hid (Rd (W0.heap.size<=·) w3 (fJ (eX at_ [i])) [.slice a3 n3 c3]):=hrow3.cu.weaken (fun b hb=>jFq (((jFj W0.heap.size W0).drew)).size hb);have S3:=SF.out (w3) B3.out;have LC:=hid (BX.out w3 B3.out))
   | (go_simp;go_at_call 30;(with_reducible refine LC.out.mono ?_);rintro e w4 ⟨bG,v4,rfl,hrow4⟩;obtain ⟨a4,n4,c4,rfl⟩:=hrow4.slice3;have b4:=hrow4.aO;have B4:=hid (q01 B3.out b4);have cZ:=hid (show Rd (W0.heap.size<=·) w4 (gH (ah.aZ ks)) [.slice a4 n4 c4] from hrow4.cu.weaken (fun b hb=>jFq B3.out.size hb));have jY:=hid (xL.out.aX b4);have S4:=SF.out (w4) B4.out;have EC:=hid (mg ⟨#[100,105,118]⟩ a3 a4 n3 n4 c3 c4 w4))
   | (go_simp;go_at_call 17;(with_reducible refine EC.out.mono ?_);rintro e w5 ⟨rfl,b5⟩;have BL:=hid (q01 B4.out b5);obtain ⟨x0,x1,x2,x3,xf⟩:=pq (K1.out.below BL.out);have S5:=SF.out (w5) BL.out;have K6:=jI S w5 (.string ⟨#[100,105,118]⟩) (.string ⟨#[]⟩) (.slice a3 n3 c3) (.slice a4 n4 c4);have S6:=And.imp (K6 _ _) (And.imp (K6 _ _) (And.imp (K6 _ _) (And.imp (K6 _ _) (K6 _ _)))) (SF.out w5 BL.out);clear K6))
 all_goals
  have HN:=hid (show gP (W0.heap.size<=·) w5 (eX at_ [i]) (ah.aZ ks) (.slice a3 n3 c3) (.slice a4 n4 c4) from ⟨jY.out.aX b5,cZ.out.aX b5⟩);clear b5 cZ EC jY hrow3 hrow4 b4 S0 S3 S4 S5 S6 xL S1;obtain ⟨w9,bZ⟩:∃ w9,w9=jV w5 (S+1) (.string ⟨#[100,105,118]⟩) (.string ⟨#[]⟩) (.slice a3 n3 c3) (.slice a4 n4 c4):=⟨_,rfl⟩;have hf:=uP ⟨#[100,105,118]⟩ ⟨#[]⟩ (eX at_ [i]) (ah.aZ ks) HS.out Z0.out B0.out K1.out BL.out HN.out;rw [<- bZ] at hf;have HC:=hid hf.1;have HP:=hid hf.2;clear hf;refine lH ?_;clear bZ;intro hw8 x0 x1 x2 x3 xf;go_wp2;refine lI ?_;intro r0 r1 r2 r3;exact jck
open Go.RowKit
mutual
def ah.walk:ah->Prop
 | .mk k lv i t d ti a li ks=>(1<=k/\k<=15/\k≠11/\k≠12)/\KI i t a li/\(k=2\/k=8->0<=lv/\lv<=999999999)/\(k=10->TbW i ks)/\(k≠10->ah.lK ks)
def ah.lK:List ah->Prop
 | []=>True
 | x::l=>x.walk/\ah.lK l
end
theorem ah.Dv:∀ (l:List ah),ah.lK l->∀ x∈l,x.walk
 | [],_,x,hx=>by cases hx
 | y::l,h,x,hx=>by
  rw [ah.lK] at h;rcases List.mem_cons.1 hx with rfl | hx
  ·exact h.1
  ·exact ah.Dv l h.2 x hx
theorem KJ (pv:jIz) (k lv:Int) (i t d ti:ByteArray) (at_:At) (li:List aj) (ks:List ah) (vc vp vl vk:jIz) (w:jIq) (hR:eT (·<w.heap.size) w at_ li ks vc vp vl vk) (hw:(ah.mk k lv i t d ti at_ li ks).walk) (Jz:k≠14) (qE:k≠15) (hl:k≠10->eG pv w ks vk) (ht:PT w) : ∃ x,(ah.mk k lv i t d ti at_ li ks).mQ=[x]/\Calls prog 63 #[pv,.agg #[.int .i64 k,.int .i64 lv,.string i,.string t,.string d,.string ti,.string at_.id,vc,vp,vl,vk]] w (o8 w x):=by
 rw [ah.walk] at hw;obtain ⟨⟨g1,g2,g3,g4⟩,hs,hv,hT,-⟩:=hw;rcases (by omega:k=1\/k=2\/k=3\/k=4\/k=5\/k=6\/k=7\/k=8\/k=9\/k=10\/k=13) with rfl | rfl | rfl | rfl | rfl | rfl | rfl | rfl | rfl | rfl | rfl
 ·exact ⟨_,by rw [ah.mQ];rfl,jo3 pv lv i t d ti at_ li ks vc vp vl vk w hR hs (hl (by decide)) ht⟩
 ·obtain ⟨n,rfl⟩:∃ n:Nat,lv=(n:Int):=⟨lv.toNat,by have:=hv (by decide);omega⟩;exact ⟨aH (nH++q2z n) (eX at_ []) (dV li),by rw [ah.mQ];rfl,jo8 pv n i t d ti at_ li ks vc vp vl vk w hR hs (hl (by decide)) ht n rfl (by have:=hv (by decide);omega)⟩
 ·by_cases hi:bq i=true
  ·exact ⟨aH Hr [] [aH dO [] (bK t)],by rw [ah.mQ,hi];rfl,Yb pv lv i t d ti at_ li ks vc vp vl vk w hR hs (hl (by decide)) ht hi⟩
  ·have hi:bq i=false:=by simpa using hi
   refine ⟨aH Hr [] [aH dO [⟨dD,H9++i⟩] (bK t)],?_,Yc pv lv i t d ti at_ li ks vc vp vl vk w hR hs (hl (by decide)) ht hi⟩;rw [ah.mQ,hi];show [aH Hr [] [aH dO (cO dD (H9++i)) (bK t)]]=_;unfold cO;rw [show bq (H9++i)=false by rw [pK,hi,Bool.and_false]];rfl
 ·exact ⟨_,by rw [ah.mQ];rfl,jo9 pv lv i t d ti at_ li ks vc vp vl vk w hR hs (hl (by decide)) ht⟩
 ·exact ⟨_,by rw [ah.mQ];rfl,jo7 pv lv i t d ti at_ li ks vc vp vl vk w hR hs (hl (by decide)) ht⟩
 ·exact ⟨_,by rw [ah.mQ];rfl,jo4 pv lv i t d ti at_ li ks vc vp vl vk w hR hs (hl (by decide)) ht⟩
 ·exact ⟨_,by rw [ah.mQ];rfl,jo5 pv lv i t d ti at_ li ks vc vp vl vk w hR hs (hl (by decide)) ht⟩
 ·by_cases h1:lv=1
  ·exact ⟨aH Xo [] (ah.aZ ks),by rw [ah.mQ,h1];rfl,Yd pv lv i t d ti at_ li ks vc vp vl vk w hR hs (hl (by decide)) ht h1⟩
  ·obtain ⟨n,rfl⟩:∃ n:Nat,lv=(n:Int):=⟨lv.toNat,by have:=hv (by decide);omega⟩;refine ⟨aH Xo [⟨CO,q2z n⟩] (ah.aZ ks),?_,Ye pv n i t d ti at_ li ks vc vp vl vk w hR hs (hl (by decide)) ht n rfl (by have:=hv (by decide);omega) h1⟩;rw [ah.mQ];show [aH Xo (if (n:Int)=1 then [] else [⟨CO,q2z n⟩]) (ah.aZ ks)]=_;rw [if_neg h1]
 ·exact ⟨_,by rw [ah.mQ];rfl,jo6 pv lv i t d ti at_ li ks vc vp vl vk w hR hs (hl (by decide)) ht⟩
 ·exact ⟨BJ i ks,by rw [ah.mQ];rfl,Ya pv lv i t d ti at_ li ks vc vp vl vk w hR hs ht (hT rfl)⟩
 ·exact ⟨_,by rw [ah.mQ];rfl,Yf pv lv i t d ti at_ li ks vc vp vl vk w hR hs (hl (by decide)) ht⟩
theorem nY:∀ (l:List ah),(ah.aZ l).length<=l.length
 | []=>by simp [ah.aZ]
 | x::l=>by
  have h:=nY l;rw [ah.aZ,List.length_append,List.length_cons];have h2:x.mQ.length<=1:=by
   obtain ⟨k,lv,i,t,d,ti,a,li,ks⟩:=x;rw [ah.mQ]
   (repeat' split)<;>simp
  omega
def Ns (w:jIq) (l:List ah) (v vi:jIz) (wr:jIq):Prop:=
 ∃ (k:Nat) (rows:List (List jIz)),k<=l.length/\vi=.int .i64 k/\aG 30 4 (fun _=>False) wr.heap.size w ((ah.aZ (l.take k)).map Nd.d) rows v wr
theorem jcq{P Q:Prop}(q:Q)(h:Nonempty Q->P:=by
 intro qQ;have gZ:Hid ((ah.aZ (l.take (j+1))).map Nd.d=ds):=by show _=_;rw [hsn,List.map_append,nC.out];show ds++(ah.mQ _).map Nd.d=ds;rw [ah.mQ];exact List.append_nil _
 have HF:Hid (Ns w l (.slice av m cv) (.int .i64 ((j+1:Nat):Int)) wA):=⟨j+1,_,by have:=uH.out;omega,rfl,by rw [gZ.out];exact (bE.out.below BA.out).top⟩;revert gZ HF;exact qQ.elim fun x=>x):P:=h ⟨q⟩
theorem Z9{P:Prop}(h:P:=by
 have hjl:j=l.length:=by have:=uH.out;omega
 have HP:Hid (aQ w (ah.aZ l) (.returned (.slice av m cv)) wr):=by refine ⟨rows,_,rfl,?_⟩;have h:=bE.out;rw [<- nC.out,hjl,List.take_length] at h;exact h
 clear hjl;go_wp2;go_ret;exact HP.out):P:=h
theorem Z7{P:Prop}(h:P:=by
 have h:=nY (l.take j);have h2:(l.take j).length<=l.length:=List.length_take_le' _ _;rw [hm,hds,List.length_map];have:=uH.out;omega):P:=h
theorem Z8{P Q:Prop}(q:Q)(h:Nonempty Q->P:=by
 intro qQ;obtain ⟨y,hy⟩:∃ y,l[j]?=some y:=⟨_,List.getElem?_eq_getElem (by have:=uH.out;omega)⟩;have hsn:=Dw l j y hy;have QJ:=HWK.out y (List.mem_of_getElem? hy);have hsz:=ah.bI l j y hy;revert y hy hsn QJ hsz;exact qQ.elim fun x=>x):P:=h ⟨q⟩
theorem vZ (pv:Value) (n:Nat):∀ (l:List ah) (v:Value) (w:World),ah.aY l<=n->n<=900000->Rd (·<w.heap.size) w (lu l) [v]->ah.lK l->PT w -> Calls prog 30 #[pv,v] w (aQ w (ah.aZ l)):=by
 induction n using Nat.strongRecOn with
 | _ n ih=>
  intro l v w hn hnm hrd hwk ht;obtain ⟨iN,qG,fF,fG,fH⟩:=info_parts iE;obtain ⟨ak,ck,hvk,hs⟩:=Rd.ay hrd;obtain ⟨nk,hnk⟩:∃ nk,nk=l.length:=⟨_,rfl⟩;obtain rfl:v=.slice ak nk ck:=by rw [hnk];simpa using hvk
  refine MW ?_;intro hcap hmx;have Ka:nk<=900000:=by have:=ah.fK l;omega
  have HS2:=hid hs;have uH:=hid hnk;have HWK:=hid (ah.Dv l hwk);have pJ:=hid ht;have IH:=hid ih;have RY:=hid (And.intro hn hnm);have R0:Hid (Ns w l (.slice none 0 0) (.int .i64 0) w):=⟨0,[],Nat.zero_le _,rfl,aG.nil _ _ _ _⟩;clear hrd hvk hs hnk hwk ht ih hn hnm;go_enter func30,ntmps30;go_wp2
  go_loopw [5,10] (fun v vi wr=>Ns w l v vi wr) (fun _ vi _=>nk-(intOf vi).toNat)
  case atStart=>exact R0.out
  case round=>
   clear R0;obtain ⟨j,rows,hj,rfl,hrow⟩:=hrel;obtain ⟨ds,hds⟩:∃ ds,ds=(ah.aZ (l.take j)).map Nd.d:=⟨_,rfl⟩;rw [<- hds] at hrow;obtain ⟨m,hm⟩:∃ m,m=ds.length:=⟨_,rfl⟩;have Xf:m<=1000000:=by exact Z7
   obtain ⟨av,cv,rfl,-,-⟩:=hrow.cap hm.symm;have HM:=hid hm.symm;have nC:=hid hds.symm;have bE:=hid hrow;clear hrow hm hds;by_cases hlt:j<nk
   ·refine Z8 ?_;intro y hy hsn QJ hsz;obtain ⟨yk,CG,yi,yt,yd,CJ,Bo,sM,lZ⟩:=y;obtain ⟨ga,off,vc,vp,vl,vk,rfl,hok,hbl,hc,hR⟩:=F7 HS2.out hy;obtain ⟨c0,c1,c2,c3,c4,c5,c6,c7,c8,c9,c10⟩:=hc.at2 (w':=wr) (bE.out.aO.block ga hok);obtain ⟨OT,OU,OV,rfl⟩:=Rd.au hR.at_.cls
    obtain ⟨OX,OY,OZ,rfl⟩:=Rd.au hR.at_.aF
    obtain ⟨yT,yU,yV,rfl⟩:=Rd.au hR.line;obtain ⟨Ke,Kg,Kh,rfl⟩:=Rd.au hR.kids;have HR:=hid hR;have HWY:=hid QJ;have Sj:=hid hsz;clear hok hbl hc hR QJ hy hsz;go_upto_region 5 with (fail)
    refine SN ?_;intro p hp wA iH PA bA;rw [<- iH,<- hp];have BA:=hid bA;have b0A:Below w.heap.size w wA:=bE.out.aO.trans (bA.mono bE.out.aO.size);refine jb8 ?_;intro d0 d1 d2 d3 d4 d5 d6 d7 d8 d9 d10;have B0A:=hid b0A;have hpw:wr.heap.size<=wA.heap.size:=bA.size;clear iH hp c0 c1 c2 c3 c4 c5 c6 c7 c8 c9 c10 PA bA b0A;by_cases Jz:yk=14
    ·have q14:(yk==14)=true:=by rw [Jz];rfl
     subst Jz;refine jcq ?_;intro gZ HF;clear hsn;exact gN
    by_cases qE:yk=15
    ·have q14:(yk==14)=false:=by rw [qE];rfl
     have QC:(yk==15)=true:=by rw [qE];rfl
     subst qE;refine jcq ?_;intro gZ HF;clear hsn;exact gN
    have q14:(yk==14)=false:=by rw [beq_eq_false_iff_ne];exact Jz
    have QC:(yk==15)=false:=by rw [beq_eq_false_iff_ne];exact qE
    have RZ:eT (·<wA.heap.size) wA Bo sM lZ (.slice OT OU OV) (.slice OX OY OZ) (.slice yT yU yV) (.slice Ke Kg Kh):=eT.sK HR.out (fun b (hb:b<w.heap.size) hlt=>⟨by show b<wA.heap.size;have:=B0A.out.size;omega,B0A.out.block b hb⟩);have hw2:=HWY.out;rw [ah.walk] at hw2;obtain ⟨x,hx,hcall⟩:=KJ pv yk CG yi yt yd CJ Bo sM lZ _ _ _ _ wA RZ HWY.out Jz qE (fun h10 W hW=>IH.out (ah.aY lZ) (by have:=Sj.out;rw [ah.sz] at this;have:=RY.out;omega) lZ _ W (Nat.le_refl _) (by have:=Sj.out;rw [ah.sz] at this;have:=RY.out;omega) (Rd.keep (w:=wA) (w':=W) (ok:=(·<wA.heap.size)) (fun b (hb:b<wA.heap.size) hlt=>⟨by show b<W.heap.size;have:=hW.size;omega,hW.block b hb⟩) _ _ RZ.kids) (hw2.2.2.2.2 h10) ((pJ.out.below B0A.out).below hW)) (pJ.out.below B0A.out);obtain ⟨xn,xt,xa,ny⟩:=x;have gZ:=hid (show (ah.aZ (l.take (j+1))).map Nd.d=ds++[(Nd.mk xn xt xa ny).d] by rw [hsn,hx,List.map_append,nC.out];rfl);have R5:=hid hcall;clear hsn hx hcall RZ hw2;go_wp2_with fail
    (with_reducible refine R5.out.mono ?_)
    rintro e w2 ⟨va,vk,he,hR2,hb2⟩;obtain ⟨aA,nA,cA,rfl⟩:=Rd.au hR2.at_
    obtain ⟨aK,nK,cK,rfl⟩:=Rd.au hR2.ks;have he:e=.returned (.agg #[.string xn,.string xt,.slice aA nA cA,.slice aK nK cK]):=he;subst he;have U2:=hid ((bE.out.below BA.out).below hb2);have XD:=hid ((Nd.dJ xn xt hR2).weaken (ok':=fun b=>False\/wr.heap.size<=b) (fun b hb=>.inr (Nat.le_trans hpw hb)));clear R5 hR2 hb2 d0 d1 d2 d3 d4 d5 d6 d7 d8 d9 d10;go_wp2_with (at_builtin;refine OP rfl _ _ 28 rfl iN _ 80 underlying28 qG fF fG fH rfl (by decide) U2.out (fun _=>False.elim) (Nd.mk xn xt xa ny).d [.string xn,.string xt,.slice aA nA cA,.slice aK nK cK] XD.out rfl F9 HM.out (by omega) (by decide) rfl rfl ?_)
    intro a' c' w5 hrow hg5;have HF:Hid (Ns w l (.slice a' (m+1) c') (.int .i64 ((j+1:Nat):Int)) w5):=⟨j+1,_,by have:=uH.out;omega,rfl,by rw [gZ.out];exact hrow⟩;clear hrow hg5 XD U2 bE;exact gN
   ·exact Z9
theorem lM:∀ (l:List ah),ah.aC l->∀ x∈l,x.small
 | [],_,x,hx=>by cases hx
 | y::l,h,x,hx=>by
  rw [ah.aC] at h;rcases List.mem_cons.1 hx with rfl | hx
  ·exact h.1
  ·exact lM l h.2 x hx
theorem jJ {x:ah} (h:x.small):ah.aC x.kids/\aj.aC x.kV/\aj.aY x.kV<=120:=by obtain ⟨k,lv,i,t,d,ti,a,li,ks⟩:=x;rw [ah.small] at h;exact ⟨h.2.2.2.2.2.2.2,h.2.2.2.2.2.1,h.2.2.2.2.2.2.1⟩
theorem jcx (l:List ah) (x:ah) (hx:x∈l):x.sz<=ah.aY l:=by obtain ⟨j,hj⟩:=List.mem_iff_getElem?.1 hx;exact ah.bI l j x hj
theorem Ia (x:ah):x.kids.length<=x.sz:=by obtain ⟨k,lv,i,t,d,ti,a,li,ks⟩:=x;have:=ah.fK ks;rw [ah.sz];show ks.length<=_;omega
theorem jcz{P:Prop}(h:P:=by
 unfold yJ at hbf;simp only [Bool.and_eq_true,decide_eq_true_iff] at hbf;obtain ⟨⟨⟨⟨⟨⟨⟨⟨h1,h2⟩,-⟩,-⟩,-⟩,-⟩,-⟩,-⟩,-⟩:=hbf;exact ⟨h1,h2⟩):P:=h
mutual
theorem ah.Yg (cl:ByteArray->Bool):∀ (b:ah) (par:Int) (dp:Nat),b.err cl par dp=0->b.KM->b.small->b.sz<=900000->b.walk
 | .mk k lv i t d ti a li ks,par,dp,he,hh,hs,hz=>by
  obtain ⟨h2,hbf,h3⟩:=gy cl he;rw [ah.KM] at hh;obtain ⟨g1,g2,g3,g4,g5,g6,g7,g8⟩:=hh;rw [ah.small] at hs;obtain ⟨s1,s2,s3,s4,s5,s6,s7,s8⟩:=hs;rw [ah.sz] at hz;have hk:1<=k/\k<=15:=by exact jcz
  rw [ah.walk];refine ⟨⟨hk.1,hk.2,g6,g7⟩,⟨s1,s2,s5,⟨by omega,s6,g1⟩⟩,g2,fun h10=>⟨(g3 h10).1,by have:=ah.fK ks;omega,fun r hr=>?_⟩,fun h10=>ah.sW cl ks k (dp+1) h3 (g8 h10) s8 (by omega)⟩;have hr2:=jJ (lM ks s8 r hr);have hr3:=jcx ks r hr;have hr4:=Ia r;refine ⟨((g3 h10).2 r hr).1,by omega,fun c hc=>?_⟩;have hc2:=jJ (lM r.kids hr2.1 c hc);exact ⟨by omega,hc2.2.1,((g3 h10).2 r hr).2 c hc⟩
theorem ah.sW (cl:ByteArray->Bool):∀ (l:List ah) (par:Int) (dp:Nat),ah.aT cl par dp l=0->ah.qM l->ah.aC l->ah.aY l<=900000->ah.lK l
 | [],_,_,_,_,_,_=>by rw [ah.lK];trivial
 | x::l,par,dp,he,hh,hs,hz=>by
  rw [ah.aT] at he;rw [ah.qM] at hh;rw [ah.aC] at hs;rw [ah.aY] at hz;rw [ah.lK];by_cases h1:x.err cl par dp≠0
  ·rw [if_pos h1] at he;exact absurd he h1
  ·rw [if_neg h1] at he;exact ⟨ah.Yg cl x par dp (Classical.not_not.1 h1) hh.1 hs.1 (by omega),ah.sW cl l par dp he hh.2 hs.2 (by omega)⟩
end
end Go.Proofs.YtklhajbpfelliaaGreatDoor

