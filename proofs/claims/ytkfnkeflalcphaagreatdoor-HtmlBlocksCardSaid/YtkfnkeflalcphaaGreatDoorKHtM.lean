/- Contract of (*html.builder).block, kind by kind: the node of a block. Contracts of (*html.builder).block and (*html.builder).blocks: the nodes of blocks. Plain part: a well-formed, small document without unresolved inlines is one that the walk of html.Blocks asks. -/
import Derived.Test.YtkfnkeflalcphaaGreatDoorKHrL
set_option maxHeartbeats 4000000
set_option maxRecDepth 100000
open Go.Lib (hid)
namespace Go.Proofs.YtkfnkeflalcphaaGreatDoor
open Go.RowKit.Below renaming refl->jD7
open Nat renaming le_trans->jD9
open Go renaming World->jG9,Value->jGk
open Go.RowKit renaming Below->jGj
open Go.RowKit
set_option linter.unusedVariables false
set_option linter.unusedSimpArgs false
theorem S9 (n:Nat) (w:jG9) (hn:n<=999999999) (ht:PT w) : Calls Tryz.prog 136 #[.int .i64 (n:Int)] w fun e w'=>e=.returned (.string (iE n))/\jGj w.heap.size w w':=by
 refine (Tryz.strconv_Itoa (n:Int) (by omega) (by omega) w ht.2).mono ?_;rintro e w' ⟨rfl,k,os,rfl⟩;refine ⟨?_,Lib.below_grow _ w (Nat.le_refl _) k os⟩;have:Lib.itoa (n:Int)=Lib.decDigits n:=by unfold Lib.itoa;rw [if_neg (by omega)];simp
 rw [this];rfl
theorem Db (n:Nat) (hn:n<=999999999):(iE n).size<=1000000:=by have h:=Ta n 8 (by omega);show (Lib.decDigits n).toArray.size<=1000000;simp;omega
theorem Tc {a:At} (h:a.short):([]++a.cls).length<=100/\∀ c∈[]++a.cls,c.size<=1000:=by unfold At.short at h;rw [List.nil_append];exact ⟨by omega,fun c hc=>by have:=h.2.2.2.1 c hc;omega⟩
theorem xA {a:At} (h:a.short) (s:ByteArray) (hs:s.size<=1000):([s]++a.cls).length<=100/\∀ c∈[s]++a.cls,c.size<=1000:=by
 unfold At.short at h;refine ⟨by simp;omega,fun c hc=>?_⟩;rcases List.mem_cons.1 hc with rfl | hc
 ·exact hs
 ·have:=h.2.2.2.1 c hc;omega
def eu (pv:jGk) (w:jG9) (ks:List ah) (vk:jGk):Prop:=∀ W:jG9,jGj w.heap.size w W->Calls Tryz.prog 38 #[pv,vk] W (aO W (ah.aV ks))
structure Kq (i t:ByteArray) (at_:At) (li:List aj):Prop where
 i:i.size<=300
 t:t.size<=300
 at_:at_.short
 li:LnW li
theorem ptH {S:Nat} {w W0:jG9} (hS:S=w.heap.size) (ht:PT w) (b0:jGj S w W0):Hid (∀ W:jG9,jGj W0.heap.size W0 W->PT W):=
 fun W hW=>ht.below (by rw [<- hS];exact b0.trans (hW.mono (by have:=b0.size;omega)))
theorem js6 {S nl cl:Nat} {al:Option Addr} {W0:jG9} {i t:ByteArray} {at_:At} {li:List aj} {ks:List ah} {vc vp vk:jGk} (hs:Kq i t at_ li) (HR:Hid (eP (·<S) W0 at_ li ks vc vp (.slice al nl cl) vk)) : Hid (∀ W:jG9,jGj W0.heap.size W0 W->Calls Tryz.prog 78 #[.slice al nl cl] W (aO W (dQ li))):=fun W hW=>
 uG 900000 li _ W hs.li.sz (by decide) (Rd.keep (w:=W0) (w':=W) (ok:=(·<S)) (fun b (hb:b<S) hlt=>⟨by show b<W.heap.size;have:=hW.size;omega,hW.block b hlt⟩) _ _ HR.out.line) hs.li.sm hs.li.tf
theorem mR{P Q:Prop}(q:Q)(h:Nonempty Q->P:=by
 intro qQ;have Bz:=Sv HS.out hl B0.out;have pJ:=ptH HS.out ht B0.out;have dR:=js6 hs HR;have cO:=hid hs;have hst:t.size<=300:=hs.t;have hsi:i.size<=300:=hs.i;revert Bz pJ dR cO hst hsi;exact qQ.elim fun x=>x):P:=h ⟨q⟩
theorem jmz (pv:Value) (lv:Int) (i t d ti:ByteArray) (at_:At) (li:List aj) (ks:List ah) (vc vp vl vk:Value) (w:World) (hR:eP (·<w.heap.size) w at_ li ks vc vp vl vk) (hs:Kq i t at_ li) (hl:eu pv w ks vk) (ht:PT w) : Calls Tryz.prog 86 #[pv,.agg #[.int .i64 1,.int .i64 lv,.string i,.string t,.string d,.string ti,.string at_.id,vc,vp,vl,vk]] w (qc w (aJ nP [] (dQ li))):=by
 obtain ⟨ac,nc,cc,ap,np,cp,al,nl,cl,ak,nk,ck,S,W0,rfl,rfl,rfl,rfl,HS,HW0,e0,SX,HR,Z0,B0,K1⟩:=lJ (.int .i64 1) lv i t d ti hR;refine mR ?_;intro Bz pJ dR cO hst hsi;clear hR hs hl ht;go_enter Tryz.func86,Tryz.ntmps86;go_upto_region 3 with (fail)
 refine bK ?_;have LC:=hid (dR.out W0 (Below.refl _ _));have g9:=(SX.out W0 (Below.refl _ _)).2.2.2.2.2.2.2.2.1;go_wp2_with fail
 (with_reducible refine LC.out.mono ?_)
 rintro e w4 ⟨bD,v4,rfl,hrow4⟩;obtain ⟨a4,n4,c4,rfl⟩:=hrow4.slice3;have b4:=hrow4.aM;have B4:=hid b4;have bV:=hid (show Rd (W0.heap.size<=·) w4 (gD (dQ li)) [.slice a4 n4 c4] from hrow4.bZ);have EC:=hid (l7 ⟨#[112]⟩ none a4 0 n4 0 c4 w4);clear b4 hrow4 LC g9;go_wp2_with fail
 (with_reducible refine EC.out.mono ?_)
 rintro e w5 ⟨rfl,b5⟩;have BL:=hid (q01 B4.out b5);have HN:=hid (show gZ (W0.heap.size<=·) w5 [] (dQ li) (.slice none 0 0) (.slice a4 n4 c4) from ⟨Rd.aC _ _ _,bV.out.bC b5⟩);clear b5 bV EC;obtain ⟨w9,hw8,r0,r1,r2,r3,HP,x0,x1,x2,x3,xf⟩:=dP ⟨#[112]⟩ ⟨#[]⟩ [] (dQ li) HS Z0 B0 K1 BL HN.out;go_wp2;rw [<- hw8];exact bodyPost_ret (v:=.agg #[.string ⟨#[112]⟩,.string ⟨#[]⟩,(.slice none 0 0),(.slice a4 n4 c4)]) (by simp [results,Tryz.results86,go_sem,r0,r1,r2,r3]) rfl HP.out
theorem CF{P Q:Prop}(q:Q)(h:Nonempty Q->P:=by
 intro qQ;have bV:=hid (show Rd (W0.heap.size<=·) w4 (gD (ah.aV ks)) [.slice a4 n4 c4] from hrow4.bZ);revert bV;exact qQ.elim fun x=>x):P:=h ⟨q⟩
theorem Td{P Q:Prop}(q:Q)(h:Nonempty Q->P:=by
 intro qQ;have BL:=hid (q01 B4.out b5);have HN:=hid (show gZ (W0.heap.size<=·) w5 [] (ah.aV ks) (.slice none 0 0) (.slice a4 n4 c4) from ⟨Rd.aC _ _ _,bV.out.bC b5⟩);revert BL HN;exact qQ.elim fun x=>x):P:=h ⟨q⟩
theorem Te{P Q:Prop}(q:Q)(h:Nonempty Q->P:=by
 intro qQ;have LC:=hid (Bz.out W0 (Below.refl _ _));have g9:=(SX.out W0 (Below.refl _ _)).2.2.2.2.2.2.2.2.2;revert LC g9;exact qQ.elim fun x=>x):P:=h ⟨q⟩
theorem jn0 (pv:Value) (lv:Int) (i t d ti:ByteArray) (at_:At) (li:List aj) (ks:List ah) (vc vp vl vk:Value) (w:World) (hR:eP (·<w.heap.size) w at_ li ks vc vp vl vk) (hs:Kq i t at_ li) (hl:eu pv w ks vk) (ht:PT w) : Calls Tryz.prog 86 #[pv,.agg #[.int .i64 6,.int .i64 lv,.string i,.string t,.string d,.string ti,.string at_.id,vc,vp,vl,vk]] w (qc w (aJ qU [] (ah.aV ks))):=by
 obtain ⟨ac,nc,cc,ap,np,cp,al,nl,cl,ak,nk,ck,S,W0,rfl,rfl,rfl,rfl,HS,HW0,e0,SX,HR,Z0,B0,K1⟩:=lJ (.int .i64 6) lv i t d ti hR;refine mR ?_;intro Bz pJ dR cO hst hsi;clear hR hs hl ht;go_enter Tryz.func86,Tryz.ntmps86;go_upto_region 16 with (fail)
 refine bK ?_;refine Te ?_;intro LC g9;go_wp2_with fail
 (with_reducible refine LC.out.mono ?_)
 rintro e w4 ⟨bD,v4,rfl,hrow4⟩;obtain ⟨a4,n4,c4,rfl⟩:=hrow4.slice3;have b4:=hrow4.aM;have B4:=hid b4;refine CF ?_;intro bV;have EC:=hid (l7 ⟨#[98,108,111,99,107,113,117,111,116,101]⟩ none a4 0 n4 0 c4 w4);clear b4 hrow4 LC g9;go_wp2_with fail
 (with_reducible refine EC.out.mono ?_)
 rintro e w5 ⟨rfl,b5⟩;refine Td ?_;intro BL HN;clear b5 bV EC;obtain ⟨w9,hw8,r0,r1,r2,r3,HP,x0,x1,x2,x3,xf⟩:=dP ⟨#[98,108,111,99,107,113,117,111,116,101]⟩ ⟨#[]⟩ [] (ah.aV ks) HS Z0 B0 K1 BL HN.out;go_wp2;rw [<- hw8];exact bodyPost_ret (v:=.agg #[.string ⟨#[98,108,111,99,107,113,117,111,116,101]⟩,.string ⟨#[]⟩,(.slice none 0 0),(.slice a4 n4 c4)]) (by simp [results,Tryz.results86,go_sem,r0,r1,r2,r3]) rfl HP.out
theorem jn1 (pv:Value) (lv:Int) (i t d ti:ByteArray) (at_:At) (li:List aj) (ks:List ah) (vc vp vl vk:Value) (w:World) (hR:eP (·<w.heap.size) w at_ li ks vc vp vl vk) (hs:Kq i t at_ li) (hl:eu pv w ks vk) (ht:PT w) : Calls Tryz.prog 86 #[pv,.agg #[.int .i64 7,.int .i64 lv,.string i,.string t,.string d,.string ti,.string at_.id,vc,vp,vl,vk]] w (qc w (aJ nUl [] (ah.aV ks))):=by
 obtain ⟨ac,nc,cc,ap,np,cp,al,nl,cl,ak,nk,ck,S,W0,rfl,rfl,rfl,rfl,HS,HW0,e0,SX,HR,Z0,B0,K1⟩:=lJ (.int .i64 7) lv i t d ti hR;refine mR ?_;intro Bz pJ dR cO hst hsi;clear hR hs hl ht;go_enter Tryz.func86,Tryz.ntmps86;go_upto_region 18 with (fail)
 refine bK ?_;refine Te ?_;intro LC g9;go_wp2_with fail
 (with_reducible refine LC.out.mono ?_)
 rintro e w4 ⟨bD,v4,rfl,hrow4⟩;obtain ⟨a4,n4,c4,rfl⟩:=hrow4.slice3;have b4:=hrow4.aM;have B4:=hid b4;refine CF ?_;intro bV;have EC:=hid (l7 ⟨#[117,108]⟩ none a4 0 n4 0 c4 w4);clear b4 hrow4 LC g9;go_wp2_with fail
 (with_reducible refine EC.out.mono ?_)
 rintro e w5 ⟨rfl,b5⟩;refine Td ?_;intro BL HN;clear b5 bV EC;obtain ⟨w9,hw8,r0,r1,r2,r3,HP,x0,x1,x2,x3,xf⟩:=dP ⟨#[117,108]⟩ ⟨#[]⟩ [] (ah.aV ks) HS Z0 B0 K1 BL HN.out;go_wp2;rw [<- hw8];exact bodyPost_ret (v:=.agg #[.string ⟨#[117,108]⟩,.string ⟨#[]⟩,(.slice none 0 0),(.slice a4 n4 c4)]) (by simp [results,Tryz.results86,go_sem,r0,r1,r2,r3]) rfl HP.out
theorem jn2 (pv:Value) (lv:Int) (i t d ti:ByteArray) (at_:At) (li:List aj) (ks:List ah) (vc vp vl vk:Value) (w:World) (hR:eP (·<w.heap.size) w at_ li ks vc vp vl vk) (hs:Kq i t at_ li) (hl:eu pv w ks vk) (ht:PT w) : Calls Tryz.prog 86 #[pv,.agg #[.int .i64 9,.int .i64 lv,.string i,.string t,.string d,.string ti,.string at_.id,vc,vp,vl,vk]] w (qc w (aJ nLi [] (ah.aV ks))):=by
 obtain ⟨ac,nc,cc,ap,np,cp,al,nl,cl,ak,nk,ck,S,W0,rfl,rfl,rfl,rfl,HS,HW0,e0,SX,HR,Z0,B0,K1⟩:=lJ (.int .i64 9) lv i t d ti hR;refine mR ?_;intro Bz pJ dR cO hst hsi;clear hR hs hl ht;go_enter Tryz.func86,Tryz.ntmps86;go_upto_region 25 with (fail)
 refine bK ?_;refine Te ?_;intro LC g9;go_wp2_with fail
 (with_reducible refine LC.out.mono ?_)
 rintro e w4 ⟨bD,v4,rfl,hrow4⟩;obtain ⟨a4,n4,c4,rfl⟩:=hrow4.slice3;have b4:=hrow4.aM;have B4:=hid b4;refine CF ?_;intro bV;have EC:=hid (l7 ⟨#[108,105]⟩ none a4 0 n4 0 c4 w4);clear b4 hrow4 LC g9;go_wp2_with fail
 (with_reducible refine EC.out.mono ?_)
 rintro e w5 ⟨rfl,b5⟩;refine Td ?_;intro BL HN;clear b5 bV EC;obtain ⟨w9,hw8,r0,r1,r2,r3,HP,x0,x1,x2,x3,xf⟩:=dP ⟨#[108,105]⟩ ⟨#[]⟩ [] (ah.aV ks) HS Z0 B0 K1 BL HN.out;go_wp2;rw [<- hw8];exact bodyPost_ret (v:=.agg #[.string ⟨#[108,105]⟩,.string ⟨#[]⟩,(.slice none 0 0),(.slice a4 n4 c4)]) (by simp [results,Tryz.results86,go_sem,r0,r1,r2,r3]) rfl HP.out
theorem jn3 (pv:Value) (lv:Int) (i t d ti:ByteArray) (at_:At) (li:List aj) (ks:List ah) (vc vp vl vk:Value) (w:World) (hR:eP (·<w.heap.size) w at_ li ks vc vp vl vk) (hs:Kq i t at_ li) (hl:eu pv w ks vk) (ht:PT w) : Calls Tryz.prog 86 #[pv,.agg #[.int .i64 5,.int .i64 lv,.string i,.string t,.string d,.string ti,.string at_.id,vc,vp,vl,vk]] w (qc w (aJ nHr [] [])):=by
 obtain ⟨ac,nc,cc,ap,np,cp,al,nl,cl,ak,nk,ck,S,W0,rfl,rfl,rfl,rfl,HS,HW0,e0,SX,HR,Z0,B0,K1⟩:=lJ (.int .i64 5) lv i t d ti hR;refine mR ?_;intro Bz pJ dR cO hst hsi;clear hR hs hl ht;go_enter Tryz.func86,Tryz.ntmps86;go_upto_region 14 with (fail)
 refine bK ?_;have EC:=hid (l7 ⟨#[104,114]⟩ none none 0 0 0 0 W0);have B4:Hid (Below W0.heap.size W0 W0):=Below.refl _ _;go_wp2_with fail
 (with_reducible refine EC.out.mono ?_)
 rintro e w5 ⟨rfl,b5⟩;have BL:=hid (q01 B4.out b5);clear b5;obtain ⟨w9,hw8,r0,r1,r2,r3,HP,x0,x1,x2,x3,xf⟩:=dP ⟨#[104,114]⟩ ⟨#[]⟩ [] [] HS Z0 B0 K1 BL ⟨Rd.aC _ _ _,Rd.aC _ _ _⟩;go_wp2;rw [<- hw8];exact bodyPost_ret (v:=.agg #[.string ⟨#[104,114]⟩,.string ⟨#[]⟩,(.slice none 0 0),(.slice none 0 0)]) (by simp [results,Tryz.results86,go_sem,r0,r1,r2,r3]) rfl HP.out
theorem Xu (pv:Value) (lv:Int) (i t d ti:ByteArray) (at_:At) (li:List aj) (ks:List ah) (vc vp vl vk:Value) (w:World) (hR:eP (·<w.heap.size) w at_ li ks vc vp vl vk) (hs:Kq i t at_ li) (ht:PT w) (hT:TbW i ks) : Calls Tryz.prog 86 #[pv,.agg #[.int .i64 10,.int .i64 lv,.string i,.string t,.string d,.string ti,.string at_.id,vc,vp,vl,vk]] w (qc w (Bq i ks)):=by
 obtain ⟨ac,nc,cc,ap,np,cp,al,nl,cl,ak,nk,ck,S,W0,rfl,rfl,rfl,rfl,HS,HW0,e0,SX,HR,Z0,B0,K1⟩:=lJ (.int .i64 10) lv i t d ti hR;have pJ:=ptH HS.out ht B0.out;have dR:=js6 hs HR;have cO:=hid hs;have hst:t.size<=300:=hs.t;have hsi:i.size<=300:=hs.i;have HT:=hid hT;clear hT;clear hR hs ht;go_enter Tryz.func86,Tryz.ntmps86;go_upto_region 27 with (fail)
 refine bK ?_;have TC:=hid (Ki 10 lv i t d ti at_ li ks (.slice ac nc cc) (.slice ap np cp) (.slice al nl cl) (.slice ak nk ck) W0 (eP.sM HR.out (fun b (hb:b<S) hlt=>⟨hlt,rfl⟩)) HT.out);obtain ⟨g1,g2,g3,g4,g5,g6,g7,g8,g9,g10⟩:=SX.out W0 (Below.refl _ _);have htb:(Bq i ks).nm=⟨#[116,97,98,108,101]⟩/\(Bq i ks).tx=⟨#[]⟩/\(Bq i ks).at_=[]:=by cases ks<;>exact ⟨rfl,rfl,rfl⟩
 have HTB:=hid htb;clear htb;go_wp2_with fail
 (with_reducible refine TC.out.mono ?_)
 rintro e w5 ⟨va,vk,he,hN,hb5⟩;obtain ⟨aA,nA,cA,rfl⟩:=Rd.au hN.at_
 obtain ⟨aK,nK,cK,rfl⟩:=Rd.au hN.ks;rw [HTB.out.1,HTB.out.2.1] at he;subst he;have BL:=hid hb5;have HN:=hid hN;have HE:Hid (Bq i ks=.mk ⟨#[116,97,98,108,101]⟩ ⟨#[]⟩ (Bq i ks).at_ (Bq i ks).ks):=by show _=_;rw [<- HTB.out.1,<- HTB.out.2.1];cases Bq i ks;rfl
 rw [HE.out];clear hN hb5 g1 g2 g3 g4 g5 g6 g7 g8 g9 g10 TC;obtain ⟨w9,hw8,r0,r1,r2,r3,HP,x0,x1,x2,x3,xf⟩:=dP ⟨#[116,97,98,108,101]⟩ ⟨#[]⟩ (Bq i ks).at_ (Bq i ks).ks HS Z0 B0 K1 BL HN.out
 go_wp2;rw [<- hw8];exact bodyPost_ret (v:=.agg #[.string ⟨#[116,97,98,108,101]⟩,.string ⟨#[]⟩,(.slice aA nA cA),(.slice aK nK cK)]) (by simp [results,Tryz.results86,go_sem,r0,r1,r2,r3]) rfl (by rw [HE.out];exact HP.out)
theorem MR{P:Prop}(h:P:=by
 have h:i.toList.isEmpty=aW i:=by rw [Lib.toList_data,Bool.eq_iff_iff,List.isEmpty_iff,aW,decide_eq_true_iff]
 rw [h];exact hi):P:=h
theorem jb8{P:Prop}(h:P:=by
 go_wp2;rw [<- hw8];exact bodyPost_ret (v:=.agg #[.string ⟨#[112,114,101]⟩,.string ⟨#[]⟩,(.slice none 0 0),(.slice (some ⟨w5.heap.size,0,none⟩) 1 1)]) (by simp [results,Tryz.results86,go_sem,r0,r1,r2,r3]) rfl HP.out):P:=h
theorem Xv (pv:jGk) (lv:Int) (i t d ti:ByteArray) (at_:At) (li:List aj) (ks:List ah) (vc vp vl vk:jGk) (w:jG9) (hR:eP (·<w.heap.size) w at_ li ks vc vp vl vk) (hs:Kq i t at_ li) (hl:eu pv w ks vk) (ht:PT w) (hi:aW i=true) : Calls Tryz.prog 86 #[pv,.agg #[.int .i64 3,.int .i64 lv,.string i,.string t,.string d,.string ti,.string at_.id,vc,vp,vl,vk]] w (qc w (aJ GQ [] [aJ dK [] (bI t)])):=by
 obtain ⟨ac,nc,cc,ap,np,cp,al,nl,cl,ak,nk,ck,S,W0,rfl,rfl,rfl,rfl,HS,HW0,e0,SX,HR,Z0,B0,K1⟩:=lJ (.int .i64 3) lv i t d ti hR;refine mR ?_;intro Bz pJ dR cO hst hsi;have VY:i.toList.isEmpty=true:=by exact MR
 clear hi;clear hR hs hl ht;go_enter Tryz.func86,Tryz.ntmps86;go_upto_region 7 with (fail)
 refine bK ?_;have BW0:jGj W0.heap.size W0 W0:=jD7 _ _;have wR:Hid (Rd (W0.heap.size<=·) W0 (q32 []) [.slice none 0 0]):=Rd.aC _ _ _;have e2:=(SX.out W0 (jD7 _ _)).2.1;have DC:=hid (jD t W0);have g3:=(SX.out W0 BW0).2.2.1;go_wp2_with fail
 (with_reducible refine DC.out.mono ?_)
 rintro e w4 ⟨bD,v4,rfl,hrow4⟩;obtain ⟨a4,n4,c4,rfl⟩:=hrow4.slice3;have b4:=hrow4.aM;have B4:=hid (q01 BW0 b4);have bV:=hid (show Rd (W0.heap.size<=·) w4 (gD (bI t)) [.slice a4 n4 c4] from hrow4.bZ.weaken (fun b hb=>jD9 (BW0).size hb));have jV:=hid (wR.out.bC b4);have EC:=hid (l7 ⟨#[99,111,100,101]⟩ none a4 0 n4 0 c4 w4);clear b4 hrow4 DC g3;go_wp2_with fail
 (with_reducible refine EC.out.mono ?_)
 rintro e w5 ⟨rfl,b5⟩;have XD:CO W0 none w5 (aJ dK [] (bI t)).d [.string ⟨#[99,111,100,101]⟩,.string ⟨#[]⟩,.slice none 0 0,.slice a4 n4 c4]:=⟨q01 B4.out b5,fun p hp=>by simp at hp,(Nd.dJ dK ⟨#[]⟩ (gZ.keep ⟨jV.out,bV.out⟩ (fun b hb hlt=>⟨⟨hb,by simp⟩,b5.block b hlt⟩)))⟩;have XL:=hid XD.lit;have EC2:=hid (l7 ⟨#[112,114,101]⟩ none (some ⟨w5.heap.size,0,none⟩) 0 1 0 1 (w5.alloc (.cells #[.string ⟨#[99,111,100,101]⟩,.string ⟨#[]⟩,.slice none 0 0,.slice a4 n4 c4] 35)));clear XD b5 EC;go_wp2_with fail
 (with_reducible refine EC2.out.mono ?_)
 rintro e w6 ⟨rfl,b6⟩;have BL:=hid (q01 XL.out.aM b6);have HN:=hid (show gZ (W0.heap.size<=·) w6 [] [aJ dK [] (bI t)] (.slice none 0 0) (.slice (some ⟨w5.heap.size,0,none⟩) 1 1) from ⟨Rd.aC _ _ _,(XL.out.rd.bC b6).weaken (fun b hb=>hb.1)⟩);clear b6 XL EC2;obtain ⟨w9,hw8,r0,r1,r2,r3,HP,x0,x1,x2,x3,xf⟩:=dP ⟨#[112,114,101]⟩ ⟨#[]⟩ [] [aJ dK [] (bI t)] HS Z0 B0 K1 BL HN.out;exact jb8
theorem Xw (pv:jGk) (lv:Int) (i t d ti:ByteArray) (at_:At) (li:List aj) (ks:List ah) (vc vp vl vk:jGk) (w:jG9) (hR:eP (·<w.heap.size) w at_ li ks vc vp vl vk) (hs:Kq i t at_ li) (hl:eu pv w ks vk) (ht:PT w) (hi:aW i=false) : Calls Tryz.prog 86 #[pv,.agg #[.int .i64 3,.int .i64 lv,.string i,.string t,.string d,.string ti,.string at_.id,vc,vp,vl,vk]] w (qc w (aJ GQ [] [aJ dK [⟨dx,⟨#[108,97,110,103,117,97,103,101,45]⟩++i⟩] (bI t)])):=by
 obtain ⟨ac,nc,cc,ap,np,cp,al,nl,cl,ak,nk,ck,S,W0,rfl,rfl,rfl,rfl,HS,HW0,e0,SX,HR,Z0,B0,K1⟩:=lJ (.int .i64 3) lv i t d ti hR;refine mR ?_;intro Bz pJ dR cO hst hsi;have VY:i.toList.isEmpty=false:=by exact MR
 clear hi;clear hR hs hl ht;go_enter Tryz.func86,Tryz.ntmps86;go_upto_region 7 with (fail)
 refine bK ?_;have e2:=(SX.out W0 (jD7 _ _)).2.1;have q5:(⟨#[108,97,110,103,117,97,103,101,45]⟩:ByteArray).size+i.size<=9223372036854775807:=by have:(⟨#[108,97,110,103,117,97,103,101,45]⟩:ByteArray).size=9:=rfl;omega
 have q6:9+i.size<=9223372036854775807:=by omega
 have PC:Hid (Calls Tryz.prog 41 #[.slice (some ⟨W0.heap.size,0,none⟩) 2 2] (W0.alloc (.cells #[.string ⟨#[99,108,97,115,115]⟩,.string (⟨#[108,97,110,103,117,97,103,101,45]⟩++i)] 9)) (aU (W0.alloc (.cells #[.string ⟨#[99,108,97,115,115]⟩,.string (⟨#[108,97,110,103,117,97,103,101,45]⟩++i)] 9)) [⟨dx,⟨#[108,97,110,103,117,97,103,101,45]⟩++i⟩])):=Xj dx (G9++i) W0;go_wp2_with fail
 (with_reducible refine PC.out.mono ?_)
 rintro e w2 ⟨aZ,v2,rfl,hrow2⟩;obtain ⟨a2,c2,rfl,-,-⟩:=hrow2.cap (n:=1) rfl;have bl:jGj W0.heap.size W0 (W0.alloc (.cells #[.string ⟨#[99,108,97,115,115]⟩,.string (⟨#[108,97,110,103,117,97,103,101,45]⟩++i)] 9)):=(jD7 _ _).alloc (Nat.le_refl _) _;have B2:=hid (bl.trans (hrow2.aM.mono bl.size));have wR:=hid (show Rd (W0.heap.size<=·) w2 (q32 [⟨dx,⟨#[108,97,110,103,117,97,103,101,45]⟩++i⟩]) [.slice a2 1 c2] from hrow2.bZ.weaken (fun b hb=>jD9 bl.size hb));clear hrow2 bl PC q5 q6 e2;have DC:=hid (jD t w2);have g3:=(SX.out w2 B2.out).2.2.1;go_wp2_with fail
 (with_reducible refine DC.out.mono ?_)
 rintro e w4 ⟨bD,v4,rfl,hrow4⟩;obtain ⟨a4,n4,c4,rfl⟩:=hrow4.slice3;have b4:=hrow4.aM;have B4:=hid (q01 B2.out b4);have bV:=hid (show Rd (W0.heap.size<=·) w4 (gD (bI t)) [.slice a4 n4 c4] from hrow4.bZ.weaken (fun b hb=>jD9 (B2.out).size hb));have jV:=hid (wR.out.bC b4);have EC:=hid (l7 ⟨#[99,111,100,101]⟩ a2 a4 1 n4 c2 c4 w4);clear b4 hrow4 DC g3;go_wp2_with fail
 (with_reducible refine EC.out.mono ?_)
 rintro e w5 ⟨rfl,b5⟩;have XD:CO W0 none w5 (aJ dK [⟨dx,⟨#[108,97,110,103,117,97,103,101,45]⟩++i⟩] (bI t)).d [.string ⟨#[99,111,100,101]⟩,.string ⟨#[]⟩,.slice a2 1 c2,.slice a4 n4 c4]:=⟨q01 B4.out b5,fun p hp=>by simp at hp,(Nd.dJ dK ⟨#[]⟩ (gZ.keep ⟨jV.out,bV.out⟩ (fun b hb hlt=>⟨⟨hb,by simp⟩,b5.block b hlt⟩)))⟩;have XL:=hid XD.lit;have EC2:=hid (l7 ⟨#[112,114,101]⟩ none (some ⟨w5.heap.size,0,none⟩) 0 1 0 1 (w5.alloc (.cells #[.string ⟨#[99,111,100,101]⟩,.string ⟨#[]⟩,.slice a2 1 c2,.slice a4 n4 c4] 35)));clear XD b5 EC;go_wp2_with fail
 (with_reducible refine EC2.out.mono ?_)
 rintro e w6 ⟨rfl,b6⟩;have BL:=hid (q01 XL.out.aM b6);have HN:=hid (show gZ (W0.heap.size<=·) w6 [] [aJ dK [⟨dx,⟨#[108,97,110,103,117,97,103,101,45]⟩++i⟩] (bI t)] (.slice none 0 0) (.slice (some ⟨w5.heap.size,0,none⟩) 1 1) from ⟨Rd.aC _ _ _,(XL.out.rd.bC b6).weaken (fun b hb=>hb.1)⟩);clear b6 XL EC2;obtain ⟨w9,hw8,r0,r1,r2,r3,HP,x0,x1,x2,x3,xf⟩:=dP ⟨#[112,114,101]⟩ ⟨#[]⟩ [] [aJ dK [⟨dx,⟨#[108,97,110,103,117,97,103,101,45]⟩++i⟩] (bI t)] HS Z0 B0 K1 BL HN.out;exact jb8
theorem Xx (pv:jGk) (lv:Int) (i t d ti:ByteArray) (at_:At) (li:List aj) (ks:List ah) (vc vp vl vk:jGk) (w:jG9) (hR:eP (·<w.heap.size) w at_ li ks vc vp vl vk) (hs:Kq i t at_ li) (hl:eu pv w ks vk) (ht:PT w) (hv:lv=1) : Calls Tryz.prog 86 #[pv,.agg #[.int .i64 8,.int .i64 lv,.string i,.string t,.string d,.string ti,.string at_.id,vc,vp,vl,vk]] w (qc w (aJ WM [] (ah.aV ks))):=by
 obtain ⟨ac,nc,cc,ap,np,cp,al,nl,cl,ak,nk,ck,S,W0,rfl,rfl,rfl,rfl,HS,HW0,e0,SX,HR,Z0,B0,K1⟩:=lJ (.int .i64 8) lv i t d ti hR;refine mR ?_;intro Bz pJ dR cO hst hsi;have qv:(lv==1)=true:=by rw [hv];rfl
 clear hv;clear hR hs hl ht;go_enter Tryz.func86,Tryz.ntmps86;go_upto_region 20 with (fail)
 refine bK ?_;have BW0:jGj W0.heap.size W0 W0:=jD7 _ _;have wR:Hid (Rd (W0.heap.size<=·) W0 (q32 []) [.slice none 0 0]):=Rd.aC _ _ _;have e1:=(SX.out W0 (jD7 _ _)).1;have LC:=hid (Bz.out W0 BW0);have g10:=(SX.out W0 BW0).2.2.2.2.2.2.2.2.2;go_wp2_with fail
 (with_reducible refine LC.out.mono ?_)
 rintro e w4 ⟨bD,v4,rfl,hrow4⟩;obtain ⟨a4,n4,c4,rfl⟩:=hrow4.slice3;have b4:=hrow4.aM;have B4:=hid (q01 BW0 b4);have bV:=hid (show Rd (W0.heap.size<=·) w4 (gD (ah.aV ks)) [.slice a4 n4 c4] from hrow4.bZ.weaken (fun b hb=>jD9 (BW0).size hb));have jV:=hid (wR.out.bC b4);have EC:=hid (l7 ⟨#[111,108]⟩ none a4 0 n4 0 c4 w4);clear b4 hrow4 LC g10;go_wp2_with fail
 (with_reducible refine EC.out.mono ?_)
 rintro e w5 ⟨rfl,b5⟩;have BL:=hid (q01 B4.out b5);have HN:=hid (show gZ (W0.heap.size<=·) w5 [] (ah.aV ks) (.slice none 0 0) (.slice a4 n4 c4) from ⟨jV.out.bC b5,bV.out.bC b5⟩);clear b5 bV EC;obtain ⟨w9,hw8,r0,r1,r2,r3,HP,x0,x1,x2,x3,xf⟩:=dP ⟨#[111,108]⟩ ⟨#[]⟩ [] (ah.aV ks) HS Z0 B0 K1 BL HN.out;go_wp2;rw [<- hw8];exact bodyPost_ret (v:=.agg #[.string ⟨#[111,108]⟩,.string ⟨#[]⟩,(.slice none 0 0),(.slice a4 n4 c4)]) (by simp [results,Tryz.results86,go_sem,r0,r1,r2,r3]) rfl HP.out
theorem jb9{P Q:Prop}(q:Q)(h:Nonempty Q->P:=by
 intro qQ;have IC:Hid (∀ W:World,Below W0.heap.size W0 W->Calls Tryz.prog 136 #[.int .i64 lv] W (fun e w'=>e=.returned (.string (iE n))/\Below W.heap.size W w')):=fun W hW=>by rw [hv];exact S9 n W hn (pJ.out W hW)
 revert IC;exact qQ.elim fun x=>x):P:=h ⟨q⟩
theorem Xy (pv:Value) (lv:Int) (i t d ti:ByteArray) (at_:At) (li:List aj) (ks:List ah) (vc vp vl vk:Value) (w:World) (hR:eP (·<w.heap.size) w at_ li ks vc vp vl vk) (hs:Kq i t at_ li) (hl:eu pv w ks vk) (ht:PT w) (n:Nat) (hv:lv=(n:Int)) (hn:n<=999999999) (h1:lv≠1) : Calls Tryz.prog 86 #[pv,.agg #[.int .i64 8,.int .i64 lv,.string i,.string t,.string d,.string ti,.string at_.id,vc,vp,vl,vk]] w (qc w (aJ WM [⟨Ct,iE n⟩] (ah.aV ks))):=by
 obtain ⟨ac,nc,cc,ap,np,cp,al,nl,cl,ak,nk,ck,S,W0,rfl,rfl,rfl,rfl,HS,HW0,e0,SX,HR,Z0,B0,K1⟩:=lJ (.int .i64 8) lv i t d ti hR;refine mR ?_;intro Bz pJ dR cO hst hsi;have qv:(lv==1)=false:=by rw [beq_eq_false_iff_ne];exact h1
 refine jb9 ?_;intro IC;clear hv hn h1;clear hR hs hl ht;go_enter Tryz.func86,Tryz.ntmps86;go_upto_region 20 with (fail)
 refine bK ?_;have e1:=(SX.out W0 (Below.refl _ _)).1;have IT:=hid (IC.out W0 (Below.refl _ _));go_wp2_with fail
 (with_reducible refine IT.out.mono ?_)
 rintro e w1 ⟨rfl,b1⟩;have PC:Hid (Calls Tryz.prog 41 #[.slice (some ⟨w1.heap.size,0,none⟩) 2 2] (w1.alloc (.cells #[.string ⟨#[115,116,97,114,116]⟩,.string (iE n)] 9)) (aU (w1.alloc (.cells #[.string ⟨#[115,116,97,114,116]⟩,.string (iE n)] 9)) [⟨Ct,iE n⟩])):=Xj Ct (iE n) w1;have bl:Below W0.heap.size W0 (w1.alloc (.cells #[.string ⟨#[115,116,97,114,116]⟩,.string (iE n)] 9)):=b1.alloc b1.size _;clear IT e1;go_wp2_with fail
 (with_reducible refine PC.out.mono ?_)
 rintro e w2 ⟨aZ,v2,rfl,hrow2⟩;obtain ⟨a2,c2,rfl,-,-⟩:=hrow2.cap (n:=1) rfl;have B2:=hid (bl.trans (hrow2.aM.mono bl.size));have wR:=hid (show Rd (W0.heap.size<=·) w2 (q32 [⟨Ct,iE n⟩]) [.slice a2 1 c2] from hrow2.bZ.weaken (fun b hb=>Nat.le_trans bl.size hb));clear hrow2 bl PC b1;have LC:=hid (Bz.out w2 B2.out);have g10:=(SX.out w2 B2.out).2.2.2.2.2.2.2.2.2;go_wp2_with fail
 (with_reducible refine LC.out.mono ?_)
 rintro e w4 ⟨bD,v4,rfl,hrow4⟩;obtain ⟨a4,n4,c4,rfl⟩:=hrow4.slice3;have b4:=hrow4.aM;have B4:=hid (q01 B2.out b4);have bV:=hid (show Rd (W0.heap.size<=·) w4 (gD (ah.aV ks)) [.slice a4 n4 c4] from hrow4.bZ.weaken (fun b hb=>Nat.le_trans (B2.out).size hb));have jV:=hid (wR.out.bC b4);have EC:=hid (l7 ⟨#[111,108]⟩ a2 a4 1 n4 c2 c4 w4);clear b4 hrow4 LC g10;go_wp2_with fail
 (with_reducible refine EC.out.mono ?_)
 rintro e w5 ⟨rfl,b5⟩;have BL:=hid (q01 B4.out b5);have HN:=hid (show gZ (W0.heap.size<=·) w5 [⟨Ct,iE n⟩] (ah.aV ks) (.slice a2 1 c2) (.slice a4 n4 c4) from ⟨jV.out.bC b5,bV.out.bC b5⟩);clear b5 bV EC;obtain ⟨w9,hw8,r0,r1,r2,r3,HP,x0,x1,x2,x3,xf⟩:=dP ⟨#[111,108]⟩ ⟨#[]⟩ [⟨Ct,iE n⟩] (ah.aV ks) HS Z0 B0 K1 BL HN.out;go_wp2;rw [<- hw8];exact bodyPost_ret (v:=.agg #[.string ⟨#[111,108]⟩,.string ⟨#[]⟩,(.slice a2 1 c2),(.slice a4 n4 c4)]) (by simp [results,Tryz.results86,go_sem,r0,r1,r2,r3]) rfl HP.out
theorem Z6{P Q:Prop}(q:Q)(h:Nonempty Q->P:=by
 intro qQ;have q5:(⟨#[104]⟩:ByteArray).size+(iE n).size<=9223372036854775807:=by have:(⟨#[104]⟩:ByteArray).size=1:=rfl;have:=Db n hn;omega
 have q6:1+(iE n).size<=9223372036854775807:=by have:=Db n hn;omega
 revert q5 q6;exact qQ.elim fun x=>x):P:=h ⟨q⟩
theorem jn4 (pv:Value) (lv:Int) (i t d ti:ByteArray) (at_:At) (li:List aj) (ks:List ah) (vc vp vl vk:Value) (w:World) (hR:eP (·<w.heap.size) w at_ li ks vc vp vl vk) (hs:Kq i t at_ li) (hl:eu pv w ks vk) (ht:PT w) (n:Nat) (hv:lv=(n:Int)) (hn:n<=999999999) : Calls Tryz.prog 86 #[pv,.agg #[.int .i64 2,.int .i64 lv,.string i,.string t,.string d,.string ti,.string at_.id,vc,vp,vl,vk]] w (qc w (aJ (⟨#[104]⟩++iE n) (eT at_ []) (dQ li))):=by
 obtain ⟨ac,nc,cc,ap,np,cp,al,nl,cl,ak,nk,ck,S,W0,rfl,rfl,rfl,rfl,HS,HW0,e0,SX,HR,Z0,B0,K1⟩:=lJ (.int .i64 2) lv i t d ti hR;refine mR ?_;intro Bz pJ dR cO hst hsi;refine jb9 ?_;intro IC;refine Z6 ?_;intro q5 q6;clear hv hn;clear hR hs hl ht;go_enter Tryz.func86,Tryz.ntmps86;go_upto_region 5 with (fail)
 refine bK ?_;have IT:=hid (IC.out W0.drew ((Below.refl W0.heap.size W0).drew));have hadd:∀ w:World,(Op.stringOp .add (⟨#[104]⟩:ByteArray) (iE n)).run Tryz.prog w=.ok (.string (⟨#[104]⟩++iE n)) w:=fun w=>run_string_add_sum w _ _ q5
 clear q5;have SF:=hid (fun (w':World) (hb:Below W0.heap.size W0 w')=>(⟨(SX.out w' hb).1,(SX.out w' hb).2.2.2.2.2.1,(SX.out w' hb).2.2.2.2.2.2.1,(SX.out w' hb).2.2.2.2.2.2.2.1,(SX.out w' hb).2.2.2.2.2.2.2.2.1⟩:w'.cell? ⟨S,1,none⟩=some (.int .i64 lv)/\w'.cell? ⟨S,6,none⟩=some (.string at_.id)/\w'.cell? ⟨S,7,none⟩=some (.slice ac nc cc)/\w'.cell? ⟨S,8,none⟩=some (.slice ap np cp)/\w'.cell? ⟨S,9,none⟩=some (.slice al nl cl)));have S0:=SF.out _ ((Below.refl W0.heap.size W0).drew);go_wp2_with fail
 go_region_held3 (fun w'=>w'.cell? ⟨S,1,none⟩=some (.int .i64 lv)/\w'.cell? ⟨S,6,none⟩=some (.string at_.id)/\w'.cell? ⟨S,7,none⟩=some (.slice ac nc cc)/\w'.cell? ⟨S,8,none⟩=some (.slice ap np cp)/\w'.cell? ⟨S,9,none⟩=some (.slice al nl cl))
  (with_reducible assumption)
  (first
   | (go_simp;go_at_call 136;(with_reducible refine IT.out.mono ?_);rintro e w1 ⟨rfl,b1⟩;have B1:Hid (Below W0.heap.size W0 w1):=((Below.refl W0.heap.size W0).drew).trans b1;have S1:=SF.out (w1) B1.out;have AC:=hid (q2s at_ [] (.slice ac nc cc) (.slice ap np cp) (.slice none 0 0) w1 w1 qF.nil (zo HR.out.at_ B1.out (by have:=Z0.out;omega)) (Tc cO.out.at_).1 (Tc cO.out.at_).2))
   | (go_simp;go_at_call 137;(with_reducible refine AC.out.mono ?_);rintro e w3 ⟨dD,v3,rfl,hrow3⟩;obtain ⟨a3,n3,c3,rfl⟩:=hrow3.slice3;have B3:Hid (Below W0.heap.size W0 w3):=(B1.out).trans (hrow3.aM.mono (B1.out).size);have xg:Hid (Rd (W0.heap.size<=·) w3 (q32 (eT at_ [])) [.slice a3 n3 c3]):=hrow3.bZ.weaken (fun b hb=>Nat.le_trans (B1.out).size hb);have S3:=SF.out (w3) B3.out;have LC:=hid (dR.out w3 B3.out))
   | (go_simp;go_at_call 78;(with_reducible refine LC.out.mono ?_);rintro e w4 ⟨bD,v4,rfl,hrow4⟩;obtain ⟨a4,n4,c4,rfl⟩:=hrow4.slice3;have b4:=hrow4.aM;have B4:=hid (q01 B3.out b4);have bV:=hid (show Rd (W0.heap.size<=·) w4 (gD (dQ li)) [.slice a4 n4 c4] from hrow4.bZ.weaken (fun b hb=>Nat.le_trans B3.out.size hb));have jV:=hid (xg.out.bC b4);have S4:=SF.out (w4) B4.out;have EC:=hid (l7 ((⟨#[104]⟩:ByteArray)++iE n) a3 a4 n3 n4 c3 c4 w4))
   | (go_simp;go_at_call 40;(with_reducible refine EC.out.mono ?_);rintro e w5 ⟨rfl,b5⟩;have BL:=hid (q01 B4.out b5);obtain ⟨x0,x1,x2,x3,xf⟩:=qC (K1.out.below BL.out);have S5:=SF.out (w5) BL.out;have K6:=jH S w5 (.string ((⟨#[104]⟩:ByteArray)++iE n)) (.string ⟨#[]⟩) (.slice a3 n3 c3) (.slice a4 n4 c4);have S6:=And.imp (K6 _ _) (And.imp (K6 _ _) (And.imp (K6 _ _) (And.imp (K6 _ _) (K6 _ _)))) (SF.out w5 BL.out);clear K6))
 all_goals
  have HN:=hid (show gZ (W0.heap.size<=·) w5 (eT at_ []) (dQ li) (.slice a3 n3 c3) (.slice a4 n4 c4) from ⟨jV.out.bC b5,bV.out.bC b5⟩);clear b5 bV EC jV hrow3 hrow4 b4 S0 S3 S4 S5 S6 xg S1 b1;obtain ⟨w9,dn⟩:∃ w9,w9=kX w5 (S+1) (.string ((⟨#[104]⟩:ByteArray)++iE n)) (.string ⟨#[]⟩) (.slice a3 n3 c3) (.slice a4 n4 c4):=⟨_,rfl⟩;have hf:=vL ((⟨#[104]⟩:ByteArray)++iE n) ⟨#[]⟩ (eT at_ []) (dQ li) HS.out Z0.out B0.out K1.out BL.out HN.out;rw [<- dn] at hf;have HC:=hid hf.1;have HP:=hid hf.2;clear hf;refine lH ?_;clear dn;intro hw8 x0 x1 x2 x3 xf;go_wp2;refine lI ?_;intro r0 r1 r2 r3;exact bodyPost_ret (v:=.agg #[.string ((⟨#[104]⟩:ByteArray)++iE n),.string ⟨#[]⟩,(.slice a3 n3 c3),(.slice a4 n4 c4)]) (by simp [results,Tryz.results86,go_sem,r0,r1,r2,r3]) rfl HP.out
theorem jbj{P:Prop}(h:P:=by
 exact bodyPost_ret (v:=.agg #[.string ⟨#[100,105,118]⟩,.string ⟨#[]⟩,(.slice a3 n3 c3),(.slice a4 n4 c4)]) (by simp [results,Tryz.results86,go_sem,r0,r1,r2,r3]) rfl HP.out):P:=h
theorem jn5 (pv:jGk) (lv:Int) (i t d ti:ByteArray) (at_:At) (li:List aj) (ks:List ah) (vc vp vl vk:jGk) (w:jG9) (hR:eP (·<w.heap.size) w at_ li ks vc vp vl vk) (hs:Kq i t at_ li) (hl:eu pv w ks vk) (ht:PT w) : Calls Tryz.prog 86 #[pv,.agg #[.int .i64 4,.int .i64 lv,.string i,.string t,.string d,.string ti,.string at_.id,vc,vp,vl,vk]] w (qc w (aJ jS (eT at_ [⟨#[109,97,116,104]⟩]) (bI t))):=by
 obtain ⟨ac,nc,cc,ap,np,cp,al,nl,cl,ak,nk,ck,S,W0,rfl,rfl,rfl,rfl,HS,HW0,e0,SX,HR,Z0,B0,K1⟩:=lJ (.int .i64 4) lv i t d ti hR;refine mR ?_;intro Bz pJ dR cO hst hsi;clear hR hs hl ht;go_enter Tryz.func86,Tryz.ntmps86;go_upto_region 12 with (fail)
 refine bK ?_;have iZ:Hid (jGj W0.heap.size W0 (W0.alloc (.cells #[.string ⟨#[109,97,116,104]⟩] 9)).drew):=fQ W0 (.cells #[.string ⟨#[109,97,116,104]⟩] 9);have AC:Hid (Calls Tryz.prog 137 #[.agg #[.string at_.id,.slice ac nc cc,.slice ap np cp],.slice (some ⟨W0.heap.size,0,none⟩) 1 1] (W0.alloc (.cells #[.string ⟨#[109,97,116,104]⟩] 9)).drew (aU W0.drew (eT at_ [⟨#[109,97,116,104]⟩]))):=q2s at_ [⟨#[109,97,116,104]⟩] (.slice ac nc cc) (.slice ap np cp) (.slice (some ⟨W0.heap.size,0,none⟩) 1 1) W0.drew (W0.alloc (.cells #[.string ⟨#[109,97,116,104]⟩] 9)).drew (qF.one W0.drew ⟨#[109,97,116,104]⟩) (zo HR.out.at_ iZ.out (by have:=Z0.out;omega)) (xA cO.out.at_ ⟨#[109,97,116,104]⟩ (by have:=cO.out.i;decide)).1 (xA cO.out.at_ ⟨#[109,97,116,104]⟩ (by have:=cO.out.i;decide)).2
 have SF:=hid (fun (w':jG9) (hb:jGj W0.heap.size W0 w')=>(⟨(SX.out w' hb).2.2.1,(SX.out w' hb).2.2.2.2.2.1,(SX.out w' hb).2.2.2.2.2.2.1,(SX.out w' hb).2.2.2.2.2.2.2.1⟩:w'.cell? ⟨S,3,none⟩=some (.string t)/\w'.cell? ⟨S,6,none⟩=some (.string at_.id)/\w'.cell? ⟨S,7,none⟩=some (.slice ac nc cc)/\w'.cell? ⟨S,8,none⟩=some (.slice ap np cp)));have S1:=SF.out _ iZ.out;refine SH ?_;intro Sq;have S0:=SF.out _ ((jD7 W0.heap.size W0).drew);go_wp2_with fail
 go_region_held3 (fun w'=>w'.cell? ⟨S,3,none⟩=some (.string t)/\w'.cell? ⟨S,6,none⟩=some (.string at_.id)/\w'.cell? ⟨S,7,none⟩=some (.slice ac nc cc)/\w'.cell? ⟨S,8,none⟩=some (.slice ap np cp))
  (with_reducible assumption)
  (first
   | (go_simp;go_at_call 137;(with_reducible refine AC.out.mono ?_);rintro e w3 ⟨dD,v3,rfl,hrow3⟩;obtain ⟨a3,n3,c3,rfl⟩:=hrow3.slice3;have B3:Hid (jGj W0.heap.size W0 w3):=(((jD7 W0.heap.size W0).drew)).trans (hrow3.aM.mono (((jD7 W0.heap.size W0).drew)).size);have xg:Hid (Rd (W0.heap.size<=·) w3 (q32 (eT at_ [⟨#[109,97,116,104]⟩])) [.slice a3 n3 c3]):=hrow3.bZ.weaken (fun b hb=>jD9 (((jD7 W0.heap.size W0).drew)).size hb);have S3:=SF.out (w3) B3.out;have LC:=hid (Sq.out w3))
   | (go_simp;go_at_call 53;(with_reducible refine LC.out.mono ?_);rintro e w4 ⟨bD,v4,rfl,hrow4⟩;obtain ⟨a4,n4,c4,rfl⟩:=hrow4.slice3;have b4:=hrow4.aM;have B4:=hid (q01 B3.out b4);have bV:=hid (show Rd (W0.heap.size<=·) w4 (gD (bI t)) [.slice a4 n4 c4] from hrow4.bZ.weaken (fun b hb=>jD9 B3.out.size hb));have jV:=hid (xg.out.bC b4);have S4:=SF.out (w4) B4.out;have EC:=hid (l7 ⟨#[100,105,118]⟩ a3 a4 n3 n4 c3 c4 w4))
   | (go_simp;go_at_call 40;(with_reducible refine EC.out.mono ?_);rintro e w5 ⟨rfl,b5⟩;have BL:=hid (q01 B4.out b5);obtain ⟨x0,x1,x2,x3,xf⟩:=qC (K1.out.below BL.out);have S5:=SF.out (w5) BL.out;have K6:=jH S w5 (.string ⟨#[100,105,118]⟩) (.string ⟨#[]⟩) (.slice a3 n3 c3) (.slice a4 n4 c4);have S6:=And.imp (K6 _ _) (And.imp (K6 _ _) (And.imp (K6 _ _) (K6 _ _))) (SF.out w5 BL.out);clear K6))
 all_goals
  have HN:=hid (show gZ (W0.heap.size<=·) w5 (eT at_ [⟨#[109,97,116,104]⟩]) (bI t) (.slice a3 n3 c3) (.slice a4 n4 c4) from ⟨jV.out.bC b5,bV.out.bC b5⟩);clear b5 bV EC jV hrow3 hrow4 b4 S0 S3 S4 S5 S6 xg S1;obtain ⟨w9,dn⟩:∃ w9,w9=kX w5 (S+1) (.string ⟨#[100,105,118]⟩) (.string ⟨#[]⟩) (.slice a3 n3 c3) (.slice a4 n4 c4):=⟨_,rfl⟩;have hf:=vL ⟨#[100,105,118]⟩ ⟨#[]⟩ (eT at_ [⟨#[109,97,116,104]⟩]) (bI t) HS.out Z0.out B0.out K1.out BL.out HN.out;rw [<- dn] at hf;have HC:=hid hf.1;have HP:=hid hf.2;clear hf;refine lH ?_;clear dn;intro hw8 x0 x1 x2 x3 xf;go_wp2;refine lI ?_;intro r0 r1 r2 r3;exact jbj
theorem Xz (pv:jGk) (lv:Int) (i t d ti:ByteArray) (at_:At) (li:List aj) (ks:List ah) (vc vp vl vk:jGk) (w:jG9) (hR:eP (·<w.heap.size) w at_ li ks vc vp vl vk) (hs:Kq i t at_ li) (hl:eu pv w ks vk) (ht:PT w) : Calls Tryz.prog 86 #[pv,.agg #[.int .i64 13,.int .i64 lv,.string i,.string t,.string d,.string ti,.string at_.id,vc,vp,vl,vk]] w (qc w (aJ jS (eT at_ [i]) (ah.aV ks))):=by
 obtain ⟨ac,nc,cc,ap,np,cp,al,nl,cl,ak,nk,ck,S,W0,rfl,rfl,rfl,rfl,HS,HW0,e0,SX,HR,Z0,B0,K1⟩:=lJ (.int .i64 13) lv i t d ti hR;refine mR ?_;intro Bz pJ dR cO hst hsi;clear hR hs hl ht;go_enter Tryz.func86,Tryz.ntmps86;go_upto_region 28 with (fail)
 refine bK ?_;have iZ:Hid (jGj W0.heap.size W0 (W0.alloc (.cells #[.string i] 9)).drew):=fQ W0 (.cells #[.string i] 9);have AC:Hid (Calls Tryz.prog 137 #[.agg #[.string at_.id,.slice ac nc cc,.slice ap np cp],.slice (some ⟨W0.heap.size,0,none⟩) 1 1] (W0.alloc (.cells #[.string i] 9)).drew (aU W0.drew (eT at_ [i]))):=q2s at_ [i] (.slice ac nc cc) (.slice ap np cp) (.slice (some ⟨W0.heap.size,0,none⟩) 1 1) W0.drew (W0.alloc (.cells #[.string i] 9)).drew (qF.one W0.drew i) (zo HR.out.at_ iZ.out (by have:=Z0.out;omega)) (xA cO.out.at_ i (by have:=cO.out.i;omega)).1 (xA cO.out.at_ i (by have:=cO.out.i;omega)).2
 have SF:=hid (fun (w':jG9) (hb:jGj W0.heap.size W0 w')=>(⟨(SX.out w' hb).2.1,(SX.out w' hb).2.2.2.2.2.1,(SX.out w' hb).2.2.2.2.2.2.1,(SX.out w' hb).2.2.2.2.2.2.2.1,(SX.out w' hb).2.2.2.2.2.2.2.2.2⟩:w'.cell? ⟨S,2,none⟩=some (.string i)/\w'.cell? ⟨S,6,none⟩=some (.string at_.id)/\w'.cell? ⟨S,7,none⟩=some (.slice ac nc cc)/\w'.cell? ⟨S,8,none⟩=some (.slice ap np cp)/\w'.cell? ⟨S,10,none⟩=some (.slice ak nk ck)));have S1:=SF.out _ iZ.out;have S0:=SF.out _ ((jD7 W0.heap.size W0).drew);go_wp2_with fail
 go_region_held3 (fun w'=>w'.cell? ⟨S,2,none⟩=some (.string i)/\w'.cell? ⟨S,6,none⟩=some (.string at_.id)/\w'.cell? ⟨S,7,none⟩=some (.slice ac nc cc)/\w'.cell? ⟨S,8,none⟩=some (.slice ap np cp)/\w'.cell? ⟨S,10,none⟩=some (.slice ak nk ck))
  (with_reducible assumption)
  (first
   | (go_simp;go_at_call 137;(with_reducible refine AC.out.mono ?_);rintro e w3 ⟨dD,v3,rfl,hrow3⟩;obtain ⟨a3,n3,c3,rfl⟩:=hrow3.slice3;have B3:Hid (jGj W0.heap.size W0 w3):=(((jD7 W0.heap.size W0).drew)).trans (hrow3.aM.mono (((jD7 W0.heap.size W0).drew)).size);have xg:Hid (Rd (W0.heap.size<=·) w3 (q32 (eT at_ [i])) [.slice a3 n3 c3]):=hrow3.bZ.weaken (fun b hb=>jD9 (((jD7 W0.heap.size W0).drew)).size hb);have S3:=SF.out (w3) B3.out;have LC:=hid (Bz.out w3 B3.out))
   | (go_simp;go_at_call 38;(with_reducible refine LC.out.mono ?_);rintro e w4 ⟨bD,v4,rfl,hrow4⟩;obtain ⟨a4,n4,c4,rfl⟩:=hrow4.slice3;have b4:=hrow4.aM;have B4:=hid (q01 B3.out b4);have bV:=hid (show Rd (W0.heap.size<=·) w4 (gD (ah.aV ks)) [.slice a4 n4 c4] from hrow4.bZ.weaken (fun b hb=>jD9 B3.out.size hb));have jV:=hid (xg.out.bC b4);have S4:=SF.out (w4) B4.out;have EC:=hid (l7 ⟨#[100,105,118]⟩ a3 a4 n3 n4 c3 c4 w4))
   | (go_simp;go_at_call 40;(with_reducible refine EC.out.mono ?_);rintro e w5 ⟨rfl,b5⟩;have BL:=hid (q01 B4.out b5);obtain ⟨x0,x1,x2,x3,xf⟩:=qC (K1.out.below BL.out);have S5:=SF.out (w5) BL.out;have K6:=jH S w5 (.string ⟨#[100,105,118]⟩) (.string ⟨#[]⟩) (.slice a3 n3 c3) (.slice a4 n4 c4);have S6:=And.imp (K6 _ _) (And.imp (K6 _ _) (And.imp (K6 _ _) (And.imp (K6 _ _) (K6 _ _)))) (SF.out w5 BL.out);clear K6))
 all_goals
  have HN:=hid (show gZ (W0.heap.size<=·) w5 (eT at_ [i]) (ah.aV ks) (.slice a3 n3 c3) (.slice a4 n4 c4) from ⟨jV.out.bC b5,bV.out.bC b5⟩);clear b5 bV EC jV hrow3 hrow4 b4 S0 S3 S4 S5 S6 xg S1;obtain ⟨w9,dn⟩:∃ w9,w9=kX w5 (S+1) (.string ⟨#[100,105,118]⟩) (.string ⟨#[]⟩) (.slice a3 n3 c3) (.slice a4 n4 c4):=⟨_,rfl⟩;have hf:=vL ⟨#[100,105,118]⟩ ⟨#[]⟩ (eT at_ [i]) (ah.aV ks) HS.out Z0.out B0.out K1.out BL.out HN.out;rw [<- dn] at hf;have HC:=hid hf.1;have HP:=hid hf.2;clear hf;refine lH ?_;clear dn;intro hw8 x0 x1 x2 x3 xf;go_wp2;refine lI ?_;intro r0 r1 r2 r3;exact jbj
open Go.RowKit
mutual
def ah.walk:ah->Prop
 | .mk k lv i t d ti a li ks=>(1<=k/\k<=15/\k≠11/\k≠12)/\Kq i t a li/\(k=2\/k=8->0<=lv/\lv<=999999999)/\(k=10->TbW i ks)/\(k≠10->ah.lC ks)
def ah.lC:List ah->Prop
 | []=>True
 | x::l=>x.walk/\ah.lC l
end
theorem ah.Dc:∀ (l:List ah),ah.lC l->∀ x∈l,x.walk
 | [],_,x,hx=>by cases hx
 | y::l,h,x,hx=>by
  rw [ah.lC] at h;rcases List.mem_cons.1 hx with rfl | hx
  ·exact h.1
  ·exact ah.Dc l h.2 x hx
theorem Kt (pv:jGk) (k lv:Int) (i t d ti:ByteArray) (at_:At) (li:List aj) (ks:List ah) (vc vp vl vk:jGk) (w:jG9) (hR:eP (·<w.heap.size) w at_ li ks vc vp vl vk) (hw:(ah.mk k lv i t d ti at_ li ks).walk) (Jg:k≠14) (qy:k≠15) (hl:k≠10->eu pv w ks vk) (ht:PT w) : ∃ x,(ah.mk k lv i t d ti at_ li ks).mK=[x]/\Calls Tryz.prog 86 #[pv,.agg #[.int .i64 k,.int .i64 lv,.string i,.string t,.string d,.string ti,.string at_.id,vc,vp,vl,vk]] w (qc w x):=by
 rw [ah.walk] at hw;obtain ⟨⟨g1,g2,g3,g4⟩,hs,hv,hT,-⟩:=hw;rcases (by omega:k=1\/k=2\/k=3\/k=4\/k=5\/k=6\/k=7\/k=8\/k=9\/k=10\/k=13) with rfl | rfl | rfl | rfl | rfl | rfl | rfl | rfl | rfl | rfl | rfl
 ·exact ⟨_,by rw [ah.mK];rfl,jmz pv lv i t d ti at_ li ks vc vp vl vk w hR hs (hl (by decide)) ht⟩
 ·obtain ⟨n,rfl⟩:∃ n:Nat,lv=(n:Int):=⟨lv.toNat,by have:=hv (by decide);omega⟩;exact ⟨aJ (nH++iE n) (eT at_ []) (dQ li),by rw [ah.mK];rfl,jn4 pv n i t d ti at_ li ks vc vp vl vk w hR hs (hl (by decide)) ht n rfl (by have:=hv (by decide);omega)⟩
 ·by_cases hi:aW i=true
  ·exact ⟨aJ GQ [] [aJ dK [] (bI t)],by rw [ah.mK,hi];rfl,Xv pv lv i t d ti at_ li ks vc vp vl vk w hR hs (hl (by decide)) ht hi⟩
  ·have hi:aW i=false:=by simpa using hi
   refine ⟨aJ GQ [] [aJ dK [⟨dx,G9++i⟩] (bI t)],?_,Xw pv lv i t d ti at_ li ks vc vp vl vk w hR hs (hl (by decide)) ht hi⟩;rw [ah.mK,hi];show [aJ GQ [] [aJ dK (bU dx (G9++i)) (bI t)]]=_;unfold bU;rw [show aW (G9++i)=false by rw [pK,hi,Bool.and_false]];rfl
 ·exact ⟨_,by rw [ah.mK];rfl,jn5 pv lv i t d ti at_ li ks vc vp vl vk w hR hs (hl (by decide)) ht⟩
 ·exact ⟨_,by rw [ah.mK];rfl,jn3 pv lv i t d ti at_ li ks vc vp vl vk w hR hs (hl (by decide)) ht⟩
 ·exact ⟨_,by rw [ah.mK];rfl,jn0 pv lv i t d ti at_ li ks vc vp vl vk w hR hs (hl (by decide)) ht⟩
 ·exact ⟨_,by rw [ah.mK];rfl,jn1 pv lv i t d ti at_ li ks vc vp vl vk w hR hs (hl (by decide)) ht⟩
 ·by_cases h1:lv=1
  ·exact ⟨aJ WM [] (ah.aV ks),by rw [ah.mK,h1];rfl,Xx pv lv i t d ti at_ li ks vc vp vl vk w hR hs (hl (by decide)) ht h1⟩
  ·obtain ⟨n,rfl⟩:∃ n:Nat,lv=(n:Int):=⟨lv.toNat,by have:=hv (by decide);omega⟩;refine ⟨aJ WM [⟨Ct,iE n⟩] (ah.aV ks),?_,Xy pv n i t d ti at_ li ks vc vp vl vk w hR hs (hl (by decide)) ht n rfl (by have:=hv (by decide);omega) h1⟩;rw [ah.mK];show [aJ WM (if (n:Int)=1 then [] else [⟨Ct,iE n⟩]) (ah.aV ks)]=_;rw [if_neg h1]
 ·exact ⟨_,by rw [ah.mK];rfl,jn2 pv lv i t d ti at_ li ks vc vp vl vk w hR hs (hl (by decide)) ht⟩
 ·exact ⟨Bq i ks,by rw [ah.mK];rfl,Xu pv lv i t d ti at_ li ks vc vp vl vk w hR hs ht (hT rfl)⟩
 ·exact ⟨_,by rw [ah.mK];rfl,Xz pv lv i t d ti at_ li ks vc vp vl vk w hR hs (hl (by decide)) ht⟩
theorem nW:∀ (l:List ah),(ah.aV l).length<=l.length
 | []=>by simp [ah.aV]
 | x::l=>by
  have h:=nW l;rw [ah.aV,List.length_append,List.length_cons];have h2:x.mK.length<=1:=by
   obtain ⟨k,lv,i,t,d,ti,a,li,ks⟩:=x;rw [ah.mK]
   (repeat' split)<;>simp
  omega
def Nc (w:jG9) (l:List ah) (v vi:jGk) (wr:jG9):Prop:=
 ∃ (k:Nat) (rows:List (List jGk)),k<=l.length/\vi=.int .i64 k/\aF 35 4 (fun _=>False) wr.heap.size w ((ah.aV (l.take k)).map Nd.d) rows v wr
theorem jbk{P Q:Prop}(q:Q)(h:Nonempty Q->P:=by
 intro qQ;have gV:Hid ((ah.aV (l.take (j+1))).map Nd.d=ds):=by show _=_;rw [hsn,List.map_append,mZ.out];show ds++(ah.mK _).map Nd.d=ds;rw [ah.mK];exact List.append_nil _
 have HF:Hid (Nc w l (.slice av m cv) (.int .i64 ((j+1:Nat):Int)) wA):=⟨j+1,_,by have:=uy.out;omega,rfl,by rw [gV.out];exact (bg.out.below BA.out).top⟩;revert gV HF;exact qQ.elim fun x=>x):P:=h ⟨q⟩
theorem ZH{P:Prop}(h:P:=by
 have hjl:j=l.length:=by have:=uy.out;omega
 have HP:Hid (aO w (ah.aV l) (.returned (.slice av m cv)) wr):=by refine ⟨rows,_,rfl,?_⟩;have h:=bg.out;rw [<- mZ.out,hjl,List.take_length] at h;exact h
 clear hjl;go_wp2;go_ret;exact HP.out):P:=h
theorem ZE{P:Prop}(h:P:=by
 have h:=nW (l.take j);have h2:(l.take j).length<=l.length:=List.length_take_le' _ _;rw [hm,hds,List.length_map];have:=uy.out;omega):P:=h
theorem ZF{P Q:Prop}(q:Q)(h:Nonempty Q->P:=by
 intro qQ;obtain ⟨y,hy⟩:∃ y,l[j]?=some y:=⟨_,List.getElem?_eq_getElem (by have:=uy.out;omega)⟩;have hsn:=Df l j y hy;have Qi:=HWK.out y (List.mem_of_getElem? hy);have hsz:=ah.bE l j y hy;revert y hy hsn Qi hsz;exact qQ.elim fun x=>x):P:=h ⟨q⟩
theorem vT (pv:Value) (n:Nat):∀ (l:List ah) (v:Value) (w:World),ah.aY l<=n->n<=900000->Rd (·<w.heap.size) w (nN l) [v]->ah.lC l->PT w -> Calls Tryz.prog 38 #[pv,v] w (aO w (ah.aV l)):=by
 induction n using Nat.strongRecOn with
 | _ n ih=>
  intro l v w hn hnm hrd hwk ht;obtain ⟨iN,qB,fC,fD,fE⟩:=info_parts gY;obtain ⟨ak,ck,hvk,hs⟩:=Rd.ay hrd;obtain ⟨nk,hnk⟩:∃ nk,nk=l.length:=⟨_,rfl⟩;obtain rfl:v=.slice ak nk ck:=by rw [hnk];simpa using hvk
  refine MH ?_;intro hcap hmx;have JW:nk<=900000:=by have:=ah.fF l;omega
  have HS2:=hid hs;have uy:=hid hnk;have HWK:=hid (ah.Dc l hwk);have pJ:=hid ht;have IH:=hid ih;have Rt:=hid (And.intro hn hnm);have R0:Hid (Nc w l (.slice none 0 0) (.int .i64 0) w):=⟨0,[],Nat.zero_le _,rfl,aF.nil _ _ _ _⟩;clear hrd hvk hs hnk hwk ht ih hn hnm;go_enter Tryz.func38,Tryz.ntmps38;go_wp2
  go_loopw [5,10] (fun v vi wr=>Nc w l v vi wr) (fun _ vi _=>nk-(intOf vi).toNat)
  case atStart=>exact R0.out
  case round=>
   clear R0;obtain ⟨j,rows,hj,rfl,hrow⟩:=hrel;obtain ⟨ds,hds⟩:∃ ds,ds=(ah.aV (l.take j)).map Nd.d:=⟨_,rfl⟩;rw [<- hds] at hrow;obtain ⟨m,hm⟩:∃ m,m=ds.length:=⟨_,rfl⟩;have Wz:m<=1000000:=by exact ZE
   obtain ⟨av,cv,rfl,-,-⟩:=hrow.cap hm.symm;have HM:=hid hm.symm;have mZ:=hid hds.symm;have bg:=hid hrow;clear hrow hm hds;by_cases hlt:j<nk
   ·refine ZF ?_;intro y hy hsn Qi hsz;obtain ⟨yk,Cq,yi,yt,yd,Cr,AQ,sN,lY⟩:=y;obtain ⟨ga,off,vc,vp,vl,vk,rfl,hok,hbl,hc,hR⟩:=Gr HS2.out hy;obtain ⟨c0,c1,c2,c3,c4,c5,c6,c7,c8,c9,c10⟩:=hc.at2 (w':=wr) (bg.out.aM.block ga hok);obtain ⟨Oo,Oq,Ot,rfl⟩:=Rd.au hR.at_.cls
    obtain ⟨Ou,Ov,Ow,rfl⟩:=Rd.au hR.at_.aD
    obtain ⟨yM,yN,yO,rfl⟩:=Rd.au hR.line;obtain ⟨JY,JZ,J3,rfl⟩:=Rd.au hR.kids;have HR:=hid hR;have HWY:=hid Qi;have RA:=hid hsz;clear hok hbl hc hR Qi hy hsz;go_upto_region 5 with (fail)
    refine Si ?_;intro p hp wA iw PA bA;rw [<- iw,<- hp];have BA:=hid bA;have b0A:Below w.heap.size w wA:=bg.out.aM.trans (bA.mono bg.out.aM.size);refine ja2 ?_;intro d0 d1 d2 d3 d4 d5 d6 d7 d8 d9 d10;have B0A:=hid b0A;have hpw:wr.heap.size<=wA.heap.size:=bA.size;clear iw hp c0 c1 c2 c3 c4 c5 c6 c7 c8 c9 c10 PA bA b0A;by_cases Jg:yk=14
    ·have q14:(yk==14)=true:=by rw [Jg];rfl
     subst Jg;refine jbk ?_;intro gV HF;clear hsn;exact gF
    by_cases qy:yk=15
    ·have q14:(yk==14)=false:=by rw [qy];rfl
     have Qb:(yk==15)=true:=by rw [qy];rfl
     subst qy;refine jbk ?_;intro gV HF;clear hsn;exact gF
    have q14:(yk==14)=false:=by rw [beq_eq_false_iff_ne];exact Jg
    have Qb:(yk==15)=false:=by rw [beq_eq_false_iff_ne];exact qy
    have Ru:eP (·<wA.heap.size) wA AQ sN lY (.slice Oo Oq Ot) (.slice Ou Ov Ow) (.slice yM yN yO) (.slice JY JZ J3):=eP.sM HR.out (fun b (hb:b<w.heap.size) hlt=>⟨by show b<wA.heap.size;have:=B0A.out.size;omega,B0A.out.block b hb⟩);have hw2:=HWY.out;rw [ah.walk] at hw2;obtain ⟨x,hx,hcall⟩:=Kt pv yk Cq yi yt yd Cr AQ sN lY _ _ _ _ wA Ru HWY.out Jg qy (fun h10 W hW=>IH.out (ah.aY lY) (by have:=RA.out;rw [ah.sz] at this;have:=Rt.out;omega) lY _ W (Nat.le_refl _) (by have:=RA.out;rw [ah.sz] at this;have:=Rt.out;omega) (Rd.keep (w:=wA) (w':=W) (ok:=(·<wA.heap.size)) (fun b (hb:b<wA.heap.size) hlt=>⟨by show b<W.heap.size;have:=hW.size;omega,hW.block b hb⟩) _ _ Ru.kids) (hw2.2.2.2.2 h10) ((pJ.out.below B0A.out).below hW)) (pJ.out.below B0A.out);obtain ⟨xn,xt,xa,mY⟩:=x;have gV:=hid (show (ah.aV (l.take (j+1))).map Nd.d=ds++[(Nd.mk xn xt xa mY).d] by rw [hsn,hx,List.map_append,mZ.out];rfl);have ZG:=hid hcall;clear hsn hx hcall Ru hw2;go_wp2_with fail
    (with_reducible refine ZG.out.mono ?_)
    rintro e w2 ⟨va,vk,he,hR2,hb2⟩;obtain ⟨aA,nA,cA,rfl⟩:=Rd.au hR2.at_
    obtain ⟨aK,nK,cK,rfl⟩:=Rd.au hR2.ks;have he:e=.returned (.agg #[.string xn,.string xt,.slice aA nA cA,.slice aK nK cK]):=he;subst he;have U2:=hid ((bg.out.below BA.out).below hb2);have XD:=hid ((Nd.dJ xn xt hR2).weaken (ok':=fun b=>False\/wr.heap.size<=b) (fun b hb=>.inr (Nat.le_trans hpw hb)));clear ZG hR2 hb2 d0 d1 d2 d3 d4 d5 d6 d7 d8 d9 d10;go_wp2_with (at_builtin;refine Oh rfl _ _ 28 rfl iN _ 80 Tryz.underlying28 qB fC fD fE rfl (by decide) U2.out (fun _=>False.elim) (Nd.mk xn xt xa mY).d [.string xn,.string xt,.slice aA nA cA,.slice aK nK cK] XD.out rfl Fz HM.out (by omega) (by decide) rfl rfl ?_)
    intro a' c' w5 hrow hg5;have HF:Hid (Nc w l (.slice a' (m+1) c') (.int .i64 ((j+1:Nat):Int)) w5):=⟨j+1,_,by have:=uy.out;omega,rfl,by rw [gV.out];exact hrow⟩;clear hrow hg5 XD U2 bg;exact gF
   ·exact ZH
theorem lD:∀ (l:List ah),ah.aB l->∀ x∈l,x.small
 | [],_,x,hx=>by cases hx
 | y::l,h,x,hx=>by
  rw [ah.aB] at h;rcases List.mem_cons.1 hx with rfl | hx
  ·exact h.1
  ·exact lD l h.2 x hx
theorem jC {x:ah} (h:x.small):ah.aB x.kids/\aj.aB x.kT/\aj.aY x.kT<=120:=by obtain ⟨k,lv,i,t,d,ti,a,li,ks⟩:=x;rw [ah.small] at h;exact ⟨h.2.2.2.2.2.2.2,h.2.2.2.2.2.1,h.2.2.2.2.2.2.1⟩
theorem Zx (l:List ah) (x:ah) (hx:x∈l):x.sz<=ah.aY l:=by obtain ⟨j,hj⟩:=List.mem_iff_getElem?.1 hx;exact ah.bE l j x hj
theorem Gq (x:ah):x.kids.length<=x.sz:=by obtain ⟨k,lv,i,t,d,ti,a,li,ks⟩:=x;have:=ah.fF ks;rw [ah.sz];show ks.length<=_;omega
theorem Zw{P:Prop}(h:P:=by
 unfold xW at hbf;simp only [Bool.and_eq_true,decide_eq_true_iff] at hbf;obtain ⟨⟨⟨⟨⟨⟨⟨⟨h1,h2⟩,-⟩,-⟩,-⟩,-⟩,-⟩,-⟩,-⟩:=hbf;exact ⟨h1,h2⟩):P:=h
mutual
theorem ah.XC (cl:ByteArray->Bool):∀ (b:ah) (par:Int) (dp:Nat),b.err cl par dp=0->b.JU->b.small->b.sz<=900000->b.walk
 | .mk k lv i t d ti a li ks,par,dp,he,hh,hs,hz=>by
  obtain ⟨h2,hbf,h3⟩:=fP cl he;rw [ah.JU] at hh;obtain ⟨g1,g2,g3,g4,g5,g6,g7,g8⟩:=hh;rw [ah.small] at hs;obtain ⟨s1,s2,s3,s4,s5,s6,s7,s8⟩:=hs;rw [ah.sz] at hz;have hk:1<=k/\k<=15:=by exact Zw
  rw [ah.walk];refine ⟨⟨hk.1,hk.2,g6,g7⟩,⟨s1,s2,s5,⟨by omega,s6,g1⟩⟩,g2,fun h10=>⟨(g3 h10).1,by have:=ah.fF ks;omega,fun r hr=>?_⟩,fun h10=>ah.sK cl ks k (dp+1) h3 (g8 h10) s8 (by omega)⟩;have hr2:=jC (lD ks s8 r hr);have hr3:=Zx ks r hr;have hr4:=Gq r;refine ⟨((g3 h10).2 r hr).1,by omega,fun c hc=>?_⟩;have hc2:=jC (lD r.kids hr2.1 c hc);exact ⟨by omega,hc2.2.1,((g3 h10).2 r hr).2 c hc⟩
theorem ah.sK (cl:ByteArray->Bool):∀ (l:List ah) (par:Int) (dp:Nat),ah.aQ cl par dp l=0->ah.qz l->ah.aB l->ah.aY l<=900000->ah.lC l
 | [],_,_,_,_,_,_=>by rw [ah.lC];trivial
 | x::l,par,dp,he,hh,hs,hz=>by
  rw [ah.aQ] at he;rw [ah.qz] at hh;rw [ah.aB] at hs;rw [ah.aY] at hz;rw [ah.lC];by_cases h1:x.err cl par dp≠0
  ·rw [if_pos h1] at he;exact absurd he h1
  ·rw [if_neg h1] at he;exact ⟨ah.XC cl x par dp (Classical.not_not.1 h1) hh.1 hs.1 (by omega),ah.sK cl l par dp he hh.2 hs.2 (by omega)⟩
end
end Go.Proofs.YtkfnkeflalcphaaGreatDoor

