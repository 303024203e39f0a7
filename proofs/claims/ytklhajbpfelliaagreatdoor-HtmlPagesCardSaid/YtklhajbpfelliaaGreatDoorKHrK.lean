/- Contract of publisherref34.block, kind by kind: the nodes of a block. -/
import Derived.Test.YtklhajbpfelliaaGreatDoorKHtM
set_option maxHeartbeats 4000000
set_option maxRecDepth 100000
open Go.Lib (hid)
namespace Go.Proofs.YtklhajbpfelliaaGreatDoor
open Go.Proofs.Tryz
open Go.RowKit.Below renaming refl->jFj
open Nat renaming le_trans->jFq
open Go renaming World->jIq
open Go.RowKit renaming Below->jIx
open Go.RowKit
set_option linter.unusedVariables false
set_option linter.unusedSimpArgs false
def iF (w:jIq) (ks:List ah) (vk:Value):Prop:=∀ W:jIq,jIx w.heap.size w W->Calls prog 46 #[vk] W (aQ W (ah.aZ ks))
structure M9 (i t:ByteArray) (at_:At) (li:List aj):Prop where
 i:i.size<=300
 t:t.size<=300
 sh:at_.short
 cf:∀ c∈at_.cls,bq c=false
 li:LnR li
theorem jm7 {w W0:jIq} {P:jIq->Prop} (hl:∀ W,jIx w.heap.size w W->P W) (b0:jIx w.heap.size w W0):Hid (∀ W,jIx W0.heap.size W0 W->P W):=
 fun W hW=>hl W (b0.trans (hW.mono b0.size))
theorem uT {at_:At} {li:List aj} {ks:List ah} {vc vp vl vk:Value} {w:jIq} (kv:Value) (lv:Int) (i t d ti:ByteArray) (hR:eT (·<w.heap.size) w at_ li ks vc vp vl vk) (hs:M9 i t at_ li) : ∃ ac nc cc ap np cp al nl cl ak nk ck S W0,vc=.slice ac nc cc/\vp=.slice ap np cp/\vl=.slice al nl cl/\vk=.slice ak nk ck/\S=w.heap.size /\ W0=w.alloc (.cells #[kv,.int .i64 lv,.string i,.string t,.string d,.string ti,.string at_.id,vc,vp,vl,vk] 51)/\W0.cell? ⟨S,0,none⟩=some kv /\ Hid (∀ w':jIq,jIx W0.heap.size W0 w'->w'.cell? ⟨S,1,none⟩=some (.int .i64 lv)/\w'.cell? ⟨S,2,none⟩=some (.string i)/\w'.cell? ⟨S,3,none⟩=some (.string t)/\w'.cell? ⟨S,4,none⟩=some (.string d)/\w'.cell? ⟨S,5,none⟩=some (.string ti)/\w'.cell? ⟨S,6,none⟩=some (.string at_.id)/\w'.cell? ⟨S,7,none⟩=some vc/\w'.cell? ⟨S,8,none⟩=some vp/\w'.cell? ⟨S,9,none⟩=some vl/\w'.cell? ⟨S,10,none⟩=some vk) /\ Hid (∀ W:jIq,jIx W0.heap.size W0 W->Calls prog 105 #[vl] W (aQ W (dV li)))/\Hid (jIx w.heap.size w W0):=by
 obtain ⟨ac,nc,cc,rfl⟩:=Rd.au hR.at_.cls
 obtain ⟨ap,np,cp,rfl⟩:=Rd.au hR.at_.aF
 obtain ⟨al,nl,cl,rfl⟩:=Rd.au hR.line;obtain ⟨ak,nk,ck,rfl⟩:=Rd.au hR.kids;have b0:jIx w.heap.size w (w.alloc (.cells #[kv,.int .i64 lv,.string i,.string t,.string d,.string ti,.string at_.id,.slice ac nc cc,.slice ap np cp,.slice al nl cl,.slice ak nk ck] 51)):=(jFj _ _).alloc (Nat.le_refl _) _;have k0:=CB.new 51 [kv,.int .i64 lv,.string i,.string t,.string d,.string ti,.string at_.id,.slice ac nc cc,.slice ap np cp,.slice al nl cl,.slice ak nk ck] w;refine ⟨ac,nc,cc,ap,np,cp,al,nl,cl,ak,nk,ck,_,_,rfl,rfl,rfl,rfl,rfl,rfl,k0.cell 0 _ rfl,Sv k0,fun W hW=>?_,b0⟩;have hb:=b0.trans (hW.mono b0.size);exact q35 900000 li _ W hs.li.sz (by decide) (Rd.keep (w:=w) (w':=W) (ok:=(·<w.heap.size)) (fun b (hb':b<w.heap.size) hlt=>⟨by show b<W.heap.size;have:=hb.size;omega,hb.block b hb'⟩) _ _ hR.line) hs.li.sm hs.li.cf
theorem Hl{P:Prop}(h:P:=by
 have HF:=hid (aG.Kc BL.out XD.out);clear B5 EC;go_wp2;go_ret;exact ⟨_,_,rfl,HF.out⟩):P:=h
theorem Na{P Q:Prop}(q:Q)(h:Nonempty Q->P:=by
 intro qQ;have B5:=q01 B4.out b5;have XG:=hid (cZ.out.aX b5);have BL:=hid (B0.out.trans (B5.mono B0.out.size));revert B5 XG BL;exact qQ.elim fun x=>x):P:=h ⟨q⟩
theorem Dh{P Q:Prop}(q:Q)(h:Nonempty Q->P:=by
 intro qQ;have EM:=jm7 hl B0.out;have dw:=hid hs;have HR:=hid hR;revert EM dw HR;exact qQ.elim fun x=>x):P:=h ⟨q⟩
theorem Xi (lv:Int) (i t d ti:ByteArray) (at_:At) (li:List aj) (ks:List ah) (vc vp vl vk:Value) (w:World) (hR:eT (·<w.heap.size) w at_ li ks vc vp vl vk) (hs:M9 i t at_ li) (hl:iF w ks vk) : Calls prog 80 #[.agg #[.int .i64 1,.int .i64 lv,.string i,.string t,.string d,.string ti,.string at_.id,vc,vp,vl,vk]] w (aQ w [aH nP [] (dV li)]):=by
 obtain ⟨ac,nc,cc,ap,np,cp,al,nl,cl,ak,nk,ck,S,W0,rfl,rfl,rfl,rfl,hS,hW0,e0,SX,dW,B0⟩:=uT (.int .i64 1) lv i t d ti hR hs;refine Dh ?_;intro EM dw HR;clear hR hs hl;go_enter func80,ntmps80;go_upto_region 3 with (fail)
 rw [<- hW0,<- hS];clear hW0 hS;have LC:=hid (dW.out W0 (Below.refl _ _));have g9:=(SX.out W0 (Below.refl _ _)).2.2.2.2.2.2.2.2.1;go_wp2_with fail
 (with_reducible refine LC.out.mono ?_)
 rintro e w4 ⟨bG,v4,rfl,hrow4⟩;obtain ⟨a4,n4,c4,rfl⟩:=hrow4.slice3;have b4:=hrow4.aO;have cZ:=hid (show Rd (W0.heap.size<=·) w4 (gH (dV li)) [.slice a4 n4 c4] from hrow4.cu);have EC:=hid (lY ⟨#[112]⟩ none a4 0 n4 0 c4 w4);have B4:=hid b4;clear b4 hrow4 LC g9;go_wp2_with fail
 (with_reducible refine EC.out.mono ?_)
 rintro e w5 ⟨rfl,b5⟩;refine Na ?_;clear b5;intro B5 XG BL;have XD:=hid (show Rd (w.heap.size<=·) w5 (aH nP [] (dV li)).d [.string ⟨#[112]⟩,.string ⟨#[]⟩,.slice none 0 0,.slice a4 n4 c4] from Nd.dJ ⟨#[112]⟩ ⟨#[]⟩ ⟨Rd.aD _ _ _,XG.out.weaken (fun b hb=>Nat.le_trans B0.out.size hb)⟩);exact Hl
theorem Sw{P Q:Prop}(q:Q)(h:Nonempty Q->P:=by
 intro qQ;rw [<- hW0,<- hS];have LC:=hid (EM.out W0 (Below.refl _ _));have g9:=(SX.out W0 (Below.refl _ _)).2.2.2.2.2.2.2.2.2;revert LC g9;exact qQ.elim fun x=>x):P:=h ⟨q⟩
theorem Xm (lv:Int) (i t d ti:ByteArray) (at_:At) (li:List aj) (ks:List ah) (vc vp vl vk:Value) (w:World) (hR:eT (·<w.heap.size) w at_ li ks vc vp vl vk) (hs:M9 i t at_ li) (hl:iF w ks vk) : Calls prog 80 #[.agg #[.int .i64 6,.int .i64 lv,.string i,.string t,.string d,.string ti,.string at_.id,vc,vp,vl,vk]] w (aQ w [aH rC [] (ah.aZ ks)]):=by
 obtain ⟨ac,nc,cc,ap,np,cp,al,nl,cl,ak,nk,ck,S,W0,rfl,rfl,rfl,rfl,hS,hW0,e0,SX,dW,B0⟩:=uT (.int .i64 6) lv i t d ti hR hs;refine Dh ?_;intro EM dw HR;clear hR hs hl;go_enter func80,ntmps80;go_upto_region 16 with (fail)
 refine Sw ?_;clear hW0 hS;intro LC g9;go_wp2_with fail
 (with_reducible refine LC.out.mono ?_)
 rintro e w4 ⟨bG,v4,rfl,hrow4⟩;obtain ⟨a4,n4,c4,rfl⟩:=hrow4.slice3;have b4:=hrow4.aO;refine Di ?_;intro cZ;have EC:=hid (lY ⟨#[98,108,111,99,107,113,117,111,116,101]⟩ none a4 0 n4 0 c4 w4);have B4:=hid b4;clear b4 hrow4 LC g9;go_wp2_with fail
 (with_reducible refine EC.out.mono ?_)
 rintro e w5 ⟨rfl,b5⟩;refine Na ?_;clear b5;intro B5 XG BL;have XD:=hid (show Rd (w.heap.size<=·) w5 (aH rC [] (ah.aZ ks)).d [.string ⟨#[98,108,111,99,107,113,117,111,116,101]⟩,.string ⟨#[]⟩,.slice none 0 0,.slice a4 n4 c4] from Nd.dJ ⟨#[98,108,111,99,107,113,117,111,116,101]⟩ ⟨#[]⟩ ⟨Rd.aD _ _ _,XG.out.weaken (fun b hb=>Nat.le_trans B0.out.size hb)⟩);exact Hl
theorem Xn (lv:Int) (i t d ti:ByteArray) (at_:At) (li:List aj) (ks:List ah) (vc vp vl vk:Value) (w:World) (hR:eT (·<w.heap.size) w at_ li ks vc vp vl vk) (hs:M9 i t at_ li) (hl:iF w ks vk) : Calls prog 80 #[.agg #[.int .i64 7,.int .i64 lv,.string i,.string t,.string d,.string ti,.string at_.id,vc,vp,vl,vk]] w (aQ w [aH nUl [] (ah.aZ ks)]):=by
 obtain ⟨ac,nc,cc,ap,np,cp,al,nl,cl,ak,nk,ck,S,W0,rfl,rfl,rfl,rfl,hS,hW0,e0,SX,dW,B0⟩:=uT (.int .i64 7) lv i t d ti hR hs;refine Dh ?_;intro EM dw HR;clear hR hs hl;go_enter func80,ntmps80;go_upto_region 18 with (fail)
 refine Sw ?_;clear hW0 hS;intro LC g9;go_wp2_with fail
 (with_reducible refine LC.out.mono ?_)
 rintro e w4 ⟨bG,v4,rfl,hrow4⟩;obtain ⟨a4,n4,c4,rfl⟩:=hrow4.slice3;have b4:=hrow4.aO;refine Di ?_;intro cZ;have EC:=hid (lY ⟨#[117,108]⟩ none a4 0 n4 0 c4 w4);have B4:=hid b4;clear b4 hrow4 LC g9;go_wp2_with fail
 (with_reducible refine EC.out.mono ?_)
 rintro e w5 ⟨rfl,b5⟩;refine Na ?_;clear b5;intro B5 XG BL;have XD:=hid (show Rd (w.heap.size<=·) w5 (aH nUl [] (ah.aZ ks)).d [.string ⟨#[117,108]⟩,.string ⟨#[]⟩,.slice none 0 0,.slice a4 n4 c4] from Nd.dJ ⟨#[117,108]⟩ ⟨#[]⟩ ⟨Rd.aD _ _ _,XG.out.weaken (fun b hb=>Nat.le_trans B0.out.size hb)⟩);exact Hl
theorem Xp (lv:Int) (i t d ti:ByteArray) (at_:At) (li:List aj) (ks:List ah) (vc vp vl vk:Value) (w:World) (hR:eT (·<w.heap.size) w at_ li ks vc vp vl vk) (hs:M9 i t at_ li) (hl:iF w ks vk) : Calls prog 80 #[.agg #[.int .i64 9,.int .i64 lv,.string i,.string t,.string d,.string ti,.string at_.id,vc,vp,vl,vk]] w (aQ w [aH nLi [] (ah.aZ ks)]):=by
 obtain ⟨ac,nc,cc,ap,np,cp,al,nl,cl,ak,nk,ck,S,W0,rfl,rfl,rfl,rfl,hS,hW0,e0,SX,dW,B0⟩:=uT (.int .i64 9) lv i t d ti hR hs;refine Dh ?_;intro EM dw HR;clear hR hs hl;go_enter func80,ntmps80;go_upto_region 25 with (fail)
 refine Sw ?_;clear hW0 hS;intro LC g9;go_wp2_with fail
 (with_reducible refine LC.out.mono ?_)
 rintro e w4 ⟨bG,v4,rfl,hrow4⟩;obtain ⟨a4,n4,c4,rfl⟩:=hrow4.slice3;have b4:=hrow4.aO;refine Di ?_;intro cZ;have EC:=hid (lY ⟨#[108,105]⟩ none a4 0 n4 0 c4 w4);have B4:=hid b4;clear b4 hrow4 LC g9;go_wp2_with fail
 (with_reducible refine EC.out.mono ?_)
 rintro e w5 ⟨rfl,b5⟩;refine Na ?_;clear b5;intro B5 XG BL;have XD:=hid (show Rd (w.heap.size<=·) w5 (aH nLi [] (ah.aZ ks)).d [.string ⟨#[108,105]⟩,.string ⟨#[]⟩,.slice none 0 0,.slice a4 n4 c4] from Nd.dJ ⟨#[108,105]⟩ ⟨#[]⟩ ⟨Rd.aD _ _ _,XG.out.weaken (fun b hb=>Nat.le_trans B0.out.size hb)⟩);exact Hl
theorem Xl (lv:Int) (i t d ti:ByteArray) (at_:At) (li:List aj) (ks:List ah) (vc vp vl vk:Value) (w:World) (hR:eT (·<w.heap.size) w at_ li ks vc vp vl vk) (hs:M9 i t at_ li) (hl:iF w ks vk) : Calls prog 80 #[.agg #[.int .i64 5,.int .i64 lv,.string i,.string t,.string d,.string ti,.string at_.id,vc,vp,vl,vk]] w (aQ w [aH nHr [] []]):=by
 obtain ⟨ac,nc,cc,ap,np,cp,al,nl,cl,ak,nk,ck,S,W0,rfl,rfl,rfl,rfl,hS,hW0,e0,SX,dW,B0⟩:=uT (.int .i64 5) lv i t d ti hR hs;refine Dh ?_;intro EM dw HR;clear hR hs hl;go_enter func80,ntmps80;go_upto_region 14 with (fail)
 rw [<- hW0,<- hS];clear hW0 hS;have EC:=hid (lY ⟨#[104,114]⟩ none none 0 0 0 0 W0);go_wp2_with fail
 (with_reducible refine EC.out.mono ?_)
 rintro e w5 ⟨rfl,b5⟩;have B5:=b5;clear b5;have BL:=hid (B0.out.trans (B5.mono B0.out.size));have XD:=hid (show Rd (w.heap.size<=·) w5 (aH nHr [] []).d [.string ⟨#[104,114]⟩,.string ⟨#[]⟩,.slice none 0 0,.slice none 0 0] from Nd.dJ ⟨#[104,114]⟩ ⟨#[]⟩ ⟨Rd.aD _ _ _,Rd.aD _ _ _⟩);exact Hl
theorem Dj{P Q:Prop}(q:Q)(h:Nonempty Q->P:=by
 intro qQ;have b0:Below w.heap.size w W0:=by rw [hW0];exact (Below.refl _ _).alloc (Nat.le_refl _) _
 have SX:=Sv k0;have e0:=k0.cell 0 _ rfl;have EM:Hid (∀ W:World,Below W0.heap.size W0 W->Calls prog 46 #[.slice ak nk ck] W (aQ W (ah.aZ ks))):=fun W hW=>hl W (b0.trans (hW.mono b0.size))
 have dW:Hid (∀ W:World,Below W0.heap.size W0 W->Calls prog 105 #[.slice al nl cl] W (aQ W (dV li))):=fun W hW=>by
  have hb:=b0.trans (hW.mono b0.size);exact q35 900000 li _ W hs.li.sz (by decide) (Rd.keep (w:=w) (w':=W) (ok:=(·<w.heap.size)) (fun b (hb':b<w.heap.size) hlt=>⟨by show b<W.heap.size;have:=hb.size;omega,hb.block b hb'⟩) _ _ hR.line) hs.li.sm hs.li.cf
 revert b0 SX e0 EM dW;exact qQ.elim fun x=>x):P:=h ⟨q⟩
theorem zk{P:Prop}(h:P:=by
 go_simp;refine hK.out _ _ (fun h=>absurd rfl h) (fun _=>?_);clear hK KQ hH;refine OQ (by kernel_rfl) ?_ _;go_wp2;go_ret;exact ⟨_,_,rfl,HF.out⟩):P:=h
theorem Sy{P Q:Prop}(q:Q)(h:Nonempty Q->P:=by
 intro qQ;refine fq 0 rfl (by kernel_rfl) hH (by rfl) (by intro wv hSw;obtain ⟨e1,e2,e3,e4,e5,e6,e7,e8,e9,e10⟩:=SX.out wv hSw;go_simp;try with_reducible rfl) ?_;exact qQ.elim fun x=>x):P:=h ⟨q⟩
theorem Sz{P Q:Prop}(q:Q)(h:Nonempty Q->P:=by
 intro qQ;refine fq 3 rfl (by kernel_rfl) hH (by rfl) (by intro wv hSw;obtain ⟨e1,e2,e3,e4,e5,e6,e7,e8,e9,e10⟩:=SX.out wv hSw;go_simp;try with_reducible rfl) ?_;exact qQ.elim fun x=>x):P:=h ⟨q⟩
theorem SE{P Q:Prop}(q:Q)(h:Nonempty Q->P:=by
 intro qQ;rw [<- hy0];have o9:Below W0.heap.size W0 y0:=hH;have hat:AtR (·<y0.heap.size) y0 at_ (.slice ac nc cc) (.slice ap np cp):=by
  have hb:Below w.heap.size w y0:=B0.out.trans (o9.mono B0.out.size);have hst:sP (·<w.heap.size) (·<y0.heap.size) w y0:=fun b (hb':b<w.heap.size) hlt=>⟨by show b<y0.heap.size;have:=hb.size;omega,hb.block b hb'⟩
  exact ⟨Rd.keep hst _ _ HR.out.at_.cls,Rd.keep hst _ _ HR.out.at_.aF⟩
 revert o9 hat;exact qQ.elim fun x=>x):P:=h ⟨q⟩
theorem SG{P Q:Prop}(q:Q)(h:Nonempty Q->P:=by
 intro qQ;have B4:Below W0.heap.size W0 w4:=B1.trans (hrow4.aO.mono B1.size);have Dk:=hid (Ku.out.aX hrow4.aO);have cZ:=hid (show Rd (W0.heap.size<=·) w4 (gH (ah.aZ ks)) [.slice a4 n4 c4] from hrow4.cu.weaken (fun b hb=>Nat.le_trans B1.size hb));refine hK.out _ _ (fun _ _=>B4) (fun hH2=>?_);revert B4 Dk cZ hH2;exact qQ.elim fun x=>x):P:=h ⟨q⟩
theorem Ho{P Q:Prop}(q:Q)(h:Nonempty Q->P:=by
 intro qQ;have B5:Below W0.heap.size W0 w5:=B4.trans (b5.mono B4.size);have BL:=hid (B0.out.trans (B5.mono B0.out.size));revert B5 BL;exact qQ.elim fun x=>x):P:=h ⟨q⟩
theorem zl{P Q:Prop}(q:Q)(h:Nonempty Q->P:=by
 intro qQ;have HF:=hid (aG.Kc BL.out XD.out);refine hK.out _ _ (fun _ _=>B5) (fun hH2=>?_);revert HF hH2;exact qQ.elim fun x=>x):P:=h ⟨q⟩
theorem SH{P Q:Prop}(q:Q)(h:Nonempty Q->P:=by
 intro qQ;refine fq 1 rfl (by kernel_rfl) hH (by rfl) (by intro wv hSw;obtain ⟨e1,e2,e3,e4,e5,e6,e7,e8,e9,e10⟩:=SX.out wv hSw;go_simp;try with_reducible rfl) ?_;exact qQ.elim fun x=>x):P:=h ⟨q⟩
theorem CF{P Q:Prop}(q:Q)(h:Nonempty Q->P:=by
 intro qQ;refine eF (i:=9) rfl (by kernel_rfl) (fun KQ hK=>?_);go_simp;revert KQ hK;exact qQ.elim fun x=>x):P:=h ⟨q⟩
theorem zm{P Q:Prop}(q:Q)(h:Nonempty Q->P:=by
 intro qQ;have B1:Below W0.heap.size W0 y1:=o9.trans (hrow2.aO.mono o9.size);revert B1;exact qQ.elim fun x=>x):P:=h ⟨q⟩
theorem jaz{P Q:Prop}(q:Q)(h:Nonempty Q->P:=by
 intro qQ;refine fq 5 rfl (by kernel_rfl) hH (by rfl) (by intro wv hSw;obtain ⟨e1,e2,e3,e4,e5,e6,e7,e8,e9,e10⟩:=SX.out wv hSw;go_simp;try with_reducible rfl) ?_;exact qQ.elim fun x=>x):P:=h ⟨q⟩
theorem Hq{P Q:Prop}(q:Q)(h:Nonempty Q->P:=by
 intro qQ;refine eF (i:=4) rfl (by kernel_rfl) (fun KQ hK=>?_);go_simp;revert KQ hK;exact qQ.elim fun x=>x):P:=h ⟨q⟩
theorem RX (lv:Int) (i t d ti:ByteArray) (at_:At) (li:List aj) (ks:List ah) (vc vp vl vk:Value) (w:World) (hR:eT (·<w.heap.size) w at_ li ks vc vp vl vk) (hs:M9 i t at_ li) (hl:iF w ks vk) (hne:bq i=false) : Calls prog 80 #[.agg #[.int .i64 13,.int .i64 lv,.string i,.string t,.string d,.string ti,.string at_.id,vc,vp,vl,vk]] w (aQ w [aH jW (eX at_ [i]) (ah.aZ ks)]):=by
 obtain ⟨ac,nc,cc,rfl⟩:=Rd.au hR.at_.cls
 obtain ⟨ap,np,cp,rfl⟩:=Rd.au hR.at_.aF
 obtain ⟨al,nl,cl,rfl⟩:=Rd.au hR.line;obtain ⟨ak,nk,ck,rfl⟩:=Rd.au hR.kids;obtain ⟨S,hS⟩:∃ S,S=w.heap.size:=⟨_,rfl⟩;obtain ⟨W0,hW0⟩:∃ W0,W0=w.alloc (.cells #[.int .i64 13,.int .i64 lv,.string i,.string t,.string d,.string ti,.string at_.id,.slice ac nc cc,.slice ap np cp,.slice al nl cl,.slice ak nk ck] 51):=⟨_,rfl⟩;have k0:CB 51 S [.int .i64 13,.int .i64 lv,.string i,.string t,.string d,.string ti,.string at_.id,.slice ac nc cc,.slice ap np cp,.slice al nl cl,.slice ak nk ck] W0:=by rw [hW0,hS];exact CB.new _ _ w
 refine Dj ?_;intro b0 SX e0 EM dW;have HNE:=hid hne;have dw:=hid hs;clear hne;have B0:=hid b0;have HR:=hid hR;clear hR hs hl k0 b0;go_enter func80,ntmps80;go_upto_region 29 with (fail)
 rw [<- hW0,<- hS];clear hW0 hS;refine Jv 10 (fun w'=>Below W0.heap.size W0 w') (by kernel_rfl) (Below.refl _ _).drew ?_;intro hH;refine Sy ?_;refine SH ?_;refine fq 2 rfl (by kernel_rfl) hH (by rfl) (by intro wv hSw;obtain ⟨e1,e2,e3,e4,e5,e6,e7,e8,e9,e10⟩:=SX.out wv hSw;go_simp;try with_reducible rfl) ?_;refine Sz ?_;refine jaz ?_;refine fq 6 rfl (by kernel_rfl) hH (by rfl) (by intro wv hSw;obtain ⟨e1,e2,e3,e4,e5,e6,e7,e8,e9,e10⟩:=SX.out wv hSw;go_simp;try with_reducible rfl) ?_;obtain ⟨y0,hy0⟩:∃ y0,y0=W0.drew:=⟨_,rfl⟩;rw [<- hy0] at hH;refine SE ?_;clear hy0;intro o9 hat;have AC:Hid (Calls prog 107 #[.agg #[.string at_.id,.slice ac nc cc,.slice ap np cp],.string i] y0 (aW y0 (eX at_ [i]))):=by
  have h:=jF at_ i (.slice ac nc cc) (.slice ap np cp) y0 hat (by have:=dw.out.sh;unfold At.short at this;omega) (fun c hc=>by have:=dw.out.sh;unfold At.short at this;have:=this.2.2.2.1 c hc;omega) (by have:=dw.out.i;omega) dw.out.cf
  rw [if_neg (by rw [HNE.out];simp)] at h;exact h
 refine Hq ?_;intro KQ hK;go_at_call 107
 (with_reducible refine AC.out.mono ?_)
 rintro e y1 ⟨bD,v2,rfl,hrow2⟩;obtain ⟨a2,m2,c2,rfl⟩:=hrow2.slice3;refine zm ?_;intro B1;have Ku:=hid (show Rd (W0.heap.size<=·) y1 (fJ (eX at_ [i])) [.slice a2 m2 c2] from hrow2.cu.weaken (fun b hb=>Nat.le_trans o9.size hb));have LC:=hid (EM.out y1 B1);clear hrow2 hat AC;refine hK.out _ _ (fun _ _=>B1) (fun hH2=>?_);clear hK KQ hH;refine aN ?_;clear hH2;intro hH;refine eF (i:=7) rfl (by kernel_rfl) (fun KQ hK=>?_);go_simp;go_at_call 46
 (with_reducible refine LC.out.mono ?_)
 rintro e w4 ⟨bG,v4,rfl,hrow4⟩;obtain ⟨a4,n4,c4,rfl⟩:=hrow4.slice3;refine SG ?_;clear hrow4 LC;intro B4 Dk cZ hH2;clear hK KQ hH;refine aN ?_;clear hH2;intro hH;refine eF (i:=8) rfl (by kernel_rfl) (fun KQ hK=>?_);go_simp;go_at_call 48
 (with_reducible refine (lY ⟨#[100,105,118]⟩ a2 a4 m2 n4 c2 c4 w4).mono ?_)
 rintro e w5 ⟨rfl,b5⟩;refine Ho ?_;intro B5 BL;have XD:=hid (show Rd (w.heap.size<=·) w5 (aH jW (eX at_ [i]) (ah.aZ ks)).d [.string ⟨#[100,105,118]⟩,.string ⟨#[]⟩,.slice a2 m2 c2,.slice a4 n4 c4] from (Nd.dJ ⟨#[100,105,118]⟩ ⟨#[]⟩ ⟨Dk.out.aX b5,cZ.out.aX b5⟩).weaken (fun b hb=>Nat.le_trans B0.out.size hb));refine zl ?_;clear b5;intro HF hH2;clear hK KQ hH;refine aN ?_;clear hH2;intro hH;refine CF ?_;intro KQ hK;refine hK.out _ _ (fun _ _=>B5.alloc B5.size _) (fun hH2=>?_);clear hK KQ hH;refine aN ?_;clear hH2;intro hH;refine eF (i:=10) rfl (by kernel_rfl) (fun KQ hK=>?_);exact zk
theorem SI{P Q:Prop}(q:Q)(h:Nonempty Q->P:=by
 intro qQ;have B4:Below W0.heap.size W0 w4:=B1.trans (hrow4.aO.mono B1.size);have Dk:=hid (Ku.out.aX hrow4.aO);have cZ:=hid (show Rd (W0.heap.size<=·) w4 (gH (bK t)) [.slice a4 n4 c4] from hrow4.cu.weaken (fun b hb=>Nat.le_trans B1.size hb));refine hK.out _ _ (fun _ _=>B4) (fun hH2=>?_);revert B4 Dk cZ hH2;exact qQ.elim fun x=>x):P:=h ⟨q⟩
theorem Nb{P Q:Prop}(q:Q)(h:Nonempty Q->P:=by
 intro qQ;go_simp;refine hK.out _ _ (fun _ _=>B5.alloc B5.size _) (fun hH2=>?_);revert hH2;exact qQ.elim fun x=>x):P:=h ⟨q⟩
theorem jb0{P Q:Prop}(q:Q)(h:Nonempty Q->P:=by
 intro qQ;refine fq 4 rfl (by kernel_rfl) hH (by rfl) (by intro wv hSw;obtain ⟨e1,e2,e3,e4,e5,e6,e7,e8,e9,e10⟩:=SX.out wv hSw;go_simp;try with_reducible rfl) ?_;exact qQ.elim fun x=>x):P:=h ⟨q⟩
theorem Xk (lv:Int) (i t d ti:ByteArray) (at_:At) (li:List aj) (ks:List ah) (vc vp vl vk:Value) (w:World) (hR:eT (·<w.heap.size) w at_ li ks vc vp vl vk) (hs:M9 i t at_ li) (hl:iF w ks vk) : Calls prog 80 #[.agg #[.int .i64 4,.int .i64 lv,.string i,.string t,.string d,.string ti,.string at_.id,vc,vp,vl,vk]] w (aQ w [aH jW (eX at_ [⟨#[109,97,116,104]⟩]) (bK t)]):=by
 obtain ⟨ac,nc,cc,ap,np,cp,al,nl,cl,ak,nk,ck,S,W0,rfl,rfl,rfl,rfl,hS,hW0,e0,SX,dW,B0⟩:=uT (.int .i64 4) lv i t d ti hR hs;refine Dh ?_;intro EM dw HR;clear hR hs hl;go_enter func80,ntmps80;go_upto_region 12 with (fail)
 rw [<- hW0,<- hS];clear hW0 hS;refine Jv 8 (fun w'=>Below W0.heap.size W0 w') (by kernel_rfl) (Below.refl _ _).drew ?_;intro hH;refine Sy ?_;refine SH ?_;refine Sz ?_;refine jb0 ?_;obtain ⟨y0,hy0⟩:∃ y0,y0=W0.drew:=⟨_,rfl⟩;rw [<- hy0] at hH;refine SE ?_;clear hy0;intro o9 hat;have AC:Hid (Calls prog 107 #[.agg #[.string at_.id,.slice ac nc cc,.slice ap np cp],.string ⟨#[109,97,116,104]⟩] y0 (aW y0 (eX at_ [⟨#[109,97,116,104]⟩]))):=by
  have h:=jF at_ ⟨#[109,97,116,104]⟩ (.slice ac nc cc) (.slice ap np cp) y0 hat (by have:=dw.out.sh;unfold At.short at this;omega) (fun c hc=>by have:=dw.out.sh;unfold At.short at this;have:=this.2.2.2.1 c hc;omega) (by have:=dw.out.i;decide) dw.out.cf
  rw [if_neg (by decide)] at h;exact h
 refine eF (i:=2) rfl (by kernel_rfl) (fun KQ hK=>?_);go_simp;go_at_call 107
 (with_reducible refine AC.out.mono ?_)
 rintro e y1 ⟨bD,v2,rfl,hrow2⟩;obtain ⟨a2,m2,c2,rfl⟩:=hrow2.slice3;refine zm ?_;intro B1;have Ku:=hid (show Rd (W0.heap.size<=·) y1 (fJ (eX at_ [⟨#[109,97,116,104]⟩])) [.slice a2 m2 c2] from hrow2.cu.weaken (fun b hb=>Nat.le_trans o9.size hb));have LC:=hid (WI t y1);clear hrow2 hat AC;refine hK.out _ _ (fun _ _=>B1) (fun hH2=>?_);clear hK KQ hH;refine aN ?_;clear hH2;intro hH;refine zh ?_;intro KQ hK;go_at_call 50
 (with_reducible refine LC.out.mono ?_)
 rintro e w4 ⟨bG,v4,rfl,hrow4⟩;obtain ⟨a4,n4,c4,rfl⟩:=hrow4.slice3;refine SI ?_;clear hrow4 LC;intro B4 Dk cZ hH2;clear hK KQ hH;refine aN ?_;clear hH2;intro hH;refine mP ?_;intro KQ hK;go_at_call 48
 (with_reducible refine (lY ⟨#[100,105,118]⟩ a2 a4 m2 n4 c2 c4 w4).mono ?_)
 rintro e w5 ⟨rfl,b5⟩;refine Ho ?_;intro B5 BL;have XD:=hid (show Rd (w.heap.size<=·) w5 (aH jW (eX at_ [⟨#[109,97,116,104]⟩]) (bK t)).d [.string ⟨#[100,105,118]⟩,.string ⟨#[]⟩,.slice a2 m2 c2,.slice a4 n4 c4] from (Nd.dJ ⟨#[100,105,118]⟩ ⟨#[]⟩ ⟨Dk.out.aX b5,cZ.out.aX b5⟩).weaken (fun b hb=>Nat.le_trans B0.out.size hb));refine zl ?_;clear b5;intro HF hH2;clear hK KQ hH;refine aN ?_;clear hH2;intro hH;refine eF (i:=7) rfl (by kernel_rfl) (fun KQ hK=>?_);refine Nb ?_;intro hH2;clear hK KQ hH;refine aN ?_;clear hH2;intro hH;refine eF (i:=8) rfl (by kernel_rfl) (fun KQ hK=>?_);exact zk
theorem Xj (lv:Int) (i t d ti:ByteArray) (at_:At) (li:List aj) (ks:List ah) (vc vp vl vk:Value) (w:World) (hR:eT (·<w.heap.size) w at_ li ks vc vp vl vk) (hs:M9 i t at_ li) (hl:iF w ks vk) (n:Nat) (hv:lv=(n:Int)) (hn:n<=999999999) : Calls prog 80 #[.agg #[.int .i64 2,.int .i64 lv,.string i,.string t,.string d,.string ti,.string at_.id,vc,vp,vl,vk]] w (aQ w [aH (⟨#[104]⟩++q2z n) (eX at_ []) (dV li)]):=by
 obtain ⟨ac,nc,cc,rfl⟩:=Rd.au hR.at_.cls
 obtain ⟨ap,np,cp,rfl⟩:=Rd.au hR.at_.aF
 obtain ⟨al,nl,cl,rfl⟩:=Rd.au hR.line;obtain ⟨ak,nk,ck,rfl⟩:=Rd.au hR.kids;obtain ⟨S,hS⟩:∃ S,S=w.heap.size:=⟨_,rfl⟩;obtain ⟨W0,hW0⟩:∃ W0,W0=w.alloc (.cells #[.int .i64 2,.int .i64 lv,.string i,.string t,.string d,.string ti,.string at_.id,.slice ac nc cc,.slice ap np cp,.slice al nl cl,.slice ak nk ck] 51):=⟨_,rfl⟩;have k0:CB 51 S [.int .i64 2,.int .i64 lv,.string i,.string t,.string d,.string ti,.string at_.id,.slice ac nc cc,.slice ap np cp,.slice al nl cl,.slice ak nk ck] W0:=by rw [hW0,hS];exact CB.new _ _ w
 refine Dj ?_;intro b0 SX e0 EM dW;have dw:=hid hs;have B0:=hid b0;have HR:=hid hR;obtain rfl:=hv;refine jb1 ?_;intro q5 q6;clear hR hs hl k0 b0;go_enter func80,ntmps80;go_upto_region 5 with (fail)
 rw [<- hW0,<- hS];clear hW0 hS;refine Jv 12 (fun w'=>Below W0.heap.size W0 w') (by kernel_rfl) (Below.refl _ _).drew ?_;intro hH;refine Sy ?_;refine SH ?_;refine jb0 ?_;refine jaz ?_;refine fq 7 rfl (by kernel_rfl) hH (by rfl) (by intro wv hSw;obtain ⟨e1,e2,e3,e4,e5,e6,e7,e8,e9,e10⟩:=SX.out wv hSw;go_simp;try with_reducible rfl) ?_;refine fq 8 rfl (by kernel_rfl) hH (by rfl) (by intro wv hSw;obtain ⟨e1,e2,e3,e4,e5,e6,e7,e8,e9,e10⟩:=SX.out wv hSw;go_simp;try with_reducible rfl) ?_;obtain ⟨y0,hy0⟩:∃ y0,y0=W0.drew:=⟨_,rfl⟩;rw [<- hy0] at hH;refine SE ?_;clear hy0;intro o9 hat;have AC:Hid (Calls prog 107 #[.agg #[.string at_.id,.slice ac nc cc,.slice ap np cp],.string ⟨#[]⟩] y0 (aW y0 (eX at_ []))):=by
  have h:=jF at_ ⟨#[]⟩ (.slice ac nc cc) (.slice ap np cp) y0 hat (by have:=dw.out.sh;unfold At.short at this;omega) (fun c hc=>by have:=dw.out.sh;unfold At.short at this;have:=this.2.2.2.1 c hc;omega) (by decide) dw.out.cf
  rw [if_pos (by decide)] at h;exact h
 clear hat;refine eF (i:=2) rfl (by kernel_rfl) (fun KQ hK=>?_);go_simp;go_at_call 106
 (with_reducible refine (zn n y0 hn).mono ?_)
 rintro e y1 ⟨rfl,hy1⟩;rw [hy1];clear hy1 y1;refine hK.out _ _ (fun _ _=>o9) (fun hH2=>?_);clear hK KQ hH;refine aN ?_;clear hH2;intro hH;have hadd:∀ w:World,(Op.stringOp .add (⟨#[104]⟩:ByteArray) (q2z n)).run prog w=.ok (.string (⟨#[104]⟩++q2z n)) w:=fun w=>run_string_add_sum w _ _ q5
 refine Sz ?_;refine mP ?_;intro KQ hK;go_at_call 107
 (with_reducible refine (AC.out).mono ?_)
 rintro e y1 ⟨bD,v2,rfl,hrow2⟩;obtain ⟨a2,m2,c2,rfl⟩:=hrow2.slice3;refine zm ?_;intro B1;have Ku:=hid (show Rd (W0.heap.size<=·) y1 (fJ (eX at_ [])) [.slice a2 m2 c2] from hrow2.cu.weaken (fun b hb=>Nat.le_trans o9.size hb));have LC:=hid (dW.out y1 B1);clear hrow2 AC;refine hK.out _ _ (fun _ _=>B1) (fun hH2=>?_);clear hK KQ hH;refine aN ?_;clear hH2;intro hH;refine CF ?_;intro KQ hK;go_at_call 105
 (with_reducible refine (LC.out).mono ?_)
 rintro e w4 ⟨bG,v4,rfl,hrow4⟩;obtain ⟨a4,n4,c4,rfl⟩:=hrow4.slice3;have B4:Below W0.heap.size W0 w4:=B1.trans (hrow4.aO.mono B1.size);have Dk:=hid (Ku.out.aX hrow4.aO);have cZ:=hid (show Rd (W0.heap.size<=·) w4 (gH (dV li)) [.slice a4 n4 c4] from hrow4.cu.weaken (fun b hb=>Nat.le_trans B1.size hb));clear hrow4 LC;refine hK.out _ _ (fun _ _=>B4) (fun hH2=>?_);clear hK KQ hH;refine aN ?_;clear hH2;intro hH;refine eF (i:=10) rfl (by kernel_rfl) (fun KQ hK=>?_);go_simp;go_at_call 48
 (with_reducible refine (lY ((⟨#[104]⟩:ByteArray)++q2z n) a2 a4 m2 n4 c2 c4 w4).mono ?_)
 rintro e w5 ⟨rfl,b5⟩;refine Ho ?_;intro B5 BL;have XD:=hid (show Rd (w.heap.size<=·) w5 (aH ((⟨#[104]⟩:ByteArray)++q2z n) (eX at_ []) (dV li)).d [.string ((⟨#[104]⟩:ByteArray)++q2z n),.string ⟨#[]⟩,.slice a2 m2 c2,.slice a4 n4 c4] from (Nd.dJ ((⟨#[104]⟩:ByteArray)++q2z n) ⟨#[]⟩ ⟨Dk.out.aX b5,cZ.out.aX b5⟩).weaken (fun b hb=>Nat.le_trans B0.out.size hb));refine zl ?_;clear b5;intro HF hH2;clear hK KQ hH;refine aN ?_;clear hH2;intro hH;refine eF (i:=11) rfl (by kernel_rfl) (fun KQ hK=>?_);refine Nb ?_;intro hH2;clear hK KQ hH;refine aN ?_;clear hH2;intro hH;refine eF (i:=12) rfl (by kernel_rfl) (fun KQ hK=>?_);exact zk
theorem Nc{P Q:Prop}(q:Q)(h:Nonempty Q->P:=by
 intro qQ;intro hH;refine fq 0 rfl (by kernel_rfl) hH (by rfl) (by intro wv hSw;obtain ⟨e1,e2,e3,e4,e5,e6,e7,e8,e9,e10⟩:=SX.out wv hSw;go_simp;try with_reducible rfl) ?_;refine fq 2 rfl (by kernel_rfl) hH (by rfl) (by intro wv hSw;obtain ⟨e1,e2,e3,e4,e5,e6,e7,e8,e9,e10⟩:=SX.out wv hSw;go_simp;try with_reducible rfl) ?_;refine fq 3 rfl (by kernel_rfl) hH (by rfl) (by intro wv hSw;obtain ⟨e1,e2,e3,e4,e5,e6,e7,e8,e9,e10⟩:=SX.out wv hSw;go_simp;try with_reducible rfl) ?_;obtain ⟨y0,hy0⟩:∃ y0,y0=W0.drew:=⟨_,rfl⟩;revert hH y0 hy0;exact qQ.elim fun x=>x):P:=h ⟨q⟩
theorem jb2{P Q:Prop}(q:Q)(h:Nonempty Q->P:=by
 intro qQ;obtain ⟨S,hS⟩:∃ S,S=w.heap.size:=⟨_,rfl⟩;obtain ⟨W0,hW0⟩:∃ W0,W0=w.alloc (.cells #[.int .i64 3,.int .i64 lv,.string i,.string t,.string d,.string ti,.string at_.id,.slice ac nc cc,.slice ap np cp,.slice al nl cl,.slice ak nk ck] 51):=⟨_,rfl⟩;have k0:CB 51 S [.int .i64 3,.int .i64 lv,.string i,.string t,.string d,.string ti,.string at_.id,.slice ac nc cc,.slice ap np cp,.slice al nl cl,.slice ak nk ck] W0:=by rw [hW0,hS];exact CB.new _ _ w
 revert S hS W0 hW0 k0;exact qQ.elim fun x=>x):P:=h ⟨q⟩
theorem Nf{P Q:Prop}(q:Q)(h:Nonempty Q->P:=by
 intro qQ;refine eF (i:=1) rfl (by kernel_rfl) (fun KQ hK=>?_);go_simp;go_at_call 49
 (with_reducible refine (SC.out).mono ?_)
 revert KQ hK;exact qQ.elim fun x=>x):P:=h ⟨q⟩
theorem jb3{P Q:Prop}(q:Q)(h:Nonempty Q->P:=by
 intro qQ;obtain ⟨w7,hw7⟩:∃ w7,w7=w6.alloc (.cells #[.string ⟨#[99,111,100,101]⟩,.string ⟨#[]⟩,.slice a2 m2 c2,.slice a4 n4 c4] 30):=⟨_,rfl⟩;obtain ⟨p7,SK⟩:∃ p7,p7=w6.heap.size:=⟨_,rfl⟩;have R7:=HF6.out;rw [<- hw7,<- SK] at R7;rw [<- hw7,<- SK];have B7:Below W0.heap.size W0 w7:=R7.aO;revert w7 hw7 p7 SK R7 B7;exact qQ.elim fun x=>x):P:=h ⟨q⟩
theorem jb4{P Q:Prop}(q:Q)(h:Nonempty Q->P:=by
 intro qQ;refine eF (i:=7) rfl (by kernel_rfl) (fun KQ hK=>?_);go_simp;go_at_call 48
 (with_reducible refine (lY ⟨#[112,114,101]⟩ none (some ⟨p7,0,none⟩) 0 1 0 1 w7).mono ?_)
 revert KQ hK;exact qQ.elim fun x=>x):P:=h ⟨q⟩
theorem RO (lv:Int) (i t d ti:ByteArray) (at_:At) (li:List aj) (ks:List ah) (vc vp vl vk:Value) (w:World) (hR:eT (·<w.heap.size) w at_ li ks vc vp vl vk) (hs:M9 i t at_ li) (hl:iF w ks vk) (hi:bq i=true) : Calls prog 80 #[.agg #[.int .i64 3,.int .i64 lv,.string i,.string t,.string d,.string ti,.string at_.id,vc,vp,vl,vk]] w (aQ w [aH Hr [] [aH dO (cO dD ⟨#[]⟩) (bK t)]]):=by
 obtain ⟨ac,nc,cc,rfl⟩:=Rd.au hR.at_.cls
 obtain ⟨ap,np,cp,rfl⟩:=Rd.au hR.at_.aF
 obtain ⟨al,nl,cl,rfl⟩:=Rd.au hR.line;obtain ⟨ak,nk,ck,rfl⟩:=Rd.au hR.kids;refine jb2 ?_;intro S hS W0 hW0 k0;refine Dj ?_;intro b0 SX e0 EM dW;have dw:=hid hs;have B0:=hid b0;have HR:=hid hR;have WJ:i.toList.isEmpty=true:=by exact Ng
 clear hi;clear hR hs hl k0 b0;go_enter func80,ntmps80;go_upto_region 8 with (fail)
 rw [<- hW0,<- hS];clear hW0 hS;have e2:=(SX.out W0 (Below.refl _ _)).2.1;go_upto_region 10 with (fail)
 clear e2;refine Jv 9 (fun w'=>Below W0.heap.size W0 w') (by kernel_rfl) (Below.refl _ _).drew ?_;refine Nc ?_;intro hH y0 hy0;rw [<- hy0] at hH;rw [<- hy0];clear hy0;have o9:Below W0.heap.size W0 y0:=hH;have SC:=hid (q24 ⟨#[99,108,97,115,115]⟩ ⟨#[]⟩ y0);refine Nf ?_;intro KQ hK;rintro e y1 ⟨bD,v2,rfl,hrow2⟩;obtain ⟨a2,m2,c2,rfl⟩:=hrow2.slice3;refine zm ?_;intro B1;have Ku:=hid (show Rd (W0.heap.size<=·) y1 (fJ (cO dD ⟨#[]⟩)) [.slice a2 m2 c2] from hrow2.cu.weaken (fun b hb=>Nat.le_trans o9.size hb));clear hrow2 SC;have LC:=hid (WI t y1);refine hK.out _ _ (fun _ _=>B1) (fun hH2=>?_);clear hK KQ hH;refine aN ?_;clear hH2;intro hH;refine Hq ?_;intro KQ hK;go_at_call 50
 (with_reducible refine (LC.out).mono ?_)
 rintro e w4 ⟨bG,v4,rfl,hrow4⟩;obtain ⟨a4,n4,c4,rfl⟩:=hrow4.slice3;refine SI ?_;clear hrow4 LC;intro B4 Dk cZ hH2;clear hK KQ hH;refine aN ?_;clear hH2;intro hH;refine zh ?_;intro KQ hK;go_at_call 48
 (with_reducible refine (lY ⟨#[99,111,100,101]⟩ a2 a4 m2 n4 c2 c4 w4).mono ?_)
 rintro e w6 ⟨rfl,b6⟩;have B6:Below W0.heap.size W0 w6:=B4.trans (b6.mono B4.size);have X6:=hid (show Rd (W0.heap.size<=·) w6 (aH dO (cO dD ⟨#[]⟩) (bK t)).d [.string ⟨#[99,111,100,101]⟩,.string ⟨#[]⟩,.slice a2 m2 c2,.slice a4 n4 c4] from Nd.dJ ⟨#[99,111,100,101]⟩ ⟨#[]⟩ ⟨Dk.out.aX b6,cZ.out.aX b6⟩);have HF6:=hid (aG.Kc B6 X6.out);clear b6;refine hK.out _ _ (fun _ _=>B6) (fun hH2=>?_);clear hK KQ hH;refine aN ?_;clear hH2;intro hH;refine mP ?_;intro KQ hK;refine jb3 ?_;intro w7 hw7 p7 SK R7 B7;have KS7:=hid (show Rd (W0.heap.size<=·) w7 (gH [aH dO (cO dD ⟨#[]⟩) (bK t)]) [.slice (some ⟨p7,0,none⟩) 1 1] from R7.cu);clear HF6 X6 hw7 SK R7;refine hK.out _ _ (fun _ _=>B7) (fun hH2=>?_);clear hK KQ hH;refine aN ?_;clear hH2;intro hH;refine jb4 ?_;intro KQ hK;rintro e w5 ⟨rfl,b5⟩;have B5:Below W0.heap.size W0 w5:=B7.trans (b5.mono B7.size);have BL:=hid (B0.out.trans (B5.mono B0.out.size));have XD:=hid (show Rd (w.heap.size<=·) w5 (aH ⟨#[112,114,101]⟩ [] [aH dO (cO dD ⟨#[]⟩) (bK t)]).d [.string ⟨#[112,114,101]⟩,.string ⟨#[]⟩,.slice none 0 0,.slice (some ⟨p7,0,none⟩) 1 1] from (Nd.dJ ⟨#[112,114,101]⟩ ⟨#[]⟩ ⟨Rd.aD _ _ _,KS7.out.aX b5⟩).weaken (fun b hb=>Nat.le_trans B0.out.size hb));refine zl ?_;clear b5;intro HF hH2;clear hK KQ hH;refine aN ?_;clear hH2;intro hH;refine eF (i:=8) rfl (by kernel_rfl) (fun KQ hK=>?_);refine Nb ?_;intro hH2;clear hK KQ hH;refine aN ?_;clear hH2;intro hH;refine eF (i:=9) rfl (by kernel_rfl) (fun KQ hK=>?_);exact zk
theorem RP (lv:Int) (i t d ti:ByteArray) (at_:At) (li:List aj) (ks:List ah) (vc vp vl vk:Value) (w:World) (hR:eT (·<w.heap.size) w at_ li ks vc vp vl vk) (hs:M9 i t at_ li) (hl:iF w ks vk) (hi:bq i=false) : Calls prog 80 #[.agg #[.int .i64 3,.int .i64 lv,.string i,.string t,.string d,.string ti,.string at_.id,vc,vp,vl,vk]] w (aQ w [aH Hr [] [aH dO (cO dD (⟨#[108,97,110,103,117,97,103,101,45]⟩++i)) (bK t)]]):=by
 obtain ⟨ac,nc,cc,rfl⟩:=Rd.au hR.at_.cls
 obtain ⟨ap,np,cp,rfl⟩:=Rd.au hR.at_.aF
 obtain ⟨al,nl,cl,rfl⟩:=Rd.au hR.line;obtain ⟨ak,nk,ck,rfl⟩:=Rd.au hR.kids;refine jb2 ?_;intro S hS W0 hW0 k0;refine Dj ?_;intro b0 SX e0 EM dW;have dw:=hid hs;have B0:=hid b0;have HR:=hid hR;have WJ:i.toList.isEmpty=false:=by exact Ng
 clear hi;have q5:(⟨#[108,97,110,103,117,97,103,101,45]⟩:ByteArray).size+i.size<=9223372036854775807:=by have:(⟨#[108,97,110,103,117,97,103,101,45]⟩:ByteArray).size=9:=rfl;have:=dw.out.i;omega
 have q6:9+i.size<=9223372036854775807:=by have:=dw.out.i;omega
 clear hR hs hl k0 b0;go_enter func80,ntmps80;go_upto_region 8 with (fail)
 rw [<- hW0,<- hS];clear hW0 hS;have e2:=(SX.out W0 (Below.refl _ _)).2.1;go_upto_region 10 with (fail)
 clear e2;refine Jv 9 (fun w'=>Below W0.heap.size W0 w') (by kernel_rfl) (Below.refl _ _).drew ?_;refine Nc ?_;intro hH y0 hy0;rw [<- hy0] at hH;rw [<- hy0];clear hy0;have o9:Below W0.heap.size W0 y0:=hH;have SC:=hid (q24 ⟨#[99,108,97,115,115]⟩ (⟨#[108,97,110,103,117,97,103,101,45]⟩++i) y0);refine Nf ?_;intro KQ hK;rintro e y1 ⟨bD,v2,rfl,hrow2⟩;obtain ⟨a2,m2,c2,rfl⟩:=hrow2.slice3;refine zm ?_;intro B1;have Ku:=hid (show Rd (W0.heap.size<=·) y1 (fJ (cO dD (⟨#[108,97,110,103,117,97,103,101,45]⟩++i))) [.slice a2 m2 c2] from hrow2.cu.weaken (fun b hb=>Nat.le_trans o9.size hb));clear hrow2 SC;have LC:=hid (WI t y1);refine hK.out _ _ (fun _ _=>B1) (fun hH2=>?_);clear hK KQ hH;refine aN ?_;clear hH2;intro hH;refine Hq ?_;intro KQ hK;go_at_call 50
 (with_reducible refine (LC.out).mono ?_)
 rintro e w4 ⟨bG,v4,rfl,hrow4⟩;obtain ⟨a4,n4,c4,rfl⟩:=hrow4.slice3;refine SI ?_;clear hrow4 LC;intro B4 Dk cZ hH2;clear hK KQ hH;refine aN ?_;clear hH2;intro hH;refine zh ?_;intro KQ hK;go_at_call 48
 (with_reducible refine (lY ⟨#[99,111,100,101]⟩ a2 a4 m2 n4 c2 c4 w4).mono ?_)
 rintro e w6 ⟨rfl,b6⟩;have B6:Below W0.heap.size W0 w6:=B4.trans (b6.mono B4.size);have X6:=hid (show Rd (W0.heap.size<=·) w6 (aH dO (cO dD (⟨#[108,97,110,103,117,97,103,101,45]⟩++i)) (bK t)).d [.string ⟨#[99,111,100,101]⟩,.string ⟨#[]⟩,.slice a2 m2 c2,.slice a4 n4 c4] from Nd.dJ ⟨#[99,111,100,101]⟩ ⟨#[]⟩ ⟨Dk.out.aX b6,cZ.out.aX b6⟩);have HF6:=hid (aG.Kc B6 X6.out);clear b6;refine hK.out _ _ (fun _ _=>B6) (fun hH2=>?_);clear hK KQ hH;refine aN ?_;clear hH2;intro hH;refine mP ?_;intro KQ hK;refine jb3 ?_;intro w7 hw7 p7 SK R7 B7;have KS7:=hid (show Rd (W0.heap.size<=·) w7 (gH [aH dO (cO dD (⟨#[108,97,110,103,117,97,103,101,45]⟩++i)) (bK t)]) [.slice (some ⟨p7,0,none⟩) 1 1] from R7.cu);clear HF6 X6 hw7 SK R7;refine hK.out _ _ (fun _ _=>B7) (fun hH2=>?_);clear hK KQ hH;refine aN ?_;clear hH2;intro hH;refine jb4 ?_;intro KQ hK;rintro e w5 ⟨rfl,b5⟩;have B5:Below W0.heap.size W0 w5:=B7.trans (b5.mono B7.size);have BL:=hid (B0.out.trans (B5.mono B0.out.size));have XD:=hid (show Rd (w.heap.size<=·) w5 (aH ⟨#[112,114,101]⟩ [] [aH dO (cO dD (⟨#[108,97,110,103,117,97,103,101,45]⟩++i)) (bK t)]).d [.string ⟨#[112,114,101]⟩,.string ⟨#[]⟩,.slice none 0 0,.slice (some ⟨p7,0,none⟩) 1 1] from (Nd.dJ ⟨#[112,114,101]⟩ ⟨#[]⟩ ⟨Rd.aD _ _ _,KS7.out.aX b5⟩).weaken (fun b hb=>Nat.le_trans B0.out.size hb));refine zl ?_;clear b5;intro HF hH2;clear hK KQ hH;refine aN ?_;clear hH2;intro hH;refine eF (i:=8) rfl (by kernel_rfl) (fun KQ hK=>?_);refine Nb ?_;intro hH2;clear hK KQ hH;refine aN ?_;clear hH2;intro hH;refine eF (i:=9) rfl (by kernel_rfl) (fun KQ hK=>?_);exact zk
theorem jb5{P Q:Prop}(q:Q)(h:Nonempty Q->P:=by
 intro qQ;obtain ⟨S,hS⟩:∃ S,S=w.heap.size:=⟨_,rfl⟩;obtain ⟨W0,hW0⟩:∃ W0,W0=w.alloc (.cells #[.int .i64 8,.int .i64 lv,.string i,.string t,.string d,.string ti,.string at_.id,.slice ac nc cc,.slice ap np cp,.slice al nl cl,.slice ak nk ck] 51):=⟨_,rfl⟩;have k0:CB 51 S [.int .i64 8,.int .i64 lv,.string i,.string t,.string d,.string ti,.string at_.id,.slice ac nc cc,.slice ap np cp,.slice al nl cl,.slice ak nk ck] W0:=by rw [hW0,hS];exact CB.new _ _ w
 revert S hS W0 hW0 k0;exact qQ.elim fun x=>x):P:=h ⟨q⟩
theorem RQ (lv:Int) (i t d ti:ByteArray) (at_:At) (li:List aj) (ks:List ah) (vc vp vl vk:Value) (w:World) (hR:eT (·<w.heap.size) w at_ li ks vc vp vl vk) (hs:M9 i t at_ li) (hl:iF w ks vk) (hv:lv=1) : Calls prog 80 #[.agg #[.int .i64 8,.int .i64 lv,.string i,.string t,.string d,.string ti,.string at_.id,vc,vp,vl,vk]] w (aQ w [aH Xo (cO CO ⟨#[]⟩) (ah.aZ ks)]):=by
 obtain ⟨ac,nc,cc,rfl⟩:=Rd.au hR.at_.cls
 obtain ⟨ap,np,cp,rfl⟩:=Rd.au hR.at_.aF
 obtain ⟨al,nl,cl,rfl⟩:=Rd.au hR.line;obtain ⟨ak,nk,ck,rfl⟩:=Rd.au hR.kids;refine jb5 ?_;intro S hS W0 hW0 k0;refine Dj ?_;intro b0 SX e0 EM dW;have dw:=hid hs;have B0:=hid b0;have HR:=hid hR;obtain rfl:=hv;clear hR hs hl k0 b0;go_enter func80,ntmps80;go_upto_region 21 with (fail)
 rw [<- hW0,<- hS];clear hW0 hS;have e1:=(SX.out W0 (Below.refl _ _)).1;go_upto_region 23 with (fail)
 clear e1;refine Jv 7 (fun w'=>Below W0.heap.size W0 w') (by kernel_rfl) (Below.refl _ _).drew ?_;refine Nc ?_;intro hH y0 hy0;rw [<- hy0] at hH;rw [<- hy0];clear hy0;have o9:Below W0.heap.size W0 y0:=hH;have SC:=hid (q24 ⟨#[115,116,97,114,116]⟩ ⟨#[]⟩ y0);refine Nf ?_;intro KQ hK;rintro e y1 ⟨bD,v2,rfl,hrow2⟩;obtain ⟨a2,m2,c2,rfl⟩:=hrow2.slice3;refine zm ?_;intro B1;have Ku:=hid (show Rd (W0.heap.size<=·) y1 (fJ (cO CO ⟨#[]⟩)) [.slice a2 m2 c2] from hrow2.cu.weaken (fun b hb=>Nat.le_trans o9.size hb));clear hrow2 SC;have LC:=hid (EM.out y1 B1);refine hK.out _ _ (fun _ _=>B1) (fun hH2=>?_);clear hK KQ hH;refine aN ?_;clear hH2;intro hH;refine Hq ?_;intro KQ hK;go_at_call 46
 (with_reducible refine (LC.out).mono ?_)
 rintro e w4 ⟨bG,v4,rfl,hrow4⟩;obtain ⟨a4,n4,c4,rfl⟩:=hrow4.slice3;refine SG ?_;clear hrow4 LC;intro B4 Dk cZ hH2;clear hK KQ hH;refine aN ?_;clear hH2;intro hH;refine zh ?_;intro KQ hK;go_at_call 48
 (with_reducible refine (lY ⟨#[111,108]⟩ a2 a4 m2 n4 c2 c4 w4).mono ?_)
 rintro e w5 ⟨rfl,b5⟩;refine Ho ?_;intro B5 BL;have XD:=hid (show Rd (w.heap.size<=·) w5 (aH ⟨#[111,108]⟩ (cO CO ⟨#[]⟩) (ah.aZ ks)).d [.string ⟨#[111,108]⟩,.string ⟨#[]⟩,.slice a2 m2 c2,.slice a4 n4 c4] from (Nd.dJ ⟨#[111,108]⟩ ⟨#[]⟩ ⟨Dk.out.aX b5,cZ.out.aX b5⟩).weaken (fun b hb=>Nat.le_trans B0.out.size hb));refine zl ?_;clear b5;intro HF hH2;clear hK KQ hH;refine aN ?_;clear hH2;intro hH;refine mP ?_;intro KQ hK;refine hK.out _ _ (fun _ _=>B5.alloc B5.size _) (fun hH2=>?_);clear hK KQ hH;refine aN ?_;clear hH2;intro hH;refine eF (i:=7) rfl (by kernel_rfl) (fun KQ hK=>?_);exact zk
theorem RU (lv:Int) (i t d ti:ByteArray) (at_:At) (li:List aj) (ks:List ah) (vc vp vl vk:Value) (w:World) (hR:eT (·<w.heap.size) w at_ li ks vc vp vl vk) (hs:M9 i t at_ li) (hl:iF w ks vk) (n:Nat) (hv:lv=(n:Int)) (hn:n<=999999999) (h1:lv≠1) : Calls prog 80 #[.agg #[.int .i64 8,.int .i64 lv,.string i,.string t,.string d,.string ti,.string at_.id,vc,vp,vl,vk]] w (aQ w [aH Xo (cO CO (q2z n)) (ah.aZ ks)]):=by
 obtain ⟨ac,nc,cc,rfl⟩:=Rd.au hR.at_.cls
 obtain ⟨ap,np,cp,rfl⟩:=Rd.au hR.at_.aF
 obtain ⟨al,nl,cl,rfl⟩:=Rd.au hR.line;obtain ⟨ak,nk,ck,rfl⟩:=Rd.au hR.kids;refine jb5 ?_;intro S hS W0 hW0 k0;refine Dj ?_;intro b0 SX e0 EM dW;have dw:=hid hs;have B0:=hid b0;have HR:=hid hR;have qv:((n:Int)==1)=false:=by rw [beq_eq_false_iff_ne,<- hv];exact h1
 obtain rfl:=hv;clear hR hs hl k0 b0;go_enter func80,ntmps80;go_upto_region 21 with (fail)
 rw [<- hW0,<- hS];clear hW0 hS;have e1:=(SX.out W0 (Below.refl _ _)).1;have NC:=hid (zn n W0 hn);go_wp2_with fail
 (with_reducible refine NC.out.mono ?_)
 rintro e y1 ⟨rfl,hy1⟩;rw [hy1];clear hy1 y1 NC;go_upto_region 23 with (fail)
 clear e1;refine Jv 7 (fun w'=>Below W0.heap.size W0 w') (by kernel_rfl) (Below.refl _ _).drew ?_;refine Nc ?_;intro hH y0 hy0;rw [<- hy0] at hH;rw [<- hy0];clear hy0;have o9:Below W0.heap.size W0 y0:=hH;have SC:=hid (q24 ⟨#[115,116,97,114,116]⟩ (q2z n) y0);refine Nf ?_;intro KQ hK;rintro e y1 ⟨bD,v2,rfl,hrow2⟩;obtain ⟨a2,m2,c2,rfl⟩:=hrow2.slice3;refine zm ?_;intro B1;have Ku:=hid (show Rd (W0.heap.size<=·) y1 (fJ (cO CO (q2z n))) [.slice a2 m2 c2] from hrow2.cu.weaken (fun b hb=>Nat.le_trans o9.size hb));clear hrow2 SC;have LC:=hid (EM.out y1 B1);refine hK.out _ _ (fun _ _=>B1) (fun hH2=>?_);clear hK KQ hH;refine aN ?_;clear hH2;intro hH;refine Hq ?_;intro KQ hK;go_at_call 46
 (with_reducible refine (LC.out).mono ?_)
 rintro e w4 ⟨bG,v4,rfl,hrow4⟩;obtain ⟨a4,n4,c4,rfl⟩:=hrow4.slice3;refine SG ?_;clear hrow4 LC;intro B4 Dk cZ hH2;clear hK KQ hH;refine aN ?_;clear hH2;intro hH;refine zh ?_;intro KQ hK;go_at_call 48
 (with_reducible refine (lY ⟨#[111,108]⟩ a2 a4 m2 n4 c2 c4 w4).mono ?_)
 rintro e w5 ⟨rfl,b5⟩;refine Ho ?_;intro B5 BL;have XD:=hid (show Rd (w.heap.size<=·) w5 (aH ⟨#[111,108]⟩ (cO CO (q2z n)) (ah.aZ ks)).d [.string ⟨#[111,108]⟩,.string ⟨#[]⟩,.slice a2 m2 c2,.slice a4 n4 c4] from (Nd.dJ ⟨#[111,108]⟩ ⟨#[]⟩ ⟨Dk.out.aX b5,cZ.out.aX b5⟩).weaken (fun b hb=>Nat.le_trans B0.out.size hb));refine zl ?_;clear b5;intro HF hH2;clear hK KQ hH;refine aN ?_;clear hH2;intro hH;refine mP ?_;intro KQ hK;refine hK.out _ _ (fun _ _=>B5.alloc B5.size _) (fun hH2=>?_);clear hK KQ hH;refine aN ?_;clear hH2;intro hH;refine eF (i:=7) rfl (by kernel_rfl) (fun KQ hK=>?_);exact zk
theorem jb6{P:Prop}(h:P:=by
 have b0:=hid (show Below w.heap.size w W0 by rw [hW0];exact (Below.refl _ _).alloc (Nat.le_refl _) _);have e0:=k0.cell 0 _ rfl;clear k0;go_enter func80,ntmps80;go_upto_region 1 with (fail)
 rw [<- hW0,<- hS];clear hW0 hS;go_wp2;go_ret;exact aQ.nil _ _ b0.out):P:=h
theorem CQ (k:Int) (lv:Int) (i t d ti:ByteArray) (at_:At) (li:List aj) (ks:List ah) (vc vp vl vk:Value) (w:jIq) (hR:eT (·<w.heap.size) w at_ li ks vc vp vl vk) (hk:k=14\/k=15) : Calls prog 80 #[.agg #[.int .i64 k,.int .i64 lv,.string i,.string t,.string d,.string ti,.string at_.id,vc,vp,vl,vk]] w (aQ w []):=by
 obtain ⟨ac,nc,cc,rfl⟩:=Rd.au hR.at_.cls
 obtain ⟨ap,np,cp,rfl⟩:=Rd.au hR.at_.aF
 obtain ⟨al,nl,cl,rfl⟩:=Rd.au hR.line;obtain ⟨ak,nk,ck,rfl⟩:=Rd.au hR.kids;clear hR;rcases hk with rfl | rfl
 ·obtain ⟨S,hS⟩:∃ S,S=w.heap.size:=⟨_,rfl⟩;obtain ⟨W0,hW0⟩:∃ W0,W0=w.alloc (.cells #[.int .i64 14,.int .i64 lv,.string i,.string t,.string d,.string ti,.string at_.id,.slice ac nc cc,.slice ap np cp,.slice al nl cl,.slice ak nk ck] 51):=⟨_,rfl⟩;have k0:CB 51 S [.int .i64 14,.int .i64 lv,.string i,.string t,.string d,.string ti,.string at_.id,.slice ac nc cc,.slice ap np cp,.slice al nl cl,.slice ak nk ck] W0:=by rw [hW0,hS];exact CB.new _ _ w
  exact jb6
 ·obtain ⟨S,hS⟩:∃ S,S=w.heap.size:=⟨_,rfl⟩;obtain ⟨W0,hW0⟩:∃ W0,W0=w.alloc (.cells #[.int .i64 15,.int .i64 lv,.string i,.string t,.string d,.string ti,.string at_.id,.slice ac nc cc,.slice ap np cp,.slice al nl cl,.slice ak nk ck] 51):=⟨_,rfl⟩;have k0:CB 51 S [.int .i64 15,.int .i64 lv,.string i,.string t,.string d,.string ti,.string at_.id,.slice ac nc cc,.slice ap np cp,.slice al nl cl,.slice ak nk ck] W0:=by rw [hW0,hS];exact CB.new _ _ w
  exact jb6
end Go.Proofs.YtklhajbpfelliaaGreatDoor

