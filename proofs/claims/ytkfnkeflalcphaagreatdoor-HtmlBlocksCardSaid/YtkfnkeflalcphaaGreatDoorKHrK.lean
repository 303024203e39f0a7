/- Contract of publisherref34.block, kind by kind: the nodes of a block. -/
import Derived.Test.YtkfnkeflalcphaaGreatDoorKHtM
set_option maxHeartbeats 4000000
set_option maxRecDepth 100000
open Go.Lib (hid)
namespace Go.Proofs.YtkfnkeflalcphaaGreatDoor
open Go.RowKit.Below renaming refl->jD7
open Nat renaming le_trans->jD9
open Go renaming World->jG9
open Go.RowKit renaming Below->jGj
open Go.RowKit
set_option linter.unusedVariables false
set_option linter.unusedSimpArgs false
def ig (w:jG9) (ks:List ah) (vk:Value):Prop:=∀ W:jG9,jGj w.heap.size w W->Calls Tryz.prog 46 #[vk] W (aO W (ah.aV ks))
structure Mx (i t:ByteArray) (at_:At) (li:List aj):Prop where
 i:i.size<=300
 t:t.size<=300
 sh:at_.short
 cf:∀ c∈at_.cls,aW c=false
 li:LnR li
theorem jl0 {w W0:jG9} {P:jG9->Prop} (hl:∀ W,jGj w.heap.size w W->P W) (b0:jGj w.heap.size w W0):Hid (∀ W,jGj W0.heap.size W0 W->P W):=
 fun W hW=>hl W (b0.trans (hW.mono b0.size))
theorem uK {at_:At} {li:List aj} {ks:List ah} {vc vp vl vk:Value} {w:jG9} (kv:Value) (lv:Int) (i t d ti:ByteArray) (hR:eP (·<w.heap.size) w at_ li ks vc vp vl vk) (hs:Mx i t at_ li) : ∃ ac nc cc ap np cp al nl cl ak nk ck S W0,vc=.slice ac nc cc/\vp=.slice ap np cp/\vl=.slice al nl cl/\vk=.slice ak nk ck/\S=w.heap.size /\ W0=w.alloc (.cells #[kv,.int .i64 lv,.string i,.string t,.string d,.string ti,.string at_.id,vc,vp,vl,vk] 48)/\W0.cell? ⟨S,0,none⟩=some kv /\ Hid (∀ w':jG9,jGj W0.heap.size W0 w'->w'.cell? ⟨S,1,none⟩=some (.int .i64 lv)/\w'.cell? ⟨S,2,none⟩=some (.string i)/\w'.cell? ⟨S,3,none⟩=some (.string t)/\w'.cell? ⟨S,4,none⟩=some (.string d)/\w'.cell? ⟨S,5,none⟩=some (.string ti)/\w'.cell? ⟨S,6,none⟩=some (.string at_.id)/\w'.cell? ⟨S,7,none⟩=some vc/\w'.cell? ⟨S,8,none⟩=some vp/\w'.cell? ⟨S,9,none⟩=some vl/\w'.cell? ⟨S,10,none⟩=some vk) /\ Hid (∀ W:jG9,jGj W0.heap.size W0 W->Calls Tryz.prog 142 #[vl] W (aO W (dQ li)))/\Hid (jGj w.heap.size w W0):=by
 obtain ⟨ac,nc,cc,rfl⟩:=Rd.au hR.at_.cls
 obtain ⟨ap,np,cp,rfl⟩:=Rd.au hR.at_.aD
 obtain ⟨al,nl,cl,rfl⟩:=Rd.au hR.line;obtain ⟨ak,nk,ck,rfl⟩:=Rd.au hR.kids;have b0:jGj w.heap.size w (w.alloc (.cells #[kv,.int .i64 lv,.string i,.string t,.string d,.string ti,.string at_.id,.slice ac nc cc,.slice ap np cp,.slice al nl cl,.slice ak nk ck] 48)):=(jD7 _ _).alloc (Nat.le_refl _) _;have k0:=CB.new 48 [kv,.int .i64 lv,.string i,.string t,.string d,.string ti,.string at_.id,.slice ac nc cc,.slice ap np cp,.slice al nl cl,.slice ak nk ck] w;refine ⟨ac,nc,cc,ap,np,cp,al,nl,cl,ak,nk,ck,_,_,rfl,rfl,rfl,rfl,rfl,rfl,k0.cell 0 _ rfl,RU k0,fun W hW=>?_,b0⟩;have hb:=b0.trans (hW.mono b0.size);exact q2z 900000 li _ W hs.li.sz (by decide) (Rd.keep (w:=w) (w':=W) (ok:=(·<w.heap.size)) (fun b (hb':b<w.heap.size) hlt=>⟨by show b<W.heap.size;have:=hb.size;omega,hb.block b hb'⟩) _ _ hR.line) hs.li.sm hs.li.cf
theorem GK{P:Prop}(h:P:=by
 have HF:=hid (aF.JX BL.out XD.out);clear B5 EC;go_wp2;go_ret;exact ⟨_,_,rfl,HF.out⟩):P:=h
theorem MO{P Q:Prop}(q:Q)(h:Nonempty Q->P:=by
 intro qQ;have B5:=q01 B4.out b5;have Xa:=hid (bV.out.bC b5);have BL:=hid (B0.out.trans (B5.mono B0.out.size));revert B5 Xa BL;exact qQ.elim fun x=>x):P:=h ⟨q⟩
theorem Cz{P Q:Prop}(q:Q)(h:Nonempty Q->P:=by
 intro qQ;have Ez:=jl0 hl B0.out;have cO:=hid hs;have HR:=hid hR;revert Ez cO HR;exact qQ.elim fun x=>x):P:=h ⟨q⟩
theorem WG (lv:Int) (i t d ti:ByteArray) (at_:At) (li:List aj) (ks:List ah) (vc vp vl vk:Value) (w:World) (hR:eP (·<w.heap.size) w at_ li ks vc vp vl vk) (hs:Mx i t at_ li) (hl:ig w ks vk) : Calls Tryz.prog 91 #[.agg #[.int .i64 1,.int .i64 lv,.string i,.string t,.string d,.string ti,.string at_.id,vc,vp,vl,vk]] w (aO w [aJ nP [] (dQ li)]):=by
 obtain ⟨ac,nc,cc,ap,np,cp,al,nl,cl,ak,nk,ck,S,W0,rfl,rfl,rfl,rfl,hS,hW0,e0,SX,dR,B0⟩:=uK (.int .i64 1) lv i t d ti hR hs;refine Cz ?_;intro Ez cO HR;clear hR hs hl;go_enter Tryz.func91,Tryz.ntmps91;go_upto_region 3 with (fail)
 rw [<- hW0,<- hS];clear hW0 hS;have LC:=hid (dR.out W0 (Below.refl _ _));have g9:=(SX.out W0 (Below.refl _ _)).2.2.2.2.2.2.2.2.1;go_wp2_with fail
 (with_reducible refine LC.out.mono ?_)
 rintro e w4 ⟨bD,v4,rfl,hrow4⟩;obtain ⟨a4,n4,c4,rfl⟩:=hrow4.slice3;have b4:=hrow4.aM;have bV:=hid (show Rd (W0.heap.size<=·) w4 (gD (dQ li)) [.slice a4 n4 c4] from hrow4.bZ);have EC:=hid (nU ⟨#[112]⟩ none a4 0 n4 0 c4 w4);have B4:=hid b4;clear b4 hrow4 LC g9;go_wp2_with fail
 (with_reducible refine EC.out.mono ?_)
 rintro e w5 ⟨rfl,b5⟩;refine MO ?_;clear b5;intro B5 Xa BL;have XD:=hid (show Rd (w.heap.size<=·) w5 (aJ nP [] (dQ li)).d [.string ⟨#[112]⟩,.string ⟨#[]⟩,.slice none 0 0,.slice a4 n4 c4] from Nd.dJ ⟨#[112]⟩ ⟨#[]⟩ ⟨Rd.aC _ _ _,Xa.out.weaken (fun b hb=>Nat.le_trans B0.out.size hb)⟩);exact GK
theorem RX{P Q:Prop}(q:Q)(h:Nonempty Q->P:=by
 intro qQ;rw [<- hW0,<- hS];have LC:=hid (Ez.out W0 (Below.refl _ _));have g9:=(SX.out W0 (Below.refl _ _)).2.2.2.2.2.2.2.2.2;revert LC g9;exact qQ.elim fun x=>x):P:=h ⟨q⟩
theorem WK (lv:Int) (i t d ti:ByteArray) (at_:At) (li:List aj) (ks:List ah) (vc vp vl vk:Value) (w:World) (hR:eP (·<w.heap.size) w at_ li ks vc vp vl vk) (hs:Mx i t at_ li) (hl:ig w ks vk) : Calls Tryz.prog 91 #[.agg #[.int .i64 6,.int .i64 lv,.string i,.string t,.string d,.string ti,.string at_.id,vc,vp,vl,vk]] w (aO w [aJ qU [] (ah.aV ks)]):=by
 obtain ⟨ac,nc,cc,ap,np,cp,al,nl,cl,ak,nk,ck,S,W0,rfl,rfl,rfl,rfl,hS,hW0,e0,SX,dR,B0⟩:=uK (.int .i64 6) lv i t d ti hR hs;refine Cz ?_;intro Ez cO HR;clear hR hs hl;go_enter Tryz.func91,Tryz.ntmps91;go_upto_region 16 with (fail)
 refine RX ?_;clear hW0 hS;intro LC g9;go_wp2_with fail
 (with_reducible refine LC.out.mono ?_)
 rintro e w4 ⟨bD,v4,rfl,hrow4⟩;obtain ⟨a4,n4,c4,rfl⟩:=hrow4.slice3;have b4:=hrow4.aM;refine CF ?_;intro bV;have EC:=hid (nU ⟨#[98,108,111,99,107,113,117,111,116,101]⟩ none a4 0 n4 0 c4 w4);have B4:=hid b4;clear b4 hrow4 LC g9;go_wp2_with fail
 (with_reducible refine EC.out.mono ?_)
 rintro e w5 ⟨rfl,b5⟩;refine MO ?_;clear b5;intro B5 Xa BL;have XD:=hid (show Rd (w.heap.size<=·) w5 (aJ qU [] (ah.aV ks)).d [.string ⟨#[98,108,111,99,107,113,117,111,116,101]⟩,.string ⟨#[]⟩,.slice none 0 0,.slice a4 n4 c4] from Nd.dJ ⟨#[98,108,111,99,107,113,117,111,116,101]⟩ ⟨#[]⟩ ⟨Rd.aC _ _ _,Xa.out.weaken (fun b hb=>Nat.le_trans B0.out.size hb)⟩);exact GK
theorem WL (lv:Int) (i t d ti:ByteArray) (at_:At) (li:List aj) (ks:List ah) (vc vp vl vk:Value) (w:World) (hR:eP (·<w.heap.size) w at_ li ks vc vp vl vk) (hs:Mx i t at_ li) (hl:ig w ks vk) : Calls Tryz.prog 91 #[.agg #[.int .i64 7,.int .i64 lv,.string i,.string t,.string d,.string ti,.string at_.id,vc,vp,vl,vk]] w (aO w [aJ nUl [] (ah.aV ks)]):=by
 obtain ⟨ac,nc,cc,ap,np,cp,al,nl,cl,ak,nk,ck,S,W0,rfl,rfl,rfl,rfl,hS,hW0,e0,SX,dR,B0⟩:=uK (.int .i64 7) lv i t d ti hR hs;refine Cz ?_;intro Ez cO HR;clear hR hs hl;go_enter Tryz.func91,Tryz.ntmps91;go_upto_region 18 with (fail)
 refine RX ?_;clear hW0 hS;intro LC g9;go_wp2_with fail
 (with_reducible refine LC.out.mono ?_)
 rintro e w4 ⟨bD,v4,rfl,hrow4⟩;obtain ⟨a4,n4,c4,rfl⟩:=hrow4.slice3;have b4:=hrow4.aM;refine CF ?_;intro bV;have EC:=hid (nU ⟨#[117,108]⟩ none a4 0 n4 0 c4 w4);have B4:=hid b4;clear b4 hrow4 LC g9;go_wp2_with fail
 (with_reducible refine EC.out.mono ?_)
 rintro e w5 ⟨rfl,b5⟩;refine MO ?_;clear b5;intro B5 Xa BL;have XD:=hid (show Rd (w.heap.size<=·) w5 (aJ nUl [] (ah.aV ks)).d [.string ⟨#[117,108]⟩,.string ⟨#[]⟩,.slice none 0 0,.slice a4 n4 c4] from Nd.dJ ⟨#[117,108]⟩ ⟨#[]⟩ ⟨Rd.aC _ _ _,Xa.out.weaken (fun b hb=>Nat.le_trans B0.out.size hb)⟩);exact GK
theorem WO (lv:Int) (i t d ti:ByteArray) (at_:At) (li:List aj) (ks:List ah) (vc vp vl vk:Value) (w:World) (hR:eP (·<w.heap.size) w at_ li ks vc vp vl vk) (hs:Mx i t at_ li) (hl:ig w ks vk) : Calls Tryz.prog 91 #[.agg #[.int .i64 9,.int .i64 lv,.string i,.string t,.string d,.string ti,.string at_.id,vc,vp,vl,vk]] w (aO w [aJ nLi [] (ah.aV ks)]):=by
 obtain ⟨ac,nc,cc,ap,np,cp,al,nl,cl,ak,nk,ck,S,W0,rfl,rfl,rfl,rfl,hS,hW0,e0,SX,dR,B0⟩:=uK (.int .i64 9) lv i t d ti hR hs;refine Cz ?_;intro Ez cO HR;clear hR hs hl;go_enter Tryz.func91,Tryz.ntmps91;go_upto_region 25 with (fail)
 refine RX ?_;clear hW0 hS;intro LC g9;go_wp2_with fail
 (with_reducible refine LC.out.mono ?_)
 rintro e w4 ⟨bD,v4,rfl,hrow4⟩;obtain ⟨a4,n4,c4,rfl⟩:=hrow4.slice3;have b4:=hrow4.aM;refine CF ?_;intro bV;have EC:=hid (nU ⟨#[108,105]⟩ none a4 0 n4 0 c4 w4);have B4:=hid b4;clear b4 hrow4 LC g9;go_wp2_with fail
 (with_reducible refine EC.out.mono ?_)
 rintro e w5 ⟨rfl,b5⟩;refine MO ?_;clear b5;intro B5 Xa BL;have XD:=hid (show Rd (w.heap.size<=·) w5 (aJ nLi [] (ah.aV ks)).d [.string ⟨#[108,105]⟩,.string ⟨#[]⟩,.slice none 0 0,.slice a4 n4 c4] from Nd.dJ ⟨#[108,105]⟩ ⟨#[]⟩ ⟨Rd.aC _ _ _,Xa.out.weaken (fun b hb=>Nat.le_trans B0.out.size hb)⟩);exact GK
theorem WJ (lv:Int) (i t d ti:ByteArray) (at_:At) (li:List aj) (ks:List ah) (vc vp vl vk:Value) (w:World) (hR:eP (·<w.heap.size) w at_ li ks vc vp vl vk) (hs:Mx i t at_ li) (hl:ig w ks vk) : Calls Tryz.prog 91 #[.agg #[.int .i64 5,.int .i64 lv,.string i,.string t,.string d,.string ti,.string at_.id,vc,vp,vl,vk]] w (aO w [aJ nHr [] []]):=by
 obtain ⟨ac,nc,cc,ap,np,cp,al,nl,cl,ak,nk,ck,S,W0,rfl,rfl,rfl,rfl,hS,hW0,e0,SX,dR,B0⟩:=uK (.int .i64 5) lv i t d ti hR hs;refine Cz ?_;intro Ez cO HR;clear hR hs hl;go_enter Tryz.func91,Tryz.ntmps91;go_upto_region 14 with (fail)
 rw [<- hW0,<- hS];clear hW0 hS;have EC:=hid (nU ⟨#[104,114]⟩ none none 0 0 0 0 W0);go_wp2_with fail
 (with_reducible refine EC.out.mono ?_)
 rintro e w5 ⟨rfl,b5⟩;have B5:=b5;clear b5;have BL:=hid (B0.out.trans (B5.mono B0.out.size));have XD:=hid (show Rd (w.heap.size<=·) w5 (aJ nHr [] []).d [.string ⟨#[104,114]⟩,.string ⟨#[]⟩,.slice none 0 0,.slice none 0 0] from Nd.dJ ⟨#[104,114]⟩ ⟨#[]⟩ ⟨Rd.aC _ _ _,Rd.aC _ _ _⟩);exact GK
theorem CG{P Q:Prop}(q:Q)(h:Nonempty Q->P:=by
 intro qQ;have b0:Below w.heap.size w W0:=by rw [hW0];exact (Below.refl _ _).alloc (Nat.le_refl _) _
 have SX:=RU k0;have e0:=k0.cell 0 _ rfl;have Ez:Hid (∀ W:World,Below W0.heap.size W0 W->Calls Tryz.prog 46 #[.slice ak nk ck] W (aO W (ah.aV ks))):=fun W hW=>hl W (b0.trans (hW.mono b0.size))
 have dR:Hid (∀ W:World,Below W0.heap.size W0 W->Calls Tryz.prog 142 #[.slice al nl cl] W (aO W (dQ li))):=fun W hW=>by
  have hb:=b0.trans (hW.mono b0.size);exact q2z 900000 li _ W hs.li.sz (by decide) (Rd.keep (w:=w) (w':=W) (ok:=(·<w.heap.size)) (fun b (hb':b<w.heap.size) hlt=>⟨by show b<W.heap.size;have:=hb.size;omega,hb.block b hb'⟩) _ _ hR.line) hs.li.sm hs.li.cf
 revert b0 SX e0 Ez dR;exact qQ.elim fun x=>x):P:=h ⟨q⟩
theorem yY{P:Prop}(h:P:=by
 go_simp;refine hK.out _ _ (fun h=>absurd rfl h) (fun _=>?_);clear hK KQ hH;refine Om (by kernel_rfl) ?_ _;go_wp2;go_ret;exact ⟨_,_,rfl,HF.out⟩):P:=h
theorem RY{P Q:Prop}(q:Q)(h:Nonempty Q->P:=by
 intro qQ;refine eY 0 rfl (by kernel_rfl) hH (by rfl) (by intro wv hSw;obtain ⟨e1,e2,e3,e4,e5,e6,e7,e8,e9,e10⟩:=SX.out wv hSw;go_simp;try with_reducible rfl) ?_;exact qQ.elim fun x=>x):P:=h ⟨q⟩
theorem RZ{P Q:Prop}(q:Q)(h:Nonempty Q->P:=by
 intro qQ;refine eY 3 rfl (by kernel_rfl) hH (by rfl) (by intro wv hSw;obtain ⟨e1,e2,e3,e4,e5,e6,e7,e8,e9,e10⟩:=SX.out wv hSw;go_simp;try with_reducible rfl) ?_;exact qQ.elim fun x=>x):P:=h ⟨q⟩
theorem R5{P Q:Prop}(q:Q)(h:Nonempty Q->P:=by
 intro qQ;rw [<- hy0];have pE:Below W0.heap.size W0 y0:=hH;have hat:AtR (·<y0.heap.size) y0 at_ (.slice ac nc cc) (.slice ap np cp):=by
  have hb:Below w.heap.size w y0:=B0.out.trans (pE.mono B0.out.size);have hst:vM (·<w.heap.size) (·<y0.heap.size) w y0:=fun b (hb':b<w.heap.size) hlt=>⟨by show b<y0.heap.size;have:=hb.size;omega,hb.block b hb'⟩
  exact ⟨Rd.keep hst _ _ HR.out.at_.cls,Rd.keep hst _ _ HR.out.at_.aD⟩
 revert pE hat;exact qQ.elim fun x=>x):P:=h ⟨q⟩
theorem R8{P Q:Prop}(q:Q)(h:Nonempty Q->P:=by
 intro qQ;have B4:Below W0.heap.size W0 w4:=B1.trans (hrow4.aM.mono B1.size);have CJ:=hid (Qn.out.bC hrow4.aM);have bV:=hid (show Rd (W0.heap.size<=·) w4 (gD (ah.aV ks)) [.slice a4 n4 c4] from hrow4.bZ.weaken (fun b hb=>Nat.le_trans B1.size hb));refine hK.out _ _ (fun _ _=>B4) (fun hH2=>?_);revert B4 CJ bV hH2;exact qQ.elim fun x=>x):P:=h ⟨q⟩
theorem yL{P Q:Prop}(q:Q)(h:Nonempty Q->P:=by
 intro qQ;refine fH (i:=7) rfl (by kernel_rfl) (fun KQ hK=>?_);go_simp;revert KQ hK;exact qQ.elim fun x=>x):P:=h ⟨q⟩
theorem GL{P Q:Prop}(q:Q)(h:Nonempty Q->P:=by
 intro qQ;have B5:Below W0.heap.size W0 w5:=B4.trans (b5.mono B4.size);have BL:=hid (B0.out.trans (B5.mono B0.out.size));revert B5 BL;exact qQ.elim fun x=>x):P:=h ⟨q⟩
theorem yZ{P Q:Prop}(q:Q)(h:Nonempty Q->P:=by
 intro qQ;have HF:=hid (aF.JX BL.out XD.out);refine hK.out _ _ (fun _ _=>B5) (fun hH2=>?_);revert HF hH2;exact qQ.elim fun x=>x):P:=h ⟨q⟩
theorem R9{P Q:Prop}(q:Q)(h:Nonempty Q->P:=by
 intro qQ;refine eY 1 rfl (by kernel_rfl) hH (by rfl) (by intro wv hSw;obtain ⟨e1,e2,e3,e4,e5,e6,e7,e8,e9,e10⟩:=SX.out wv hSw;go_simp;try with_reducible rfl) ?_;exact qQ.elim fun x=>x):P:=h ⟨q⟩
theorem Co{P Q:Prop}(q:Q)(h:Nonempty Q->P:=by
 intro qQ;refine fH (i:=9) rfl (by kernel_rfl) (fun KQ hK=>?_);go_simp;revert KQ hK;exact qQ.elim fun x=>x):P:=h ⟨q⟩
theorem y8{P Q:Prop}(q:Q)(h:Nonempty Q->P:=by
 intro qQ;have B1:Below W0.heap.size W0 y1:=pE.trans (hrow2.aM.mono pE.size);revert B1;exact qQ.elim fun x=>x):P:=h ⟨q⟩
theorem y9{P Q:Prop}(q:Q)(h:Nonempty Q->P:=by
 intro qQ;refine hK.out _ _ (fun _ _=>B5.alloc B5.size _) (fun hH2=>?_);revert hH2;exact qQ.elim fun x=>x):P:=h ⟨q⟩
theorem Gv{P Q:Prop}(q:Q)(h:Nonempty Q->P:=by
 intro qQ;refine fH (i:=8) rfl (by kernel_rfl) (fun KQ hK=>?_);go_simp;revert KQ hK;exact qQ.elim fun x=>x):P:=h ⟨q⟩
theorem ZX{P Q:Prop}(q:Q)(h:Nonempty Q->P:=by
 intro qQ;refine eY 5 rfl (by kernel_rfl) hH (by rfl) (by intro wv hSw;obtain ⟨e1,e2,e3,e4,e5,e6,e7,e8,e9,e10⟩:=SX.out wv hSw;go_simp;try with_reducible rfl) ?_;exact qQ.elim fun x=>x):P:=h ⟨q⟩
theorem GN{P Q:Prop}(q:Q)(h:Nonempty Q->P:=by
 intro qQ;refine fH (i:=4) rfl (by kernel_rfl) (fun KQ hK=>?_);go_simp;revert KQ hK;exact qQ.elim fun x=>x):P:=h ⟨q⟩
theorem Rs (lv:Int) (i t d ti:ByteArray) (at_:At) (li:List aj) (ks:List ah) (vc vp vl vk:Value) (w:World) (hR:eP (·<w.heap.size) w at_ li ks vc vp vl vk) (hs:Mx i t at_ li) (hl:ig w ks vk) (hne:aW i=false) : Calls Tryz.prog 91 #[.agg #[.int .i64 13,.int .i64 lv,.string i,.string t,.string d,.string ti,.string at_.id,vc,vp,vl,vk]] w (aO w [aJ jS (eT at_ [i]) (ah.aV ks)]):=by
 obtain ⟨ac,nc,cc,rfl⟩:=Rd.au hR.at_.cls
 obtain ⟨ap,np,cp,rfl⟩:=Rd.au hR.at_.aD
 obtain ⟨al,nl,cl,rfl⟩:=Rd.au hR.line;obtain ⟨ak,nk,ck,rfl⟩:=Rd.au hR.kids;obtain ⟨S,hS⟩:∃ S,S=w.heap.size:=⟨_,rfl⟩;obtain ⟨W0,hW0⟩:∃ W0,W0=w.alloc (.cells #[.int .i64 13,.int .i64 lv,.string i,.string t,.string d,.string ti,.string at_.id,.slice ac nc cc,.slice ap np cp,.slice al nl cl,.slice ak nk ck] 48):=⟨_,rfl⟩;have k0:CB 48 S [.int .i64 13,.int .i64 lv,.string i,.string t,.string d,.string ti,.string at_.id,.slice ac nc cc,.slice ap np cp,.slice al nl cl,.slice ak nk ck] W0:=by rw [hW0,hS];exact CB.new _ _ w
 refine CG ?_;intro b0 SX e0 Ez dR;have ZY:=hid hne;have cO:=hid hs;clear hne;have B0:=hid b0;have HR:=hid hR;clear hR hs hl k0 b0;go_enter Tryz.func91,Tryz.ntmps91;go_upto_region 29 with (fail)
 rw [<- hW0,<- hS];clear hW0 hS;refine Je 10 (fun w'=>Below W0.heap.size W0 w') (by kernel_rfl) (Below.refl _ _).drew ?_;intro hH;refine RY ?_;refine R9 ?_;refine eY 2 rfl (by kernel_rfl) hH (by rfl) (by intro wv hSw;obtain ⟨e1,e2,e3,e4,e5,e6,e7,e8,e9,e10⟩:=SX.out wv hSw;go_simp;try with_reducible rfl) ?_;refine RZ ?_;refine ZX ?_;refine eY 6 rfl (by kernel_rfl) hH (by rfl) (by intro wv hSw;obtain ⟨e1,e2,e3,e4,e5,e6,e7,e8,e9,e10⟩:=SX.out wv hSw;go_simp;try with_reducible rfl) ?_;obtain ⟨y0,hy0⟩:∃ y0,y0=W0.drew:=⟨_,rfl⟩;rw [<- hy0] at hH;refine R5 ?_;clear hy0;intro pE hat;have AC:Hid (Calls Tryz.prog 144 #[.agg #[.string at_.id,.slice ac nc cc,.slice ap np cp],.string i] y0 (aU y0 (eT at_ [i]))):=by
  have h:=jF at_ i (.slice ac nc cc) (.slice ap np cp) y0 hat (by have:=cO.out.sh;unfold At.short at this;omega) (fun c hc=>by have:=cO.out.sh;unfold At.short at this;have:=this.2.2.2.1 c hc;omega) (by have:=cO.out.i;omega) cO.out.cf
  rw [if_neg (by rw [ZY.out];simp)] at h;exact h
 refine GN ?_;intro KQ hK;go_at_call 144
 (with_reducible refine AC.out.mono ?_)
 rintro e y1 ⟨aZ,v2,rfl,hrow2⟩;obtain ⟨a2,m2,c2,rfl⟩:=hrow2.slice3;refine y8 ?_;intro B1;have Qn:=hid (show Rd (W0.heap.size<=·) y1 (q32 (eT at_ [i])) [.slice a2 m2 c2] from hrow2.bZ.weaken (fun b hb=>Nat.le_trans pE.size hb));have LC:=hid (Ez.out y1 B1);clear hrow2 hat AC;refine hK.out _ _ (fun _ _=>B1) (fun hH2=>?_);clear hK KQ hH;refine aL ?_;clear hH2;intro hH;refine yL ?_;intro KQ hK;go_at_call 46
 (with_reducible refine LC.out.mono ?_)
 rintro e w4 ⟨bD,v4,rfl,hrow4⟩;obtain ⟨a4,n4,c4,rfl⟩:=hrow4.slice3;refine R8 ?_;clear hrow4 LC;intro B4 CJ bV hH2;clear hK KQ hH;refine aL ?_;clear hH2;intro hH;refine Gv ?_;intro KQ hK;go_at_call 48
 (with_reducible refine (nU ⟨#[100,105,118]⟩ a2 a4 m2 n4 c2 c4 w4).mono ?_)
 rintro e w5 ⟨rfl,b5⟩;refine GL ?_;intro B5 BL;have XD:=hid (show Rd (w.heap.size<=·) w5 (aJ jS (eT at_ [i]) (ah.aV ks)).d [.string ⟨#[100,105,118]⟩,.string ⟨#[]⟩,.slice a2 m2 c2,.slice a4 n4 c4] from (Nd.dJ ⟨#[100,105,118]⟩ ⟨#[]⟩ ⟨CJ.out.bC b5,bV.out.bC b5⟩).weaken (fun b hb=>Nat.le_trans B0.out.size hb));refine yZ ?_;clear b5;intro HF hH2;clear hK KQ hH;refine aL ?_;clear hH2;intro hH;refine Co ?_;intro KQ hK;refine y9 ?_;intro hH2;clear hK KQ hH;refine aL ?_;clear hH2;intro hH;refine fH (i:=10) rfl (by kernel_rfl) (fun KQ hK=>?_);exact yY
theorem Sb{P Q:Prop}(q:Q)(h:Nonempty Q->P:=by
 intro qQ;have B4:Below W0.heap.size W0 w4:=B1.trans (hrow4.aM.mono B1.size);have CJ:=hid (Qn.out.bC hrow4.aM);have bV:=hid (show Rd (W0.heap.size<=·) w4 (gD (bI t)) [.slice a4 n4 c4] from hrow4.bZ.weaken (fun b hb=>Nat.le_trans B1.size hb));refine hK.out _ _ (fun _ _=>B4) (fun hH2=>?_);revert B4 CJ bV hH2;exact qQ.elim fun x=>x):P:=h ⟨q⟩
theorem Z5{P Q:Prop}(q:Q)(h:Nonempty Q->P:=by
 intro qQ;refine eY 4 rfl (by kernel_rfl) hH (by rfl) (by intro wv hSw;obtain ⟨e1,e2,e3,e4,e5,e6,e7,e8,e9,e10⟩:=SX.out wv hSw;go_simp;try with_reducible rfl) ?_;exact qQ.elim fun x=>x):P:=h ⟨q⟩
theorem WI (lv:Int) (i t d ti:ByteArray) (at_:At) (li:List aj) (ks:List ah) (vc vp vl vk:Value) (w:World) (hR:eP (·<w.heap.size) w at_ li ks vc vp vl vk) (hs:Mx i t at_ li) (hl:ig w ks vk) : Calls Tryz.prog 91 #[.agg #[.int .i64 4,.int .i64 lv,.string i,.string t,.string d,.string ti,.string at_.id,vc,vp,vl,vk]] w (aO w [aJ jS (eT at_ [⟨#[109,97,116,104]⟩]) (bI t)]):=by
 obtain ⟨ac,nc,cc,ap,np,cp,al,nl,cl,ak,nk,ck,S,W0,rfl,rfl,rfl,rfl,hS,hW0,e0,SX,dR,B0⟩:=uK (.int .i64 4) lv i t d ti hR hs;refine Cz ?_;intro Ez cO HR;clear hR hs hl;go_enter Tryz.func91,Tryz.ntmps91;go_upto_region 12 with (fail)
 rw [<- hW0,<- hS];clear hW0 hS;refine Je 8 (fun w'=>Below W0.heap.size W0 w') (by kernel_rfl) (Below.refl _ _).drew ?_;intro hH;refine RY ?_;refine R9 ?_;refine RZ ?_;refine Z5 ?_;obtain ⟨y0,hy0⟩:∃ y0,y0=W0.drew:=⟨_,rfl⟩;rw [<- hy0] at hH;refine R5 ?_;clear hy0;intro pE hat;have AC:Hid (Calls Tryz.prog 144 #[.agg #[.string at_.id,.slice ac nc cc,.slice ap np cp],.string ⟨#[109,97,116,104]⟩] y0 (aU y0 (eT at_ [⟨#[109,97,116,104]⟩]))):=by
  have h:=jF at_ ⟨#[109,97,116,104]⟩ (.slice ac nc cc) (.slice ap np cp) y0 hat (by have:=cO.out.sh;unfold At.short at this;omega) (fun c hc=>by have:=cO.out.sh;unfold At.short at this;have:=this.2.2.2.1 c hc;omega) (by have:=cO.out.i;decide) cO.out.cf
  rw [if_neg (by decide)] at h;exact h
 refine fH (i:=2) rfl (by kernel_rfl) (fun KQ hK=>?_);go_simp;go_at_call 144
 (with_reducible refine AC.out.mono ?_)
 rintro e y1 ⟨aZ,v2,rfl,hrow2⟩;obtain ⟨a2,m2,c2,rfl⟩:=hrow2.slice3;refine y8 ?_;intro B1;have Qn:=hid (show Rd (W0.heap.size<=·) y1 (q32 (eT at_ [⟨#[109,97,116,104]⟩])) [.slice a2 m2 c2] from hrow2.bZ.weaken (fun b hb=>Nat.le_trans pE.size hb));have LC:=hid (W9 t y1);clear hrow2 hat AC;refine hK.out _ _ (fun _ _=>B1) (fun hH2=>?_);clear hK KQ hH;refine aL ?_;clear hH2;intro hH;refine yV ?_;intro KQ hK;go_at_call 98
 (with_reducible refine LC.out.mono ?_)
 rintro e w4 ⟨bD,v4,rfl,hrow4⟩;obtain ⟨a4,n4,c4,rfl⟩:=hrow4.slice3;refine Sb ?_;clear hrow4 LC;intro B4 CJ bV hH2;clear hK KQ hH;refine aL ?_;clear hH2;intro hH;refine mJ ?_;intro KQ hK;go_at_call 48
 (with_reducible refine (nU ⟨#[100,105,118]⟩ a2 a4 m2 n4 c2 c4 w4).mono ?_)
 rintro e w5 ⟨rfl,b5⟩;refine GL ?_;intro B5 BL;have XD:=hid (show Rd (w.heap.size<=·) w5 (aJ jS (eT at_ [⟨#[109,97,116,104]⟩]) (bI t)).d [.string ⟨#[100,105,118]⟩,.string ⟨#[]⟩,.slice a2 m2 c2,.slice a4 n4 c4] from (Nd.dJ ⟨#[100,105,118]⟩ ⟨#[]⟩ ⟨CJ.out.bC b5,bV.out.bC b5⟩).weaken (fun b hb=>Nat.le_trans B0.out.size hb));refine yZ ?_;clear b5;intro HF hH2;clear hK KQ hH;refine aL ?_;clear hH2;intro hH;refine yL ?_;intro KQ hK;refine y9 ?_;intro hH2;clear hK KQ hH;refine aL ?_;clear hH2;intro hH;refine fH (i:=8) rfl (by kernel_rfl) (fun KQ hK=>?_);exact yY
theorem WH (lv:Int) (i t d ti:ByteArray) (at_:At) (li:List aj) (ks:List ah) (vc vp vl vk:Value) (w:World) (hR:eP (·<w.heap.size) w at_ li ks vc vp vl vk) (hs:Mx i t at_ li) (hl:ig w ks vk) (n:Nat) (hv:lv=(n:Int)) (hn:n<=999999999) : Calls Tryz.prog 91 #[.agg #[.int .i64 2,.int .i64 lv,.string i,.string t,.string d,.string ti,.string at_.id,vc,vp,vl,vk]] w (aO w [aJ (⟨#[104]⟩++iE n) (eT at_ []) (dQ li)]):=by
 obtain ⟨ac,nc,cc,rfl⟩:=Rd.au hR.at_.cls
 obtain ⟨ap,np,cp,rfl⟩:=Rd.au hR.at_.aD
 obtain ⟨al,nl,cl,rfl⟩:=Rd.au hR.line;obtain ⟨ak,nk,ck,rfl⟩:=Rd.au hR.kids;obtain ⟨S,hS⟩:∃ S,S=w.heap.size:=⟨_,rfl⟩;obtain ⟨W0,hW0⟩:∃ W0,W0=w.alloc (.cells #[.int .i64 2,.int .i64 lv,.string i,.string t,.string d,.string ti,.string at_.id,.slice ac nc cc,.slice ap np cp,.slice al nl cl,.slice ak nk ck] 48):=⟨_,rfl⟩;have k0:CB 48 S [.int .i64 2,.int .i64 lv,.string i,.string t,.string d,.string ti,.string at_.id,.slice ac nc cc,.slice ap np cp,.slice al nl cl,.slice ak nk ck] W0:=by rw [hW0,hS];exact CB.new _ _ w
 refine CG ?_;intro b0 SX e0 Ez dR;have cO:=hid hs;have B0:=hid b0;have HR:=hid hR;obtain rfl:=hv;refine Z6 ?_;intro q5 q6;clear hR hs hl k0 b0;go_enter Tryz.func91,Tryz.ntmps91;go_upto_region 5 with (fail)
 rw [<- hW0,<- hS];clear hW0 hS;refine Je 12 (fun w'=>Below W0.heap.size W0 w') (by kernel_rfl) (Below.refl _ _).drew ?_;intro hH;refine RY ?_;refine R9 ?_;refine Z5 ?_;refine ZX ?_;refine eY 7 rfl (by kernel_rfl) hH (by rfl) (by intro wv hSw;obtain ⟨e1,e2,e3,e4,e5,e6,e7,e8,e9,e10⟩:=SX.out wv hSw;go_simp;try with_reducible rfl) ?_;refine eY 8 rfl (by kernel_rfl) hH (by rfl) (by intro wv hSw;obtain ⟨e1,e2,e3,e4,e5,e6,e7,e8,e9,e10⟩:=SX.out wv hSw;go_simp;try with_reducible rfl) ?_;obtain ⟨y0,hy0⟩:∃ y0,y0=W0.drew:=⟨_,rfl⟩;rw [<- hy0] at hH;refine R5 ?_;clear hy0;intro pE hat;have AC:Hid (Calls Tryz.prog 144 #[.agg #[.string at_.id,.slice ac nc cc,.slice ap np cp],.string ⟨#[]⟩] y0 (aU y0 (eT at_ []))):=by
  have h:=jF at_ ⟨#[]⟩ (.slice ac nc cc) (.slice ap np cp) y0 hat (by have:=cO.out.sh;unfold At.short at this;omega) (fun c hc=>by have:=cO.out.sh;unfold At.short at this;have:=this.2.2.2.1 c hc;omega) (by decide) cO.out.cf
  rw [if_pos (by decide)] at h;exact h
 clear hat;refine fH (i:=2) rfl (by kernel_rfl) (fun KQ hK=>?_);go_simp;go_at_call 143
 (with_reducible refine (za n y0 hn).mono ?_)
 rintro e y1 ⟨rfl,hy1⟩;rw [hy1];clear hy1 y1;refine hK.out _ _ (fun _ _=>pE) (fun hH2=>?_);clear hK KQ hH;refine aL ?_;clear hH2;intro hH;have hadd:∀ w:World,(Op.stringOp .add (⟨#[104]⟩:ByteArray) (iE n)).run Tryz.prog w=.ok (.string (⟨#[104]⟩++iE n)) w:=fun w=>run_string_add_sum w _ _ q5
 refine RZ ?_;refine mJ ?_;intro KQ hK;go_at_call 144
 (with_reducible refine (AC.out).mono ?_)
 rintro e y1 ⟨aZ,v2,rfl,hrow2⟩;obtain ⟨a2,m2,c2,rfl⟩:=hrow2.slice3;refine y8 ?_;intro B1;have Qn:=hid (show Rd (W0.heap.size<=·) y1 (q32 (eT at_ [])) [.slice a2 m2 c2] from hrow2.bZ.weaken (fun b hb=>Nat.le_trans pE.size hb));have LC:=hid (dR.out y1 B1);clear hrow2 AC;refine hK.out _ _ (fun _ _=>B1) (fun hH2=>?_);clear hK KQ hH;refine aL ?_;clear hH2;intro hH;refine Co ?_;intro KQ hK;go_at_call 142
 (with_reducible refine (LC.out).mono ?_)
 rintro e w4 ⟨bD,v4,rfl,hrow4⟩;obtain ⟨a4,n4,c4,rfl⟩:=hrow4.slice3;have B4:Below W0.heap.size W0 w4:=B1.trans (hrow4.aM.mono B1.size);have CJ:=hid (Qn.out.bC hrow4.aM);have bV:=hid (show Rd (W0.heap.size<=·) w4 (gD (dQ li)) [.slice a4 n4 c4] from hrow4.bZ.weaken (fun b hb=>Nat.le_trans B1.size hb));clear hrow4 LC;refine hK.out _ _ (fun _ _=>B4) (fun hH2=>?_);clear hK KQ hH;refine aL ?_;clear hH2;intro hH;refine fH (i:=10) rfl (by kernel_rfl) (fun KQ hK=>?_);go_simp;go_at_call 48
 (with_reducible refine (nU ((⟨#[104]⟩:ByteArray)++iE n) a2 a4 m2 n4 c2 c4 w4).mono ?_)
 rintro e w5 ⟨rfl,b5⟩;refine GL ?_;intro B5 BL;have XD:=hid (show Rd (w.heap.size<=·) w5 (aJ ((⟨#[104]⟩:ByteArray)++iE n) (eT at_ []) (dQ li)).d [.string ((⟨#[104]⟩:ByteArray)++iE n),.string ⟨#[]⟩,.slice a2 m2 c2,.slice a4 n4 c4] from (Nd.dJ ((⟨#[104]⟩:ByteArray)++iE n) ⟨#[]⟩ ⟨CJ.out.bC b5,bV.out.bC b5⟩).weaken (fun b hb=>Nat.le_trans B0.out.size hb));refine yZ ?_;clear b5;intro HF hH2;clear hK KQ hH;refine aL ?_;clear hH2;intro hH;refine fH (i:=11) rfl (by kernel_rfl) (fun KQ hK=>?_);go_simp;refine y9 ?_;intro hH2;clear hK KQ hH;refine aL ?_;clear hH2;intro hH;refine fH (i:=12) rfl (by kernel_rfl) (fun KQ hK=>?_);exact yY
theorem MP{P Q:Prop}(q:Q)(h:Nonempty Q->P:=by
 intro qQ;intro hH;refine eY 0 rfl (by kernel_rfl) hH (by rfl) (by intro wv hSw;obtain ⟨e1,e2,e3,e4,e5,e6,e7,e8,e9,e10⟩:=SX.out wv hSw;go_simp;try with_reducible rfl) ?_;refine eY 2 rfl (by kernel_rfl) hH (by rfl) (by intro wv hSw;obtain ⟨e1,e2,e3,e4,e5,e6,e7,e8,e9,e10⟩:=SX.out wv hSw;go_simp;try with_reducible rfl) ?_;refine eY 3 rfl (by kernel_rfl) hH (by rfl) (by intro wv hSw;obtain ⟨e1,e2,e3,e4,e5,e6,e7,e8,e9,e10⟩:=SX.out wv hSw;go_simp;try with_reducible rfl) ?_;obtain ⟨y0,hy0⟩:∃ y0,y0=W0.drew:=⟨_,rfl⟩;revert hH y0 hy0;exact qQ.elim fun x=>x):P:=h ⟨q⟩
theorem Z7{P Q:Prop}(q:Q)(h:Nonempty Q->P:=by
 intro qQ;obtain ⟨S,hS⟩:∃ S,S=w.heap.size:=⟨_,rfl⟩;obtain ⟨W0,hW0⟩:∃ W0,W0=w.alloc (.cells #[.int .i64 3,.int .i64 lv,.string i,.string t,.string d,.string ti,.string at_.id,.slice ac nc cc,.slice ap np cp,.slice al nl cl,.slice ak nk ck] 48):=⟨_,rfl⟩;have k0:CB 48 S [.int .i64 3,.int .i64 lv,.string i,.string t,.string d,.string ti,.string at_.id,.slice ac nc cc,.slice ap np cp,.slice al nl cl,.slice ak nk ck] W0:=by rw [hW0,hS];exact CB.new _ _ w
 revert S hS W0 hW0 k0;exact qQ.elim fun x=>x):P:=h ⟨q⟩
theorem MQ{P Q:Prop}(q:Q)(h:Nonempty Q->P:=by
 intro qQ;refine fH (i:=1) rfl (by kernel_rfl) (fun KQ hK=>?_);go_simp;go_at_call 49
 (with_reducible refine (SC.out).mono ?_)
 revert KQ hK;exact qQ.elim fun x=>x):P:=h ⟨q⟩
theorem Z8{P Q:Prop}(q:Q)(h:Nonempty Q->P:=by
 intro qQ;obtain ⟨w7,hw7⟩:∃ w7,w7=w6.alloc (.cells #[.string ⟨#[99,111,100,101]⟩,.string ⟨#[]⟩,.slice a2 m2 c2,.slice a4 n4 c4] 35):=⟨_,rfl⟩;obtain ⟨p7,Sc⟩:∃ p7,p7=w6.heap.size:=⟨_,rfl⟩;have R7:=HF6.out;rw [<- hw7,<- Sc] at R7;rw [<- hw7,<- Sc];have B7:Below W0.heap.size W0 w7:=R7.aM;revert w7 hw7 p7 Sc R7 B7;exact qQ.elim fun x=>x):P:=h ⟨q⟩
theorem Rn (lv:Int) (i t d ti:ByteArray) (at_:At) (li:List aj) (ks:List ah) (vc vp vl vk:Value) (w:World) (hR:eP (·<w.heap.size) w at_ li ks vc vp vl vk) (hs:Mx i t at_ li) (hl:ig w ks vk) (hi:aW i=true) : Calls Tryz.prog 91 #[.agg #[.int .i64 3,.int .i64 lv,.string i,.string t,.string d,.string ti,.string at_.id,vc,vp,vl,vk]] w (aO w [aJ GQ [] [aJ dK (bU dx ⟨#[]⟩) (bI t)]]):=by
 obtain ⟨ac,nc,cc,rfl⟩:=Rd.au hR.at_.cls
 obtain ⟨ap,np,cp,rfl⟩:=Rd.au hR.at_.aD
 obtain ⟨al,nl,cl,rfl⟩:=Rd.au hR.line;obtain ⟨ak,nk,ck,rfl⟩:=Rd.au hR.kids;refine Z7 ?_;intro S hS W0 hW0 k0;refine CG ?_;intro b0 SX e0 Ez dR;have cO:=hid hs;have B0:=hid b0;have HR:=hid hR;have VY:i.toList.isEmpty=true:=by exact MR
 clear hi;clear hR hs hl k0 b0;go_enter Tryz.func91,Tryz.ntmps91;go_upto_region 8 with (fail)
 rw [<- hW0,<- hS];clear hW0 hS;have e2:=(SX.out W0 (Below.refl _ _)).2.1;go_upto_region 10 with (fail)
 clear e2;refine Je 9 (fun w'=>Below W0.heap.size W0 w') (by kernel_rfl) (Below.refl _ _).drew ?_;refine MP ?_;intro hH y0 hy0;rw [<- hy0] at hH;rw [<- hy0];clear hy0;have pE:Below W0.heap.size W0 y0:=hH;have SC:=hid (Qm ⟨#[99,108,97,115,115]⟩ ⟨#[]⟩ y0);refine MQ ?_;intro KQ hK;rintro e y1 ⟨aZ,v2,rfl,hrow2⟩;obtain ⟨a2,m2,c2,rfl⟩:=hrow2.slice3;refine y8 ?_;intro B1;have Qn:=hid (show Rd (W0.heap.size<=·) y1 (q32 (bU dx ⟨#[]⟩)) [.slice a2 m2 c2] from hrow2.bZ.weaken (fun b hb=>Nat.le_trans pE.size hb));clear hrow2 SC;have LC:=hid (W9 t y1);refine hK.out _ _ (fun _ _=>B1) (fun hH2=>?_);clear hK KQ hH;refine aL ?_;clear hH2;intro hH;refine GN ?_;intro KQ hK;go_at_call 98
 (with_reducible refine (LC.out).mono ?_)
 rintro e w4 ⟨bD,v4,rfl,hrow4⟩;obtain ⟨a4,n4,c4,rfl⟩:=hrow4.slice3;refine Sb ?_;clear hrow4 LC;intro B4 CJ bV hH2;clear hK KQ hH;refine aL ?_;clear hH2;intro hH;refine yV ?_;intro KQ hK;go_at_call 48
 (with_reducible refine (nU ⟨#[99,111,100,101]⟩ a2 a4 m2 n4 c2 c4 w4).mono ?_)
 rintro e w6 ⟨rfl,b6⟩;have B6:Below W0.heap.size W0 w6:=B4.trans (b6.mono B4.size);have X6:=hid (show Rd (W0.heap.size<=·) w6 (aJ dK (bU dx ⟨#[]⟩) (bI t)).d [.string ⟨#[99,111,100,101]⟩,.string ⟨#[]⟩,.slice a2 m2 c2,.slice a4 n4 c4] from Nd.dJ ⟨#[99,111,100,101]⟩ ⟨#[]⟩ ⟨CJ.out.bC b6,bV.out.bC b6⟩);have HF6:=hid (aF.JX B6 X6.out);clear b6;refine hK.out _ _ (fun _ _=>B6) (fun hH2=>?_);clear hK KQ hH;refine aL ?_;clear hH2;intro hH;refine mJ ?_;intro KQ hK;refine Z8 ?_;intro w7 hw7 p7 Sc R7 B7;have KS7:=hid (show Rd (W0.heap.size<=·) w7 (gD [aJ dK (bU dx ⟨#[]⟩) (bI t)]) [.slice (some ⟨p7,0,none⟩) 1 1] from R7.bZ);clear HF6 X6 hw7 Sc R7;refine hK.out _ _ (fun _ _=>B7) (fun hH2=>?_);clear hK KQ hH;refine aL ?_;clear hH2;intro hH;refine yL ?_;intro KQ hK;go_at_call 48
 (with_reducible refine (nU ⟨#[112,114,101]⟩ none (some ⟨p7,0,none⟩) 0 1 0 1 w7).mono ?_)
 rintro e w5 ⟨rfl,b5⟩;have B5:Below W0.heap.size W0 w5:=B7.trans (b5.mono B7.size);have BL:=hid (B0.out.trans (B5.mono B0.out.size));have XD:=hid (show Rd (w.heap.size<=·) w5 (aJ ⟨#[112,114,101]⟩ [] [aJ dK (bU dx ⟨#[]⟩) (bI t)]).d [.string ⟨#[112,114,101]⟩,.string ⟨#[]⟩,.slice none 0 0,.slice (some ⟨p7,0,none⟩) 1 1] from (Nd.dJ ⟨#[112,114,101]⟩ ⟨#[]⟩ ⟨Rd.aC _ _ _,KS7.out.bC b5⟩).weaken (fun b hb=>Nat.le_trans B0.out.size hb));refine yZ ?_;clear b5;intro HF hH2;clear hK KQ hH;refine aL ?_;clear hH2;intro hH;refine Gv ?_;intro KQ hK;refine y9 ?_;intro hH2;clear hK KQ hH;refine aL ?_;clear hH2;intro hH;refine fH (i:=9) rfl (by kernel_rfl) (fun KQ hK=>?_);exact yY
theorem Ro (lv:Int) (i t d ti:ByteArray) (at_:At) (li:List aj) (ks:List ah) (vc vp vl vk:Value) (w:World) (hR:eP (·<w.heap.size) w at_ li ks vc vp vl vk) (hs:Mx i t at_ li) (hl:ig w ks vk) (hi:aW i=false) : Calls Tryz.prog 91 #[.agg #[.int .i64 3,.int .i64 lv,.string i,.string t,.string d,.string ti,.string at_.id,vc,vp,vl,vk]] w (aO w [aJ GQ [] [aJ dK (bU dx (⟨#[108,97,110,103,117,97,103,101,45]⟩++i)) (bI t)]]):=by
 obtain ⟨ac,nc,cc,rfl⟩:=Rd.au hR.at_.cls
 obtain ⟨ap,np,cp,rfl⟩:=Rd.au hR.at_.aD
 obtain ⟨al,nl,cl,rfl⟩:=Rd.au hR.line;obtain ⟨ak,nk,ck,rfl⟩:=Rd.au hR.kids;refine Z7 ?_;intro S hS W0 hW0 k0;refine CG ?_;intro b0 SX e0 Ez dR;have cO:=hid hs;have B0:=hid b0;have HR:=hid hR;have VY:i.toList.isEmpty=false:=by exact MR
 clear hi;have q5:(⟨#[108,97,110,103,117,97,103,101,45]⟩:ByteArray).size+i.size<=9223372036854775807:=by have:(⟨#[108,97,110,103,117,97,103,101,45]⟩:ByteArray).size=9:=rfl;have:=cO.out.i;omega
 have q6:9+i.size<=9223372036854775807:=by have:=cO.out.i;omega
 clear hR hs hl k0 b0;go_enter Tryz.func91,Tryz.ntmps91;go_upto_region 8 with (fail)
 rw [<- hW0,<- hS];clear hW0 hS;have e2:=(SX.out W0 (Below.refl _ _)).2.1;go_upto_region 10 with (fail)
 clear e2;refine Je 9 (fun w'=>Below W0.heap.size W0 w') (by kernel_rfl) (Below.refl _ _).drew ?_;refine MP ?_;intro hH y0 hy0;rw [<- hy0] at hH;rw [<- hy0];clear hy0;have pE:Below W0.heap.size W0 y0:=hH;have SC:=hid (Qm ⟨#[99,108,97,115,115]⟩ (⟨#[108,97,110,103,117,97,103,101,45]⟩++i) y0);refine MQ ?_;intro KQ hK;rintro e y1 ⟨aZ,v2,rfl,hrow2⟩;obtain ⟨a2,m2,c2,rfl⟩:=hrow2.slice3;refine y8 ?_;intro B1;have Qn:=hid (show Rd (W0.heap.size<=·) y1 (q32 (bU dx (⟨#[108,97,110,103,117,97,103,101,45]⟩++i))) [.slice a2 m2 c2] from hrow2.bZ.weaken (fun b hb=>Nat.le_trans pE.size hb));clear hrow2 SC;have LC:=hid (W9 t y1);refine hK.out _ _ (fun _ _=>B1) (fun hH2=>?_);clear hK KQ hH;refine aL ?_;clear hH2;intro hH;refine GN ?_;intro KQ hK;go_at_call 98
 (with_reducible refine (LC.out).mono ?_)
 rintro e w4 ⟨bD,v4,rfl,hrow4⟩;obtain ⟨a4,n4,c4,rfl⟩:=hrow4.slice3;refine Sb ?_;clear hrow4 LC;intro B4 CJ bV hH2;clear hK KQ hH;refine aL ?_;clear hH2;intro hH;refine yV ?_;intro KQ hK;go_at_call 48
 (with_reducible refine (nU ⟨#[99,111,100,101]⟩ a2 a4 m2 n4 c2 c4 w4).mono ?_)
 rintro e w6 ⟨rfl,b6⟩;have B6:Below W0.heap.size W0 w6:=B4.trans (b6.mono B4.size);have X6:=hid (show Rd (W0.heap.size<=·) w6 (aJ dK (bU dx (⟨#[108,97,110,103,117,97,103,101,45]⟩++i)) (bI t)).d [.string ⟨#[99,111,100,101]⟩,.string ⟨#[]⟩,.slice a2 m2 c2,.slice a4 n4 c4] from Nd.dJ ⟨#[99,111,100,101]⟩ ⟨#[]⟩ ⟨CJ.out.bC b6,bV.out.bC b6⟩);have HF6:=hid (aF.JX B6 X6.out);clear b6;refine hK.out _ _ (fun _ _=>B6) (fun hH2=>?_);clear hK KQ hH;refine aL ?_;clear hH2;intro hH;refine mJ ?_;intro KQ hK;refine Z8 ?_;intro w7 hw7 p7 Sc R7 B7;have KS7:=hid (show Rd (W0.heap.size<=·) w7 (gD [aJ dK (bU dx (⟨#[108,97,110,103,117,97,103,101,45]⟩++i)) (bI t)]) [.slice (some ⟨p7,0,none⟩) 1 1] from R7.bZ);clear HF6 X6 hw7 Sc R7;refine hK.out _ _ (fun _ _=>B7) (fun hH2=>?_);clear hK KQ hH;refine aL ?_;clear hH2;intro hH;refine yL ?_;intro KQ hK;go_at_call 48
 (with_reducible refine (nU ⟨#[112,114,101]⟩ none (some ⟨p7,0,none⟩) 0 1 0 1 w7).mono ?_)
 rintro e w5 ⟨rfl,b5⟩;have B5:Below W0.heap.size W0 w5:=B7.trans (b5.mono B7.size);have BL:=hid (B0.out.trans (B5.mono B0.out.size));have XD:=hid (show Rd (w.heap.size<=·) w5 (aJ ⟨#[112,114,101]⟩ [] [aJ dK (bU dx (⟨#[108,97,110,103,117,97,103,101,45]⟩++i)) (bI t)]).d [.string ⟨#[112,114,101]⟩,.string ⟨#[]⟩,.slice none 0 0,.slice (some ⟨p7,0,none⟩) 1 1] from (Nd.dJ ⟨#[112,114,101]⟩ ⟨#[]⟩ ⟨Rd.aC _ _ _,KS7.out.bC b5⟩).weaken (fun b hb=>Nat.le_trans B0.out.size hb));refine yZ ?_;clear b5;intro HF hH2;clear hK KQ hH;refine aL ?_;clear hH2;intro hH;refine Gv ?_;intro KQ hK;refine y9 ?_;intro hH2;clear hK KQ hH;refine aL ?_;clear hH2;intro hH;refine fH (i:=9) rfl (by kernel_rfl) (fun KQ hK=>?_);exact yY
theorem Z9{P Q:Prop}(q:Q)(h:Nonempty Q->P:=by
 intro qQ;obtain ⟨S,hS⟩:∃ S,S=w.heap.size:=⟨_,rfl⟩;obtain ⟨W0,hW0⟩:∃ W0,W0=w.alloc (.cells #[.int .i64 8,.int .i64 lv,.string i,.string t,.string d,.string ti,.string at_.id,.slice ac nc cc,.slice ap np cp,.slice al nl cl,.slice ak nk ck] 48):=⟨_,rfl⟩;have k0:CB 48 S [.int .i64 8,.int .i64 lv,.string i,.string t,.string d,.string ti,.string at_.id,.slice ac nc cc,.slice ap np cp,.slice al nl cl,.slice ak nk ck] W0:=by rw [hW0,hS];exact CB.new _ _ w
 revert S hS W0 hW0 k0;exact qQ.elim fun x=>x):P:=h ⟨q⟩
theorem Rp (lv:Int) (i t d ti:ByteArray) (at_:At) (li:List aj) (ks:List ah) (vc vp vl vk:Value) (w:World) (hR:eP (·<w.heap.size) w at_ li ks vc vp vl vk) (hs:Mx i t at_ li) (hl:ig w ks vk) (hv:lv=1) : Calls Tryz.prog 91 #[.agg #[.int .i64 8,.int .i64 lv,.string i,.string t,.string d,.string ti,.string at_.id,vc,vp,vl,vk]] w (aO w [aJ WM (bU Ct ⟨#[]⟩) (ah.aV ks)]):=by
 obtain ⟨ac,nc,cc,rfl⟩:=Rd.au hR.at_.cls
 obtain ⟨ap,np,cp,rfl⟩:=Rd.au hR.at_.aD
 obtain ⟨al,nl,cl,rfl⟩:=Rd.au hR.line;obtain ⟨ak,nk,ck,rfl⟩:=Rd.au hR.kids;refine Z9 ?_;intro S hS W0 hW0 k0;refine CG ?_;intro b0 SX e0 Ez dR;have cO:=hid hs;have B0:=hid b0;have HR:=hid hR;obtain rfl:=hv;clear hR hs hl k0 b0;go_enter Tryz.func91,Tryz.ntmps91;go_upto_region 21 with (fail)
 rw [<- hW0,<- hS];clear hW0 hS;have e1:=(SX.out W0 (Below.refl _ _)).1;go_upto_region 23 with (fail)
 clear e1;refine Je 7 (fun w'=>Below W0.heap.size W0 w') (by kernel_rfl) (Below.refl _ _).drew ?_;refine MP ?_;intro hH y0 hy0;rw [<- hy0] at hH;rw [<- hy0];clear hy0;have pE:Below W0.heap.size W0 y0:=hH;have SC:=hid (Qm ⟨#[115,116,97,114,116]⟩ ⟨#[]⟩ y0);refine MQ ?_;intro KQ hK;rintro e y1 ⟨aZ,v2,rfl,hrow2⟩;obtain ⟨a2,m2,c2,rfl⟩:=hrow2.slice3;refine y8 ?_;intro B1;have Qn:=hid (show Rd (W0.heap.size<=·) y1 (q32 (bU Ct ⟨#[]⟩)) [.slice a2 m2 c2] from hrow2.bZ.weaken (fun b hb=>Nat.le_trans pE.size hb));clear hrow2 SC;have LC:=hid (Ez.out y1 B1);refine hK.out _ _ (fun _ _=>B1) (fun hH2=>?_);clear hK KQ hH;refine aL ?_;clear hH2;intro hH;refine GN ?_;intro KQ hK;go_at_call 46
 (with_reducible refine (LC.out).mono ?_)
 rintro e w4 ⟨bD,v4,rfl,hrow4⟩;obtain ⟨a4,n4,c4,rfl⟩:=hrow4.slice3;refine R8 ?_;clear hrow4 LC;intro B4 CJ bV hH2;clear hK KQ hH;refine aL ?_;clear hH2;intro hH;refine yV ?_;intro KQ hK;go_at_call 48
 (with_reducible refine (nU ⟨#[111,108]⟩ a2 a4 m2 n4 c2 c4 w4).mono ?_)
 rintro e w5 ⟨rfl,b5⟩;refine GL ?_;intro B5 BL;have XD:=hid (show Rd (w.heap.size<=·) w5 (aJ ⟨#[111,108]⟩ (bU Ct ⟨#[]⟩) (ah.aV ks)).d [.string ⟨#[111,108]⟩,.string ⟨#[]⟩,.slice a2 m2 c2,.slice a4 n4 c4] from (Nd.dJ ⟨#[111,108]⟩ ⟨#[]⟩ ⟨CJ.out.bC b5,bV.out.bC b5⟩).weaken (fun b hb=>Nat.le_trans B0.out.size hb));refine yZ ?_;clear b5;intro HF hH2;clear hK KQ hH;refine aL ?_;clear hH2;intro hH;refine mJ ?_;intro KQ hK;refine y9 ?_;intro hH2;clear hK KQ hH;refine aL ?_;clear hH2;intro hH;refine fH (i:=7) rfl (by kernel_rfl) (fun KQ hK=>?_);exact yY
theorem Rq (lv:Int) (i t d ti:ByteArray) (at_:At) (li:List aj) (ks:List ah) (vc vp vl vk:Value) (w:World) (hR:eP (·<w.heap.size) w at_ li ks vc vp vl vk) (hs:Mx i t at_ li) (hl:ig w ks vk) (n:Nat) (hv:lv=(n:Int)) (hn:n<=999999999) (h1:lv≠1) : Calls Tryz.prog 91 #[.agg #[.int .i64 8,.int .i64 lv,.string i,.string t,.string d,.string ti,.string at_.id,vc,vp,vl,vk]] w (aO w [aJ WM (bU Ct (iE n)) (ah.aV ks)]):=by
 obtain ⟨ac,nc,cc,rfl⟩:=Rd.au hR.at_.cls
 obtain ⟨ap,np,cp,rfl⟩:=Rd.au hR.at_.aD
 obtain ⟨al,nl,cl,rfl⟩:=Rd.au hR.line;obtain ⟨ak,nk,ck,rfl⟩:=Rd.au hR.kids;refine Z9 ?_;intro S hS W0 hW0 k0;refine CG ?_;intro b0 SX e0 Ez dR;have cO:=hid hs;have B0:=hid b0;have HR:=hid hR;have qv:((n:Int)==1)=false:=by rw [beq_eq_false_iff_ne,<- hv];exact h1
 obtain rfl:=hv;clear hR hs hl k0 b0;go_enter Tryz.func91,Tryz.ntmps91;go_upto_region 21 with (fail)
 rw [<- hW0,<- hS];clear hW0 hS;have e1:=(SX.out W0 (Below.refl _ _)).1;have NC:=hid (za n W0 hn);go_wp2_with fail
 (with_reducible refine NC.out.mono ?_)
 rintro e y1 ⟨rfl,hy1⟩;rw [hy1];clear hy1 y1 NC;go_upto_region 23 with (fail)
 clear e1;refine Je 7 (fun w'=>Below W0.heap.size W0 w') (by kernel_rfl) (Below.refl _ _).drew ?_;refine MP ?_;intro hH y0 hy0;rw [<- hy0] at hH;rw [<- hy0];clear hy0;have pE:Below W0.heap.size W0 y0:=hH;have SC:=hid (Qm ⟨#[115,116,97,114,116]⟩ (iE n) y0);refine MQ ?_;intro KQ hK;rintro e y1 ⟨aZ,v2,rfl,hrow2⟩;obtain ⟨a2,m2,c2,rfl⟩:=hrow2.slice3;refine y8 ?_;intro B1;have Qn:=hid (show Rd (W0.heap.size<=·) y1 (q32 (bU Ct (iE n))) [.slice a2 m2 c2] from hrow2.bZ.weaken (fun b hb=>Nat.le_trans pE.size hb));clear hrow2 SC;have LC:=hid (Ez.out y1 B1);refine hK.out _ _ (fun _ _=>B1) (fun hH2=>?_);clear hK KQ hH;refine aL ?_;clear hH2;intro hH;refine GN ?_;intro KQ hK;go_at_call 46
 (with_reducible refine (LC.out).mono ?_)
 rintro e w4 ⟨bD,v4,rfl,hrow4⟩;obtain ⟨a4,n4,c4,rfl⟩:=hrow4.slice3;refine R8 ?_;clear hrow4 LC;intro B4 CJ bV hH2;clear hK KQ hH;refine aL ?_;clear hH2;intro hH;refine yV ?_;intro KQ hK;go_at_call 48
 (with_reducible refine (nU ⟨#[111,108]⟩ a2 a4 m2 n4 c2 c4 w4).mono ?_)
 rintro e w5 ⟨rfl,b5⟩;refine GL ?_;intro B5 BL;have XD:=hid (show Rd (w.heap.size<=·) w5 (aJ ⟨#[111,108]⟩ (bU Ct (iE n)) (ah.aV ks)).d [.string ⟨#[111,108]⟩,.string ⟨#[]⟩,.slice a2 m2 c2,.slice a4 n4 c4] from (Nd.dJ ⟨#[111,108]⟩ ⟨#[]⟩ ⟨CJ.out.bC b5,bV.out.bC b5⟩).weaken (fun b hb=>Nat.le_trans B0.out.size hb));refine yZ ?_;clear b5;intro HF hH2;clear hK KQ hH;refine aL ?_;clear hH2;intro hH;refine mJ ?_;intro KQ hK;refine y9 ?_;intro hH2;clear hK KQ hH;refine aL ?_;clear hH2;intro hH;refine fH (i:=7) rfl (by kernel_rfl) (fun KQ hK=>?_);exact yY
theorem ja0{P:Prop}(h:P:=by
 have b0:=hid (show Below w.heap.size w W0 by rw [hW0];exact (Below.refl _ _).alloc (Nat.le_refl _) _);have e0:=k0.cell 0 _ rfl;clear k0;go_enter Tryz.func91,Tryz.ntmps91;go_upto_region 1 with (fail)
 rw [<- hW0,<- hS];clear hW0 hS;go_wp2;go_ret;exact aO.nil _ _ b0.out):P:=h
theorem Cu (k:Int) (lv:Int) (i t d ti:ByteArray) (at_:At) (li:List aj) (ks:List ah) (vc vp vl vk:Value) (w:jG9) (hR:eP (·<w.heap.size) w at_ li ks vc vp vl vk) (hk:k=14\/k=15) : Calls Tryz.prog 91 #[.agg #[.int .i64 k,.int .i64 lv,.string i,.string t,.string d,.string ti,.string at_.id,vc,vp,vl,vk]] w (aO w []):=by
 obtain ⟨ac,nc,cc,rfl⟩:=Rd.au hR.at_.cls
 obtain ⟨ap,np,cp,rfl⟩:=Rd.au hR.at_.aD
 obtain ⟨al,nl,cl,rfl⟩:=Rd.au hR.line;obtain ⟨ak,nk,ck,rfl⟩:=Rd.au hR.kids;clear hR;rcases hk with rfl | rfl
 ·obtain ⟨S,hS⟩:∃ S,S=w.heap.size:=⟨_,rfl⟩;obtain ⟨W0,hW0⟩:∃ W0,W0=w.alloc (.cells #[.int .i64 14,.int .i64 lv,.string i,.string t,.string d,.string ti,.string at_.id,.slice ac nc cc,.slice ap np cp,.slice al nl cl,.slice ak nk ck] 48):=⟨_,rfl⟩;have k0:CB 48 S [.int .i64 14,.int .i64 lv,.string i,.string t,.string d,.string ti,.string at_.id,.slice ac nc cc,.slice ap np cp,.slice al nl cl,.slice ak nk ck] W0:=by rw [hW0,hS];exact CB.new _ _ w
  exact ja0
 ·obtain ⟨S,hS⟩:∃ S,S=w.heap.size:=⟨_,rfl⟩;obtain ⟨W0,hW0⟩:∃ W0,W0=w.alloc (.cells #[.int .i64 15,.int .i64 lv,.string i,.string t,.string d,.string ti,.string at_.id,.slice ac nc cc,.slice ap np cp,.slice al nl cl,.slice ak nk ck] 48):=⟨_,rfl⟩;have k0:CB 48 S [.int .i64 15,.int .i64 lv,.string i,.string t,.string d,.string ti,.string at_.id,.slice ac nc cc,.slice ap np cp,.slice al nl cl,.slice ak nk ck] W0:=by rw [hW0,hS];exact CB.new _ _ w
  exact ja0
end Go.Proofs.YtkfnkeflalcphaaGreatDoor

