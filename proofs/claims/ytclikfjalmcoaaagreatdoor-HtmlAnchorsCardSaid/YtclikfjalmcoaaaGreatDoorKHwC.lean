/- Contract of html.Page: the page of a document, or the error. The small case with which each statement of layer 34 ends: it answers true. Plain part: what the walk of publisherref34.block asks of a block; a well-formed, small document without unresolved inlines has it. Plain part: what the walk of the reference asks of the blocks of a well-formed document, and of its notes. Contracts of publisherref34.table, and of publisherref34.block at a table. Contracts of publisherref34.block and publisherref34.inner: the nodes of blocks. Contract of publisherref34.Blocks: the nodes of blocks, with their notes behind them, or the error. Contracts of publisherref34.line, Errors, Frame and Page. The walk of publisherlaw34.HtmlBlocks. The walk of publisherlaw34.HtmlAnchors. -/
import Derived.Test.YtclikfjalmcoaaaGreatDoorKPlVn
import Derived.Test.YtclikfjalmcoaaaGreatDoorKHrV
set_option maxHeartbeats 8000000
set_option maxRecDepth 100000
namespace Go.Proofs.YtclikfjalmcoaaaGreatDoor
open List renaming setIfInBounds_toArray->je3,set_cons_zero->je4,set_cons_succ->je5,getElem?_eq_getElem->je6
open Go.RowKit.Below renaming refl->je7
open Nat renaming le_refl->je8,le_trans->je9
open Go renaming World->jh9
open Go.RowKit renaming Below->jhj
open Go.RowKit
set_option linter.unusedVariables false
set_option linter.unusedSimpArgs false
theorem Np {ok:Nat->Prop} {w:jh9} {n t:ByteArray} {a:List Pr} {ks:List Nd} {va vk:Value} (h:Rd ok w (Nd.mk n t a ks).d [.string n,.string t,va,vk]):Rd ok w (bX ks) [vk]:=by obtain ⟨va',vk',e,hR⟩:=Nd.open_ h;simp only [List.cons.injEq,and_true,true_and] at e;obtain ⟨rfl,rfl⟩:=e;exact hR.ks
def Zd (w w':jh9) (title:ByteArray) (at_:List Pr) (va vk:Value):Prop:=
 ∃ (p3:Nat) (kh bv:Value),vk=.slice (some ⟨p3,0,none⟩) 2 2/\w.heap.size<=p3/\CB 43 p3 [.string mK,.string ⟨#[]⟩,.slice none 0 0,kh,.string oK,.string ⟨#[]⟩,.slice none 0 0,bv] w' /\
  Rd (fun b=>w.heap.size<=b/\b<p3) w' (bX [aN iU [⟨zZ,fQ⟩] [],aN fA [] (bG title)]) [kh]/\Rd (fun b=>w.heap.size<=b/\b<p3) w' (bS at_) [va]
def jm (w:jh9) (title:ByteArray) (E:Nat) (x:Nd) (e:Ending) (w':jh9):Prop:=
 ∃ va vk,e=.returned (.tuple #[.agg #[.string x.nm,.string x.tx,va,vk],.int .i64 (E:Int)])/\jA (w.heap.size<=·) w' x.at_ x.ks va vk/\jhj w.heap.size w w'/\(E=0->Zd w w' title x.at_ va vk)
theorem jm.of {w w':jh9} {title:ByteArray} {E:Nat} {E':Int} {x:Nd} {v:Value} (h:rQ w x (.returned v) w') (hE:E'=(E:Int)) (hx:E=0->∀ va vk,v=.agg #[.string x.nm,.string x.tx,va,vk]->Zd w w' title x.at_ va vk):jm w title E x (.returned (.tuple #[v,.int .i64 E'])) w':=by
 obtain ⟨va,vk,he,h1,h2⟩:=h;subst hE;injection he with he
 exact ⟨va,vk,by rw [he],h1,h2,fun h0=>hx h0 va vk he⟩
theorem Ef (me:List Pr) (l:List ah) (title lang:ByteArray) (vm vb:Value) (w:jh9) (hm:Rd (·<w.heap.size) w (bS me) [vm]) (hb:Rd (·<w.heap.size) w (nR l) [vb]) (hme:me.length<=1000) (mH:∀ p∈me,p.key.size<=1000/\p.val.size<=1000) (hall:ah.bJ l<=32768) (hsm:ah.ay l) (hsz:ah.aS l<=900000) (hil:(ah.aL l).length<=1000) (hbd:ah.pO l) (hti:title.size<=300) (hla:lang.size<=300) (ht:PT w) : Calls Tryz.prog 22 #[.agg #[vm,vb],.string title,.string lang] w (jm w title (Mw me l title lang) (Eh me l title lang)):=by
 obtain ⟨am,cm,Vm,-⟩:=Rd.aC hm;obtain ⟨nm,hnm⟩:∃ nm,nm=me.length:=⟨_,rfl⟩;obtain rfl:vm=.slice am nm cm:=by rw [hnm];simpa using Vm
 obtain ⟨ab,nb,cb,rfl⟩:=Rd.au hb;clear Vm;obtain ⟨S,W0,hS,hW0,z0,k0,k1,b0⟩:=tQ 32 w [.slice am nm cm,.slice ab nb cb];have Rx:jhj w.heap.size w W0:=by rw [<- hS];exact b0
 have CK:=Dx oL me l am ab cm nb cb W0 hme mH hall hsm (fun _=>BZ) (by rw [<- hnm];exact hm.up Rx) (hb.up Rx);rw [<- hnm] at CK;have BC:Hid (∀ W:jh9,jhj W0.heap.size W0 W->Calls Tryz.prog 20 #[.slice ab nb cb] W (bI W (Dh l) (Pv l))):=fun W hW=>yZ l _ W (hb.up (Rx.trans (hW.mono Rx.size))) hsm hsz hil hbd (ht.below (Rx.trans (hW.mono Rx.size)))
 have LC:Hid (∀ W:jh9,Calls Tryz.prog 66 #[.string title] W (dR (.bool (gU title)) W)):=fun W=>by
  have h:=Bw title W (by omega);rw [H7] at h;exact h
 have NC:Hid (∀ W:jh9,Calls Tryz.prog 67 #[.string lang] W (fun e w'=>e=.returned (.bool (je lang))/\W=w')):=fun W=>IW lang W (by omega)
 obtain ⟨EE,I6⟩:∃ EE,EE=Mw me l title lang:=⟨_,rfl⟩;obtain ⟨E0,hE0⟩:∃ E0,E0=gY oL me l:=⟨_,rfl⟩;obtain ⟨T,hT⟩:∃ T,T=gU title:=⟨_,rfl⟩;obtain ⟨G,hG⟩:∃ G,G=je lang:=⟨_,rfl⟩;obtain ⟨EB,Ry⟩:∃ EB,EB=Dh l:=⟨_,rfl⟩;obtain ⟨NB,Ze⟩:∃ NB,NB=Pv l:=⟨_,rfl⟩;have hee:EE=if E0≠0 then E0 else if T=false then 17 else if G=false then 6 else EB:=by
  rw [I6,hE0,hT,hG,Ry];unfold Mw;by_cases h0:gY oL me l≠0
  ·rw [if_pos h0,if_pos h0]
  ·rw [if_neg h0,if_neg h0];have h1:Dh l=if (ah.aL l).any iB=true then 5 else 0:=by
    unfold Dh;rw [if_neg (by rw [Kj (Classical.not_not.1 h0)];simp)]
   rw [h1]
 have hpn:Eh me l title lang=if EE=0 then mZ title lang (dK l) else uD:=by rw [I6];rfl
 have hnb:EB=0->NB=dK l:=fun h=>by rw [Ze];unfold Pv;rw [if_pos (Ry.symm.trans h)]
 rw [<- hE0] at CK;rw [<- hT] at LC;rw [<- hG] at NC;rw [<- Ry,<- Ze] at BC;rw [<- I6];have XG:=Lib.hid CK;have Nq:=Lib.hid hee;have Vn:=Lib.hid hpn;have HNB:=Lib.hid hnb;have F6:=Lib.hid hS;have HW0:=Lib.hid hW0;have Z0:=Lib.hid z0;have B0:=Lib.hid b0;have K1:=Lib.hid k1;have X0:Hid (∀ W:jh9,jhj W0.heap.size W0 W->W.cell? ⟨S,1,none⟩=some (.slice ab nb cb)):=fun W hW=>(k0.below hW).cell 1 _ rfl
 have x0:=k0.cell 0 _ rfl;have x1:=k0.cell 1 _ rfl;clear CK hm hb hme mH hall hsm hsz hil hbd hti hla ht I6 hE0 hT hG Ry Ze hee hpn hnb hS hW0 z0 b0 k1 k0 Rx hnm;go_enter Tryz.func22,Tryz.ntmps22;go_upto_region 1 with (fail)
 rw [<- F6.out];have hk0:=HW0.out;simp only [jy] at hk0;rw [<- hk0];clear hk0;go_wp2_with fail
 (with_reducible refine XG.out.mono ?_)
 rintro e w1 ⟨rfl,b1⟩;have B1:=Lib.hid b1;clear b1 XG x0 x1;by_cases h0:E0=0
 ·have q1:((E0:Int) != 0)=false:=by rw [h0];rfl
  have Vo:Hid (EE=if T=false then 17 else if G=false then 6 else EB):=by show _=_;rw [Nq.out,if_neg (by simp [h0])]
  have LT:=Lib.hid (LC.out w1);clear h0 Nq;go_wp2_with fail
  (with_reducible refine LT.out.mono ?_)
  rintro e w2 ⟨rfl,b2⟩;have B2:=Lib.hid (aU B1.out b2);clear b2 LT;cases T with
  | false=>
   have Vp:=Lib.hid (show EE=17 by rw [Vo.out];rfl);have Rz:=Lib.hid (show Eh me l title lang=uD by rw [Vn.out,Vp.out];rfl);obtain ⟨x0,x1,x2,x3,xf⟩:=mJ (K1.out.below B2.out);obtain ⟨w9,dG⟩:∃ w9,w9=four w2 (S+1) (.string ⟨#[]⟩) (.string ⟨#[]⟩) (.slice none 0 0) (.slice none 0 0):=⟨_,rfl⟩;have hf:=fO ⟨#[]⟩ ⟨#[]⟩ [] [] F6.out Z0.out B0.out K1.out B2.out ⟨Rd.aB _ _ _,Rd.aB _ _ _⟩;rw [<- dG] at hf;have j5:=Lib.hid hf.1;have Ee:=Lib.hid hf.2;clear hf;have hw8:=dG;simp only [four] at hw8;clear dG;go_wp2;rw [<- hw8];have r0:=j5.out.cell 0 _ rfl;have r1:=j5.out.cell 1 _ rfl;have r2:=j5.out.cell 2 _ rfl;have r3:=j5.out.cell 3 _ rfl;exact bodyPost_ret (v:=.tuple #[.agg #[.string ⟨#[]⟩,.string ⟨#[]⟩,.slice none 0 0,.slice none 0 0],.int .i64 (17)]) (by simp [results,Tryz.results22,go_sem,r0,r1,r2,r3]) rfl (by rw [Rz.out,Vp.out];exact jm.of Ee.out (by simp) (fun h=>by cases h))
  | true=>
   have NT:=Lib.hid (NC.out w2);go_wp2_with fail
   (with_reducible refine NT.out.mono ?_)
   rintro e w3 ⟨rfl,hw3⟩;rw [<- hw3];clear NT hw3 w3;cases G with
   | false=>
    have HE6:=Lib.hid (show EE=6 by rw [Vo.out];rfl);have Rz:=Lib.hid (show Eh me l title lang=uD by rw [Vn.out,HE6.out];rfl);obtain ⟨x0,x1,x2,x3,xf⟩:=mJ (K1.out.below B2.out);obtain ⟨w9,dG⟩:∃ w9,w9=four w2 (S+1) (.string ⟨#[]⟩) (.string ⟨#[]⟩) (.slice none 0 0) (.slice none 0 0):=⟨_,rfl⟩;have hf:=fO ⟨#[]⟩ ⟨#[]⟩ [] [] F6.out Z0.out B0.out K1.out B2.out ⟨Rd.aB _ _ _,Rd.aB _ _ _⟩;rw [<- dG] at hf;have j5:=Lib.hid hf.1;have Ee:=Lib.hid hf.2;clear hf;have hw8:=dG;simp only [four] at hw8;clear dG;go_wp2;rw [<- hw8];have r0:=j5.out.cell 0 _ rfl;have r1:=j5.out.cell 1 _ rfl;have r2:=j5.out.cell 2 _ rfl;have r3:=j5.out.cell 3 _ rfl;exact bodyPost_ret (v:=.tuple #[.agg #[.string ⟨#[]⟩,.string ⟨#[]⟩,.slice none 0 0,.slice none 0 0],.int .i64 (6)]) (by simp [results,Tryz.results22,go_sem,r0,r1,r2,r3]) rfl (by rw [Rz.out,HE6.out];exact jm.of Ee.out (by simp) (fun h=>by cases h))
   | true=>
    have XH:=Lib.hid (show EE=EB by rw [Vo.out];rfl);have BT:=Lib.hid (BC.out w2 B2.out);have x1:=X0.out w2 B2.out;go_wp2_with fail
    (with_reducible refine BT.out.mono ?_)
    rintro e w3 ⟨fM,v3,rfl,hrow3⟩;obtain ⟨a3,n3,c3,rfl⟩:=hrow3.slice3;have B3:=Lib.hid (aU B2.out hrow3.aJ);have KB3:=Lib.hid (show Rd (W0.heap.size<=·) w3 (bX NB) [.slice a3 n3 c3] from hrow3.eO.weaken (fun b (hb:w2.heap.size<=b)=>je9 B2.out.size hb));clear hrow3 BT x1;by_cases hB0:EB=0
    ·have q2:((EB:Int) != 0)=false:=by rw [hB0];rfl
     have XI:=Lib.hid (show Eh me l title lang=mZ title lang (dK l) by rw [Vn.out,if_pos (by rw [XH.out,hB0])]);have H0:=Lib.hid (show EE=0 by rw [XH.out,hB0]);have KP3:=Lib.hid (show Rd (W0.heap.size<=·) w3 (bX (dK l)) [.slice a3 n3 c3] by rw [<- HNB.out hB0];exact KB3.out);clear hB0 KB3;have PC:Hid (Calls Tryz.prog 58 #[.slice (some ⟨w3.heap.size,0,none⟩) 2 2] (w3.alloc (.cells #[.string ⟨#[99,104,97,114,115,101,116]⟩,.string ⟨#[117,116,102,45,56]⟩] 9)) (bg (w3.alloc (.cells #[.string ⟨#[99,104,97,114,115,101,116]⟩,.string ⟨#[117,116,102,45,56]⟩] 9)) [⟨zZ,fQ⟩])):=MX zZ fQ w3;have bA:jhj w3.heap.size w3 (w3.alloc (.cells #[.string ⟨#[99,104,97,114,115,101,116]⟩,.string ⟨#[117,116,102,45,56]⟩] 9)):=(je7 _ _).alloc (je8 _) _;go_wp2_with fail
     (with_reducible refine PC.out.mono ?_)
     rintro e w4 ⟨dw,v4,rfl,hrow4⟩;obtain ⟨a4,c4,rfl,-,-⟩:=hrow4.cap (n:=1) rfl;have Zf:jhj w3.heap.size w3 w4:=bA.trans (hrow4.aJ.mono bA.size);have B4:=Lib.hid (aU B3.out Zf);have PR4:=Lib.hid (show Rd (W0.heap.size<=·) w4 (bS [⟨zZ,fQ⟩]) [.slice a4 1 c4] from hrow4.eO.weaken (fun b hb=>je9 B3.out.size (je9 bA.size hb)));have KP4:=Lib.hid (KP3.out.aV Zf);have EC1:=Lib.hid (iC ⟨#[109,101,116,97]⟩ a4 none 1 0 c4 0 w4);clear hrow4 bA Zf PC KP3;go_wp2_with fail
     (with_reducible refine EC1.out.mono ?_)
     rintro e w5 ⟨rfl,b5⟩;have B5:=Lib.hid (aU B4.out b5);have XM5:=Lib.hid (show Rd (W0.heap.size<=·) w5 (aN iU [⟨zZ,fQ⟩] []).d [.string ⟨#[109,101,116,97]⟩,.string ⟨#[]⟩,.slice a4 1 c4,.slice none 0 0] from Nd.gI ⟨#[109,101,116,97]⟩ ⟨#[]⟩ ⟨PR4.out.aV b5,Rd.aB _ _ _⟩);have KP5:=Lib.hid (KP4.out.aV b5);have DC:=Lib.hid (fu title w5);clear b5 EC1 PR4 KP4;go_wp2_with fail
     (with_reducible refine DC.out.mono ?_)
     rintro e w6 ⟨Vq,v6,rfl,iw⟩;obtain ⟨a6,n6,c6,rfl⟩:=iw.slice3;have B6:=Lib.hid (aU B5.out iw.aJ);have XM6:=Lib.hid (XM5.out.aV iw.aJ);have KP6:=Lib.hid (KP5.out.aV iw.aJ);have KT6:=Lib.hid (show Rd (W0.heap.size<=·) w6 (bX (bG title)) [.slice a6 n6 c6] from iw.eO.weaken (fun b (hb:w5.heap.size<=b)=>je9 B5.out.size hb));have O9:=Lib.hid (iC ⟨#[116,105,116,108,101]⟩ none a6 0 n6 0 c6 w6);clear iw DC XM5 KP5;go_wp2_with fail
     (with_reducible refine O9.out.mono ?_)
     rintro e w7 ⟨rfl,b7⟩;have B7:=Lib.hid (aU B6.out b7);have Zg:=Lib.hid (F9 (ok:=(W0.heap.size<=·)) (w:=w7) (x:=(aN iU [⟨zZ,fQ⟩] [])) (y:=(aN fA [] (bG title))) B7.out.size (XM6.out.aV b7) (Nd.gI ⟨#[116,105,116,108,101]⟩ ⟨#[]⟩ ⟨Rd.aB _ _ _,KT6.out.aV b7⟩));have bA:jhj w7.heap.size w7 (w7.alloc (.cells #[.string ⟨#[109,101,116,97]⟩,.string ⟨#[]⟩,.slice a4 1 c4,.slice none 0 0,.string ⟨#[116,105,116,108,101]⟩,.string ⟨#[]⟩,.slice none 0 0,.slice a6 n6 c6] 43)):=(je7 _ _).alloc (je8 _) _;have BA7:=Lib.hid (aU B7.out bA);have KP7:=Lib.hid ((KP6.out.aV b7).aV bA);obtain ⟨p7,Zh⟩:∃ p7,p7=w7.heap.size:=⟨_,rfl⟩;have HP7:=Lib.hid Zh;have XJ:=iC ⟨#[104,101,97,100]⟩ none (some ⟨p7,0,none⟩) 0 2 0 2 (w7.alloc (.cells #[.string ⟨#[109,101,116,97]⟩,.string ⟨#[]⟩,.slice a4 1 c4,.slice none 0 0,.string ⟨#[116,105,116,108,101]⟩,.string ⟨#[]⟩,.slice none 0 0,.slice a6 n6 c6] 43));rw [<- Zh] at Zg;have XJ:=Lib.hid XJ;clear b7 O9 XM6 KP6 KT6 bA Zh;go_wp2_with fail
     rw [<- HP7.out]
     (with_reducible refine XJ.out.mono ?_)
     rintro e w8 ⟨rfl,b8⟩;have B8:=Lib.hid (aU BA7.out b8);have XH8:=Lib.hid (show Rd (W0.heap.size<=·) w8 (aN mK [] [(aN iU [⟨zZ,fQ⟩] []),(aN fA [] (bG title))]).d [.string ⟨#[104,101,97,100]⟩,.string ⟨#[]⟩,.slice none 0 0,.slice (some ⟨p7,0,none⟩) 2 2] from Nd.gI ⟨#[104,101,97,100]⟩ ⟨#[]⟩ ⟨Rd.aB _ _ _,Zg.out.aV b8⟩);have KP8:=Lib.hid (KP7.out.aV b8);obtain ⟨Bh,Zi⟩:∃ Bh,Bh=w8.heap.size:=⟨_,rfl⟩;obtain ⟨wH,XM⟩:∃ wH,wH=w8.alloc (.cells #[.string ⟨#[104,101,97,100]⟩,.string ⟨#[]⟩,.slice none 0 0,.slice (some ⟨p7,0,none⟩) 2 2] 43):=⟨_,rfl⟩;have bH:jhj w8.heap.size w8 wH:=by rw [XM];exact (je7 _ _).alloc (je8 _) _
     have kH:CB 43 Bh [.string ⟨#[104,101,97,100]⟩,.string ⟨#[]⟩,.slice none 0 0,.slice (some ⟨p7,0,none⟩) 2 2] wH:=by rw [XM,Zi];exact CB.new _ _ _
     have BH:=Lib.hid (aU B8.out bH);have XHH:=Lib.hid (XH8.out.aV bH);have KPH:=Lib.hid (KP8.out.aV bH);have Zj:Hid (∀ y:jh9,jhj wH.heap.size wH y->y.cell? ⟨Bh,0,none⟩=some (.string ⟨#[104,101,97,100]⟩)/\y.cell? ⟨Bh,1,none⟩=some (.string ⟨#[]⟩)/\y.cell? ⟨Bh,2,none⟩=some (.slice none 0 0)/\y.cell? ⟨Bh,3,none⟩=some (.slice (some ⟨p7,0,none⟩) 2 2)):=fun y hy=>⟨(kH.below hy).cell 0 _ rfl,(kH.below hy).cell 1 _ rfl,(kH.below hy).cell 2 _ rfl,(kH.below hy).cell 3 _ rfl⟩
     clear b8 XJ Zg KP7 XH8 KP8 bH kH;go_upto_region 12 with (fail)
     rw [<- XM,<- Zi];clear XM Zi;refine gM 8 (fun w'=>jhj wH.heap.size wH w') (by kernel_rfl) (je7 _ _).drew ?_;intro hH;refine uj 0 (v:=?_) rfl (by kernel_rfl) hH (by rfl) ?_ ?_;rotate_left
     ·(intro wv hSw;obtain ⟨c0,c1,c2,c3⟩:=Zj.out wv hSw;go_simp;try with_reducible rfl)
     try simp only [Act.put,je3,je4,je5]
     refine uj 3 (v:=?_) rfl (by kernel_rfl) hH (by rfl) ?_ ?_;rotate_left
     ·(intro wv hSw;obtain ⟨c0,c1,c2,c3⟩:=Zj.out wv hSw;go_simp;try with_reducible rfl)
     try simp only [Act.put,je3,je4,je5]
     refine uj 4 (v:=?_) rfl (by kernel_rfl) hH (by rfl) ?_ ?_;rotate_left
     ·(intro wv hSw;obtain ⟨c0,c1,c2,c3⟩:=Zj.out wv hSw;go_simp;try with_reducible rfl)
     try simp only [Act.put,je3,je4,je5]
     obtain ⟨y0,hy0⟩:∃ y0,y0=wH.drew:=⟨_,rfl⟩;have Vr:jhj wH.heap.size wH y0:=by rw [hy0];exact (je7 _ _).drew
     rw [<- hy0] at hH;rw [<- hy0];clear hy0;have LC2:Hid (Calls Tryz.prog 58 #[.slice (some ⟨y0.heap.size,0,none⟩) 2 2] (y0.alloc (.cells #[.string ⟨#[108,97,110,103]⟩,.string lang] 9)) (bg (y0.alloc (.cells #[.string ⟨#[108,97,110,103]⟩,.string lang] 9)) [⟨jC,lang⟩])):=MX jC lang y0;refine fK (i:=1) rfl (by kernel_rfl) (fun KQ hK=>?_);go_simp;have XO:jhj wH.heap.size wH (y0.alloc (.cells #[.string ⟨#[108,97,110,103]⟩,.string lang] 9)):=Vr.alloc Vr.size _;refine hK.out _ _ (fun _ _=>XO) (fun hH2=>?_);clear hK KQ hH;have hH:=hH2 (by decide) (by kernel_rfl);clear hH2;try simp only [Act.put,je3,je4,je5]
     refine fK (i:=2) rfl (by kernel_rfl) (fun KQ hK=>?_);go_simp;go_at_call 58
     (with_reducible refine (LC2.out).mono ?_)
     rintro e y2 ⟨aW,v2,rfl,hrow2⟩;obtain ⟨a9,c9,rfl,-,-⟩:=hrow2.cap (n:=1) rfl;have Zk:jhj wH.heap.size wH y2:=XO.trans (hrow2.aJ.mono XO.size);have Vs:=Lib.hid (show Rd (W0.heap.size<=·) y2 (bS [⟨jC,lang⟩]) [.slice a9 1 c9] from hrow2.eO.weaken (fun b hb=>je9 BH.out.size (je9 XO.size hb)));clear hrow2 LC2;refine hK.out _ _ (fun _ _=>Zk) (fun hH2=>?_);clear hK KQ hH;have hH:=hH2 (by decide) (by kernel_rfl);clear hH2;try simp only [Act.put,je3,je4,je5]
     refine fK (i:=5) rfl (by kernel_rfl) (fun KQ hK=>?_);go_simp;go_at_call 57
     (with_reducible refine (iC ⟨#[98,111,100,121]⟩ none a3 0 n3 0 c3 y2).mono ?_)
     rintro e y3 ⟨rfl,hb⟩;have Pw:jhj wH.heap.size wH y3:=Zk.trans (hb.mono Zk.size);have Zl:=Lib.hid (Vs.out.aV hb);have Zm:=Lib.hid (F9 (ok:=(W0.heap.size<=·)) (w:=y3) (x:=(aN mK [] [(aN iU [⟨zZ,fQ⟩] []),(aN fA [] (bG title))])) (y:=(aN oK [] (dK l))) (je9 BH.out.size Pw.size) (XHH.out.aV Pw) (Nd.gI ⟨#[98,111,100,121]⟩ ⟨#[]⟩ ⟨Rd.aB _ _ _,KPH.out.aV Pw⟩));have HXK:=Lib.hid (show Rd (fun b=>W0.heap.size<=b/\b<y3.heap.size) y3 (bX [aN iU [⟨zZ,fQ⟩] [],aN fA [] (bG title)]) [.slice (some ⟨p7,0,none⟩) 2 2] from (Np (XHH.out.aV Pw)).inside);have HXA:=Lib.hid (show Rd (fun b=>W0.heap.size<=b/\b<y3.heap.size) y3 (bS [⟨jC,lang⟩]) [.slice a9 1 c9] from Zl.out.inside);clear hb Vs;refine hK.out _ _ (fun _ _=>Pw) (fun hH2=>?_);clear hK KQ hH;have hH:=hH2 (by decide) (by kernel_rfl);clear hH2;try simp only [Act.put,je3,je4,je5]
     refine fK (i:=6) rfl (by kernel_rfl) (fun KQ hK=>?_);go_simp;have bA:jhj y3.heap.size y3 (y3.alloc (.cells #[.string ⟨#[104,101,97,100]⟩,.string ⟨#[]⟩,.slice none 0 0,.slice (some ⟨p7,0,none⟩) 2 2,.string ⟨#[98,111,100,121]⟩,.string ⟨#[]⟩,.slice none 0 0,.slice a3 n3 c3] 43)):=(je7 _ _).alloc (je8 _) _;have XQ:jhj wH.heap.size wH (y3.alloc (.cells #[.string ⟨#[104,101,97,100]⟩,.string ⟨#[]⟩,.slice none 0 0,.slice (some ⟨p7,0,none⟩) 2 2,.string ⟨#[98,111,100,121]⟩,.string ⟨#[]⟩,.slice none 0 0,.slice a3 n3 c3] 43)):=Pw.trans (bA.mono Pw.size);have Zn:=Lib.hid (Zl.out.aV bA);have RA:=Lib.hid (HXK.out.aV bA);have RB:=Lib.hid (HXA.out.aV bA);have RD:=Lib.hid (CB.new 43 [.string ⟨#[104,101,97,100]⟩,.string ⟨#[]⟩,.slice none 0 0,.slice (some ⟨p7,0,none⟩) 2 2,.string ⟨#[98,111,100,121]⟩,.string ⟨#[]⟩,.slice none 0 0,.slice a3 n3 c3] y3);have rY:=Lib.hid Pw.size;obtain ⟨y6,hN⟩:∃ y6,y6=y3.alloc (.cells #[.string ⟨#[104,101,97,100]⟩,.string ⟨#[]⟩,.slice none 0 0,.slice (some ⟨p7,0,none⟩) 2 2,.string ⟨#[98,111,100,121]⟩,.string ⟨#[]⟩,.slice none 0 0,.slice a3 n3 c3] 43):=⟨_,rfl⟩;obtain ⟨p3,hf⟩:∃ p3,p3=y3.heap.size:=⟨_,rfl⟩;rw [<- hN,<- hf] at Zm;rw [<- hN] at Zn XQ;have RA:Hid (Rd (fun b=>W0.heap.size<=b/\b<p3) y6 (bX [aN iU [⟨zZ,fQ⟩] [],aN fA [] (bG title)]) [.slice (some ⟨p7,0,none⟩) 2 2]):=by show Rd _ _ _ _;rw [hf,hN];exact RA.out
     have RB:Hid (Rd (fun b=>W0.heap.size<=b/\b<p3) y6 (bS [⟨jC,lang⟩]) [.slice a9 1 c9]):=by show Rd _ _ _ _;rw [hf,hN];exact RB.out
     have RD:Hid (CB 43 p3 [.string ⟨#[104,101,97,100]⟩,.string ⟨#[]⟩,.slice none 0 0,.slice (some ⟨p7,0,none⟩) 2 2,.string ⟨#[98,111,100,121]⟩,.string ⟨#[]⟩,.slice none 0 0,.slice a3 n3 c3] y6):=by show CB _ _ _ _;rw [hf,hN];exact RD.out
     have rY:Hid (wH.heap.size<=p3):=by show _<=_;rw [hf];exact rY.out
     rw [<- hN,<- hf];clear hN hf bA Zl;refine hK.out _ _ (fun _ _=>XQ) (fun hH2=>?_);clear hK KQ hH;have hH:=hH2 (by decide) (by kernel_rfl);clear hH2;try simp only [Act.put,je3,je4,je5]
     refine fK (i:=7) rfl (by kernel_rfl) (fun KQ hK=>?_);go_simp;go_at_call 57
     (with_reducible refine (iC ⟨#[104,116,109,108]⟩ a9 (some ⟨p3,0,none⟩) 1 2 c9 2 y6).mono ?_)
     rintro e y7 ⟨rfl,hb⟩;have B7y:jhj wH.heap.size wH y7:=XQ.trans (hb.mono XQ.size);have HN:=Lib.hid (show jA (W0.heap.size<=·) y7 [⟨jC,lang⟩] [(aN mK [] [(aN iU [⟨zZ,fQ⟩] []),(aN fA [] (bG title))]),(aN oK [] (dK l))] (.slice a9 1 c9) (.slice (some ⟨p3,0,none⟩) 2 2) from ⟨Zn.out.aV hb,Zm.out.aV hb⟩);have BL:=Lib.hid (aU BH.out B7y);have Zo:=Lib.hid (RA.out.aV hb);have Zp:=Lib.hid (RB.out.aV hb);have Zq:=Lib.hid (RD.out.below hb);clear hb Zn Zm;refine hK.out _ _ (fun _ _=>B7y) (fun hH2=>?_);clear hK KQ hH;have hH:=hH2 (by decide) (by kernel_rfl);clear hH2;try simp only [Act.put,je3,je4,je5]
     refine fK (i:=8) rfl (by kernel_rfl) (fun KQ hK=>?_);obtain ⟨x0,x1,x2,x3,xf⟩:=mJ (K1.out.below BL.out);go_simp;clear x0 x1 x2 x3 xf;refine hK.out _ _ (fun h=>absurd rfl h) (fun _=>?_);clear hK KQ hH;try simp only [Act.put,je3,je4,je5]
     refine fK (i:=9) rfl (by kernel_rfl) (fun KQ hK=>?_);go_simp;refine hK.out _ _ (fun _ h=>absurd h (by decide)) (fun _=>?_);clear hK KQ;try simp only [Act.put,je3,je4,je5]
     refine F4 (by kernel_rfl) ?_ _;obtain ⟨w9,dG⟩:∃ w9,w9=four y7 (S+1) (.string ⟨#[104,116,109,108]⟩) (.string ⟨#[]⟩) (.slice a9 1 c9) (.slice (some ⟨p3,0,none⟩) 2 2):=⟨_,rfl⟩;have HX9:Hid (Zd w w9 title [⟨jC,lang⟩] (.slice a9 1 c9) (.slice (some ⟨p3,0,none⟩) 2 2)):=by
      have e1:=Z0.out;have e2:=BH.out.size;have e4:=rY.out;have e5:=F6.out;refine ⟨p3,.slice (some ⟨p7,0,none⟩) 2 2,.slice a3 n3 c3,rfl,by omega,?_,?_,?_⟩
      ·rw [dG];exact (gq _ _ _ _ _ _ p3 (by omega)).trans Zq.out
      ·rw [dG];exact Rd.keep (fun b (hb:W0.heap.size<=b/\b<p3) _=>⟨⟨by omega,hb.2⟩,gq _ _ _ _ _ _ b (by omega)⟩) _ _ Zo.out
      ·rw [dG];exact Rd.keep (fun b (hb:W0.heap.size<=b/\b<p3) _=>⟨⟨by omega,hb.2⟩,gq _ _ _ _ _ _ b (by omega)⟩) _ _ Zp.out
     have hf:=fO ⟨#[104,116,109,108]⟩ ⟨#[]⟩ [⟨jC,lang⟩] [(aN mK [] [(aN iU [⟨zZ,fQ⟩] []),(aN fA [] (bG title))]),(aN oK [] (dK l))] F6.out Z0.out B0.out K1.out BL.out HN.out;rw [<- dG] at hf;have j5:=Lib.hid hf.1;have Ee:=Lib.hid hf.2;clear hf;have hw8:=dG;simp only [four] at hw8;clear dG;rw [<- hw8];clear hw8;go_wp2;have r0:=j5.out.cell 0 _ rfl;have r1:=j5.out.cell 1 _ rfl;have r2:=j5.out.cell 2 _ rfl;have r3:=j5.out.cell 3 _ rfl;exact bodyPost_ret (v:=.tuple #[.agg #[.string ⟨#[104,116,109,108]⟩,.string ⟨#[]⟩,.slice a9 1 c9,.slice (some ⟨p3,0,none⟩) 2 2],.int .i64 (0)]) (by simp [results,Tryz.results22,go_sem,r0,r1,r2,r3]) rfl (by rw [XI.out,H0.out];exact jm.of Ee.out (by simp) (fun _ va vk e=>by
      simp only [Value.agg.injEq,Array.mk.injEq,List.cons.injEq,and_true] at e;obtain ⟨-,-,rfl,rfl⟩:=e;exact HX9.out))
    ·have q2:((EB:Int) != 0)=true:=by rw [bne_iff_ne];omega
     have Rz:=Lib.hid (show Eh me l title lang=uD by rw [Vn.out,if_neg (by rw [XH.out];exact hB0)]);obtain ⟨x0,x1,x2,x3,xf⟩:=mJ (K1.out.below B3.out);obtain ⟨w9,dG⟩:∃ w9,w9=four w3 (S+1) (.string ⟨#[]⟩) (.string ⟨#[]⟩) (.slice none 0 0) (.slice none 0 0):=⟨_,rfl⟩;have hf:=fO ⟨#[]⟩ ⟨#[]⟩ [] [] F6.out Z0.out B0.out K1.out B3.out ⟨Rd.aB _ _ _,Rd.aB _ _ _⟩;rw [<- dG] at hf;have j5:=Lib.hid hf.1;have Ee:=Lib.hid hf.2;clear hf;have hw8:=dG;simp only [four] at hw8;clear dG;go_wp2;rw [<- hw8];have r0:=j5.out.cell 0 _ rfl;have r1:=j5.out.cell 1 _ rfl;have r2:=j5.out.cell 2 _ rfl;have r3:=j5.out.cell 3 _ rfl;exact bodyPost_ret (v:=.tuple #[.agg #[.string ⟨#[]⟩,.string ⟨#[]⟩,.slice none 0 0,.slice none 0 0],.int .i64 (EB)]) (by simp [results,Tryz.results22,go_sem,r0,r1,r2,r3]) rfl (by rw [Rz.out,XH.out];exact jm.of Ee.out (by simp) (fun h=>absurd h hB0))
 ·have q1:((E0:Int) != 0)=true:=by rw [bne_iff_ne];omega
  have HE9:=Lib.hid (show EE=E0 by rw [Nq.out,if_pos h0]);have Rz:=Lib.hid (show Eh me l title lang=uD by rw [Vn.out,if_neg (by rw [HE9.out];exact h0)]);obtain ⟨x0,x1,x2,x3,xf⟩:=mJ (K1.out.below B1.out);obtain ⟨w9,dG⟩:∃ w9,w9=four w1 (S+1) (.string ⟨#[]⟩) (.string ⟨#[]⟩) (.slice none 0 0) (.slice none 0 0):=⟨_,rfl⟩;have hf:=fO ⟨#[]⟩ ⟨#[]⟩ [] [] F6.out Z0.out B0.out K1.out B1.out ⟨Rd.aB _ _ _,Rd.aB _ _ _⟩;rw [<- dG] at hf;have j5:=Lib.hid hf.1;have Ee:=Lib.hid hf.2;clear hf;have hw8:=dG;simp only [four] at hw8;clear dG;go_wp2;rw [<- hw8];have r0:=j5.out.cell 0 _ rfl;have r1:=j5.out.cell 1 _ rfl;have r2:=j5.out.cell 2 _ rfl;have r3:=j5.out.cell 3 _ rfl;exact bodyPost_ret (v:=.tuple #[.agg #[.string ⟨#[]⟩,.string ⟨#[]⟩,.slice none 0 0,.slice none 0 0],.int .i64 (E0)]) (by simp [results,Tryz.results22,go_sem,r0,r1,r2,r3]) rfl (by rw [Rz.out,HE9.out];exact jm.of Ee.out (by simp) (fun h=>absurd h h0))
theorem xG (me:List Pr) (l:List ah) (title lang:ByteArray) (vm vb:Value) (w:jh9) (hm:Rd (·<w.heap.size) w (bS me) [vm]) (hb:Rd (·<w.heap.size) w (nR l) [vb]) (hme:me.length<=1000) (mH:∀ p∈me,p.key.size<=1000/\p.val.size<=1000) (hall:ah.bJ l<=32768) (hsm:ah.ay l) (hsz:ah.aS l<=900000) (hil:(ah.aL l).length<=1000) (hbd:ah.pO l) (hti:title.size<=300) (hla:lang.size<=300) (ht:PT w) : Calls Tryz.prog 22 #[.agg #[vm,vb],.string title,.string lang] w (RF w (Mw me l title lang) (Eh me l title lang)):=
 (Ef me l title lang vm vb w hm hb hme mH hall hsm hsz hil hbd hti hla ht).mono fun e w' ⟨va,vk,h1,h2,h3,_⟩=>⟨va,vk,h1,h2,h3⟩
open Go.RowKit
theorem Ga (t:ByteArray) (w:jh9) : Calls Tryz.prog 46 #[.string t] w fun e w'=>e=.returned (.agg #[.int .i64 1,.string t,.string ⟨#[]⟩,.string ⟨#[]⟩,.string ⟨#[]⟩,.slice none 0 0,.slice none 0 0,.slice none 0 0,.slice none 0 0,.slice none 0 0])/\jhj w.heap.size w w':=
 (RG t w).mono fun e w' h=>⟨h.1,h.2⟩
theorem RH (w:jh9):Rd (·<(w.alloc (.cells #[.int .i64 1,.string ⟨#[97]⟩,.string ⟨#[]⟩,.string ⟨#[]⟩,.string ⟨#[]⟩,.slice none 0 0,.slice none 0 0,.slice none 0 0,.slice none 0 0,.slice none 0 0,.int .i64 2,.string ⟨#[]⟩,.string ⟨#[]⟩,.string ⟨#[]⟩,.string ⟨#[]⟩,.slice none 0 0,.slice none 0 0,.slice none 0 0,.slice none 0 0,.slice none 0 0,.int .i64 1,.string ⟨#[98]⟩,.string ⟨#[]⟩,.string ⟨#[]⟩,.string ⟨#[]⟩,.slice none 0 0,.slice none 0 0,.slice none 0 0,.slice none 0 0,.slice none 0 0] 51)).heap.size) (w.alloc (.cells #[.int .i64 1,.string ⟨#[97]⟩,.string ⟨#[]⟩,.string ⟨#[]⟩,.string ⟨#[]⟩,.slice none 0 0,.slice none 0 0,.slice none 0 0,.slice none 0 0,.slice none 0 0,.int .i64 2,.string ⟨#[]⟩,.string ⟨#[]⟩,.string ⟨#[]⟩,.string ⟨#[]⟩,.slice none 0 0,.slice none 0 0,.slice none 0 0,.slice none 0 0,.slice none 0 0,.int .i64 1,.string ⟨#[98]⟩,.string ⟨#[]⟩,.string ⟨#[]⟩,.string ⟨#[]⟩,.slice none 0 0,.slice none 0 0,.slice none 0 0,.slice none 0 0,.slice none 0 0] 51)) (bD eL) [.slice (some ⟨w.heap.size,0,none⟩) 3 3]:=by have kk:CB 51 w.heap.size (eC ⟨#[97]⟩++([.int .i64 2,.string ⟨#[]⟩,.string ⟨#[]⟩,.string ⟨#[]⟩,.string ⟨#[]⟩,.slice none 0 0,.slice none 0 0,.slice none 0 0,.slice none 0 0,.slice none 0 0]++eC ⟨#[98]⟩)) (w.alloc (.cells #[.int .i64 1,.string ⟨#[97]⟩,.string ⟨#[]⟩,.string ⟨#[]⟩,.string ⟨#[]⟩,.slice none 0 0,.slice none 0 0,.slice none 0 0,.slice none 0 0,.slice none 0 0,.int .i64 2,.string ⟨#[]⟩,.string ⟨#[]⟩,.string ⟨#[]⟩,.string ⟨#[]⟩,.slice none 0 0,.slice none 0 0,.slice none 0 0,.slice none 0 0,.slice none 0 0,.int .i64 1,.string ⟨#[98]⟩,.string ⟨#[]⟩,.string ⟨#[]⟩,.string ⟨#[]⟩,.slice none 0 0,.slice none 0 0,.slice none 0 0,.slice none 0 0,.slice none 0 0] 51)):=CB.new _ _ w;exact Rd.Kk (l:=eL.map aj.d) (rows:=[eC ⟨#[97]⟩,[.int .i64 2,.string ⟨#[]⟩,.string ⟨#[]⟩,.string ⟨#[]⟩,.string ⟨#[]⟩,.slice none 0 0,.slice none 0 0,.slice none 0 0,.slice none 0 0,.slice none 0 0],eC ⟨#[98]⟩]) (by simp [eL]) (by unfold maxLen;decide) (aO.cons (Kl _ _ _) (aO.cons (Nr _ _) (aO.one (Kl _ _ _)))) (by simp [eC]) kk.lt kk.lt (fun j u hu=>kk.cell j u (by simpa using hu))
theorem RJ (w:jh9):Rd (·<(w.alloc (.cells #[.int .i64 14,.string ⟨#[97]⟩,.string ⟨#[]⟩,.string ⟨#[]⟩,.string ⟨#[]⟩,.slice none 0 0,.slice none 0 0,.slice none 0 0,.slice none 0 0,.slice none 0 0] 51)).heap.size) (w.alloc (.cells #[.int .i64 14,.string ⟨#[97]⟩,.string ⟨#[]⟩,.string ⟨#[]⟩,.string ⟨#[]⟩,.slice none 0 0,.slice none 0 0,.slice none 0 0,.slice none 0 0,.slice none 0 0] 51)) (bD [y8]) [.slice (some ⟨w.heap.size,0,none⟩) 1 1]:=by have kk:CB 51 w.heap.size [.int .i64 14,.string ⟨#[97]⟩,.string ⟨#[]⟩,.string ⟨#[]⟩,.string ⟨#[]⟩,.slice none 0 0,.slice none 0 0,.slice none 0 0,.slice none 0 0,.slice none 0 0] (w.alloc (.cells #[.int .i64 14,.string ⟨#[97]⟩,.string ⟨#[]⟩,.string ⟨#[]⟩,.string ⟨#[]⟩,.slice none 0 0,.slice none 0 0,.slice none 0 0,.slice none 0 0,.slice none 0 0] 51)):=CB.new _ _ w;exact Rd.Kk (l:=[y8].map aj.d) (rows:=[[.int .i64 14,.string ⟨#[97]⟩,.string ⟨#[]⟩,.string ⟨#[]⟩,.string ⟨#[]⟩,.slice none 0 0,.slice none 0 0,.slice none 0 0,.slice none 0 0,.slice none 0 0]]) (by simp) (by unfold maxLen;decide) (aO.one (RO _ _)) (by simp) kk.lt kk.lt (fun j u hu=>kk.cell j u (by simpa using hu))
theorem bI.rd {w w':jh9} {L:List Nd} {v:Value} {U:Nat} {rows:List (List Value)} (h:aI 43 4 (fun _=>False) U w (L.map Nd.d) rows v w'):Rd (fun _=>True) w' (bX L) [v]:=h.eO.weaken (fun _ _=>trivial)
theorem y9 (w:jh9) (ht:PT w):Calls Tryz.prog 16 #[] w (dR (.bool true) w):=by
 have oo:Hid (∀ W,jhj w.heap.size w W->PT W):=fun W hW=>ht.below hW
 clear ht;go_enter Tryz.func16,Tryz.ntmps16;go_wp2_with fail
 refine (Ga _ _).mono ?_;rintro e w1 ⟨rfl,b1⟩;go_wp2_with fail
 refine (Ga _ _).mono ?_;rintro e w2 ⟨rfl,b2⟩;have bb2:=aU b1 b2;have bA:jhj w2.heap.size w2 (w2.alloc (.cells #[.int .i64 1,.string ⟨#[97]⟩,.string ⟨#[]⟩,.string ⟨#[]⟩,.string ⟨#[]⟩,.slice none 0 0,.slice none 0 0,.slice none 0 0,.slice none 0 0,.slice none 0 0,.int .i64 2,.string ⟨#[]⟩,.string ⟨#[]⟩,.string ⟨#[]⟩,.string ⟨#[]⟩,.slice none 0 0,.slice none 0 0,.slice none 0 0,.slice none 0 0,.slice none 0 0,.int .i64 1,.string ⟨#[98]⟩,.string ⟨#[]⟩,.string ⟨#[]⟩,.string ⟨#[]⟩,.slice none 0 0,.slice none 0 0,.slice none 0 0,.slice none 0 0,.slice none 0 0] 51)):=(je7 _ _).alloc (je8 _) _;have h3:=Gb eL _ _ (RH w2) Km (by decide +kernel);rw [Zr,Zt] at h3;have LC:=Lib.hid h3;have BA:=Lib.hid (aU bb2 bA);clear b1 b2 bb2 bA h3;go_wp2_with fail
 (with_reducible refine LC.out.mono ?_)
 rintro e w3 ⟨fM,v3,rfl,hrow3⟩;have R3:=Lib.hid (bI.rd (L:=[yL ⟨#[97,32,98]⟩]) hrow3);obtain ⟨a3,c3,rfl,-,-⟩:=hrow3.cap (n:=1) rfl;have B3:=Lib.hid (aU BA.out hrow3.aJ);have h4:=yZ [Ca] _ (w3.alloc (.cells #[.int .i64 5,.int .i64 0,.string ⟨#[]⟩,.string ⟨#[]⟩,.string ⟨#[]⟩,.string ⟨#[]⟩,.string ⟨#[]⟩,.slice none 0 0,.slice none 0 0,.slice none 0 0,.slice none 0 0] 30)) (Ei 5 ⟨#[]⟩ [] (.slice none 0 0) w3 (Rd.aB _ _ _)) qW (by decide +kernel) (by decide +kernel) (ah.jD _ qW) (oo.out _ (B3.out.alloc B3.out.size _));rw [Zu,Zv] at h4;have BC:=Lib.hid h4;have bA:jhj w3.heap.size w3 (w3.alloc (.cells #[.int .i64 5,.int .i64 0,.string ⟨#[]⟩,.string ⟨#[]⟩,.string ⟨#[]⟩,.string ⟨#[]⟩,.string ⟨#[]⟩,.slice none 0 0,.slice none 0 0,.slice none 0 0,.slice none 0 0] 30)):=(je7 _ _).alloc (je8 _) _;have BA2:=Lib.hid (aU B3.out bA);have Vt:=Lib.hid (R3.out.aV bA);clear hrow3 LC BA h4 bA R3;go_wp2_with fail
 (with_reducible refine BC.out.mono ?_)
 rintro e w4 ⟨dw,v4,rfl,hrow4⟩;have R4:=Lib.hid (bI.rd (L:=[aN Uv [] []]) hrow4);obtain ⟨a4,c4,rfl,-,-⟩:=hrow4.cap (n:=1) rfl;have B4:=Lib.hid (aU BA2.out hrow4.aJ);have R34:=Lib.hid (Vt.out.aV hrow4.aJ);clear hrow4 BC BA2 Vt;go_upto_region 3 with (fail)
 obtain ⟨p4,Vu⟩:∃ p4,p4=w4.heap.size:=⟨_,rfl⟩;obtain ⟨w5,Mr⟩:∃ w5,w5=w4.alloc (.cells #[.int .i64 14,.int .i64 0,.string ⟨#[120]⟩,.string ⟨#[]⟩,.string ⟨#[]⟩,.string ⟨#[]⟩,.string ⟨#[]⟩,.slice none 0 0,.slice none 0 0,.slice none 0 0,.slice none 0 0] 30):=⟨_,rfl⟩;have rd5:Rd (·<w5.heap.size) w5 (nR [Gc]) [.slice (some ⟨p4,0,none⟩) 1 1]:=by rw [Mr,Vu];exact Ei 14 ⟨#[120]⟩ [] (.slice none 0 0) w4 (Rd.aB _ _ _)
 have XR:jhj w4.heap.size w4 w5:=by rw [Mr];exact (je7 _ _).alloc (je8 _) _
 have B5:=Lib.hid (aU B4.out XR);have z5:w5.heap.size=p4+1:=by rw [Mr,World.size_alloc,Vu]
 have XT:jhj w5.heap.size w5 (w5.alloc (.cells #[.int .i64 6,.int .i64 0,.string ⟨#[]⟩,.string ⟨#[]⟩,.string ⟨#[]⟩,.string ⟨#[]⟩,.string ⟨#[]⟩,.slice none 0 0,.slice none 0 0,.slice none 0 0,.slice (some ⟨p4,0,none⟩) 1 1] 30)):=(je7 _ _).alloc (je8 _) _;have h6:=yZ [uE] _ (w5.alloc (.cells #[.int .i64 6,.int .i64 0,.string ⟨#[]⟩,.string ⟨#[]⟩,.string ⟨#[]⟩,.string ⟨#[]⟩,.string ⟨#[]⟩,.slice none 0 0,.slice none 0 0,.slice none 0 0,.slice (some ⟨p4,0,none⟩) 1 1] 30)) (Ei 6 ⟨#[]⟩ [Gc] (.slice (some ⟨p4,0,none⟩) 1 1) w5 rd5) oM (by decide +kernel) (by decide +kernel) (ah.jD _ oM) (oo.out _ (B5.out.alloc B5.out.size _));rw [Zw,Zx] at h6;have BC:=Lib.hid h6;have BA6:=Lib.hid (aU B5.out XT);have RB3:=Lib.hid ((R34.out.aV XR).aV XT);have RB4:=Lib.hid ((R4.out.aV XR).aV XT);have HZ5:=Lib.hid z5;have HW5:=Lib.hid Mr;have Vf:=Lib.hid Vu;clear rd5 XR XT h6 R34 R4 z5 Mr Vu;go_wp2_with fail
 rw [<- Vf.out,<- HW5.out];try rw [<- HZ5.out]
 (with_reducible refine BC.out.mono ?_)
 rintro e w6 ⟨Vq,v6,rfl,iw⟩;have R6:=Lib.hid (bI.rd (L:=[aN tC [] [],aN gN [⟨eP,iV⟩] [aN jM [⟨eT,⟨#[110,111,116,101,45,120]⟩⟩,⟨eP,dx⟩] []]]) iw);obtain ⟨a6,c6,rfl,-,-⟩:=iw.cap (n:=2) rfl;have B6:=Lib.hid (aU BA6.out iw.aJ);have R63:=Lib.hid (RB3.out.aV iw.aJ);have R64:=Lib.hid (RB4.out.aV iw.aJ);have h7:=xG [] [] ⟨#[84]⟩ ⟨#[101,110]⟩ (.slice none 0 0) (.slice none 0 0) w6 (Rd.aB _ _ _) (Rd.aB _ _ _) (by simp) (by simp) (by decide +kernel) (by unfold ah.ay;trivial) (by decide +kernel) (by decide +kernel) (by unfold ah.pO;trivial) (by decide) (by decide) (oo.out _ B6.out);rw [Zy,Zz] at h7;have PC:=Lib.hid h7;clear iw BC BA6 RB3 RB4 h7 HZ5 HW5 Vf B5;go_wp2_with fail
 (with_reducible refine PC.out.mono ?_)
 rintro e w7 ⟨va,vk,he,hN,b7⟩;obtain ⟨aA,nA,cA,rfl⟩:=Rd.au hN.at_
 obtain ⟨aK,cK,hvk,hsK⟩:=Rd.aC hN.ks;obtain rfl:vk=.slice aK 2 cK:=by have h:=hvk;simp only [List.cons.injEq,and_true] at h;exact h
 have he:e=.returned (.tuple #[.agg #[.string ⟨#[104,116,109,108]⟩,.string ⟨#[]⟩,.slice aA nA cA,.slice aK 2 cK],.int .i64 0]):=he;subst he;have B7:=Lib.hid (aU B6.out b7);have RK7:=Lib.hid (show Rd (fun _=>True) w7 (bX [aN mK [] [aN iU [⟨zZ,fQ⟩] [],aN fA [] [yL ⟨#[84]⟩]],aN oK [] []]) [.slice aK 2 cK] from hN.ks.weaken (fun _ _=>trivial));have R73:=Lib.hid (R63.out.aV b7);have R74:=Lib.hid (R64.out.aV b7);have R76:=Lib.hid (R6.out.aV b7);clear hN b7 hvk hsK PC R63 R64 R6;obtain ⟨Bp,Ab⟩:∃ Bp,Bp=w7.heap.size:=⟨_,rfl⟩;obtain ⟨wP,XU⟩:∃ wP,wP=w7.alloc (.cells #[.string ⟨#[104,116,109,108]⟩,.string ⟨#[]⟩,.slice aA nA cA,.slice aK 2 cK] 43):=⟨_,rfl⟩;have kP:CB 43 Bp [.string ⟨#[104,116,109,108]⟩,.string ⟨#[]⟩,.slice aA nA cA,.slice aK 2 cK] wP:=by rw [XU,Ab];exact CB.new _ _ _
 have bP:jhj w7.heap.size w7 wP:=by rw [XU];exact (je7 _ _).alloc (je8 _) _
 have BP:=Lib.hid (aU B7.out bP);have h8:=Gb [y8] _ _ (RJ wP) Kn (by decide +kernel);rw [e_r,show Vv [y8]=[] from rfl] at h8;have LC:=Lib.hid h8;have bA:jhj wP.heap.size wP (wP.alloc (.cells #[.int .i64 14,.string ⟨#[97]⟩,.string ⟨#[]⟩,.string ⟨#[]⟩,.string ⟨#[]⟩,.slice none 0 0,.slice none 0 0,.slice none 0 0,.slice none 0 0,.slice none 0 0] 51)):=(je7 _ _).alloc (je8 _) _;have vR:=Lib.hid bA;have Vw:=Lib.hid bP;have KP:=Lib.hid kP;clear h8 bA bP kP;go_upto_region 5 with (fail)
 rw [<- XU,<- Ab];clear XU Ab;go_wp2_with fail
 (with_reducible refine LC.out.mono ?_)
 rintro e w8 ⟨jc7,v8,rfl,uF⟩;obtain ⟨a8,n8,c8,rfl⟩:=uF.slice3;have bT:jhj wP.heap.size wP w8:=vR.out.trans (uF.aJ.mono vR.out.size);have BL:=Lib.hid (aU BP.out bT);have ZB:=KP.out.below bT;have r1:=((R73.out.aV Vw.out).aV bT);have r2:=((R74.out.aV Vw.out).aV bT);have r3:=((R76.out.aV Vw.out).aV bT);have r4:=((RK7.out.aV Vw.out).aV bT);obtain ⟨_,_,q1,s1⟩:=Rd.aC r1;obtain ⟨rfl,rfl⟩:_=a3/\_=c3:=by simp at q1;exact ⟨q1.1.symm,q1.2.symm⟩
 obtain ⟨g1,o1,va1,vk1,rfl,-,-,t10,t11,t12,t13,hN1⟩:=qj (l:=[yL ⟨#[97,32,98]⟩]) s1 (k:=0) rfl;obtain ⟨_,_,q2,s2⟩:=Rd.aC r2;obtain ⟨rfl,rfl⟩:_=a4/\_=c4:=by simp at q2;exact ⟨q2.1.symm,q2.2.symm⟩
 obtain ⟨g2,o2,va2,vk2,rfl,-,-,t20,t21,t22,t23,-⟩:=qj (l:=[aN Uv [] []]) s2 (k:=0) rfl;obtain ⟨_,_,q3,s3⟩:=Rd.aC r3;obtain ⟨rfl,rfl⟩:_=a6/\_=c6:=by simp at q3;exact ⟨q3.1.symm,q3.2.symm⟩
 obtain ⟨g3,o3,va3,vk3,rfl,-,-,t30,t31,t32,t33,-⟩:=qj (l:=[aN tC [] [],aN gN [⟨eP,iV⟩] [aN jM [⟨eT,⟨#[110,111,116,101,45,120]⟩⟩,⟨eP,dx⟩] []]]) s3 (k:=1) rfl;obtain ⟨_,_,q4,s4⟩:=Rd.aC r4;obtain ⟨rfl,rfl⟩:_=aK/\_=cK:=by simp at q4;exact ⟨q4.1.symm,q4.2.symm⟩
 obtain ⟨g4,o4,va4,vk4,rfl,-,-,t40,t41,t42,t43,hN4⟩:=qj (l:=[aN mK [] [aN iU [⟨zZ,fQ⟩] [],aN fA [] [yL ⟨#[84]⟩]],aN oK [] []]) s4 (k:=1) rfl;obtain ⟨_,_,hv4,-⟩:=Rd.aC hN4.ks;obtain rfl:=(by simpa using hv4:vk4=_);obtain ⟨aA1,nA1,cA1,rfl⟩:=Rd.au hN1.at_
 obtain ⟨aK1,nK1,cK1,rfl⟩:=Rd.au hN1.ks;have AC:Hid (Calls Tryz.prog 28 #[.agg #[.string ⟨#[]⟩,.string ⟨#[97,32,98]⟩,.slice aA1 nA1 cA1,.slice aK1 nK1 cK1]] w8 (dU w8 ((yL ⟨#[97,32,98]⟩).vals eT))):=oG ⟨#[]⟩ ⟨#[97,32,98]⟩ [] [] (.slice aA1 nA1 cA1) (.slice aK1 nK1 cK1) w8 ⟨Rd.keep (fun b _ h2=>⟨h2,rfl⟩) _ _ hN1.at_,Rd.keep (fun b _ h2=>⟨h2,rfl⟩) _ _ hN1.ks⟩ (by decide +kernel);have p0:=ZB.cell 0 _ rfl;have p3:=ZB.cell 3 _ rfl;simp only [Nat.zero_mul,Nat.one_mul,Nat.add_zero] at t10 t11 t12 t13 t20 t30 t43
 replace t20:w8.cell? ⟨g2,o2,none⟩=some (.string ⟨#[104,114]⟩):=t20
 replace t30:w8.cell? ⟨g3,o3+4,none⟩=some (.string ⟨#[115,101,99,116,105,111,110]⟩):=t30
 clear uF bT ZB r1 r2 r3 r4 q1 q2 q3 q4 s1 s2 s3 s4 hN1 hN4 hv4 t21 t22 t23 t31 t32 t33 t40 t41 t42 LC R73 R74 R76 RK7 vR Vw KP;go_wp2_with fail
 (with_reducible refine AC.out.mono ?_)
 rintro e w9 ⟨v9,rfl,Px,b9⟩;obtain ⟨a9,c9,hv9⟩:=lW Px;obtain rfl:v9=.slice a9 0 c9:=hv9;have HF:=Lib.hid (aU BL.out b9);clear Px b9 AC;go_wp2;go_ret;exact ⟨rfl,HF.out⟩
open Go.RowKit
open Go.RowKit
open Go.RowKit
open Go.RowKit
open Go.RowKit
structure SmB (l:List ah):Prop where
 sm:ah.ay l
 sz:ah.aS l<=120
 il:(ah.aL l).length<=120
 al:ah.bJ l<=120
theorem RP {me:List Pr} {l:List ah} (h:Ko me l):SmB l:=by have h1:=ah.za l;have h2:=h.all;exact ⟨h.blks,by omega,by omega,h2⟩
theorem Ns (me:List Pr) (l:List ah) (vm vb:Value) (w:jh9) (hm:Rd (·<w.heap.size) w (bS me) [vm]) (hb:Rd (·<w.heap.size) w (nR l) [vb]) (RQ:∀ p∈me,p.wf) (hwl:ah.qX l) : Calls Tryz.prog 15 #[.agg #[vm,vb]] w fun e w'=>∃ b,e=.returned (.bool b)/\(b=true->Ko me l/\SmB l)/\jhj w.heap.size w w':=
 (H8 me l vm vb w hm hb RQ hwl).mono fun e w' ⟨b,h1,h2,h3⟩=>⟨b,h1,fun h=>⟨h2 h,RP (h2 h)⟩,h3⟩
open Go.RowKit
theorem oN (l:List ByteArray) (x:ByteArray) (v:Value) (w:jh9) (hs:wo w 1 v l.length (l.map Value.string)) : Calls Tryz.prog 30 #[v,.string x] w fun e w'=>e=.returned (.bool (hasB l x))/\w=w':=by
 obtain ⟨-,a,cap,rfl,hcap,hmx,hcs⟩:=hs;have OU:=Lib.hid hcs;have HZ:Hid (hasB (l.take 0) x=false):=rfl;clear hcs;unfold maxLen at hmx;go_enter Tryz.func30,Tryz.ntmps30;go_wp2
 go_loop [5] (fun vi=>∃ k:Nat,k<=l.length/\vi=.int .i64 k/\hasB (l.take k) x=false) (fun i=>l.length-(intOf i).toNat)
 case atStart=>exact ⟨0,Nat.zero_le _,rfl,HZ.out⟩
 case round=>
  obtain ⟨k,hk,rfl,hany⟩:=hrel;have HA:=Lib.hid hany;clear hany;by_cases hlt:k<l.length
  ·obtain ⟨y,hy⟩:∃ y,l[k]?=some y:=⟨_,je6 hlt⟩;rcases OU.out with h0 | ⟨b,off,rfl,hc⟩
   ·omega
   have c0:w.cell? ⟨b,off+k,none⟩=some (.string y):=hc k _ (by simp [hy]);have hsn:=G7 l k y x hy;rw [HA.out] at hsn;have pJ:=Lib.hid hsn;have HT:=Lib.hid (G8 l (k+1) x);clear hy hc hsn;by_cases hyx:y=x
   ·subst hyx;go_wp2;go_ret;exact ⟨by rw [HT.out (by rw [pJ.out];simp)];rfl,rfl⟩
   ·have e1:=DI hyx;go_wp2
    go_round
    case rel=>exact ⟨k+1,by omega,by go_num,by rw [pJ.out];simp [hyx]⟩
    case measure=>simp [intOf];omega
  ·have hkl:k=l.length:=by omega
   have hA:=HA.out;rw [hkl,List.take_length] at hA;have HA2:=Lib.hid hA;clear hA HA hkl;go_wp2;go_ret;exact ⟨by rw [HA2.out];rfl,rfl⟩
def Kq (w1:jh9) (n:Nat) (vi:Value) (wr:jh9):Prop:=∃ k:Nat,k<=n/\vi=.int .i64 k/\jhj w1.heap.size w1 wr
def Py (n:Nat) (w6:jh9) (vi:Value) (wr:jh9):Prop:=∃ k q:Nat,k<=n/\vi=.int .i64 k/\wr=w6.drewN q
theorem Nt (me:List Pr) (l:List ah) (vm vb:Value) (w:jh9) (hm:Rd (·<w.heap.size) w (bS me) [vm]) (hb:Rd (·<w.heap.size) w (nR l) [vb]) (RQ:∀ p∈me,p.wf) (hwl:ah.qX l) (hml:me.length<=reachBytes) (hll:l.length<=reachBytes) (ht:PT w) : Calls Tryz.prog 7 #[.agg #[vm,vb]] w (dR (.bool true) w):=by
 obtain ⟨am,nm,cm,rfl⟩:=Rd.au hm;obtain ⟨ab,nb,cb,rfl⟩:=Rd.au hb;obtain ⟨S,hS⟩:∃ S,S=w.heap.size:=⟨_,rfl⟩;obtain ⟨W0,hW0⟩:∃ W0,W0=w.alloc (.cells #[.slice am nm cm,.slice ab nb cb] 32):=⟨_,rfl⟩;have k0:CB 32 S [.slice am nm cm,.slice ab nb cb] W0:=by rw [hW0,hS];exact CB.new _ _ w
 have b0:jhj w.heap.size w W0:=by rw [hW0];exact (je7 _ _).alloc (je8 _) _
 have SM:=Lib.hid (Ns me l _ _ W0 (hm.up b0) (hb.up b0) RQ hwl);have HM:=Lib.hid hm;have HB:=Lib.hid hb;have oo:Hid (∀ W,jhj w.heap.size w W->PT W):=fun W hW=>ht.below hW
 have B0:=Lib.hid b0;have X0:Hid (∀ W:jh9,jhj W0.heap.size W0 W->W.cell? ⟨S,0,none⟩=some (.slice am nm cm)/\W.cell? ⟨S,1,none⟩=some (.slice ab nb cb)):=fun W hW=>⟨(k0.below hW).cell 0 _ rfl,(k0.below hW).cell 1 _ rfl⟩
 have x0:=k0.cell 0 _ rfl;have x1:=k0.cell 1 _ rfl;clear hm hb RQ hwl hml hll ht k0 b0;go_enter Tryz.func7,Tryz.ntmps7;go_upto_region 1 with (fail)
 rw [<- hW0,<- hS];clear hW0 hS;go_wp2_with fail
 (with_reducible refine SM.out.mono ?_)
 rintro e w1 ⟨b,rfl,hsm,b1⟩;have B1:=Lib.hid b1;have Vx:=Lib.hid (aU B0.out b1);have AW:=Lib.hid (y9 w1 (oo.out _ Vx.out));clear x0 x1 b1 SM;cases b with
 | false=>
  clear hsm;go_wp2_with fail
  (with_reducible refine AW.out.mono ?_)
  rintro e w2 ⟨rfl,b2⟩;have HF:=Lib.hid (aU Vx.out b2);clear b2;go_wp2;go_ret;exact ⟨rfl,HF.out⟩
 | true=>
  obtain ⟨hd,hs⟩:=hsm rfl;have mH:∀ p∈me,p.key.size<=1000/\p.val.size<=1000:=fun p hp=>by have:=hd.ZC p hp;omega
  have PC:=Lib.hid (xG me l ⟨#[84]⟩ ⟨#[101,110]⟩ _ _ w1 (HM.out.up Vx.out) (HB.out.up Vx.out) (by have:=hd.meta_;omega) mH (by have:=hs.al;omega) hs.sm (by have:=hs.sz;omega) (by have:=hs.il;omega) (ah.jD l hs.sm) (by decide) (by decide) (oo.out _ Vx.out));have Hl:=Lib.hid hs.sz;have ZE:=Lib.hid hs.sm;have hEl:(ah.aF l).length<=120:=by rw [l7];exact hs.sz
  have hlen:=Kt eT ⟨#[84]⟩ ⟨#[101,110]⟩ l hEl hs.il;have PA:=Lib.hid (Ku me l ⟨#[84]⟩ ⟨#[101,110]⟩);have RU:((Eh me l ⟨#[84]⟩ ⟨#[101,110]⟩).vals eT).length<=1000000:=by
   unfold Eh;split
   ·exact hlen
   ·unfold uD;rw [Nd.vals];simp [q01]
  obtain ⟨x0,x1⟩:=X0.out w1 B1.out;obtain ⟨X,hX⟩:∃ X,X=Eh me l ⟨#[84]⟩ ⟨#[101,110]⟩:=⟨_,rfl⟩;obtain ⟨E,hE⟩:∃ E,E=Mw me l ⟨#[84]⟩ ⟨#[101,110]⟩:=⟨_,rfl⟩;rw [<- hX,<- hE] at PC;rw [<- hX] at RU;rw [<- hX,<- hE] at PA;obtain ⟨L,hL⟩:∃ L,L=X.vals eT:=⟨_,rfl⟩;rw [<- hL] at PA RU;have HL:=Lib.hid hL;have HXL:=Lib.hid RU;have HEl:=Lib.hid hEl;obtain ⟨xn,xt,xa,xk⟩:=X;clear hsm hd hs mH hX hE AW hEl hlen hL RU;go_wp2_with fail
  (with_reducible refine PC.out.mono ?_)
  rintro e w2 ⟨va,vk,he,hN,b2⟩;obtain ⟨aA,nA,cA,rfl⟩:=Rd.au hN.at_
  obtain ⟨aK,nK,cK,rfl⟩:=Rd.au hN.ks;have he:e=.returned (.tuple #[.agg #[.string xn,.string xt,.slice aA nA cA,.slice aK nK cK],.int .i64 (E:Int)]):=he;subst he;obtain ⟨Bp,Ab⟩:∃ Bp,Bp=w2.heap.size:=⟨_,rfl⟩;obtain ⟨w3,hw3⟩:∃ w3,w3=w2.alloc (.cells #[.string xn,.string xt,.slice aA nA cA,.slice aK nK cK] 43):=⟨_,rfl⟩;have k3:CB 43 Bp [.string xn,.string xt,.slice aA nA cA,.slice aK nK cK] w3:=by rw [hw3,Ab];exact CB.new _ _ _
  have XV:jhj w2.heap.size w2 w3:=by rw [hw3];exact (je7 _ _).alloc (je8 _) _
  have B3:=Lib.hid (aU (aU B1.out b2) XV);have B3w:=Lib.hid (aU B0.out B3.out);have N3:=Lib.hid (show jA (fun _=>True) w3 xa xk (.slice aA nA cA) (.slice aK nK cK) from ⟨(hN.at_.aV XV).weaken (fun _ _=>trivial),(hN.ks.aV XV).weaken (fun _ _=>trivial)⟩);have K3:=Lib.hid k3;have XP:Hid (∀ W:jh9,jhj w3.heap.size w3 W->W.cell? ⟨Bp,0,none⟩=some (.string xn)/\W.cell? ⟨Bp,1,none⟩=some (.string xt)/\W.cell? ⟨Bp,2,none⟩=some (.slice aA nA cA)/\W.cell? ⟨Bp,3,none⟩=some (.slice aK nK cK)):=fun W hW=>⟨(k3.below hW).cell 0 _ rfl,(k3.below hW).cell 1 _ rfl,(k3.below hW).cell 2 _ rfl,(k3.below hW).cell 3 _ rfl⟩
  clear x0 x1 hN b2 XV k3 PC;go_upto_region 4 with (fail)
  rw [<- hw3,<- Ab];clear hw3 Ab;by_cases h0:E=0
  ·have q0:((E:Int) != 0)=false:=by rw [h0];rfl
   have PA2:=Lib.hid (PA.out h0.symm.symm);have AN:=Lib.hid (oG xn xt xa xk (.slice aA nA cA) (.slice aK nK cK) w3 ⟨Rd.keep (fun b _ h2=>⟨h2,rfl⟩) _ _ N3.out.at_,Rd.keep (fun b _ h2=>⟨h2,rfl⟩) _ _ N3.out.ks⟩ (by rw [<- HL.out];have:=HXL.out;omega));rw [<- HL.out] at AN;obtain ⟨x0,x1⟩:=X0.out w3 B3.out;obtain ⟨p0,p1,p2,p3⟩:=XP.out w3 (je7 _ _);clear h0 PA;go_wp2_with fail
   (with_reducible refine AN.out.mono ?_)
   rintro e w4 ⟨v4,rfl,hown,b4⟩;obtain ⟨nL,TH⟩:∃ nL,nL=L.length:=⟨_,rfl⟩;obtain ⟨a4,c4,rfl⟩:∃ a4 c4,v4=.slice a4 nL c4:=by rw [TH];exact lW hown
   have SE:=Lib.hid (wo.pR hown);have B4:=Lib.hid (aU B3.out b4);have B4w:=Lib.hid (aU B0.out B4.out);have ZF:=Lib.hid b4;have LC:=Lib.hid (Kv _ l w.heap.size _ w4 (je8 _) (by have:=Hl.out;omega) (HB.out.below B4w.out) B4w.out.size);have FZ:=Lib.hid TH;clear x0 x1 p0 p1 p2 p3;obtain ⟨x0,x1⟩:=X0.out w4 B4.out;clear hown b4 AN TH;go_wp2_with fail
   (with_reducible refine LC.out.mono ?_)
   rintro e w5 ⟨v5,qR,rfl,RX⟩;have b5:=RX.aJ;obtain ⟨M,hM⟩:∃ M,M=ah.aF l:=⟨_,rfl⟩;rw [<- hM] at RX;have hE5:Rd (·<w5.heap.size) w5 (nR M) [v5]:=
    Rd.ig (l:=M.map ah.d) (rows:=qR) (B:=w4.heap.size) (e:=30) RX.own (aO.keep (fun b h1 h2=>⟨h2,rfl⟩) _ _ RX.red) RX.len (fun g hg=>(RX.own.lt g hg).2)
   obtain ⟨a5,c5,hv5,hs5⟩:=Rd.aC hE5;obtain ⟨nM,Vy⟩:∃ nM,nM=M.length:=⟨_,rfl⟩;obtain rfl:v5=.slice a5 nM c5:=by rw [Vy];simpa using hv5
   have GQ:nM<=c5:=by rw [Vy];simpa using hs5.le
   have hm5:=hs5.max;unfold maxLen at hm5;have HNM:=Lib.hid Vy;have HMM:=Lib.hid hM;have HS5:=Lib.hid hs5;have Pz:=Lib.hid b5;have B5:=Lib.hid (aU B4.out b5);have B5w:=Lib.hid (aU B0.out B5.out);have R0:Hid (Kq w5 nM (.int .i64 0) w5):=⟨0,Nat.zero_le _,rfl,je7 _ _⟩;have jd2:Hid (nM<=120):=by show _<=_;rw [Vy,hM];exact HEl.out
   clear RX b5 hE5 hv5 hs5 Vy hM LC x0 x1;go_wp2
   go_loopw [7] (fun vi wr=>Kq w5 nM vi wr) (fun i _=>nM-(intOf i).toNat)
   case atStart=>exact R0.out
   case round=>
    clear R0;obtain ⟨k,hk,rfl,hbel⟩:=hrel;have TI:=Lib.hid hbel;by_cases hlt:k<nM
    ·obtain ⟨x,hx⟩:∃ x,M[k]?=some x:=⟨_,je6 (by have:=HNM.out;omega)⟩;have hxm:x∈ah.aF l:=by rw [<- HMM.out];exact List.mem_of_getElem? hx
     have pa:=PA2.out x hxm;have hin:=uG (ah.gP l ZE.out x hxm);obtain ⟨kd,lv,i,t,d,ti,at_,li,ks⟩:=x;have hin:i.size<=300:=hin;obtain ⟨g,off,vc,vp,vl,vk,rfl,-,-,hc,hRR⟩:=dV (HS5.out.aV hbel) hx;obtain ⟨ac,nc,cc,rfl⟩:=Rd.au hRR.at_.cls
     obtain ⟨ap,np,cp,rfl⟩:=Rd.au hRR.at_.aP
     obtain ⟨al,nl,cl,rfl⟩:=Rd.au hRR.line;obtain ⟨ak,nk,ck,rfl⟩:=Rd.au hRR.kids;have c0:=hc.c0;have c1:=hc.c1;have c2:=hc.c2;have c3:=hc.c3;have c4:=hc.c4;have c5:=hc.c5;have c6:=hc.c6;have c7:=hc.c7;have c8:=hc.c8;have c9:=hc.c9;have c10:=hc.c10;obtain ⟨p,hp⟩:∃ p,p=wr.heap.size:=⟨_,rfl⟩;obtain ⟨w6,j4⟩:∃ w6,w6=wr.alloc (.cells #[.int .i64 kd,.int .i64 lv,.string i,.string t,.string d,.string ti,.string at_.id,.slice ac nc cc,.slice ap np cp,.slice al nl cl,.slice ak nk ck] 30):=⟨_,rfl⟩;have k6:CB 30 p [.int .i64 kd,.int .i64 lv,.string i,.string t,.string d,.string ti,.string at_.id,.slice ac nc cc,.slice ap np cp,.slice al nl cl,.slice ak nk ck] w6:=by rw [j4,hp];exact CB.new _ _ _
     have b6:jhj wr.heap.size wr w6:=by rw [j4];exact (je7 _ _).alloc (je8 _) _
     have B6:=Lib.hid (aU TI.out b6);have XW:=Lib.hid ((SE.out.below Pz.out).below B6.out);have pa1:(kd=2\/kd=4\/kd=13)->q01 at_.id=false->at_.id∈L:=pa.1
     have pa2:kd=14->rT++i∈L:=pa.2;have DW:at_.id.toList.isEmpty=q01 at_.id:=by rw [Lib.toList_data,Bool.eq_iff_iff,List.isEmpty_iff,q01,decide_eq_true_iff]
     have e0:=k6.cell 0 _ rfl;have e2:=k6.cell 2 _ rfl;have e6:=k6.cell 6 _ rfl;have HR:Hid (Kq w5 nM (.int .i64 ((k+1:Nat):Int)) w6):=⟨k+1,by omega,rfl,B6.out⟩;have H1:=Lib.hid pa1;have H2:=Lib.hid pa2;clear hx hxm pa hc k6 b6 hbel pa1 pa2 hRR;go_upto_region 12 with (fail)
     rw [<- j4,<- hp];clear j4 hp c0 c1 c2 c3 c4 c5 c6 c7 c8 c9 c10;by_cases DR:kd=14
     ·subst DR;have HC:=oN L (rT++i) _ w6 XW.out;rw [(QH _ _).2 (H2.out rfl)] at HC;have RY:Hid (Calls Tryz.prog 30 #[.slice a4 nL c4,.string ((⟨#[110,111,116,101,45]⟩:ByteArray)++i)] w6 fun e w'=>e=.returned (.bool true)/\w6=w'):=HC;have q5:(⟨#[110,111,116,101,45]⟩:ByteArray).size+i.size<=9223372036854775807:=by
       have:(⟨#[110,111,116,101,45]⟩:ByteArray).size=5:=rfl;omega
      have q6:5+i.size<=9223372036854775807:=by omega
      have hadd:∀ w:jh9,(Op.stringOp .add (⟨#[110,111,116,101,45]⟩:ByteArray) i).run Tryz.prog w=.ok (.string (⟨#[110,111,116,101,45]⟩++i)) w:=fun w=>run_string_add_sum w _ _ q5
      clear HC;go_wp2_with fail
      (with_reducible refine RY.out.mono ?_)
      rintro e w7 ⟨rfl,hw7⟩;rw [<- hw7];clear hw7 w7;go_wp2;go_roundw;case rel=>exact HR.out
      case measure=>simp [intOf];omega
     ·have Xl:(kd==14)=false:=by rw [beq_eq_false_iff_ne];exact DR
      by_cases hid:q01 at_.id=true
      ·rw [hid] at DW;clear hid DR;by_cases h2:kd=2
       ·have q2:(kd==2)=true:=by rw [h2];rfl
        clear h2;go_wp2;go_roundw;case rel=>exact HR.out
        case measure=>simp [intOf];omega
       have q2:(kd==2)=false:=by rw [beq_eq_false_iff_ne];exact h2
       by_cases h4:kd=4
       ·have q4:(kd==4)=true:=by rw [h4];rfl
        clear h2 h4;go_wp2;go_roundw;case rel=>exact HR.out
        case measure=>simp [intOf];omega
       have q4:(kd==4)=false:=by rw [beq_eq_false_iff_ne];exact h4
       by_cases DN:kd=13
       ·have Xk:(kd==13)=true:=by rw [DN];rfl
        clear h2 h4 DN;go_wp2;go_roundw;case rel=>exact HR.out
        case measure=>simp [intOf];omega
       have Xk:(kd==13)=false:=by rw [beq_eq_false_iff_ne];exact DN
       clear h2 h4 DN;go_wp2;go_roundw;case rel=>exact HR.out
       case measure=>simp [intOf];omega
      ·have hid:q01 at_.id=false:=by simpa using hid
       rw [hid] at DW;have ZG:=Lib.hid (fun hk=>H1.out hk hid);clear DR hid;by_cases h2:kd=2
       ·have q2:(kd==2)=true:=by rw [h2];rfl
        have HC:=oN L at_.id _ w6 XW.out
        rw [(QH _ _).2 (ZG.out (.inl h2))] at HC;have RY:Hid (Calls Tryz.prog 30 #[.slice a4 nL c4,.string at_.id] w6 fun e w'=>e=.returned (.bool true)/\w6=w'):=HC;clear HC h2;go_wp2_with fail
        (with_reducible refine RY.out.mono ?_)
        rintro e w7 ⟨rfl,hw7⟩;rw [<- hw7];clear hw7 w7;go_wp2;go_roundw;case rel=>exact HR.out
        case measure=>simp [intOf];omega
       have q2:(kd==2)=false:=by rw [beq_eq_false_iff_ne];exact h2
       by_cases h4:kd=4
       ·have q4:(kd==4)=true:=by rw [h4];rfl
        have HC:=oN L at_.id _ w6 XW.out
        rw [(QH _ _).2 (ZG.out (.inr (.inl h4)))] at HC;have RY:Hid (Calls Tryz.prog 30 #[.slice a4 nL c4,.string at_.id] w6 fun e w'=>e=.returned (.bool true)/\w6=w'):=HC;clear HC h2 h4;go_wp2_with fail
        (with_reducible refine RY.out.mono ?_)
        rintro e w7 ⟨rfl,hw7⟩;rw [<- hw7];clear hw7 w7;go_wp2;go_roundw;case rel=>exact HR.out
        case measure=>simp [intOf];omega
       have q4:(kd==4)=false:=by rw [beq_eq_false_iff_ne];exact h4
       by_cases DN:kd=13
       ·have Xk:(kd==13)=true:=by rw [DN];rfl
        have HC:=oN L at_.id _ w6 XW.out
        rw [(QH _ _).2 (ZG.out (.inr (.inr DN)))] at HC;have RY:Hid (Calls Tryz.prog 30 #[.slice a4 nL c4,.string at_.id] w6 fun e w'=>e=.returned (.bool true)/\w6=w'):=HC;clear HC h2 h4 DN;go_wp2_with fail
        (with_reducible refine RY.out.mono ?_)
        rintro e w7 ⟨rfl,hw7⟩;rw [<- hw7];clear hw7 w7;go_wp2;go_roundw;case rel=>exact HR.out
        case measure=>simp [intOf];omega
       have Xk:(kd==13)=false:=by rw [beq_eq_false_iff_ne];exact DN
       clear h2 h4 DN;go_wp2;go_roundw;case rel=>exact HR.out
       case measure=>simp [intOf];omega
    ·have ZH:=Lib.hid ((ZF.out.trans (Pz.out.mono ZF.out.size)).trans (TI.out.mono (je9 ZF.out.size Pz.out.size)));have Brw:=Lib.hid (aU B5w.out TI.out);have RV:Hid (Calls Tryz.prog 31 #[.agg #[.string xn,.string xt,.slice aA nA cA,.slice aK nK cK],.string ⟨#[105,100]⟩] wr (dU wr L)):=by
      have h:=wu eT _ (.mk xn xt xa xk) (.slice aA nA cA) (.slice aK nK cK) wr (je8 _) (by rw [<- HL.out];exact HXL.out) ⟨Rd.keep (fun b _ h2=>⟨h2,rfl⟩) _ _ (N3.out.at_.aV ZH.out),Rd.keep (fun b _ h2=>⟨h2,rfl⟩) _ _ (N3.out.ks.aV ZH.out)⟩;rw [<- HL.out] at h;exact h
     have SEr:=Lib.hid ((SE.out.below Pz.out).below TI.out);obtain ⟨p0,p1,p2,p3⟩:=XP.out wr ZH.out;clear hbel;go_wp2_with fail
     (with_reducible refine RV.out.mono ?_)
     rintro e w6 ⟨v6,rfl,hown6,b6⟩;obtain ⟨a6,c6,rfl⟩:∃ a6 c6,v6=.slice a6 nL c6:=by rw [FZ.out];exact lW hown6
     have s6:=wo.pR hown6;have s4:=SEr.out.below b6;have B6w:=Lib.hid (aU Brw.out b6);obtain ⟨-,a4',c4',hv4,hcap4,ZI,Vz⟩:=s4;obtain ⟨-,a6',c6',hv6,hcap6,ZJ,VB⟩:=s6;obtain ⟨rfl,rfl⟩:a4'=a4/\c4'=c4:=by simp at hv4;exact ⟨hv4.1.symm,hv4.2.2.symm⟩
     obtain ⟨rfl,rfl⟩:a6'=a6/\c6'=c6:=by simp at hv6;exact ⟨hv6.1.symm,hv6.2.2.symm⟩
     have TH:=FZ.out;rw [<- TH] at hcap4 hcap6;unfold maxLen at ZI ZJ;have H4:=Lib.hid Vz;have H6:=Lib.hid VB;have R1:Hid (Py nL w6 (.int .i64 0) w6):=⟨0,0,Nat.zero_le _,rfl,rfl⟩;clear hown6 b6 RV p0 p1 p2 p3 hv4 hv6 Vz VB TH;go_wp2
     go_loopw [10] (fun i wr=>Py nL w6 i wr) (fun i _=>nL-(intOf i).toNat)
     case atStart=>exact R1.out
     case round=>
      clear R1;obtain ⟨j,q,hj,rfl,rfl⟩:=hrel;by_cases hlj:j<nL
      ·obtain ⟨y,hy⟩:∃ y,L[j]?=some y:=⟨_,je6 (by have:=FZ.out;omega)⟩;have hjl:j<L.length:=by have:=FZ.out;omega
       rcases H4.out with h0 | ⟨g4,o4,rfl,hc4⟩
       ·omega
       rcases H6.out with h0 | ⟨g6,o6,rfl,hc6⟩
       ·omega
       have c0:w6.cell? ⟨g4,o4+j,none⟩=some (.string y):=hc4 j _ (by simp [hy]);have c1:w6.cell? ⟨g6,o6+j,none⟩=some (.string y):=hc6 j _ (by simp [hy]);have qy:(y.toList==y.toList)=true:=by simp
       clear hy hc4 hc6 hjl;go_wp2_with fail
       go_quiet (fail)
       go_wp2;go_roundw;case rel=>exact ⟨j+1,_,by omega,by go_num,rfl⟩
       case measure=>simp [intOf];omega
      ·have B7:=Lib.hid (gV B6w.out q);have AW:=Lib.hid (y9 (w6.drewN q) (oo.out _ B7.out));go_wp2_with fail
       (with_reducible refine AW.out.mono ?_)
       rintro e w7 ⟨rfl,b7⟩;have HF:=Lib.hid (aU B7.out b7);clear b7;go_wp2;go_ret;exact ⟨rfl,HF.out⟩
  ·have q0:((E:Int) != 0)=true:=by rw [bne_iff_ne];omega
   have AW:=Lib.hid (y9 w3 (oo.out _ B3w.out));clear h0;go_wp2_with fail
   (with_reducible refine AW.out.mono ?_)
   rintro e w4 ⟨rfl,b4⟩;have HF:=Lib.hid (aU B3w.out b4);clear b4;go_wp2;go_ret;exact ⟨rfl,HF.out⟩
end Go.Proofs.YtclikfjalmcoaaaGreatDoor

