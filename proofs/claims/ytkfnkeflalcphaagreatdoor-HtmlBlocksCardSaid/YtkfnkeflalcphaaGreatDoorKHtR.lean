/- Contract of html.row: the node of a row of a table. -/
import Derived.Test.YtkfnkeflalcphaaGreatDoorKHrJ
set_option maxHeartbeats 8000000
set_option maxRecDepth 100000
open Go.Lib (hid)
namespace Go.Proofs.YtkfnkeflalcphaaGreatDoor
open List renaming getElem?_eq_getElem->jD6
open Go.RowKit.Below renaming refl->jD7
open Nat renaming le_refl->jD8
open Go.RowKit
set_option linter.unusedVariables false
set_option linter.unusedSimpArgs false
structure LnW (li:List aj):Prop where
 sz:aj.aY li<=900000
 sm:aj.aB li
 tf:aj.Ka li
theorem vU (name:ByteArray):∀ (cs:List UInt8) (l:List ah) (k:Nat) (c:UInt8) (b:ah),cs[k]?=some c->l[k]?=some b->gN name (cs.take (k+1)) (l.take (k+1))=gN name (cs.take k) (l.take k)++[jbq name c b]
 | [],_,_,_,_,h,_=>by simp at h
 | _::_,[],_,_,_,_,h=>by simp at h
 | c0::cs,b0::l,0,c,b,h1,h2=>by
  simp at h1 h2;subst h1 h2;simp [gN]
 | c0::cs,b0::l,k+1,c,b,h1,h2=>by
  rw [List.take_succ_cons,List.take_succ_cons,List.take_succ_cons,List.take_succ_cons,gN,gN,vU name cs l k c b (by simpa using h1) (by simpa using h2)];rfl
theorem zy (name:ByteArray):∀ (cs:List UInt8) (l:List ah),(gN name cs l).length<=l.length
 | [],l=>by simp [gN]
 | _::_,[]=>by simp [gN]
 | c::cs,b::l=>by rw [gN,List.length_cons,List.length_cons];have:=zy name cs l;omega
def Tf (Q:Nat) (w1:World) (name:ByteArray) (cs:List UInt8) (ks:List ah) (vi:Value) (wr:World):Prop:=
 ∃ (k:Nat) (rows:List (List Value)) (v:Value) (U:Nat) (wB:World),k<=ks.length/\vi=.int .i64 k/\wB.heap.size=Q+1/\aF 35 4 (fun _=>False) U wB ((gN name (cs.take k) (ks.take k)).map Nd.d) rows v wr /\
  CB 35 Q [.string ⟨#[116,114]⟩,.string ⟨#[]⟩,.slice none 0 0,v] wr/\Below Q w1 wr
theorem cb4 {p:Nat} {w:World} {c0 c1 c2 c3:Value} (h:CB 35 p [c0,c1,c2,c3] w):w.cell? ⟨p,0,none⟩=some c0/\w.cell? ⟨p,1,none⟩=some c1/\w.cell? ⟨p,2,none⟩=some c2/\w.cell? ⟨p,3,none⟩=some c3/\∀ j,w.frozen? ⟨p,j,none⟩=false:=
 ⟨h.cell 0 _ rfl,h.cell 1 _ rfl,h.cell 2 _ rfl,h.cell 3 _ rfl,ED h⟩
theorem Gu{P Q:Prop}(q:Q)(h:Nonempty Q->P:=by
 intro qQ;have hk0:=HW0.out;simp only [Jh] at hk0;rw [<- hk0];clear hk0;exact qQ.elim fun x=>x):P:=h ⟨q⟩
theorem Si{P Q:Prop}(q:Q)(h:Nonempty Q->P:=by
 intro qQ;obtain ⟨p,hp⟩:∃ p,p=wr.heap.size:=⟨_,rfl⟩;obtain ⟨wA,iw⟩:∃ wA,wA=wr.alloc (.cells #[.int .i64 yk,.int .i64 Cq,.string yi,.string yt,.string yd,.string Cr,.string AQ.id,.slice Oo Oq Ot,.slice Ou Ov Ow,.slice yM yN yO,.slice JY JZ J3] 48):=⟨_,rfl⟩;have PA:CB 48 p [.int .i64 yk,.int .i64 Cq,.string yi,.string yt,.string yd,.string Cr,.string AQ.id,.slice Oo Oq Ot,.slice Ou Ov Ow,.slice yM yN yO,.slice JY JZ J3] wA:=by rw [iw,hp];exact CB.new _ _ wr
 have bA:Below wr.heap.size wr wA:=by rw [iw];exact (Below.refl _ _).alloc (Nat.le_refl _) _
 revert p hp wA iw PA bA;exact qQ.elim fun x=>x):P:=h ⟨q⟩
theorem Tg{P:Prop}(h:P:=by
 have PR:=hid (show Rd (wA.heap.size<=·) w2 (q32 (bU zl (gG c))) [.slice a2 n2 c2] by rw [hal];exact hrow2.bZ.weaken (fun b hb=>Nat.le_trans bl.size hb));have B2:=hid (bl.trans (hrow2.aM.mono bl.size));clear hrow2 bl PC hal;go_upto_region 13 with (fail)
 refine Dh [22,23,24,25,26,27,28,29,30,31,32,33,34] (fun f=>?_);simp only [List.foldl_cons,List.foldl_nil,List.set_cons_succ,List.set_cons_zero];exact REST w2 a2 n2 c2 f ⟨B2,PR⟩):P:=h
theorem qD{P Q:Prop}(q:Q)(h:Nonempty Q->P:=by
 intro qQ;rw [<- hw8];have r0:=yQ.out.cell 0 _ rfl;have r1:=yQ.out.cell 1 _ rfl;have r2:=yQ.out.cell 2 _ rfl;have r3:=yQ.out.cell 3 _ rfl;revert r0 r1 r2 r3;exact qQ.elim fun x=>x):P:=h ⟨q⟩
theorem MH{P Q:Prop}(q:Q)(h:Nonempty Q->P:=by
 intro qQ;have hcap:nk<=ck:=by have:=hs.le;rw [List.length_map] at this;omega
 have hmx:=hs.max;unfold maxLen at hmx;revert hcap hmx;exact qQ.elim fun x=>x):P:=h ⟨q⟩
theorem ja7{P Q:Prop}(q:Q)(h:Nonempty Q->P:=by
 intro qQ;have q1:((c.toNat:Int)==108)=false:=by rw [beq_eq_false_iff_ne];intro h;exact Bv (UInt8.toNat_inj.1 (show c.toNat=108 by omega))
 have q2:((c.toNat:Int)==99)=false:=by rw [beq_eq_false_iff_ne];intro h;exact Qo (UInt8.toNat_inj.1 (show c.toNat=99 by omega))
 have q3:((c.toNat:Int)==114)=false:=by rw [beq_eq_false_iff_ne];intro h;exact sQ (UInt8.toNat_inj.1 (show c.toNat=114 by omega))
 revert q1 q2 q3;exact qQ.elim fun x=>x):P:=h ⟨q⟩
theorem vR{P Q:Prop}(q:Q)(h:Nonempty Q->P:=by
 intro qQ;have yQ:=hid hf.1;have yR:=hid hf.2;have hw8:=dn;simp only [kX] at hw8;revert yQ yR hw8;exact qQ.elim fun x=>x):P:=h ⟨q⟩
theorem ja6{P Q:Prop}(q:Q)(h:Nonempty Q->P:=by
 intro qQ;obtain ⟨y,hy⟩:∃ y,ks[j]?=some y:=⟨_,List.getElem?_eq_getElem (by have:=uy.out;omega)⟩;have hjs:j<letters.size:=by have:=Gz.out;omega
 obtain ⟨c,hcx⟩:∃ c,letters.data.toList[j]?=some c:=⟨_,List.getElem?_eq_getElem (by simpa using hjs)⟩;have hsn:=vU name _ _ _ _ _ hcx hy;have Fy:=HC.out y (List.mem_of_getElem? hy);revert y hy hjs c hcx hsn Fy;exact qQ.elim fun x=>x):P:=h ⟨q⟩
theorem ja5{P:Prop}(h:P:=by
 have h:=zy name (letters.data.toList.take j) (ks.take j);have h2:(ks.take j).length<=ks.length:=List.length_take_le' _ _;rw [hm,hds,List.length_map];have:=uy.out;omega):P:=h
theorem Gt{P Q:Prop}(q:Q)(h:Nonempty Q->P:=by
 intro qQ;have AO:=hid hS;have HW0:=hid hW0;have Z0:=hid z0;have B0:=hid b0;have K1:=hid k1;revert AO HW0 Z0 B0 K1;exact qQ.elim fun x=>x):P:=h ⟨q⟩
theorem ja4{P Q:Prop}(q:Q)(h:Nonempty Q->P:=by
 intro qQ;have hnl:nk=letters.size:=by rw [hnk,hlen]
 obtain ⟨S,W0,hS,hW0,z0,k0,k1,b0⟩:=zk 48 w [.int .i64 k,.int .i64 lv,.string i,.string t,.string d,.string ti,.string at_.id,.slice ac nc cc,.slice ap np cp,.slice al nl cl,.slice ak nk ck];revert hnl S W0 hS hW0 z0 k0 k1 b0;exact qQ.elim fun x=>x):P:=h ⟨q⟩
theorem M6{P Q:Prop}(q:Q)(h:Nonempty Q->P:=by
 intro qQ;refine hK.out _ _ (fun _=>S5) (fun hH2=>?_);have hH:=hH2 (by decide);clear hH2;revert hH;exact qQ.elim fun x=>x):P:=h ⟨q⟩
theorem GX (k lv:Int) (i t d ti:ByteArray) (at_:At) (li:List aj) (ks:List ah) (vc vp vl vk:Value) (name letters:ByteArray) (w:World) (hR:eP (·<w.heap.size) w at_ li ks vc vp vl vk) (hlen:ks.length=letters.size) (hk1:ks.length<=1000000) (hc:∀ c∈ks,LnW c.kT) : Calls Tryz.prog 174 #[.agg #[.int .i64 k,.int .i64 lv,.string i,.string t,.string d,.string ti,.string at_.id,vc,vp,vl,vk],.string name,.string letters] w (qc w (aJ jU [] (gN name letters.data.toList ks))):=by
 obtain ⟨iN,qB,fC,fD,fE⟩:=info_parts gY;obtain ⟨ac,nc,cc,rfl⟩:=Rd.au hR.at_.cls
 obtain ⟨ap,np,cp,rfl⟩:=Rd.au hR.at_.aD
 obtain ⟨al,nl,cl,rfl⟩:=Rd.au hR.line;obtain ⟨ak,ck,hvk,hs⟩:=Rd.ay hR.kids;obtain ⟨nk,hnk⟩:∃ nk,nk=ks.length:=⟨_,rfl⟩;obtain rfl:vk=.slice ak nk ck:=by rw [hnk];simpa using hvk
 refine MH ?_;intro hcap hmx;refine ja4 ?_;intro hnl S W0 hS hW0 z0 k0 k1 b0;have KX:Hid (∀ w':World,Below W0.heap.size W0 w'->w'.cell? ⟨S,10,none⟩=some (.slice ak nk ck)):=fun w' hb=>(k0.below hb).cell 10 _ rfl
 have HS2:Hid (qI (·<S) W0 11 (ks.map ah.d) ak ck):=by subst hS;exact hs.below b0
 refine Gt ?_;intro AO HW0 Z0 B0 K1;have HC:=hid hc;have uy:=hid hnk;have Gz:=hid hnl;have EC:=hid (l7 ⟨#[116,114]⟩ none none 0 0 0 0 W0);have JW:nk<=1000000:=by omega
 have hls:letters.size<=1000000:=by omega
 clear hR hvk hs hnk hnl hlen hS hW0 z0 k0 k1 b0 hc hk1;go_enter Tryz.func174,Tryz.ntmps174;go_upto_region 1 with (fail)
 rw [<- AO.out];refine Gu ?_;go_wp2_with fail
 (with_reducible refine EC.out.mono ?_)
 rintro e w1 ⟨rfl,b1⟩;go_upto_region 2 with (fail)
 obtain ⟨Q,hQ⟩:∃ Q,Q=w1.heap.size:=⟨_,rfl⟩;obtain ⟨wQ,hwQ⟩:∃ wQ,wQ=w1.alloc (.cells #[.string ⟨#[116,114]⟩,.string ⟨#[]⟩,.slice none 0 0,.slice none 0 0] 35):=⟨_,rfl⟩;have zQ:wQ.heap.size=Q+1:=by rw [hwQ,hQ];simp
 have kQ:CB 35 Q [.string ⟨#[116,114]⟩,.string ⟨#[]⟩,.slice none 0 0,.slice none 0 0] wQ:=by rw [hwQ,hQ];exact CB.new _ _ w1
 have bQ:Below Q w1 wQ:=by rw [hwQ,hQ];exact (jD7 _ _).alloc (jD8 _) _
 have hWQ:W0.heap.size<=Q:=by rw [hQ];exact b1.size
 have R0:Hid (Tf Q w1 name letters.data.toList ks (.int .i64 0) wQ):=⟨0,[],_,Q+1,wQ,Nat.zero_le _,rfl,zQ,by rw [<- zQ];exact aF.nil _ _ _ _,kQ,bQ⟩;have B1:=hid b1;have g10:=KX.out wQ (b1.trans (bQ.mono hWQ));rw [<- hwQ,<- hQ];clear hwQ zQ kQ bQ b1 EC hQ;go_wp2
 go_loopw [15] (fun vi wr=>Tf Q w1 name letters.data.toList ks vi wr) (fun i _=>nk-(intOf i).toNat)
 case atStart=>exact R0.out
 case round=>
  clear R0 g10;obtain ⟨j,rows,v,U,wB,hj,rfl,ZP,hrow,hcb,hbel⟩:=hrel;obtain ⟨ds,hds⟩:∃ ds,ds=(gN name (letters.data.toList.take j) (ks.take j)).map Nd.d:=⟨_,rfl⟩;rw [<- hds] at hrow;obtain ⟨m,hm⟩:∃ m,m=ds.length:=⟨_,rfl⟩;have Wz:m<=1000000:=by exact ja5
  obtain ⟨av,cv,rfl,-,-⟩:=hrow.cap hm.symm;have HM:=hid hm.symm;have mZ:=hid hds;have bg:=hid hrow;have AX:=hid hcb;have FE:=hid ZP;have iM:=hid hbel;have hUr:=hrow.JJ;have hQU:Q+1<=U:=by have:=hrow.Gg;omega
  clear hrow hcb hm hds ZP hbel;by_cases hlt:j<nk
  ·refine ja6 ?_;intro y hy hjs c hcx hsn Fy;obtain ⟨yk,Cq,yi,yt,yd,Cr,AQ,sN,lY⟩:=y;have Fy:LnW sN:=Fy;obtain ⟨g,off,vc,vp,vl,vk,rfl,hok,hbl,hc,hR⟩:=Gr HS2.out hy;have jn6:Below S W0 wr:=((jD7 _ _).trans (B1.out.mono (by have:=Z0.out;omega))).trans (iM.out.mono (by have:=Z0.out;omega));obtain ⟨c0,c1,c2,c3,c4,c5,c6,c7,c8,c9,c10⟩:=hc.at2 (w':=wr) (jn6.block g hok);obtain ⟨Oo,Oq,Ot,rfl⟩:=Rd.au hR.at_.cls
   obtain ⟨Ou,Ov,Ow,rfl⟩:=Rd.au hR.at_.aD
   obtain ⟨yM,yN,yO,rfl⟩:=Rd.au hR.line;obtain ⟨JY,JZ,J3,rfl⟩:=Rd.au hR.kids;have HLI:Hid (Rd (·<S) W0 (bG sN) [.slice yM yN yO]):=hR.line;have HLW:=hid Fy;have gV:=hid (show (gN name (letters.data.toList.take (j+1)) (ks.take (j+1))).map Nd.d=ds++[(aJ name (bU zl (gG c)) (dQ sN)).d] by rw [hsn,List.map_append,mZ.out];rfl);have HCX:=hid hcx;have jy5:=hid jn6;have hlet:(letters[j]'hjs)=c:=by have h:=hcx;rw [jD6 (by simpa using hjs)] at h;exact Option.some.inj h
   have t7:(j:Int)<(letters.size:Int):=by omega
   clear hc hok hbl hR hsn Fy hy hcx jn6;go_upto_region 5 with (fail)
   refine Si ?_;intro p hp wA iw PA bA;have zA:wA.heap.size=p+1:=by rw [iw,hp];simp
   rw [<- iw,<- hp];have hpr:wr.heap.size<=p:=by omega
   have hzA:wr.heap.size+1<=wA.heap.size:=by omega
   have hzp:p+1<=wA.heap.size:=by omega
   have hSW:S+2<=W0.heap.size:=Nat.le_of_eq Z0.out.symm;have BA:=hid bA;have HPA:=hid PA;have ZA:=hid zA;clear iw hp c0 c1 c2 c3 c4 c5 c6 c7 c8 c9 c10 PA bA zA;have q7:letters[j]?=some c:=by rw [<- hlet];exact getElem?_pos letters j hjs
   apply js7 (α1:=World) (α2:=Option Addr) (α3:=Nat) (α4:=Nat) (α5:=Nat->Value) (R:=fun w2 a2 n2 c2 f=>Hid (Below wA.heap.size wA w2)/\Hid (Rd (wA.heap.size<=·) w2 (q32 (bU zl (gG c))) [.slice a2 n2 c2]));case hm=>
    intro REST;go_upto_region 7 with (fail)
    by_cases Bv:c=108
    ·have q1:((c.toNat:Int)==108)=true:=by rw [Bv];rfl
     have hal:bU zl (gG c)=[⟨zl,⟨#[108,101,102,116]⟩⟩]:=by rw [Bv];rfl
     have PC:Hid (Calls Tryz.prog 41 #[.slice (some ⟨wA.heap.size,0,none⟩) 2 2] (wA.alloc (.cells #[.string ⟨#[97,108,105,103,110]⟩,.string ⟨#[108,101,102,116]⟩] 9)) (aU (wA.alloc (.cells #[.string ⟨#[97,108,105,103,110]⟩,.string ⟨#[108,101,102,116]⟩] 9)) [⟨zl,⟨#[108,101,102,116]⟩⟩])):=Xj zl ⟨#[108,101,102,116]⟩ wA;go_wp2_with fail
     (with_reducible refine PC.out.mono ?_)
     rintro e w2 ⟨aZ,v2,rfl,hrow2⟩;obtain ⟨a2,n2,c2,rfl⟩:=hrow2.slice3;have bl:Below wA.heap.size wA (wA.alloc (.cells #[.string ⟨#[97,108,105,103,110]⟩,.string ⟨#[108,101,102,116]⟩] 9)):=(jD7 _ _).alloc (jD8 _) _;exact Tg
    by_cases Qo:c=99
    ·have Xd:((c.toNat:Int)==108)=false:=by rw [Qo];rfl
     have q1:((c.toNat:Int)==99)=true:=by rw [Qo];rfl
     have hal:bU zl (gG c)=[⟨zl,⟨#[99,101,110,116,101,114]⟩⟩]:=by rw [Qo];rfl
     have PC:Hid (Calls Tryz.prog 41 #[.slice (some ⟨wA.heap.size,0,none⟩) 2 2] (wA.alloc (.cells #[.string ⟨#[97,108,105,103,110]⟩,.string ⟨#[99,101,110,116,101,114]⟩] 9)) (aU (wA.alloc (.cells #[.string ⟨#[97,108,105,103,110]⟩,.string ⟨#[99,101,110,116,101,114]⟩] 9)) [⟨zl,⟨#[99,101,110,116,101,114]⟩⟩])):=Xj zl ⟨#[99,101,110,116,101,114]⟩ wA;go_wp2_with fail
     (with_reducible refine PC.out.mono ?_)
     rintro e w2 ⟨aZ,v2,rfl,hrow2⟩;obtain ⟨a2,n2,c2,rfl⟩:=hrow2.slice3;have bl:Below wA.heap.size wA (wA.alloc (.cells #[.string ⟨#[97,108,105,103,110]⟩,.string ⟨#[99,101,110,116,101,114]⟩] 9)):=(jD7 _ _).alloc (jD8 _) _;exact Tg
    by_cases sQ:c=114
    ·have q99:((c.toNat:Int)==99)=false:=by rw [sQ];rfl
     have Xd:((c.toNat:Int)==108)=false:=by rw [sQ];rfl
     have q1:((c.toNat:Int)==114)=true:=by rw [sQ];rfl
     have hal:bU zl (gG c)=[⟨zl,⟨#[114,105,103,104,116]⟩⟩]:=by rw [sQ];rfl
     have PC:Hid (Calls Tryz.prog 41 #[.slice (some ⟨wA.heap.size,0,none⟩) 2 2] (wA.alloc (.cells #[.string ⟨#[97,108,105,103,110]⟩,.string ⟨#[114,105,103,104,116]⟩] 9)) (aU (wA.alloc (.cells #[.string ⟨#[97,108,105,103,110]⟩,.string ⟨#[114,105,103,104,116]⟩] 9)) [⟨zl,⟨#[114,105,103,104,116]⟩⟩])):=Xj zl ⟨#[114,105,103,104,116]⟩ wA;go_wp2_with fail
     (with_reducible refine PC.out.mono ?_)
     rintro e w2 ⟨aZ,v2,rfl,hrow2⟩;obtain ⟨a2,n2,c2,rfl⟩:=hrow2.slice3;have bl:Below wA.heap.size wA (wA.alloc (.cells #[.string ⟨#[97,108,105,103,110]⟩,.string ⟨#[114,105,103,104,116]⟩] 9)):=(jD7 _ _).alloc (jD8 _) _;exact Tg
    refine ja7 ?_;intro q1 q2 q3;have hal:gG c=⟨#[]⟩:=by unfold gG;rw [if_neg Bv,if_neg Qo,if_neg sQ]
    have PR:Hid (Rd (wA.heap.size<=·) wA (q32 (bU zl (gG c))) [.slice none 0 0]):=by rw [hal];exact Rd.aC _ _ _
    clear Bv Qo sQ hal;go_upto_region 13 with (fail)
    refine Dh [22,23,24,25,26,27,28,29,30,31,32,33,34] (fun f=>?_);simp only [List.foldl_cons,List.foldl_nil,List.set_cons_succ,List.set_cons_zero];exact REST wA none 0 0 f ⟨jD7 _ _,PR⟩
   case hr=>
    intro w2 a2 n2 c2 f ⟨B2,PR⟩;have U2:=hid ((bg.out.below BA.out).below B2.out);have CQ2:=hid ((AX.out.below BA.out).below B2.out);have HP2:=hid (HPA.out.below B2.out);have hz2:=B2.out.size;have LC:=hid (uG 900000 sN (.slice yM yN yO) w2.drew HLW.out.sz (by decide) (Rd.keep (w:=W0) (w':=w2.drew) (ok:=(·<S)) (fun b (hb:b<S) hlt=>⟨by show b<w2.heap.size;have:=Z0.out;omega,(show w2.heap[b]?=W0.heap[b]? from (B2.out.block b (by have:=Z0.out;omega)).trans ((BA.out.block b (by have:=Z0.out;omega)).trans (jy5.out.block b hb)))⟩) _ _ HLI.out) HLW.out.sm HLW.out.tf);have S0:w2.drew.cell? ⟨Q,3,none⟩=some (.slice av m cv)/\w2.drew.cell? ⟨p,9,none⟩=some (.slice yM yN yO):=⟨CQ2.out.cell 3 _ rfl,HP2.out.cell 9 _ rfl⟩;refine kg 11 (fun w'=>w'.cell? ⟨Q,3,none⟩=some (.slice av m cv)/\w'.cell? ⟨p,9,none⟩=some (.slice yM yN yO)) (by kernel_rfl) S0 ?_;intro hH;refine ZW ?_;refine bR ?_;refine Jf (i:=6) rfl (by kernel_rfl) (fun KQ hK=>?_);go_simp;go_at_call 78
    (with_reducible refine LC.out.mono ?_)
    rintro e w3 ⟨dD,v3,rfl,hrow3⟩;obtain ⟨a3,n3,c3,rfl⟩:=hrow3.slice3;have b3:Below w2.heap.size w2 w3:=((jD7 _ _).drew).trans hrow3.aM;have B3:=hid b3;have KS3:=hid (show Rd (w2.heap.size<=·) w3 (gD (dQ sN)) [.slice a3 n3 c3] from hrow3.bZ);have Q3:=CQ2.out.below b3;have P3:=HP2.out.below b3;have S3:w3.cell? ⟨Q,3,none⟩=some (.slice av m cv)/\w3.cell? ⟨p,9,none⟩=some (.slice yM yN yO):=⟨Q3.cell 3 _ rfl,P3.cell 9 _ rfl⟩;have U3:=hid (U2.out.below b3);have VP:=hid Q3;have HP3:=hid P3;have EC:=hid (l7 name a2 a3 n2 n3 c2 c3 w3);clear hrow3 b3 Q3 P3 LC U2;refine hK.out _ _ (fun _=>S3) (fun hH2=>?_);clear hK KQ hH;have hH:=hH2 (by decide);clear hH2;refine bR ?_;refine Jf (i:=7) rfl (by kernel_rfl) (fun KQ hK=>?_);go_simp;go_at_call 40
    (with_reducible refine EC.out.mono ?_)
    rintro e w4 ⟨rfl,b4⟩;have B4:=hid (q01 B3.out b4);have U4:=hid (U3.out.below b4);have Q4:=VP.out.below b4;have P4:=HP3.out.below b4;have S4:w4.cell? ⟨Q,3,none⟩=some (.slice av m cv)/\w4.cell? ⟨p,9,none⟩=some (.slice yM yN yO):=⟨Q4.cell 3 _ rfl,P4.cell 9 _ rfl⟩;have HQ4:=hid Q4;have HP4:=hid P4;have hz4:=B4.out.size;have XD:=hid (show Rd (fun b=>False\/U<=b) w4 (aJ name (bU zl (gG c)) (dQ sN)).d [.string name,.string ⟨#[]⟩,.slice a2 n2 c2,.slice a3 n3 c3] from Nd.dJ name ⟨#[]⟩ ⟨Rd.weaken ((PR.out.bC B3.out).bC b4) (fun b hb=>.inr (by omega)),Rd.weaken (KS3.out.bC b4) (fun b hb=>.inr (by omega))⟩);clear b4 Q4 P4 EC U3 KS3 VP HP3;refine hK.out _ _ (fun _=>S4) (fun hH2=>?_);clear hK KQ hH;have hH:=hH2 (by decide);clear hH2;refine bR ?_;refine Jf (i:=8) rfl (by kernel_rfl) (fun KQ hK=>?_);go_simp;refine hK.out _ _ (fun _=>⟨past S4.1 _,past S4.2 _⟩) (fun hH2=>?_);clear hK KQ hH;have hH:=hH2 (by decide);clear hH2;refine bR ?_;refine Jf (i:=9) rfl (by kernel_rfl) (fun KQ hK=>?_);refine lq rfl (.tmp 36) (.tmp 43) 28 rfl iN _ 80 Tryz.underlying28 qB fC fD fE rfl (by decide) U4.out (fun _=>False.elim) (aJ name (bU zl (gG c)) (dQ sN)).d [.string name,.string ⟨#[]⟩,.slice a2 n2 c2,.slice a3 n3 c3] XD.out rfl Fz HM.out (by omega) (by decide) rfl rfl ?_;intro a5 c5 w5 aX hg5;have hz5:w4.heap.size+1<=w5.heap.size:=by have h:=hg5.size;simp at h;exact h
    have hvQ:some Q≠(Value.slice av m cv).ownBlock:=fun e=>by have:=(U4.out.own.lt Q e.symm).1;have:=FE.out;omega
    have hvp:some p≠(Value.slice av m cv).ownBlock:=fun e=>by have:=U4.out.oU p e.symm;omega
    have q5:CB 35 Q [.string ⟨#[116,114]⟩,.string ⟨#[]⟩,.slice none 0 0,.slice av m cv] w5:=(hg5.block Q (by simp;omega) hvQ).trans ((Below.heap_alloc w4 _ Q HQ4.out.lt).trans HQ4.out);have p5:CB 48 p [.int .i64 yk,.int .i64 Cq,.string yi,.string yt,.string yd,.string Cr,.string AQ.id,.slice Oo Oq Ot,.slice Ou Ov Ow,.slice yM yN yO,.slice JY JZ J3] w5:=(hg5.block p (by simp;omega) hvp).trans ((Below.heap_alloc w4 _ p HP4.out.lt).trans HP4.out);have S5:w5.cell? ⟨Q,3,none⟩=some (.slice av m cv)/\w5.cell? ⟨p,9,none⟩=some (.slice yM yN yO):=⟨q5.cell 3 _ rfl,p5.cell 9 _ rfl⟩;have fz:=ED q5;have e3:=q5.cell 3 _ rfl;have HQ5:=hid q5;have U5:=hid aX;have ZR:=hid hg5;clear aX hg5 q5 p5 hvp XD;refine M6 ?_;clear hK KQ hH;intro hH;refine bR ?_;refine Jf (i:=10) rfl (by kernel_rfl) (fun KQ hK=>?_);go_simp;refine M6 ?_;clear hK KQ hH;intro hH;refine bR ?_;refine Jf (i:=11) rfl (by kernel_rfl) (fun KQ hK=>?_);refine nV ?_;clear hK KQ;refine ko (by kernel_rfl) ?_ _;obtain ⟨w6,pG⟩:∃ w6,w6=w5.setCell ⟨Q,3,none⟩ (.slice a5 (m+1) c5):=⟨_,rfl⟩;rw [<- pG];have g6:w5.grownBy w6 (some Q):=by rw [pG];exact ⟨rfl,rfl,rfl,by simp [World.setCell],fun b _ hb=>Below.heap_setCell w5 ⟨Q,3,none⟩ _ b (fun e=>hb (by rw [e]))⟩
    have q6:CB 35 Q [.string ⟨#[116,114]⟩,.string ⟨#[]⟩,.slice none 0 0,.slice a5 (m+1) c5] w6:=by rw [pG];exact CU HQ5.out 3 _
    have hz6:w6.heap.size=w5.heap.size:=by rw [pG];simp [World.setCell]
    obtain ⟨wB6,hB6,dB⟩:=U5.out.hop2 (p:=Q) (by have:=FE.out;omega) g6;have HF:Hid (Tf Q w1 name letters.data.toList ks (.int .i64 ((j+1:Nat):Int)) w6):=by
     have h1:=dB.up (U':=w6.heap.size) (by omega) (jD8 _);rw [<- gV.out] at h1;refine ⟨j+1,_,_,w6.heap.size,wB6,by have:=uy.out;omega,rfl,hB6.trans FE.out,h1,q6,?_⟩;have hwQ:Q<=wr.heap.size:=by omega
     refine iM.out.trans ((BA.out.mono hwQ).trans ((B2.out.mono (by have:=BA.out.size;omega)).trans ((B4.out.mono (by omega)).trans ?_)));exact ((jD7 _ _).alloc (by omega) _ |>.grown ZR.out (by simp;omega) (fun g hg=>by have:=(U4.out.own.lt g hg).1;have:=FE.out;omega)).trans ((jD7 Q w5).grown g6 (by omega) (fun g hg=>by have:=Option.some.inj hg;omega))
    clear pG g6 q6 dB hB6 U5 ZR HQ5 hH S0 S3 S4 S5 fz e3 hvQ;exact gF
  ·have hkl:j=nk:=by have:=uy.out;omega
   have hjk:j=ks.length:=by have:=uy.out;omega
   have hll:letters.data.toList.length=letters.size:=by simp
   have HNR:Hid (gZ (W0.heap.size<=·) wr [] (gN name letters.data.toList ks) (.slice none 0 0) (.slice av m cv)):=by have h:=bg.out.bZ;rw [mZ.out,List.take_of_length_le (by rw [hll];have:=Gz.out;omega),List.take_of_length_le (by omega)] at h;exact ⟨Rd.aC _ _ _,h.weaken (fun b hb=>by have:=FE.out;omega)⟩
   have BL:=hid (B1.out.trans (iM.out.mono hWQ));obtain ⟨x0,x1,x2,x3,xf⟩:=qC (K1.out.below BL.out);obtain ⟨y0,y1,y2,y3,-⟩:=cb4 AX.out;clear hll hjk;go_upto_region 15 with (fail)
   obtain ⟨w9,dn⟩:∃ w9,w9=kX wr (S+1) (.string ⟨#[116,114]⟩) (.string ⟨#[]⟩) (.slice none 0 0) (.slice av m cv):=⟨_,rfl⟩;have hf:=vL ⟨#[116,114]⟩ ⟨#[]⟩ [] (gN name letters.data.toList ks) AO.out Z0.out B0.out K1.out BL.out HNR.out;rw [<- dn] at hf;refine vR ?_;clear hf dn;intro yQ yR hw8;go_wp2;refine qD ?_;intro r0 r1 r2 r3;exact bodyPost_ret (v:=.agg #[.string ⟨#[116,114]⟩,.string ⟨#[]⟩,.slice none 0 0,.slice av m cv]) (by simp [results,Tryz.results174,go_sem,r0,r1,r2,r3]) rfl yR.out
end Go.Proofs.YtkfnkeflalcphaaGreatDoor

