/- Contract of html.row: the node of a row of a table. -/
import Derived.Test.YtclikfjalmcoaaaGreatDoorKHrA
set_option maxHeartbeats 8000000
set_option maxRecDepth 100000
open Go.Lib (hid)
namespace Go.Proofs.YtclikfjalmcoaaaGreatDoor
open List renaming setIfInBounds_toArray->jgq,set_cons_zero->jgx,set_cons_succ->jgz,getElem?_eq_getElem->jh0
open Go.RowKit.Below renaming refl->jh1,heap_setCell->jhj,heap_alloc->jhk
open Nat renaming le_refl->jh2
open Option.some renaming inj->jh9
open Go.World renaming setCell->jij
open Go.RowKit
set_option linter.unusedVariables false
set_option linter.unusedSimpArgs false
structure Yx (li:List aj):Prop where
 sz:aj.aZ li<=900000
 sm:aj.aC li
 tf:aj.GY li
theorem uw (name:ByteArray):∀ (cs:List UInt8) (l:List au) (k:Nat) (c:UInt8) (b:au),cs[k]?=some c->l[k]?=some b->lN name (cs.take (k+1)) (l.take (k+1))=lN name (cs.take k) (l.take k)++[Tv name c b]
 | [],_,_,_,_,h,_=>by simp at h
 | _::_,[],_,_,_,_,h=>by simp at h
 | c0::cs,b0::l,0,c,b,h1,h2=>by
  simp at h1 h2;subst h1 h2;simp [lN]
 | c0::cs,b0::l,k+1,c,b,h1,h2=>by
  rw [List.take_succ_cons,List.take_succ_cons,List.take_succ_cons,List.take_succ_cons,lN,lN,uw name cs l k c b (by simpa using h1) (by simpa using h2)];rfl
theorem xw (name:ByteArray):∀ (cs:List UInt8) (l:List au),(lN name cs l).length<=l.length
 | [],l=>by simp [lN]
 | _::_,[]=>by simp [lN]
 | c::cs,b::l=>by rw [lN,List.length_cons,List.length_cons];have:=xw name cs l;omega
def Ay (Q:Nat) (w1:World) (name:ByteArray) (cs:List UInt8) (ks:List au) (vi:Value) (wr:World):Prop:=
 ∃ (k:Nat) (rows:List (List Value)) (v:Value) (U:Nat) (wB:World),k<=ks.length/\vi=.int .i64 k/\wB.heap.size=Q+1/\aI 43 4 (fun _=>False) U wB ((lN name (cs.take k) (ks.take k)).map Nd.d) rows v wr /\
  CB 43 Q [.string ⟨#[116,114]⟩,.string ⟨#[]⟩,.slice none 0 0,v] wr/\Below Q w1 wr
theorem YD {p:Nat} {w:World} {c0 c1 c2 c3:Value} (h:CB 43 p [c0,c1,c2,c3] w):w.cell? ⟨p,0,none⟩=some c0/\w.cell? ⟨p,1,none⟩=some c1/\w.cell? ⟨p,2,none⟩=some c2/\w.cell? ⟨p,3,none⟩=some c3/\∀ j,w.frozen? ⟨p,j,none⟩=false:=
 ⟨h.cell 0 _ rfl,h.cell 1 _ rfl,h.cell 2 _ rfl,h.cell 3 _ rfl,nR h⟩
theorem ER (k lv:Int) (i t d ti:ByteArray) (at_:At) (li:List aj) (ks:List au) (vc vp vl vk:Value) (name letters:ByteArray) (w:World) (hR:je (·<w.heap.size) w at_ li ks vc vp vl vk) (hlen:ks.length=letters.size) (hk1:ks.length<=1000000) (hc:∀ c∈ks,Yx c.nX) : Calls Tryz.prog 201 #[.agg #[.int .i64 k,.int .i64 lv,.string i,.string t,.string d,.string ti,.string at_.id,vc,vp,vl,vk],.string name,.string letters] w (jB w (aN nY [] (lN name letters.data.toList ks))):=by
 obtain ⟨iN,qG,fZ,gq,gu⟩:=info_parts lW;obtain ⟨ac,nc,cc,rfl⟩:=Rd.ah hR.at_.cls
 obtain ⟨ap,np,cp,rfl⟩:=Rd.ah hR.at_.aF
 obtain ⟨al,nl,cl,rfl⟩:=Rd.ah hR.line;obtain ⟨ak,ck,hvk,hs⟩:=Rd.aB hR.kids;obtain ⟨nk,hnk⟩:∃ nk,nk=ks.length:=⟨_,rfl⟩;obtain rfl:vk=.slice ak nk ck:=by rw [hnk];simpa using hvk
 have hcap:nk<=ck:=by have:=hs.le;rw [List.length_map] at this;omega
 have hmx:=hs.max;unfold maxLen at hmx;have hnl:nk=letters.size:=by rw [hnk,hlen]
 obtain ⟨S,W0,hS,hW0,z0,k0,k1,b0⟩:=kL 30 w [.int .i64 k,.int .i64 lv,.string i,.string t,.string d,.string ti,.string at_.id,.slice ac nc cc,.slice ap np cp,.slice al nl cl,.slice ak nk ck];have KX:Hid (∀ w':World,Below W0.heap.size W0 w'->w'.cell? ⟨S,10,none⟩=some (.slice ak nk ck)):=fun w' hb=>(k0.below hb).cell 10 _ rfl
 have HS2:Hid (qI (·<S) W0 11 (ks.map au.d) ak ck):=by subst hS;exact hs.below b0
 have Hl:=hid hS;have HW0:=hid hW0;have Z0:=hid z0;have B0:=hid b0;have K1:=hid k1;have HC:=hid hc;have Av:=hid hnk;have Eu:=hid hnl;have EC:=hid (iR ⟨#[116,114]⟩ none none 0 0 0 0 W0);have Yz:nk<=1000000:=by omega
 have hls:letters.size<=1000000:=by omega
 clear hR hvk hs hnk hnl hlen hS hW0 z0 k0 k1 b0 hc hk1;go_enter Tryz.func201,Tryz.ntmps201;go_upto_region 1 with (fail)
 rw [<- Hl.out];have hk0:=HW0.out;simp only [iY] at hk0;rw [<- hk0];clear hk0;go_wp2_with fail
 (with_reducible refine EC.out.mono ?_)
 rintro e w1 ⟨rfl,b1⟩;go_upto_region 2 with (fail)
 obtain ⟨Q,hQ⟩:∃ Q,Q=w1.heap.size:=⟨_,rfl⟩;obtain ⟨wQ,KW⟩:∃ wQ,wQ=w1.alloc (.cells #[.string ⟨#[116,114]⟩,.string ⟨#[]⟩,.slice none 0 0,.slice none 0 0] 43):=⟨_,rfl⟩;have zQ:wQ.heap.size=Q+1:=by rw [KW,hQ];simp
 have kQ:CB 43 Q [.string ⟨#[116,114]⟩,.string ⟨#[]⟩,.slice none 0 0,.slice none 0 0] wQ:=by rw [KW,hQ];exact CB.new _ _ w1
 have bQ:Below Q w1 wQ:=by rw [KW,hQ];exact (jh1 _ _).alloc (jh2 _) _
 have hWQ:W0.heap.size<=Q:=by rw [hQ];exact b1.size
 have R0:Hid (Ay Q w1 name letters.data.toList ks (.int .i64 0) wQ):=⟨0,[],_,Q+1,wQ,Nat.zero_le _,rfl,zQ,by rw [<- zQ];exact aI.nil _ _ _ _,kQ,bQ⟩;have B1:=hid b1;have g10:=KX.out wQ (b1.trans (bQ.mono hWQ));rw [<- KW,<- hQ];clear KW zQ kQ bQ b1 EC hQ;go_wp2
 go_loopw [15] (fun vi wr=>Ay Q w1 name letters.data.toList ks vi wr) (fun i _=>nk-(intOf i).toNat)
 case atStart=>exact R0.out
 case round=>
  clear R0 g10;obtain ⟨j,rows,v,U,wB,hj,rfl,Te,hrow,hcb,hbel⟩:=hrel;obtain ⟨ds,hds⟩:∃ ds,ds=(lN name (letters.data.toList.take j) (ks.take j)).map Nd.d:=⟨_,rfl⟩;rw [<- hds] at hrow;obtain ⟨m,hm⟩:∃ m,m=ds.length:=⟨_,rfl⟩;have hmj:m<=1000000:=by have h:=xw name (letters.data.toList.take j) (ks.take j);have h2:(ks.take j).length<=ks.length:=List.length_take_le' _ _;rw [hm,hds,List.length_map];have:=Av.out;omega
  obtain ⟨av,cv,rfl,-,-⟩:=hrow.cap hm.symm;have HM:=hid hm.symm;have vG:=hid hds;have aV:=hid hrow;have ES:=hid hcb;have mX:=hid Te;have eY:=hid hbel;have hUr:=hrow.GK;have hQU:Q+1<=U:=by have:=hrow.Er;omega
  clear hrow hcb hm hds Te hbel;by_cases hlt:j<nk
  ·obtain ⟨y,hy⟩:∃ y,ks[j]?=some y:=⟨_,jh0 (by have:=Av.out;omega)⟩;have hjs:j<letters.size:=by have:=Eu.out;omega
   obtain ⟨c,hcx⟩:∃ c,letters.data.toList[j]?=some c:=⟨_,jh0 (by simpa using hjs)⟩;have hsn:=uw name _ _ _ _ _ hcx hy;have hlw:=HC.out y (List.mem_of_getElem? hy);obtain ⟨yk,EN,yi,yt,yd,EO,DJ,uX,EP⟩:=y;have hlw:Yx uX:=hlw;obtain ⟨g,off,vc,vp,vl,vk,rfl,hok,hbl,hc,hR⟩:=iF HS2.out hy;have VB:Below S W0 wr:=((jh1 _ _).trans (B1.out.mono (by have:=Z0.out;omega))).trans (eY.out.mono (by have:=Z0.out;omega));obtain ⟨c0,c1,c2,c3,c4,c5,c6,c7,c8,c9,c10⟩:=hc.at2 (w':=wr) (VB.block g hok);obtain ⟨JH,JI,JJ,rfl⟩:=Rd.ah hR.at_.cls
   obtain ⟨JK,JL,JM,rfl⟩:=Rd.ah hR.at_.aF
   obtain ⟨l6,l7,l8,rfl⟩:=Rd.ah hR.line;obtain ⟨JO,JQ,JR,rfl⟩:=Rd.ah hR.kids;have HLI:Hid (Rd (·<S) W0 (bC uX) [.slice l6 l7 l8]):=hR.line;have Mw:=hid hlw;have iE:=hid (show (lN name (letters.data.toList.take (j+1)) (ks.take (j+1))).map Nd.d=ds++[(aN name (dF vI (qo c)) (dD uX)).d] by rw [hsn,List.map_append,vG.out];rfl);have HCX:=hid hcx;have QM:=hid VB;have hlet:(letters[j]'hjs)=c:=by have h:=hcx;rw [jh0 (by simpa using hjs)] at h;exact jh9 h
   have t7:(j:Int)<(letters.size:Int):=by omega
   clear hc hok hbl hR hsn hlw hy hcx VB;go_upto_region 5 with (fail)
   obtain ⟨p,hp⟩:∃ p,p=wr.heap.size:=⟨_,rfl⟩;obtain ⟨wA,gN⟩:∃ wA,wA=wr.alloc (.cells #[.int .i64 yk,.int .i64 EN,.string yi,.string yt,.string yd,.string EO,.string DJ.id,.slice JH JI JJ,.slice JK JL JM,.slice l6 l7 l8,.slice JO JQ JR] 30):=⟨_,rfl⟩;have PA:CB 30 p [.int .i64 yk,.int .i64 EN,.string yi,.string yt,.string yd,.string EO,.string DJ.id,.slice JH JI JJ,.slice JK JL JM,.slice l6 l7 l8,.slice JO JQ JR] wA:=by rw [gN,hp];exact CB.new _ _ wr
   have bA:Below wr.heap.size wr wA:=by rw [gN];exact (jh1 _ _).alloc (jh2 _) _
   have zA:wA.heap.size=p+1:=by rw [gN,hp];simp
   rw [<- gN,<- hp];have hpr:wr.heap.size<=p:=by omega
   have hzA:wr.heap.size+1<=wA.heap.size:=by omega
   have hzp:p+1<=wA.heap.size:=by omega
   have hSW:S+2<=W0.heap.size:=Nat.le_of_eq Z0.out.symm;have BA:=hid bA;have YE:=hid PA;have ZA:=hid zA;clear gN hp c0 c1 c2 c3 c4 c5 c6 c7 c8 c9 c10 PA bA zA;have q7:letters[j]?=some c:=by rw [<- hlet];exact getElem?_pos letters j hjs
   go_upto_region 7 with (fail)
   by_cases QN:c=108
   ·subst QN;have hal:qo 108=⟨#[108,101,102,116]⟩:=rfl;rw [hal] at iE;have PC:Hid (Calls Tryz.prog 58 #[.slice (some ⟨wA.heap.size,0,none⟩) 2 2] (wA.alloc (.cells #[.string ⟨#[97,108,105,103,110]⟩,.string ⟨#[108,101,102,116]⟩] 9)) (aR (wA.alloc (.cells #[.string ⟨#[97,108,105,103,110]⟩,.string ⟨#[108,101,102,116]⟩] 9)) [⟨vI,⟨#[108,101,102,116]⟩⟩])):=Nh vI ⟨#[108,101,102,116]⟩ wA;rw [show dF vI ⟨#[108,101,102,116]⟩=[⟨vI,⟨#[108,101,102,116]⟩⟩] from rfl] at iE;clear hal;go_wp2_with fail
    (with_reducible refine PC.out.mono ?_)
    rintro e w2 ⟨bq,v2,rfl,hrow2⟩;obtain ⟨a2,c2,rfl,-,-⟩:=hrow2.cap (n:=1) rfl;have bl:Below wA.heap.size wA (wA.alloc (.cells #[.string ⟨#[97,108,105,103,110]⟩,.string ⟨#[108,101,102,116]⟩] 9)):=(jh1 _ _).alloc (jh2 _) _;have B2:=hid (bl.trans (hrow2.aL.mono bl.size));have PR:=hid (show Rd (wA.heap.size<=·) w2 (cZ [⟨vI,⟨#[108,101,102,116]⟩⟩]) [.slice a2 1 c2] from hrow2.cu.weaken (fun b hb=>Nat.le_trans bl.size hb));clear hrow2 bl PC;have U2:=hid ((aV.out.below BA.out).below B2.out);have Nt:=hid ((ES.out.below BA.out).below B2.out);have JU:=hid (YE.out.below B2.out);have hz2:=B2.out.size;have LC:=hid (jw 900000 uX (.slice l6 l7 l8) w2.drew Mw.out.sz (by decide) (Rd.keep (w:=W0) (w':=w2.drew) (ok:=(·<S)) (fun b (hb:b<S) hlt=>⟨by show b<w2.heap.size;have:=Z0.out;omega,(show w2.heap[b]?=W0.heap[b]? from (B2.out.block b (by have:=Z0.out;omega)).trans ((BA.out.block b (by have:=Z0.out;omega)).trans (QM.out.block b hb)))⟩) _ _ HLI.out) Mw.out.sm Mw.out.tf);have S0:w2.drew.cell? ⟨Q,3,none⟩=some (.slice av m cv)/\w2.drew.cell? ⟨p,9,none⟩=some (.slice l6 l7 l8):=⟨Nt.out.cell 3 _ rfl,JU.out.cell 9 _ rfl⟩;go_upto_region 13 with (fail)
    refine Ti 11 (fun w'=>w'.cell? ⟨Q,3,none⟩=some (.slice av m cv)/\w'.cell? ⟨p,9,none⟩=some (.slice l6 l7 l8)) (by kernel_rfl) S0 ?_;intro hH;refine jA (i:=0) (v:=?_) rfl (by kernel_rfl) (by kernel_rfl) (by kernel_rfl) (by kernel_rfl) (fun _ _ _ h=>h) hH (Or.inl ⟨by rfl,?_⟩) ?_;rotate_left
    ·(intro wv hSw;(try dsimp only at hSw);go_simp;try with_reducible rfl)
    try simp only [Act.put,jgq,jgx,jgz]
    refine jA (i:=1) (v:=?_) rfl (by kernel_rfl) (by kernel_rfl) (by kernel_rfl) (by kernel_rfl) (fun _ _ _ h=>h) hH (Or.inl ⟨by rfl,?_⟩) ?_;rotate_left
    ·(intro wv hSw;(try dsimp only at hSw);go_simp;try with_reducible rfl)
    try simp only [Act.put,jgq,jgx,jgz]
    refine jA (i:=2) (v:=?_) rfl (by kernel_rfl) (by kernel_rfl) (by kernel_rfl) (by kernel_rfl) (fun _ _ _ h=>h) hH (Or.inl ⟨by rfl,?_⟩) ?_;rotate_left
    ·(intro wv hSw;(try dsimp only at hSw);go_simp;try with_reducible rfl)
    try simp only [Act.put,jgq,jgx,jgz]
    refine jA (i:=3) (v:=?_) rfl (by kernel_rfl) (by kernel_rfl) (by kernel_rfl) (by kernel_rfl) (fun _ _ _ h=>h) hH (Or.inl ⟨by rfl,?_⟩) ?_;rotate_left
    ·(intro wv hSw;(try dsimp only at hSw);go_simp;try with_reducible rfl)
    try simp only [Act.put,jgq,jgx,jgz]
    refine jA (i:=4) (v:=?_) rfl (by kernel_rfl) (by kernel_rfl) (by kernel_rfl) (by kernel_rfl) (fun _ _ _ h=>h) hH (Or.inl ⟨by rfl,?_⟩) ?_;rotate_left
    ·(intro wv hSw;(try dsimp only at hSw);go_simp;try with_reducible rfl)
    try simp only [Act.put,jgq,jgx,jgz]
    refine jA (i:=5) (v:=?_) rfl (by kernel_rfl) (by kernel_rfl) (by kernel_rfl) (by kernel_rfl) (fun _ _ _ h=>h) hH (Or.inl ⟨by rfl,?_⟩) ?_;rotate_left
    ·(intro wv hSw;(try dsimp only at hSw);go_simp;try with_reducible rfl)
    try simp only [Act.put,jgq,jgx,jgz]
    refine lY (i:=6) rfl (by kernel_rfl) (fun KQ hK=>?_);go_simp;go_at_call 50
    (with_reducible refine LC.out.mono ?_)
    rintro e w3 ⟨bY,v3,rfl,hrow3⟩;obtain ⟨a3,n3,c3,rfl⟩:=hrow3.slice3;have b3:Below w2.heap.size w2 w3:=((jh1 _ _).drew).trans hrow3.aL;have B3:=hid b3;have Nu:=hid (show Rd (w2.heap.size<=·) w3 (bS (dD uX)) [.slice a3 n3 c3] from hrow3.cu);have Q3:=Nt.out.below b3;have P3:=JU.out.below b3;have S3:w3.cell? ⟨Q,3,none⟩=some (.slice av m cv)/\w3.cell? ⟨p,9,none⟩=some (.slice l6 l7 l8):=⟨Q3.cell 3 _ rfl,P3.cell 9 _ rfl⟩;have U3:=hid (U2.out.below b3);have Ct:=hid Q3;have Gb:=hid P3;have EC:=hid (iR name a2 a3 1 n3 c2 c3 w3);clear hrow3 b3 Q3 P3 LC U2;refine hK.out _ _ (fun _=>S3) (fun hH2=>?_);clear hK KQ hH;have hH:=hH2 (by decide);clear hH2;try simp only [Act.put,jgq,jgx,jgz]
    refine lY (i:=7) rfl (by kernel_rfl) (fun KQ hK=>?_);go_simp;go_at_call 57
    (with_reducible refine EC.out.mono ?_)
    rintro e w4 ⟨rfl,b4⟩;have B4:=hid (aM B3.out b4);have U4:=hid (U3.out.below b4);have Q4:=Ct.out.below b4;have P4:=Gb.out.below b4;have S4:w4.cell? ⟨Q,3,none⟩=some (.slice av m cv)/\w4.cell? ⟨p,9,none⟩=some (.slice l6 l7 l8):=⟨Q4.cell 3 _ rfl,P4.cell 9 _ rfl⟩;have Nv:=hid Q4;have Gc:=hid P4;have hz4:=B4.out.size;have XD:=hid (show Rd (fun b=>False\/U<=b) w4 (aN name ([⟨vI,⟨#[108,101,102,116]⟩⟩]) (dD uX)).d [.string name,.string ⟨#[]⟩,.slice a2 1 c2,.slice a3 n3 c3] from Nd.fJ name ⟨#[]⟩ ⟨Rd.weaken ((PR.out.aW B3.out).aW b4) (fun b hb=>.inr (by omega)),Rd.weaken (Nu.out.aW b4) (fun b hb=>.inr (by omega))⟩);clear b4 Q4 P4 EC U3 Nu Ct Gb;refine hK.out _ _ (fun _=>S4) (fun hH2=>?_);clear hK KQ hH;have hH:=hH2 (by decide);clear hH2;try simp only [Act.put,jgq,jgx,jgz]
    refine lY (i:=8) rfl (by kernel_rfl) (fun KQ hK=>?_);go_simp;refine hK.out _ _ (fun _=>⟨past S4.1 _,past S4.2 _⟩) (fun hH2=>?_);clear hK KQ hH;have hH:=hH2 (by decide);clear hH2;try simp only [Act.put,jgq,jgx,jgz]
    refine lY (i:=9) rfl (by kernel_rfl) (fun KQ hK=>?_);refine kT rfl (.tmp 36) (.tmp 43) 34 rfl iN _ 80 Tryz.underlying34 qG fZ gq gu rfl (by decide) U4.out (fun _=>False.elim) (aN name ([⟨vI,⟨#[108,101,102,116]⟩⟩]) (dD uX)).d [.string name,.string ⟨#[]⟩,.slice a2 1 c2,.slice a3 n3 c3] XD.out rfl Ev HM.out (by omega) (by decide) rfl rfl ?_;intro a5 c5 w5 aH hg5;have Yh:w4.heap.size+1<=w5.heap.size:=by have h:=hg5.size;simp at h;exact h
    have Nw:some Q≠(Value.slice av m cv).ownBlock:=fun e=>by have:=(U4.out.own.lt Q e.symm).1;have:=mX.out;omega
    have hvp:some p≠(Value.slice av m cv).ownBlock:=fun e=>by have:=U4.out.oU p e.symm;omega
    have q5:CB 43 Q [.string ⟨#[116,114]⟩,.string ⟨#[]⟩,.slice none 0 0,.slice av m cv] w5:=(hg5.block Q (by simp;omega) Nw).trans ((jhk w4 _ Q Nv.out.lt).trans Nv.out);have p5:CB 30 p [.int .i64 yk,.int .i64 EN,.string yi,.string yt,.string yd,.string EO,.string DJ.id,.slice JH JI JJ,.slice JK JL JM,.slice l6 l7 l8,.slice JO JQ JR] w5:=(hg5.block p (by simp;omega) hvp).trans ((jhk w4 _ p Gc.out.lt).trans Gc.out);have S5:w5.cell? ⟨Q,3,none⟩=some (.slice av m cv)/\w5.cell? ⟨p,9,none⟩=some (.slice l6 l7 l8):=⟨q5.cell 3 _ rfl,p5.cell 9 _ rfl⟩;have fz:=nR q5;have e3:=q5.cell 3 _ rfl;have Ho:=hid q5;have U5:=hid aH;have sS:=hid hg5;clear aH hg5 q5 p5 hvp XD;refine hK.out _ _ (fun _=>S5) (fun hH2=>?_);clear hK KQ hH;have hH:=hH2 (by decide);clear hH2;try simp only [Act.put,jgq,jgx,jgz]
    refine lY (i:=10) rfl (by kernel_rfl) (fun KQ hK=>?_);go_simp;refine hK.out _ _ (fun _=>S5) (fun hH2=>?_);clear hK KQ hH;have hH:=hH2 (by decide);clear hH2;try simp only [Act.put,jgq,jgx,jgz]
    refine lY (i:=11) rfl (by kernel_rfl) (fun KQ hK=>?_);go_simp;refine hK.out _ _ (fun h=>absurd rfl h) (fun _=>?_);clear hK KQ;refine Tj (by kernel_rfl) ?_ _;obtain ⟨w6,dK⟩:∃ w6,w6=w5.setCell ⟨Q,3,none⟩ (.slice a5 (m+1) c5):=⟨_,rfl⟩;rw [<- dK];have g6:w5.grownBy w6 (some Q):=by rw [dK];exact ⟨rfl,rfl,rfl,by simp [jij],fun b _ hb=>jhj w5 ⟨Q,3,none⟩ _ b (fun e=>hb (by rw [e]))⟩
    have q6:CB 43 Q [.string ⟨#[116,114]⟩,.string ⟨#[]⟩,.slice none 0 0,.slice a5 (m+1) c5] w6:=by rw [dK];exact pO Ho.out 3 _
    have Vd:w6.heap.size=w5.heap.size:=by rw [dK];simp [jij]
    obtain ⟨VD,Ny,dL⟩:=U5.out.hop2 (p:=Q) (by have:=mX.out;omega) g6;have HF:Hid (Ay Q w1 name letters.data.toList ks (.int .i64 ((j+1:Nat):Int)) w6):=by
     have h1:=dL.up (U':=w6.heap.size) (by omega) (jh2 _);rw [<- iE.out] at h1;refine ⟨j+1,_,_,w6.heap.size,VD,by have:=Av.out;omega,rfl,Ny.trans mX.out,h1,q6,?_⟩;have KW:Q<=wr.heap.size:=by omega
     refine eY.out.trans ((BA.out.mono KW).trans ((B2.out.mono (by have:=BA.out.size;omega)).trans ((B4.out.mono (by omega)).trans ?_)));exact ((jh1 _ _).alloc (by omega) _ |>.grown sS.out (by simp;omega) (fun g hg=>by have:=(U4.out.own.lt g hg).1;have:=mX.out;omega)).trans ((jh1 Q w5).grown g6 (by omega) (fun g hg=>by have:=jh9 hg;omega))
    clear dK g6 q6 dL Ny U5 sS Ho hH S0 S3 S4 S5 fz e3 Nw;go_wp2;go_roundw;case rel=>exact HF.out
    case measure=>simp [intOf];omega
   by_cases h99:c=99
   ·subst h99;have hal:qo 99=⟨#[99,101,110,116,101,114]⟩:=rfl;rw [hal] at iE;have PC:Hid (Calls Tryz.prog 58 #[.slice (some ⟨wA.heap.size,0,none⟩) 2 2] (wA.alloc (.cells #[.string ⟨#[97,108,105,103,110]⟩,.string ⟨#[99,101,110,116,101,114]⟩] 9)) (aR (wA.alloc (.cells #[.string ⟨#[97,108,105,103,110]⟩,.string ⟨#[99,101,110,116,101,114]⟩] 9)) [⟨vI,⟨#[99,101,110,116,101,114]⟩⟩])):=Nh vI ⟨#[99,101,110,116,101,114]⟩ wA;rw [show dF vI ⟨#[99,101,110,116,101,114]⟩=[⟨vI,⟨#[99,101,110,116,101,114]⟩⟩] from rfl] at iE;clear hal;go_wp2_with fail
    (with_reducible refine PC.out.mono ?_)
    rintro e w2 ⟨bq,v2,rfl,hrow2⟩;obtain ⟨a2,c2,rfl,-,-⟩:=hrow2.cap (n:=1) rfl;have bl:Below wA.heap.size wA (wA.alloc (.cells #[.string ⟨#[97,108,105,103,110]⟩,.string ⟨#[99,101,110,116,101,114]⟩] 9)):=(jh1 _ _).alloc (jh2 _) _;have B2:=hid (bl.trans (hrow2.aL.mono bl.size));have PR:=hid (show Rd (wA.heap.size<=·) w2 (cZ [⟨vI,⟨#[99,101,110,116,101,114]⟩⟩]) [.slice a2 1 c2] from hrow2.cu.weaken (fun b hb=>Nat.le_trans bl.size hb));clear hrow2 bl PC;have U2:=hid ((aV.out.below BA.out).below B2.out);have Nt:=hid ((ES.out.below BA.out).below B2.out);have JU:=hid (YE.out.below B2.out);have hz2:=B2.out.size;have LC:=hid (jw 900000 uX (.slice l6 l7 l8) w2.drew Mw.out.sz (by decide) (Rd.keep (w:=W0) (w':=w2.drew) (ok:=(·<S)) (fun b (hb:b<S) hlt=>⟨by show b<w2.heap.size;have:=Z0.out;omega,(show w2.heap[b]?=W0.heap[b]? from (B2.out.block b (by have:=Z0.out;omega)).trans ((BA.out.block b (by have:=Z0.out;omega)).trans (QM.out.block b hb)))⟩) _ _ HLI.out) Mw.out.sm Mw.out.tf);have S0:w2.drew.cell? ⟨Q,3,none⟩=some (.slice av m cv)/\w2.drew.cell? ⟨p,9,none⟩=some (.slice l6 l7 l8):=⟨Nt.out.cell 3 _ rfl,JU.out.cell 9 _ rfl⟩;go_upto_region 13 with (fail)
    refine Ti 11 (fun w'=>w'.cell? ⟨Q,3,none⟩=some (.slice av m cv)/\w'.cell? ⟨p,9,none⟩=some (.slice l6 l7 l8)) (by kernel_rfl) S0 ?_;intro hH;refine jA (i:=0) (v:=?_) rfl (by kernel_rfl) (by kernel_rfl) (by kernel_rfl) (by kernel_rfl) (fun _ _ _ h=>h) hH (Or.inl ⟨by rfl,?_⟩) ?_;rotate_left
    ·(intro wv hSw;(try dsimp only at hSw);go_simp;try with_reducible rfl)
    try simp only [Act.put,jgq,jgx,jgz]
    refine jA (i:=1) (v:=?_) rfl (by kernel_rfl) (by kernel_rfl) (by kernel_rfl) (by kernel_rfl) (fun _ _ _ h=>h) hH (Or.inl ⟨by rfl,?_⟩) ?_;rotate_left
    ·(intro wv hSw;(try dsimp only at hSw);go_simp;try with_reducible rfl)
    try simp only [Act.put,jgq,jgx,jgz]
    refine jA (i:=2) (v:=?_) rfl (by kernel_rfl) (by kernel_rfl) (by kernel_rfl) (by kernel_rfl) (fun _ _ _ h=>h) hH (Or.inl ⟨by rfl,?_⟩) ?_;rotate_left
    ·(intro wv hSw;(try dsimp only at hSw);go_simp;try with_reducible rfl)
    try simp only [Act.put,jgq,jgx,jgz]
    refine jA (i:=3) (v:=?_) rfl (by kernel_rfl) (by kernel_rfl) (by kernel_rfl) (by kernel_rfl) (fun _ _ _ h=>h) hH (Or.inl ⟨by rfl,?_⟩) ?_;rotate_left
    ·(intro wv hSw;(try dsimp only at hSw);go_simp;try with_reducible rfl)
    try simp only [Act.put,jgq,jgx,jgz]
    refine jA (i:=4) (v:=?_) rfl (by kernel_rfl) (by kernel_rfl) (by kernel_rfl) (by kernel_rfl) (fun _ _ _ h=>h) hH (Or.inl ⟨by rfl,?_⟩) ?_;rotate_left
    ·(intro wv hSw;(try dsimp only at hSw);go_simp;try with_reducible rfl)
    try simp only [Act.put,jgq,jgx,jgz]
    refine jA (i:=5) (v:=?_) rfl (by kernel_rfl) (by kernel_rfl) (by kernel_rfl) (by kernel_rfl) (fun _ _ _ h=>h) hH (Or.inl ⟨by rfl,?_⟩) ?_;rotate_left
    ·(intro wv hSw;(try dsimp only at hSw);go_simp;try with_reducible rfl)
    try simp only [Act.put,jgq,jgx,jgz]
    refine lY (i:=6) rfl (by kernel_rfl) (fun KQ hK=>?_);go_simp;go_at_call 50
    (with_reducible refine LC.out.mono ?_)
    rintro e w3 ⟨bY,v3,rfl,hrow3⟩;obtain ⟨a3,n3,c3,rfl⟩:=hrow3.slice3;have b3:Below w2.heap.size w2 w3:=((jh1 _ _).drew).trans hrow3.aL;have B3:=hid b3;have Nu:=hid (show Rd (w2.heap.size<=·) w3 (bS (dD uX)) [.slice a3 n3 c3] from hrow3.cu);have Q3:=Nt.out.below b3;have P3:=JU.out.below b3;have S3:w3.cell? ⟨Q,3,none⟩=some (.slice av m cv)/\w3.cell? ⟨p,9,none⟩=some (.slice l6 l7 l8):=⟨Q3.cell 3 _ rfl,P3.cell 9 _ rfl⟩;have U3:=hid (U2.out.below b3);have Ct:=hid Q3;have Gb:=hid P3;have EC:=hid (iR name a2 a3 1 n3 c2 c3 w3);clear hrow3 b3 Q3 P3 LC U2;refine hK.out _ _ (fun _=>S3) (fun hH2=>?_);clear hK KQ hH;have hH:=hH2 (by decide);clear hH2;try simp only [Act.put,jgq,jgx,jgz]
    refine lY (i:=7) rfl (by kernel_rfl) (fun KQ hK=>?_);go_simp;go_at_call 57
    (with_reducible refine EC.out.mono ?_)
    rintro e w4 ⟨rfl,b4⟩;have B4:=hid (aM B3.out b4);have U4:=hid (U3.out.below b4);have Q4:=Ct.out.below b4;have P4:=Gb.out.below b4;have S4:w4.cell? ⟨Q,3,none⟩=some (.slice av m cv)/\w4.cell? ⟨p,9,none⟩=some (.slice l6 l7 l8):=⟨Q4.cell 3 _ rfl,P4.cell 9 _ rfl⟩;have Nv:=hid Q4;have Gc:=hid P4;have hz4:=B4.out.size;have XD:=hid (show Rd (fun b=>False\/U<=b) w4 (aN name ([⟨vI,⟨#[99,101,110,116,101,114]⟩⟩]) (dD uX)).d [.string name,.string ⟨#[]⟩,.slice a2 1 c2,.slice a3 n3 c3] from Nd.fJ name ⟨#[]⟩ ⟨Rd.weaken ((PR.out.aW B3.out).aW b4) (fun b hb=>.inr (by omega)),Rd.weaken (Nu.out.aW b4) (fun b hb=>.inr (by omega))⟩);clear b4 Q4 P4 EC U3 Nu Ct Gb;refine hK.out _ _ (fun _=>S4) (fun hH2=>?_);clear hK KQ hH;have hH:=hH2 (by decide);clear hH2;try simp only [Act.put,jgq,jgx,jgz]
    refine lY (i:=8) rfl (by kernel_rfl) (fun KQ hK=>?_);go_simp;refine hK.out _ _ (fun _=>⟨past S4.1 _,past S4.2 _⟩) (fun hH2=>?_);clear hK KQ hH;have hH:=hH2 (by decide);clear hH2;try simp only [Act.put,jgq,jgx,jgz]
    refine lY (i:=9) rfl (by kernel_rfl) (fun KQ hK=>?_);refine kT rfl (.tmp 36) (.tmp 43) 34 rfl iN _ 80 Tryz.underlying34 qG fZ gq gu rfl (by decide) U4.out (fun _=>False.elim) (aN name ([⟨vI,⟨#[99,101,110,116,101,114]⟩⟩]) (dD uX)).d [.string name,.string ⟨#[]⟩,.slice a2 1 c2,.slice a3 n3 c3] XD.out rfl Ev HM.out (by omega) (by decide) rfl rfl ?_;intro a5 c5 w5 aH hg5;have Yh:w4.heap.size+1<=w5.heap.size:=by have h:=hg5.size;simp at h;exact h
    have Nw:some Q≠(Value.slice av m cv).ownBlock:=fun e=>by have:=(U4.out.own.lt Q e.symm).1;have:=mX.out;omega
    have hvp:some p≠(Value.slice av m cv).ownBlock:=fun e=>by have:=U4.out.oU p e.symm;omega
    have q5:CB 43 Q [.string ⟨#[116,114]⟩,.string ⟨#[]⟩,.slice none 0 0,.slice av m cv] w5:=(hg5.block Q (by simp;omega) Nw).trans ((jhk w4 _ Q Nv.out.lt).trans Nv.out);have p5:CB 30 p [.int .i64 yk,.int .i64 EN,.string yi,.string yt,.string yd,.string EO,.string DJ.id,.slice JH JI JJ,.slice JK JL JM,.slice l6 l7 l8,.slice JO JQ JR] w5:=(hg5.block p (by simp;omega) hvp).trans ((jhk w4 _ p Gc.out.lt).trans Gc.out);have S5:w5.cell? ⟨Q,3,none⟩=some (.slice av m cv)/\w5.cell? ⟨p,9,none⟩=some (.slice l6 l7 l8):=⟨q5.cell 3 _ rfl,p5.cell 9 _ rfl⟩;have fz:=nR q5;have e3:=q5.cell 3 _ rfl;have Ho:=hid q5;have U5:=hid aH;have sS:=hid hg5;clear aH hg5 q5 p5 hvp XD;refine hK.out _ _ (fun _=>S5) (fun hH2=>?_);clear hK KQ hH;have hH:=hH2 (by decide);clear hH2;try simp only [Act.put,jgq,jgx,jgz]
    refine lY (i:=10) rfl (by kernel_rfl) (fun KQ hK=>?_);go_simp;refine hK.out _ _ (fun _=>S5) (fun hH2=>?_);clear hK KQ hH;have hH:=hH2 (by decide);clear hH2;try simp only [Act.put,jgq,jgx,jgz]
    refine lY (i:=11) rfl (by kernel_rfl) (fun KQ hK=>?_);go_simp;refine hK.out _ _ (fun h=>absurd rfl h) (fun _=>?_);clear hK KQ;refine Tj (by kernel_rfl) ?_ _;obtain ⟨w6,dK⟩:∃ w6,w6=w5.setCell ⟨Q,3,none⟩ (.slice a5 (m+1) c5):=⟨_,rfl⟩;rw [<- dK];have g6:w5.grownBy w6 (some Q):=by rw [dK];exact ⟨rfl,rfl,rfl,by simp [jij],fun b _ hb=>jhj w5 ⟨Q,3,none⟩ _ b (fun e=>hb (by rw [e]))⟩
    have q6:CB 43 Q [.string ⟨#[116,114]⟩,.string ⟨#[]⟩,.slice none 0 0,.slice a5 (m+1) c5] w6:=by rw [dK];exact pO Ho.out 3 _
    have Vd:w6.heap.size=w5.heap.size:=by rw [dK];simp [jij]
    obtain ⟨VD,Ny,dL⟩:=U5.out.hop2 (p:=Q) (by have:=mX.out;omega) g6;have HF:Hid (Ay Q w1 name letters.data.toList ks (.int .i64 ((j+1:Nat):Int)) w6):=by
     have h1:=dL.up (U':=w6.heap.size) (by omega) (jh2 _);rw [<- iE.out] at h1;refine ⟨j+1,_,_,w6.heap.size,VD,by have:=Av.out;omega,rfl,Ny.trans mX.out,h1,q6,?_⟩;have KW:Q<=wr.heap.size:=by omega
     refine eY.out.trans ((BA.out.mono KW).trans ((B2.out.mono (by have:=BA.out.size;omega)).trans ((B4.out.mono (by omega)).trans ?_)));exact ((jh1 _ _).alloc (by omega) _ |>.grown sS.out (by simp;omega) (fun g hg=>by have:=(U4.out.own.lt g hg).1;have:=mX.out;omega)).trans ((jh1 Q w5).grown g6 (by omega) (fun g hg=>by have:=jh9 hg;omega))
    clear dK g6 q6 dL Ny U5 sS Ho hH S0 S3 S4 S5 fz e3 Nw;go_wp2;go_roundw;case rel=>exact HF.out
    case measure=>simp [intOf];omega
   by_cases QO:c=114
   ·subst QO;have hal:qo 114=⟨#[114,105,103,104,116]⟩:=rfl;rw [hal] at iE;have PC:Hid (Calls Tryz.prog 58 #[.slice (some ⟨wA.heap.size,0,none⟩) 2 2] (wA.alloc (.cells #[.string ⟨#[97,108,105,103,110]⟩,.string ⟨#[114,105,103,104,116]⟩] 9)) (aR (wA.alloc (.cells #[.string ⟨#[97,108,105,103,110]⟩,.string ⟨#[114,105,103,104,116]⟩] 9)) [⟨vI,⟨#[114,105,103,104,116]⟩⟩])):=Nh vI ⟨#[114,105,103,104,116]⟩ wA;rw [show dF vI ⟨#[114,105,103,104,116]⟩=[⟨vI,⟨#[114,105,103,104,116]⟩⟩] from rfl] at iE;clear hal;go_wp2_with fail
    (with_reducible refine PC.out.mono ?_)
    rintro e w2 ⟨bq,v2,rfl,hrow2⟩;obtain ⟨a2,c2,rfl,-,-⟩:=hrow2.cap (n:=1) rfl;have bl:Below wA.heap.size wA (wA.alloc (.cells #[.string ⟨#[97,108,105,103,110]⟩,.string ⟨#[114,105,103,104,116]⟩] 9)):=(jh1 _ _).alloc (jh2 _) _;have B2:=hid (bl.trans (hrow2.aL.mono bl.size));have PR:=hid (show Rd (wA.heap.size<=·) w2 (cZ [⟨vI,⟨#[114,105,103,104,116]⟩⟩]) [.slice a2 1 c2] from hrow2.cu.weaken (fun b hb=>Nat.le_trans bl.size hb));clear hrow2 bl PC;have U2:=hid ((aV.out.below BA.out).below B2.out);have Nt:=hid ((ES.out.below BA.out).below B2.out);have JU:=hid (YE.out.below B2.out);have hz2:=B2.out.size;have LC:=hid (jw 900000 uX (.slice l6 l7 l8) w2.drew Mw.out.sz (by decide) (Rd.keep (w:=W0) (w':=w2.drew) (ok:=(·<S)) (fun b (hb:b<S) hlt=>⟨by show b<w2.heap.size;have:=Z0.out;omega,(show w2.heap[b]?=W0.heap[b]? from (B2.out.block b (by have:=Z0.out;omega)).trans ((BA.out.block b (by have:=Z0.out;omega)).trans (QM.out.block b hb)))⟩) _ _ HLI.out) Mw.out.sm Mw.out.tf);have S0:w2.drew.cell? ⟨Q,3,none⟩=some (.slice av m cv)/\w2.drew.cell? ⟨p,9,none⟩=some (.slice l6 l7 l8):=⟨Nt.out.cell 3 _ rfl,JU.out.cell 9 _ rfl⟩;go_upto_region 13 with (fail)
    refine Ti 11 (fun w'=>w'.cell? ⟨Q,3,none⟩=some (.slice av m cv)/\w'.cell? ⟨p,9,none⟩=some (.slice l6 l7 l8)) (by kernel_rfl) S0 ?_;intro hH;refine jA (i:=0) (v:=?_) rfl (by kernel_rfl) (by kernel_rfl) (by kernel_rfl) (by kernel_rfl) (fun _ _ _ h=>h) hH (Or.inl ⟨by rfl,?_⟩) ?_;rotate_left
    ·(intro wv hSw;(try dsimp only at hSw);go_simp;try with_reducible rfl)
    try simp only [Act.put,jgq,jgx,jgz]
    refine jA (i:=1) (v:=?_) rfl (by kernel_rfl) (by kernel_rfl) (by kernel_rfl) (by kernel_rfl) (fun _ _ _ h=>h) hH (Or.inl ⟨by rfl,?_⟩) ?_;rotate_left
    ·(intro wv hSw;(try dsimp only at hSw);go_simp;try with_reducible rfl)
    try simp only [Act.put,jgq,jgx,jgz]
    refine jA (i:=2) (v:=?_) rfl (by kernel_rfl) (by kernel_rfl) (by kernel_rfl) (by kernel_rfl) (fun _ _ _ h=>h) hH (Or.inl ⟨by rfl,?_⟩) ?_;rotate_left
    ·(intro wv hSw;(try dsimp only at hSw);go_simp;try with_reducible rfl)
    try simp only [Act.put,jgq,jgx,jgz]
    refine jA (i:=3) (v:=?_) rfl (by kernel_rfl) (by kernel_rfl) (by kernel_rfl) (by kernel_rfl) (fun _ _ _ h=>h) hH (Or.inl ⟨by rfl,?_⟩) ?_;rotate_left
    ·(intro wv hSw;(try dsimp only at hSw);go_simp;try with_reducible rfl)
    try simp only [Act.put,jgq,jgx,jgz]
    refine jA (i:=4) (v:=?_) rfl (by kernel_rfl) (by kernel_rfl) (by kernel_rfl) (by kernel_rfl) (fun _ _ _ h=>h) hH (Or.inl ⟨by rfl,?_⟩) ?_;rotate_left
    ·(intro wv hSw;(try dsimp only at hSw);go_simp;try with_reducible rfl)
    try simp only [Act.put,jgq,jgx,jgz]
    refine jA (i:=5) (v:=?_) rfl (by kernel_rfl) (by kernel_rfl) (by kernel_rfl) (by kernel_rfl) (fun _ _ _ h=>h) hH (Or.inl ⟨by rfl,?_⟩) ?_;rotate_left
    ·(intro wv hSw;(try dsimp only at hSw);go_simp;try with_reducible rfl)
    try simp only [Act.put,jgq,jgx,jgz]
    refine lY (i:=6) rfl (by kernel_rfl) (fun KQ hK=>?_);go_simp;go_at_call 50
    (with_reducible refine LC.out.mono ?_)
    rintro e w3 ⟨bY,v3,rfl,hrow3⟩;obtain ⟨a3,n3,c3,rfl⟩:=hrow3.slice3;have b3:Below w2.heap.size w2 w3:=((jh1 _ _).drew).trans hrow3.aL;have B3:=hid b3;have Nu:=hid (show Rd (w2.heap.size<=·) w3 (bS (dD uX)) [.slice a3 n3 c3] from hrow3.cu);have Q3:=Nt.out.below b3;have P3:=JU.out.below b3;have S3:w3.cell? ⟨Q,3,none⟩=some (.slice av m cv)/\w3.cell? ⟨p,9,none⟩=some (.slice l6 l7 l8):=⟨Q3.cell 3 _ rfl,P3.cell 9 _ rfl⟩;have U3:=hid (U2.out.below b3);have Ct:=hid Q3;have Gb:=hid P3;have EC:=hid (iR name a2 a3 1 n3 c2 c3 w3);clear hrow3 b3 Q3 P3 LC U2;refine hK.out _ _ (fun _=>S3) (fun hH2=>?_);clear hK KQ hH;have hH:=hH2 (by decide);clear hH2;try simp only [Act.put,jgq,jgx,jgz]
    refine lY (i:=7) rfl (by kernel_rfl) (fun KQ hK=>?_);go_simp;go_at_call 57
    (with_reducible refine EC.out.mono ?_)
    rintro e w4 ⟨rfl,b4⟩;have B4:=hid (aM B3.out b4);have U4:=hid (U3.out.below b4);have Q4:=Ct.out.below b4;have P4:=Gb.out.below b4;have S4:w4.cell? ⟨Q,3,none⟩=some (.slice av m cv)/\w4.cell? ⟨p,9,none⟩=some (.slice l6 l7 l8):=⟨Q4.cell 3 _ rfl,P4.cell 9 _ rfl⟩;have Nv:=hid Q4;have Gc:=hid P4;have hz4:=B4.out.size;have XD:=hid (show Rd (fun b=>False\/U<=b) w4 (aN name ([⟨vI,⟨#[114,105,103,104,116]⟩⟩]) (dD uX)).d [.string name,.string ⟨#[]⟩,.slice a2 1 c2,.slice a3 n3 c3] from Nd.fJ name ⟨#[]⟩ ⟨Rd.weaken ((PR.out.aW B3.out).aW b4) (fun b hb=>.inr (by omega)),Rd.weaken (Nu.out.aW b4) (fun b hb=>.inr (by omega))⟩);clear b4 Q4 P4 EC U3 Nu Ct Gb;refine hK.out _ _ (fun _=>S4) (fun hH2=>?_);clear hK KQ hH;have hH:=hH2 (by decide);clear hH2;try simp only [Act.put,jgq,jgx,jgz]
    refine lY (i:=8) rfl (by kernel_rfl) (fun KQ hK=>?_);go_simp;refine hK.out _ _ (fun _=>⟨past S4.1 _,past S4.2 _⟩) (fun hH2=>?_);clear hK KQ hH;have hH:=hH2 (by decide);clear hH2;try simp only [Act.put,jgq,jgx,jgz]
    refine lY (i:=9) rfl (by kernel_rfl) (fun KQ hK=>?_);refine kT rfl (.tmp 36) (.tmp 43) 34 rfl iN _ 80 Tryz.underlying34 qG fZ gq gu rfl (by decide) U4.out (fun _=>False.elim) (aN name ([⟨vI,⟨#[114,105,103,104,116]⟩⟩]) (dD uX)).d [.string name,.string ⟨#[]⟩,.slice a2 1 c2,.slice a3 n3 c3] XD.out rfl Ev HM.out (by omega) (by decide) rfl rfl ?_;intro a5 c5 w5 aH hg5;have Yh:w4.heap.size+1<=w5.heap.size:=by have h:=hg5.size;simp at h;exact h
    have Nw:some Q≠(Value.slice av m cv).ownBlock:=fun e=>by have:=(U4.out.own.lt Q e.symm).1;have:=mX.out;omega
    have hvp:some p≠(Value.slice av m cv).ownBlock:=fun e=>by have:=U4.out.oU p e.symm;omega
    have q5:CB 43 Q [.string ⟨#[116,114]⟩,.string ⟨#[]⟩,.slice none 0 0,.slice av m cv] w5:=(hg5.block Q (by simp;omega) Nw).trans ((jhk w4 _ Q Nv.out.lt).trans Nv.out);have p5:CB 30 p [.int .i64 yk,.int .i64 EN,.string yi,.string yt,.string yd,.string EO,.string DJ.id,.slice JH JI JJ,.slice JK JL JM,.slice l6 l7 l8,.slice JO JQ JR] w5:=(hg5.block p (by simp;omega) hvp).trans ((jhk w4 _ p Gc.out.lt).trans Gc.out);have S5:w5.cell? ⟨Q,3,none⟩=some (.slice av m cv)/\w5.cell? ⟨p,9,none⟩=some (.slice l6 l7 l8):=⟨q5.cell 3 _ rfl,p5.cell 9 _ rfl⟩;have fz:=nR q5;have e3:=q5.cell 3 _ rfl;have Ho:=hid q5;have U5:=hid aH;have sS:=hid hg5;clear aH hg5 q5 p5 hvp XD;refine hK.out _ _ (fun _=>S5) (fun hH2=>?_);clear hK KQ hH;have hH:=hH2 (by decide);clear hH2;try simp only [Act.put,jgq,jgx,jgz]
    refine lY (i:=10) rfl (by kernel_rfl) (fun KQ hK=>?_);go_simp;refine hK.out _ _ (fun _=>S5) (fun hH2=>?_);clear hK KQ hH;have hH:=hH2 (by decide);clear hH2;try simp only [Act.put,jgq,jgx,jgz]
    refine lY (i:=11) rfl (by kernel_rfl) (fun KQ hK=>?_);go_simp;refine hK.out _ _ (fun h=>absurd rfl h) (fun _=>?_);clear hK KQ;refine Tj (by kernel_rfl) ?_ _;obtain ⟨w6,dK⟩:∃ w6,w6=w5.setCell ⟨Q,3,none⟩ (.slice a5 (m+1) c5):=⟨_,rfl⟩;rw [<- dK];have g6:w5.grownBy w6 (some Q):=by rw [dK];exact ⟨rfl,rfl,rfl,by simp [jij],fun b _ hb=>jhj w5 ⟨Q,3,none⟩ _ b (fun e=>hb (by rw [e]))⟩
    have q6:CB 43 Q [.string ⟨#[116,114]⟩,.string ⟨#[]⟩,.slice none 0 0,.slice a5 (m+1) c5] w6:=by rw [dK];exact pO Ho.out 3 _
    have Vd:w6.heap.size=w5.heap.size:=by rw [dK];simp [jij]
    obtain ⟨VD,Ny,dL⟩:=U5.out.hop2 (p:=Q) (by have:=mX.out;omega) g6;have HF:Hid (Ay Q w1 name letters.data.toList ks (.int .i64 ((j+1:Nat):Int)) w6):=by
     have h1:=dL.up (U':=w6.heap.size) (by omega) (jh2 _);rw [<- iE.out] at h1;refine ⟨j+1,_,_,w6.heap.size,VD,by have:=Av.out;omega,rfl,Ny.trans mX.out,h1,q6,?_⟩;have KW:Q<=wr.heap.size:=by omega
     refine eY.out.trans ((BA.out.mono KW).trans ((B2.out.mono (by have:=BA.out.size;omega)).trans ((B4.out.mono (by omega)).trans ?_)));exact ((jh1 _ _).alloc (by omega) _ |>.grown sS.out (by simp;omega) (fun g hg=>by have:=(U4.out.own.lt g hg).1;have:=mX.out;omega)).trans ((jh1 Q w5).grown g6 (by omega) (fun g hg=>by have:=jh9 hg;omega))
    clear dK g6 q6 dL Ny U5 sS Ho hH S0 S3 S4 S5 fz e3 Nw;go_wp2;go_roundw;case rel=>exact HF.out
    case measure=>simp [intOf];omega
   have q1:((c.toNat:Int)==108)=false:=by rw [beq_eq_false_iff_ne];intro h;exact QN (UInt8.toNat_inj.1 (show c.toNat=108 by omega))
   have q2:((c.toNat:Int)==99)=false:=by rw [beq_eq_false_iff_ne];intro h;exact h99 (UInt8.toNat_inj.1 (show c.toNat=99 by omega))
   have q3:((c.toNat:Int)==114)=false:=by rw [beq_eq_false_iff_ne];intro h;exact QO (UInt8.toNat_inj.1 (show c.toNat=114 by omega))
   have hal:qo c=⟨#[]⟩:=by unfold qo;rw [if_neg QN,if_neg h99,if_neg QO]
   rw [hal,show dF vI ⟨#[]⟩=[] from rfl] at iE;have PR:Hid (Rd (wA.heap.size<=·) wA (cZ []) [.slice none 0 0]):=Rd.ay _ _ _;have B2:Hid (Below wA.heap.size wA wA):=jh1 _ _;clear QN h99 QO hal;have U2:=hid ((aV.out.below BA.out).below B2.out);have Nt:=hid ((ES.out.below BA.out).below B2.out);have JU:=hid (YE.out.below B2.out);have hz2:=B2.out.size;have LC:=hid (jw 900000 uX (.slice l6 l7 l8) wA.drew Mw.out.sz (by decide) (Rd.keep (w:=W0) (w':=wA.drew) (ok:=(·<S)) (fun b (hb:b<S) hlt=>⟨by show b<wA.heap.size;have:=Z0.out;omega,(show wA.heap[b]?=W0.heap[b]? from (B2.out.block b (by have:=Z0.out;omega)).trans ((BA.out.block b (by have:=Z0.out;omega)).trans (QM.out.block b hb)))⟩) _ _ HLI.out) Mw.out.sm Mw.out.tf);have S0:wA.drew.cell? ⟨Q,3,none⟩=some (.slice av m cv)/\wA.drew.cell? ⟨p,9,none⟩=some (.slice l6 l7 l8):=⟨Nt.out.cell 3 _ rfl,JU.out.cell 9 _ rfl⟩;go_upto_region 13 with (fail)
   refine Ti 11 (fun w'=>w'.cell? ⟨Q,3,none⟩=some (.slice av m cv)/\w'.cell? ⟨p,9,none⟩=some (.slice l6 l7 l8)) (by kernel_rfl) S0 ?_;intro hH;refine jA (i:=0) (v:=?_) rfl (by kernel_rfl) (by kernel_rfl) (by kernel_rfl) (by kernel_rfl) (fun _ _ _ h=>h) hH (Or.inl ⟨by rfl,?_⟩) ?_;rotate_left
   ·(intro wv hSw;(try dsimp only at hSw);go_simp;try with_reducible rfl)
   try simp only [Act.put,jgq,jgx,jgz]
   refine jA (i:=1) (v:=?_) rfl (by kernel_rfl) (by kernel_rfl) (by kernel_rfl) (by kernel_rfl) (fun _ _ _ h=>h) hH (Or.inl ⟨by rfl,?_⟩) ?_;rotate_left
   ·(intro wv hSw;(try dsimp only at hSw);go_simp;try with_reducible rfl)
   try simp only [Act.put,jgq,jgx,jgz]
   refine jA (i:=2) (v:=?_) rfl (by kernel_rfl) (by kernel_rfl) (by kernel_rfl) (by kernel_rfl) (fun _ _ _ h=>h) hH (Or.inl ⟨by rfl,?_⟩) ?_;rotate_left
   ·(intro wv hSw;(try dsimp only at hSw);go_simp;try with_reducible rfl)
   try simp only [Act.put,jgq,jgx,jgz]
   refine jA (i:=3) (v:=?_) rfl (by kernel_rfl) (by kernel_rfl) (by kernel_rfl) (by kernel_rfl) (fun _ _ _ h=>h) hH (Or.inl ⟨by rfl,?_⟩) ?_;rotate_left
   ·(intro wv hSw;(try dsimp only at hSw);go_simp;try with_reducible rfl)
   try simp only [Act.put,jgq,jgx,jgz]
   refine jA (i:=4) (v:=?_) rfl (by kernel_rfl) (by kernel_rfl) (by kernel_rfl) (by kernel_rfl) (fun _ _ _ h=>h) hH (Or.inl ⟨by rfl,?_⟩) ?_;rotate_left
   ·(intro wv hSw;(try dsimp only at hSw);go_simp;try with_reducible rfl)
   try simp only [Act.put,jgq,jgx,jgz]
   refine jA (i:=5) (v:=?_) rfl (by kernel_rfl) (by kernel_rfl) (by kernel_rfl) (by kernel_rfl) (fun _ _ _ h=>h) hH (Or.inl ⟨by rfl,?_⟩) ?_;rotate_left
   ·(intro wv hSw;(try dsimp only at hSw);go_simp;try with_reducible rfl)
   try simp only [Act.put,jgq,jgx,jgz]
   refine lY (i:=6) rfl (by kernel_rfl) (fun KQ hK=>?_);go_simp;go_at_call 50
   (with_reducible refine LC.out.mono ?_)
   rintro e w3 ⟨bY,v3,rfl,hrow3⟩;obtain ⟨a3,n3,c3,rfl⟩:=hrow3.slice3;have b3:Below wA.heap.size wA w3:=((jh1 _ _).drew).trans hrow3.aL;have B3:=hid b3;have Nu:=hid (show Rd (wA.heap.size<=·) w3 (bS (dD uX)) [.slice a3 n3 c3] from hrow3.cu);have Q3:=Nt.out.below b3;have P3:=JU.out.below b3;have S3:w3.cell? ⟨Q,3,none⟩=some (.slice av m cv)/\w3.cell? ⟨p,9,none⟩=some (.slice l6 l7 l8):=⟨Q3.cell 3 _ rfl,P3.cell 9 _ rfl⟩;have U3:=hid (U2.out.below b3);have Ct:=hid Q3;have Gb:=hid P3;have EC:=hid (iR name none a3 0 n3 0 c3 w3);clear hrow3 b3 Q3 P3 LC U2;refine hK.out _ _ (fun _=>S3) (fun hH2=>?_);clear hK KQ hH;have hH:=hH2 (by decide);clear hH2;try simp only [Act.put,jgq,jgx,jgz]
   refine lY (i:=7) rfl (by kernel_rfl) (fun KQ hK=>?_);go_simp;go_at_call 57
   (with_reducible refine EC.out.mono ?_)
   rintro e w4 ⟨rfl,b4⟩;have B4:=hid (aM B3.out b4);have U4:=hid (U3.out.below b4);have Q4:=Ct.out.below b4;have P4:=Gb.out.below b4;have S4:w4.cell? ⟨Q,3,none⟩=some (.slice av m cv)/\w4.cell? ⟨p,9,none⟩=some (.slice l6 l7 l8):=⟨Q4.cell 3 _ rfl,P4.cell 9 _ rfl⟩;have Nv:=hid Q4;have Gc:=hid P4;have hz4:=B4.out.size;have XD:=hid (show Rd (fun b=>False\/U<=b) w4 (aN name ([]) (dD uX)).d [.string name,.string ⟨#[]⟩,.slice none 0 0,.slice a3 n3 c3] from Nd.fJ name ⟨#[]⟩ ⟨Rd.weaken ((PR.out.aW B3.out).aW b4) (fun b hb=>.inr (by omega)),Rd.weaken (Nu.out.aW b4) (fun b hb=>.inr (by omega))⟩);clear b4 Q4 P4 EC U3 Nu Ct Gb;refine hK.out _ _ (fun _=>S4) (fun hH2=>?_);clear hK KQ hH;have hH:=hH2 (by decide);clear hH2;try simp only [Act.put,jgq,jgx,jgz]
   refine lY (i:=8) rfl (by kernel_rfl) (fun KQ hK=>?_);go_simp;refine hK.out _ _ (fun _=>⟨past S4.1 _,past S4.2 _⟩) (fun hH2=>?_);clear hK KQ hH;have hH:=hH2 (by decide);clear hH2;try simp only [Act.put,jgq,jgx,jgz]
   refine lY (i:=9) rfl (by kernel_rfl) (fun KQ hK=>?_);refine kT rfl (.tmp 36) (.tmp 43) 34 rfl iN _ 80 Tryz.underlying34 qG fZ gq gu rfl (by decide) U4.out (fun _=>False.elim) (aN name ([]) (dD uX)).d [.string name,.string ⟨#[]⟩,.slice none 0 0,.slice a3 n3 c3] XD.out rfl Ev HM.out (by omega) (by decide) rfl rfl ?_;intro a5 c5 w5 aH hg5;have Yh:w4.heap.size+1<=w5.heap.size:=by have h:=hg5.size;simp at h;exact h
   have Nw:some Q≠(Value.slice av m cv).ownBlock:=fun e=>by have:=(U4.out.own.lt Q e.symm).1;have:=mX.out;omega
   have hvp:some p≠(Value.slice av m cv).ownBlock:=fun e=>by have:=U4.out.oU p e.symm;omega
   have q5:CB 43 Q [.string ⟨#[116,114]⟩,.string ⟨#[]⟩,.slice none 0 0,.slice av m cv] w5:=(hg5.block Q (by simp;omega) Nw).trans ((jhk w4 _ Q Nv.out.lt).trans Nv.out);have p5:CB 30 p [.int .i64 yk,.int .i64 EN,.string yi,.string yt,.string yd,.string EO,.string DJ.id,.slice JH JI JJ,.slice JK JL JM,.slice l6 l7 l8,.slice JO JQ JR] w5:=(hg5.block p (by simp;omega) hvp).trans ((jhk w4 _ p Gc.out.lt).trans Gc.out);have S5:w5.cell? ⟨Q,3,none⟩=some (.slice av m cv)/\w5.cell? ⟨p,9,none⟩=some (.slice l6 l7 l8):=⟨q5.cell 3 _ rfl,p5.cell 9 _ rfl⟩;have fz:=nR q5;have e3:=q5.cell 3 _ rfl;have Ho:=hid q5;have U5:=hid aH;have sS:=hid hg5;clear aH hg5 q5 p5 hvp XD;refine hK.out _ _ (fun _=>S5) (fun hH2=>?_);clear hK KQ hH;have hH:=hH2 (by decide);clear hH2;try simp only [Act.put,jgq,jgx,jgz]
   refine lY (i:=10) rfl (by kernel_rfl) (fun KQ hK=>?_);go_simp;refine hK.out _ _ (fun _=>S5) (fun hH2=>?_);clear hK KQ hH;have hH:=hH2 (by decide);clear hH2;try simp only [Act.put,jgq,jgx,jgz]
   refine lY (i:=11) rfl (by kernel_rfl) (fun KQ hK=>?_);go_simp;refine hK.out _ _ (fun h=>absurd rfl h) (fun _=>?_);clear hK KQ;refine Tj (by kernel_rfl) ?_ _;obtain ⟨w6,dK⟩:∃ w6,w6=w5.setCell ⟨Q,3,none⟩ (.slice a5 (m+1) c5):=⟨_,rfl⟩;rw [<- dK];have g6:w5.grownBy w6 (some Q):=by rw [dK];exact ⟨rfl,rfl,rfl,by simp [jij],fun b _ hb=>jhj w5 ⟨Q,3,none⟩ _ b (fun e=>hb (by rw [e]))⟩
   have q6:CB 43 Q [.string ⟨#[116,114]⟩,.string ⟨#[]⟩,.slice none 0 0,.slice a5 (m+1) c5] w6:=by rw [dK];exact pO Ho.out 3 _
   have Vd:w6.heap.size=w5.heap.size:=by rw [dK];simp [jij]
   obtain ⟨VD,Ny,dL⟩:=U5.out.hop2 (p:=Q) (by have:=mX.out;omega) g6;have HF:Hid (Ay Q w1 name letters.data.toList ks (.int .i64 ((j+1:Nat):Int)) w6):=by
    have h1:=dL.up (U':=w6.heap.size) (by omega) (jh2 _);rw [<- iE.out] at h1;refine ⟨j+1,_,_,w6.heap.size,VD,by have:=Av.out;omega,rfl,Ny.trans mX.out,h1,q6,?_⟩;have KW:Q<=wr.heap.size:=by omega
    refine eY.out.trans ((BA.out.mono KW).trans ((B2.out.mono (by have:=BA.out.size;omega)).trans ((B4.out.mono (by omega)).trans ?_)));exact ((jh1 _ _).alloc (by omega) _ |>.grown sS.out (by simp;omega) (fun g hg=>by have:=(U4.out.own.lt g hg).1;have:=mX.out;omega)).trans ((jh1 Q w5).grown g6 (by omega) (fun g hg=>by have:=jh9 hg;omega))
   clear dK g6 q6 dL Ny U5 sS Ho hH S0 S3 S4 S5 fz e3 Nw;go_wp2;go_roundw;case rel=>exact HF.out
   case measure=>simp [intOf];omega
  ·have hkl:j=nk:=by have:=Av.out;omega
   have hjk:j=ks.length:=by have:=Av.out;omega
   have hll:letters.data.toList.length=letters.size:=by simp
   have QS:Hid (gP (W0.heap.size<=·) wr [] (lN name letters.data.toList ks) (.slice none 0 0) (.slice av m cv)):=by have h:=aV.out.cu;rw [vG.out,List.take_of_length_le (by rw [hll];have:=Eu.out;omega),List.take_of_length_le (by omega)] at h;exact ⟨Rd.ay _ _ _,h.weaken (fun b hb=>by have:=mX.out;omega)⟩
   have BL:=hid (B1.out.trans (eY.out.mono hWQ));obtain ⟨x0,x1,x2,x3,xf⟩:=dW (K1.out.below BL.out);obtain ⟨y0,y1,y2,y3,-⟩:=YD ES.out;clear hll hjk;go_upto_region 15 with (fail)
   obtain ⟨w9,aO⟩:∃ w9,w9=bU wr (S+1) (.string ⟨#[116,114]⟩) (.string ⟨#[]⟩) (.slice none 0 0) (.slice av m cv):=⟨_,rfl⟩;have hf:=iZ ⟨#[116,114]⟩ ⟨#[]⟩ [] (lN name letters.data.toList ks) Hl.out Z0.out B0.out K1.out BL.out QS.out;rw [<- aO] at hf;have iW:=hid hf.1;have Cu:=hid hf.2;clear hf;have hw8:=aO;simp only [bU] at hw8;clear aO;go_wp2;rw [<- hw8];have r0:=iW.out.cell 0 _ rfl;have r1:=iW.out.cell 1 _ rfl;have r2:=iW.out.cell 2 _ rfl;have r3:=iW.out.cell 3 _ rfl;exact bodyPost_ret (v:=.agg #[.string ⟨#[116,114]⟩,.string ⟨#[]⟩,.slice none 0 0,.slice av m cv]) (by simp [results,Tryz.results201,go_sem,r0,r1,r2,r3]) rfl Cu.out
end Go.Proofs.YtclikfjalmcoaaaGreatDoor

