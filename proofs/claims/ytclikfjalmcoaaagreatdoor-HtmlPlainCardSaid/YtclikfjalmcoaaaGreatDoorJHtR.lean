/- Contract of html.row: the node of a row of a table. -/
import Derived.Test.YtclikfjalmcoaaaGreatDoorJHrJ
set_option maxHeartbeats 8000000
set_option maxRecDepth 100000
open Go.Lib (hid)
namespace Go.Proofs.YtclikfjalmcoaaaGreatDoor
open List renaming setIfInBounds_toArray->jc3,set_cons_zero->jc4,set_cons_succ->jc5,getElem?_eq_getElem->jc6
open Go.RowKit.Below renaming refl->jc7,heap_setCell->jd1,heap_alloc->jd2
open Nat renaming le_refl->jc8
open Option.some renaming inj->jd0
open Go.World renaming setCell->je1
open Go.RowKit
set_option linter.unusedVariables false
set_option linter.unusedSimpArgs false
structure Uf (li:List ah):Prop where
 sz:ah.aU li<=900000
 sm:ah.aC li
 tf:ah.Ev li
theorem rW (name:ByteArray):∀ (cs:List UInt8) (l:List au) (k:Nat) (c:UInt8) (b:au),cs[k]?=some c->l[k]?=some b->ko name (cs.take (k+1)) (l.take (k+1))=ko name (cs.take k) (l.take k)++[Pp name c b]
 | [],_,_,_,_,h,_=>by simp at h
 | _::_,[],_,_,_,_,h=>by simp at h
 | c0::cs,b0::l,0,c,b,h1,h2=>by
  simp at h1 h2;subst h1 h2;simp [ko]
 | c0::cs,b0::l,k+1,c,b,h1,h2=>by
  rw [List.take_succ_cons,List.take_succ_cons,List.take_succ_cons,List.take_succ_cons,ko,ko,rW name cs l k c b (by simpa using h1) (by simpa using h2)];rfl
theorem uR (name:ByteArray):∀ (cs:List UInt8) (l:List au),(ko name cs l).length<=l.length
 | [],l=>by simp [ko]
 | _::_,[]=>by simp [ko]
 | c::cs,b::l=>by rw [ko,List.length_cons,List.length_cons];have:=uR name cs l;omega
def yD (Q:Nat) (w1:World) (name:ByteArray) (cs:List UInt8) (ks:List au) (vi:Value) (wr:World):Prop:=
 ∃ (k:Nat) (rows:List (List Value)) (v:Value) (U:Nat) (wB:World),k<=ks.length/\vi=.int .i64 k/\wB.heap.size=Q+1/\aI 43 4 (fun _=>False) U wB ((ko name (cs.take k) (ks.take k)).map Nd.d) rows v wr /\
  CB 43 Q [.string ⟨#[116,114]⟩,.string ⟨#[]⟩,.slice none 0 0,v] wr/\Below Q w1 wr
theorem UJ {p:Nat} {w:World} {c0 c1 c2 c3:Value} (h:CB 43 p [c0,c1,c2,c3] w):w.cell? ⟨p,0,none⟩=some c0/\w.cell? ⟨p,1,none⟩=some c1/\w.cell? ⟨p,2,none⟩=some c2/\w.cell? ⟨p,3,none⟩=some c3/\∀ j,w.frozen? ⟨p,j,none⟩=false:=
 ⟨h.cell 0 _ rfl,h.cell 1 _ rfl,h.cell 2 _ rfl,h.cell 3 _ rfl,l8 h⟩
theorem CQ (k lv:Int) (i t d ti:ByteArray) (at_:At) (li:List ah) (ks:List au) (vc vp vl vk:Value) (name letters:ByteArray) (w:World) (hR:gW (·<w.heap.size) w at_ li ks vc vp vl vk) (hlen:ks.length=letters.size) (hk1:ks.length<=1000000) (hc:∀ c∈ks,Uf c.l6) : Calls Tryz.prog 201 #[.agg #[.int .i64 k,.int .i64 lv,.string i,.string t,.string d,.string ti,.string at_.id,vc,vp,vl,vk],.string name,.string letters] w (mU w (aL mo [] (ko name letters.data.toList ks))):=by
 obtain ⟨iN,wG,jh,ji,jk⟩:=info_parts og;obtain ⟨ac,nc,cc,rfl⟩:=Rd.aj hR.at_.cls
 obtain ⟨ap,np,cp,rfl⟩:=Rd.aj hR.at_.aH
 obtain ⟨al,nl,cl,rfl⟩:=Rd.aj hR.line;obtain ⟨ak,ck,hvk,hs⟩:=Rd.aD hR.kids;obtain ⟨nk,hnk⟩:∃ nk,nk=ks.length:=⟨_,rfl⟩;obtain rfl:vk=.slice ak nk ck:=by rw [hnk];simpa using hvk
 have hcap:nk<=ck:=by have:=hs.le;rw [List.length_map] at this;omega
 have hmx:=hs.max;unfold maxLen at hmx;have hnl:nk=letters.size:=by rw [hnk,hlen]
 obtain ⟨S,W0,hS,hW0,z0,k0,k1,b0⟩:=pF 30 w [.int .i64 k,.int .i64 lv,.string i,.string t,.string d,.string ti,.string at_.id,.slice ac nc cc,.slice ap np cp,.slice al nl cl,.slice ak nk ck];have KX:Hid (∀ w':World,Below W0.heap.size W0 w'->w'.cell? ⟨S,10,none⟩=some (.slice ak nk ck)):=fun w' hb=>(k0.below hb).cell 10 _ rfl
 have HS2:Hid (oK (·<S) W0 11 (ks.map au.d) ak ck):=by subst hS;exact hs.below b0
 have EM:=hid hS;have HW0:=hid hW0;have Z0:=hid z0;have B0:=hid b0;have K1:=hid k1;have HC:=hid hc;have yh:=hid hnk;have Ew:=hid hnl;have EC:=hid (gL ⟨#[116,114]⟩ none none 0 0 0 0 W0);have Ui:nk<=1000000:=by omega
 have hls:letters.size<=1000000:=by omega
 clear hR hvk hs hnk hnl hlen hS hW0 z0 k0 k1 b0 hc hk1;go_enter Tryz.func201,Tryz.ntmps201;go_upto_region 1 with (fail)
 rw [<- EM.out];have hk0:=HW0.out;simp only [lu] at hk0;rw [<- hk0];clear hk0;go_wp2_with fail
 (with_reducible refine EC.out.mono ?_)
 rintro e w1 ⟨rfl,b1⟩;go_upto_region 2 with (fail)
 obtain ⟨Q,hQ⟩:∃ Q,Q=w1.heap.size:=⟨_,rfl⟩;obtain ⟨wQ,Iu⟩:∃ wQ,wQ=w1.alloc (.cells #[.string ⟨#[116,114]⟩,.string ⟨#[]⟩,.slice none 0 0,.slice none 0 0] 43):=⟨_,rfl⟩;have zQ:wQ.heap.size=Q+1:=by rw [Iu,hQ];simp
 have kQ:CB 43 Q [.string ⟨#[116,114]⟩,.string ⟨#[]⟩,.slice none 0 0,.slice none 0 0] wQ:=by rw [Iu,hQ];exact CB.new _ _ w1
 have bQ:Below Q w1 wQ:=by rw [Iu,hQ];exact (jc7 _ _).alloc (jc8 _) _
 have hWQ:W0.heap.size<=Q:=by rw [hQ];exact b1.size
 have R0:Hid (yD Q w1 name letters.data.toList ks (.int .i64 0) wQ):=⟨0,[],_,Q+1,wQ,Nat.zero_le _,rfl,zQ,by rw [<- zQ];exact aI.nil _ _ _ _,kQ,bQ⟩;have B1:=hid b1;have g10:=KX.out wQ (b1.trans (bQ.mono hWQ));rw [<- Iu,<- hQ];clear Iu zQ kQ bQ b1 EC hQ;go_wp2
 go_loopw [15] (fun vi wr=>yD Q w1 name letters.data.toList ks vi wr) (fun i _=>nk-(intOf i).toNat)
 case atStart=>exact R0.out
 case round=>
  clear R0 g10;obtain ⟨j,rows,v,U,wB,hj,rfl,O9,hrow,hcb,hbel⟩:=hrel;obtain ⟨ds,hds⟩:∃ ds,ds=(ko name (letters.data.toList.take j) (ks.take j)).map Nd.d:=⟨_,rfl⟩;rw [<- hds] at hrow;obtain ⟨m,hm⟩:∃ m,m=ds.length:=⟨_,rfl⟩;have XZ:m<=1000000:=by have h:=uR name (letters.data.toList.take j) (ks.take j);have h2:(ks.take j).length<=ks.length:=List.length_take_le' _ _;rw [hm,hds,List.length_map];have:=yh.out;omega
  obtain ⟨av,cv,rfl,-,-⟩:=hrow.cap hm.symm;have HM:=hid hm.symm;have xA:=hid hds;have aY:=hid hrow;have Ki:=hid hcb;have lK:=hid O9;have dY:=hid hbel;have hUr:=hrow.Ie;have hQU:Q+1<=U:=by have:=hrow.Eu;omega
  clear hrow hcb hm hds O9 hbel;by_cases hlt:j<nk
  ·obtain ⟨y,hy⟩:∃ y,ks[j]?=some y:=⟨_,jc6 (by have:=yh.out;omega)⟩;have hjs:j<letters.size:=by have:=Ew.out;omega
   obtain ⟨c,hcx⟩:∃ c,letters.data.toList[j]?=some c:=⟨_,jc6 (by simpa using hjs)⟩;have hsn:=rW name _ _ _ _ _ hcx hy;have WX:=HC.out y (List.mem_of_getElem? hy);obtain ⟨yk,Cv,yi,yt,yd,AX,AY,sQ,AZ⟩:=y;have WX:Uf sQ:=WX;obtain ⟨g,off,vc,vp,vl,vk,rfl,hok,hbl,hc,hR⟩:=gy HS2.out hy;have Rp:Below S W0 wr:=((jc7 _ _).trans (B1.out.mono (by have:=Z0.out;omega))).trans (dY.out.mono (by have:=Z0.out;omega));obtain ⟨c0,c1,c2,c3,c4,c5,c6,c7,c8,c9,c10⟩:=hc.at2 (w':=wr) (Rp.block g hok);obtain ⟨Gr,Gs,Gt,rfl⟩:=Rd.aj hR.at_.cls
   obtain ⟨Gu,Gv,Gw,rfl⟩:=Rd.aj hR.at_.aH
   obtain ⟨kI,kJ,kK,rfl⟩:=Rd.aj hR.line;obtain ⟨Gx,Gy,Gz,rfl⟩:=Rd.aj hR.kids;have WY:Hid (Rd (·<S) W0 (bC sQ) [.slice kI kJ kK]):=hR.line;have Jq:=hid WX;have kE:=hid (show (ko name (letters.data.toList.take (j+1)) (ks.take (j+1))).map Nd.d=ds++[(aL name (lC tF (oz c)) (fA sQ)).d] by rw [hsn,List.map_append,xA.out];rfl);have HCX:=hid hcx;have Nr:=hid Rp;have hlet:(letters[j]'hjs)=c:=by have h:=hcx;rw [jc6 (by simpa using hjs)] at h;exact jd0 h
   have t7:(j:Int)<(letters.size:Int):=by omega
   clear hc hok hbl hR hsn WX hy hcx Rp;go_upto_region 5 with (fail)
   obtain ⟨p,hp⟩:∃ p,p=wr.heap.size:=⟨_,rfl⟩;obtain ⟨wA,gQ⟩:∃ wA,wA=wr.alloc (.cells #[.int .i64 yk,.int .i64 Cv,.string yi,.string yt,.string yd,.string AX,.string AY.id,.slice Gr Gs Gt,.slice Gu Gv Gw,.slice kI kJ kK,.slice Gx Gy Gz] 30):=⟨_,rfl⟩;have PA:CB 30 p [.int .i64 yk,.int .i64 Cv,.string yi,.string yt,.string yd,.string AX,.string AY.id,.slice Gr Gs Gt,.slice Gu Gv Gw,.slice kI kJ kK,.slice Gx Gy Gz] wA:=by rw [gQ,hp];exact CB.new _ _ wr
   have bA:Below wr.heap.size wr wA:=by rw [gQ];exact (jc7 _ _).alloc (jc8 _) _
   have zA:wA.heap.size=p+1:=by rw [gQ,hp];simp
   rw [<- gQ,<- hp];have hpr:wr.heap.size<=p:=by omega
   have hzA:wr.heap.size+1<=wA.heap.size:=by omega
   have hzp:p+1<=wA.heap.size:=by omega
   have hSW:S+2<=W0.heap.size:=Nat.le_of_eq Z0.out.symm;have BA:=hid bA;have Un:=hid PA;have ZA:=hid zA;clear gQ hp c0 c1 c2 c3 c4 c5 c6 c7 c8 c9 c10 PA bA zA;have q7:letters[j]?=some c:=by rw [<- hlet];exact getElem?_pos letters j hjs
   go_upto_region 7 with (fail)
   by_cases Ns:c=108
   ·subst Ns;have hal:oz 108=⟨#[108,101,102,116]⟩:=rfl;rw [hal] at kE;have PC:Hid (Calls Tryz.prog 58 #[.slice (some ⟨wA.heap.size,0,none⟩) 2 2] (wA.alloc (.cells #[.string ⟨#[97,108,105,103,110]⟩,.string ⟨#[108,101,102,116]⟩] 9)) (bE (wA.alloc (.cells #[.string ⟨#[97,108,105,103,110]⟩,.string ⟨#[108,101,102,116]⟩] 9)) [⟨tF,⟨#[108,101,102,116]⟩⟩])):=JY tF ⟨#[108,101,102,116]⟩ wA;rw [show lC tF ⟨#[108,101,102,116]⟩=[⟨tF,⟨#[108,101,102,116]⟩⟩] from rfl] at kE;clear hal;go_wp2_with fail
    (with_reducible refine PC.out.mono ?_)
    rintro e w2 ⟨bg,v2,rfl,hrow2⟩;obtain ⟨a2,c2,rfl,-,-⟩:=hrow2.cap (n:=1) rfl;have bl:Below wA.heap.size wA (wA.alloc (.cells #[.string ⟨#[97,108,105,103,110]⟩,.string ⟨#[108,101,102,116]⟩] 9)):=(jc7 _ _).alloc (jc8 _) _;have B2:=hid (bl.trans (hrow2.aJ.mono bl.size));have PR:=hid (show Rd (wA.heap.size<=·) w2 (dQ [⟨tF,⟨#[108,101,102,116]⟩⟩]) [.slice a2 1 c2] from hrow2.eD.weaken (fun b hb=>Nat.le_trans bl.size hb));clear hrow2 bl PC;have U2:=hid ((aY.out.below BA.out).below B2.out);have Kj:=hid ((Ki.out.below BA.out).below B2.out);have GJ:=hid (Un.out.below B2.out);have hz2:=B2.out.size;have LC:=hid (iH 900000 sQ (.slice kI kJ kK) w2.drew Jq.out.sz (by decide) (Rd.keep (w:=W0) (w':=w2.drew) (ok:=(·<S)) (fun b (hb:b<S) hlt=>⟨by show b<w2.heap.size;have:=Z0.out;omega,(show w2.heap[b]?=W0.heap[b]? from (B2.out.block b (by have:=Z0.out;omega)).trans ((BA.out.block b (by have:=Z0.out;omega)).trans (Nr.out.block b hb)))⟩) _ _ WY.out) Jq.out.sm Jq.out.tf);have S0:w2.drew.cell? ⟨Q,3,none⟩=some (.slice av m cv)/\w2.drew.cell? ⟨p,9,none⟩=some (.slice kI kJ kK):=⟨Kj.out.cell 3 _ rfl,GJ.out.cell 9 _ rfl⟩;go_upto_region 13 with (fail)
    refine q22 11 (fun w'=>w'.cell? ⟨Q,3,none⟩=some (.slice av m cv)/\w'.cell? ⟨p,9,none⟩=some (.slice kI kJ kK)) (by kernel_rfl) S0 ?_;intro hH;refine ou (i:=0) (v:=?_) rfl (by kernel_rfl) (by kernel_rfl) (by kernel_rfl) (by kernel_rfl) (fun _ _ _ h=>h) hH (Or.inl ⟨by rfl,?_⟩) ?_;rotate_left
    ·(intro wv hSw;(try dsimp only at hSw);go_simp;try with_reducible rfl)
    try simp only [Act.put,jc3,jc4,jc5]
    refine ou (i:=1) (v:=?_) rfl (by kernel_rfl) (by kernel_rfl) (by kernel_rfl) (by kernel_rfl) (fun _ _ _ h=>h) hH (Or.inl ⟨by rfl,?_⟩) ?_;rotate_left
    ·(intro wv hSw;(try dsimp only at hSw);go_simp;try with_reducible rfl)
    try simp only [Act.put,jc3,jc4,jc5]
    refine ou (i:=2) (v:=?_) rfl (by kernel_rfl) (by kernel_rfl) (by kernel_rfl) (by kernel_rfl) (fun _ _ _ h=>h) hH (Or.inl ⟨by rfl,?_⟩) ?_;rotate_left
    ·(intro wv hSw;(try dsimp only at hSw);go_simp;try with_reducible rfl)
    try simp only [Act.put,jc3,jc4,jc5]
    refine ou (i:=3) (v:=?_) rfl (by kernel_rfl) (by kernel_rfl) (by kernel_rfl) (by kernel_rfl) (fun _ _ _ h=>h) hH (Or.inl ⟨by rfl,?_⟩) ?_;rotate_left
    ·(intro wv hSw;(try dsimp only at hSw);go_simp;try with_reducible rfl)
    try simp only [Act.put,jc3,jc4,jc5]
    refine ou (i:=4) (v:=?_) rfl (by kernel_rfl) (by kernel_rfl) (by kernel_rfl) (by kernel_rfl) (fun _ _ _ h=>h) hH (Or.inl ⟨by rfl,?_⟩) ?_;rotate_left
    ·(intro wv hSw;(try dsimp only at hSw);go_simp;try with_reducible rfl)
    try simp only [Act.put,jc3,jc4,jc5]
    refine ou (i:=5) (v:=?_) rfl (by kernel_rfl) (by kernel_rfl) (by kernel_rfl) (by kernel_rfl) (fun _ _ _ h=>h) hH (Or.inl ⟨by rfl,?_⟩) ?_;rotate_left
    ·(intro wv hSw;(try dsimp only at hSw);go_simp;try with_reducible rfl)
    try simp only [Act.put,jc3,jc4,jc5]
    refine lF (i:=6) rfl (by kernel_rfl) (fun KQ hK=>?_);go_simp;go_at_call 50
    (with_reducible refine LC.out.mono ?_)
    rintro e w3 ⟨dD,v3,rfl,hrow3⟩;obtain ⟨a3,n3,c3,rfl⟩:=hrow3.slice3;have b3:Below w2.heap.size w2 w3:=((jc7 _ _).drew).trans hrow3.aJ;have B3:=hid b3;have Kk:=hid (show Rd (w2.heap.size<=·) w3 (bU (fA sQ)) [.slice a3 n3 c3] from hrow3.eD);have Q3:=Kj.out.below b3;have P3:=GJ.out.below b3;have S3:w3.cell? ⟨Q,3,none⟩=some (.slice av m cv)/\w3.cell? ⟨p,9,none⟩=some (.slice kI kJ kK):=⟨Q3.cell 3 _ rfl,P3.cell 9 _ rfl⟩;have U3:=hid (U2.out.below b3);have zO:=hid Q3;have D5:=hid P3;have EC:=hid (gL name a2 a3 1 n3 c2 c3 w3);clear hrow3 b3 Q3 P3 LC U2;refine hK.out _ _ (fun _=>S3) (fun hH2=>?_);clear hK KQ hH;have hH:=hH2 (by decide);clear hH2;try simp only [Act.put,jc3,jc4,jc5]
    refine lF (i:=7) rfl (by kernel_rfl) (fun KQ hK=>?_);go_simp;go_at_call 57
    (with_reducible refine EC.out.mono ?_)
    rintro e w4 ⟨rfl,b4⟩;have B4:=hid (aQ B3.out b4);have U4:=hid (U3.out.below b4);have Q4:=zO.out.below b4;have P4:=D5.out.below b4;have S4:w4.cell? ⟨Q,3,none⟩=some (.slice av m cv)/\w4.cell? ⟨p,9,none⟩=some (.slice kI kJ kK):=⟨Q4.cell 3 _ rfl,P4.cell 9 _ rfl⟩;have Kl:=hid Q4;have GK:=hid P4;have WL:=B4.out.size;have XD:=hid (show Rd (fun b=>False\/U<=b) w4 (aL name ([⟨tF,⟨#[108,101,102,116]⟩⟩]) (fA sQ)).d [.string name,.string ⟨#[]⟩,.slice a2 1 c2,.slice a3 n3 c3] from Nd.fK name ⟨#[]⟩ ⟨Rd.weaken ((PR.out.aZ B3.out).aZ b4) (fun b hb=>.inr (by omega)),Rd.weaken (Kk.out.aZ b4) (fun b hb=>.inr (by omega))⟩);clear b4 Q4 P4 EC U3 Kk zO D5;refine hK.out _ _ (fun _=>S4) (fun hH2=>?_);clear hK KQ hH;have hH:=hH2 (by decide);clear hH2;try simp only [Act.put,jc3,jc4,jc5]
    refine lF (i:=8) rfl (by kernel_rfl) (fun KQ hK=>?_);go_simp;refine hK.out _ _ (fun _=>⟨past S4.1 _,past S4.2 _⟩) (fun hH2=>?_);clear hK KQ hH;have hH:=hH2 (by decide);clear hH2;try simp only [Act.put,jc3,jc4,jc5]
    refine lF (i:=9) rfl (by kernel_rfl) (fun KQ hK=>?_);refine jV rfl (.tmp 36) (.tmp 43) 34 rfl iN _ 80 Tryz.underlying34 wG jh ji jk rfl (by decide) U4.out (fun _=>False.elim) (aL name ([⟨tF,⟨#[108,101,102,116]⟩⟩]) (fA sQ)).d [.string name,.string ⟨#[]⟩,.slice a2 1 c2,.slice a3 n3 c3] XD.out rfl fE HM.out (by omega) (by decide) rfl rfl ?_;intro a5 c5 w5 aN hg5;have Ue:w4.heap.size+1<=w5.heap.size:=by have h:=hg5.size;simp at h;exact h
    have Km:some Q≠(Value.slice av m cv).ownBlock:=fun e=>by have:=(U4.out.own.lt Q e.symm).1;have:=lK.out;omega
    have hvp:some p≠(Value.slice av m cv).ownBlock:=fun e=>by have:=U4.out.oU p e.symm;omega
    have q5:CB 43 Q [.string ⟨#[116,114]⟩,.string ⟨#[]⟩,.slice none 0 0,.slice av m cv] w5:=(hg5.block Q (by simp;omega) Km).trans ((jd2 w4 _ Q Kl.out.lt).trans Kl.out);have p5:CB 30 p [.int .i64 yk,.int .i64 Cv,.string yi,.string yt,.string yd,.string AX,.string AY.id,.slice Gr Gs Gt,.slice Gu Gv Gw,.slice kI kJ kK,.slice Gx Gy Gz] w5:=(hg5.block p (by simp;omega) hvp).trans ((jd2 w4 _ p GK.out.lt).trans GK.out);have S5:w5.cell? ⟨Q,3,none⟩=some (.slice av m cv)/\w5.cell? ⟨p,9,none⟩=some (.slice kI kJ kK):=⟨q5.cell 3 _ rfl,p5.cell 9 _ rfl⟩;have fz:=l8 q5;have e3:=q5.cell 3 _ rfl;have EN:=hid q5;have U5:=hid aN;have qK:=hid hg5;clear aN hg5 q5 p5 hvp XD;refine hK.out _ _ (fun _=>S5) (fun hH2=>?_);clear hK KQ hH;have hH:=hH2 (by decide);clear hH2;try simp only [Act.put,jc3,jc4,jc5]
    refine lF (i:=10) rfl (by kernel_rfl) (fun KQ hK=>?_);go_simp;refine hK.out _ _ (fun _=>S5) (fun hH2=>?_);clear hK KQ hH;have hH:=hH2 (by decide);clear hH2;try simp only [Act.put,jc3,jc4,jc5]
    refine lF (i:=11) rfl (by kernel_rfl) (fun KQ hK=>?_);go_simp;refine hK.out _ _ (fun h=>absurd rfl h) (fun _=>?_);clear hK KQ;refine Rk (by kernel_rfl) ?_ _;obtain ⟨w6,dh⟩:∃ w6,w6=w5.setCell ⟨Q,3,none⟩ (.slice a5 (m+1) c5):=⟨_,rfl⟩;rw [<- dh];have g6:w5.grownBy w6 (some Q):=by rw [dh];exact ⟨rfl,rfl,rfl,by simp [je1],fun b _ hb=>jd1 w5 ⟨Q,3,none⟩ _ b (fun e=>hb (by rw [e]))⟩
    have q6:CB 43 Q [.string ⟨#[116,114]⟩,.string ⟨#[]⟩,.slice none 0 0,.slice a5 (m+1) c5] w6:=by rw [dh];exact nO EN.out 3 _
    have QJ:w6.heap.size=w5.heap.size:=by rw [dh];simp [je1]
    obtain ⟨Rq,Kn,dn⟩:=U5.out.hop2 (p:=Q) (by have:=lK.out;omega) g6;have HF:Hid (yD Q w1 name letters.data.toList ks (.int .i64 ((j+1:Nat):Int)) w6):=by
     have h1:=dn.up (U':=w6.heap.size) (by omega) (jc8 _);rw [<- kE.out] at h1;refine ⟨j+1,_,_,w6.heap.size,Rq,by have:=yh.out;omega,rfl,Kn.trans lK.out,h1,q6,?_⟩;have Iu:Q<=wr.heap.size:=by omega
     refine dY.out.trans ((BA.out.mono Iu).trans ((B2.out.mono (by have:=BA.out.size;omega)).trans ((B4.out.mono (by omega)).trans ?_)));exact ((jc7 _ _).alloc (by omega) _ |>.grown qK.out (by simp;omega) (fun g hg=>by have:=(U4.out.own.lt g hg).1;have:=lK.out;omega)).trans ((jc7 Q w5).grown g6 (by omega) (fun g hg=>by have:=jd0 hg;omega))
    clear dh g6 q6 dn Kn U5 qK EN hH S0 S3 S4 S5 fz e3 Km;go_wp2;go_roundw;case rel=>exact HF.out
    case measure=>simp [intOf];omega
   by_cases WZ:c=99
   ·subst WZ;have hal:oz 99=⟨#[99,101,110,116,101,114]⟩:=rfl;rw [hal] at kE;have PC:Hid (Calls Tryz.prog 58 #[.slice (some ⟨wA.heap.size,0,none⟩) 2 2] (wA.alloc (.cells #[.string ⟨#[97,108,105,103,110]⟩,.string ⟨#[99,101,110,116,101,114]⟩] 9)) (bE (wA.alloc (.cells #[.string ⟨#[97,108,105,103,110]⟩,.string ⟨#[99,101,110,116,101,114]⟩] 9)) [⟨tF,⟨#[99,101,110,116,101,114]⟩⟩])):=JY tF ⟨#[99,101,110,116,101,114]⟩ wA;rw [show lC tF ⟨#[99,101,110,116,101,114]⟩=[⟨tF,⟨#[99,101,110,116,101,114]⟩⟩] from rfl] at kE;clear hal;go_wp2_with fail
    (with_reducible refine PC.out.mono ?_)
    rintro e w2 ⟨bg,v2,rfl,hrow2⟩;obtain ⟨a2,c2,rfl,-,-⟩:=hrow2.cap (n:=1) rfl;have bl:Below wA.heap.size wA (wA.alloc (.cells #[.string ⟨#[97,108,105,103,110]⟩,.string ⟨#[99,101,110,116,101,114]⟩] 9)):=(jc7 _ _).alloc (jc8 _) _;have B2:=hid (bl.trans (hrow2.aJ.mono bl.size));have PR:=hid (show Rd (wA.heap.size<=·) w2 (dQ [⟨tF,⟨#[99,101,110,116,101,114]⟩⟩]) [.slice a2 1 c2] from hrow2.eD.weaken (fun b hb=>Nat.le_trans bl.size hb));clear hrow2 bl PC;have U2:=hid ((aY.out.below BA.out).below B2.out);have Kj:=hid ((Ki.out.below BA.out).below B2.out);have GJ:=hid (Un.out.below B2.out);have hz2:=B2.out.size;have LC:=hid (iH 900000 sQ (.slice kI kJ kK) w2.drew Jq.out.sz (by decide) (Rd.keep (w:=W0) (w':=w2.drew) (ok:=(·<S)) (fun b (hb:b<S) hlt=>⟨by show b<w2.heap.size;have:=Z0.out;omega,(show w2.heap[b]?=W0.heap[b]? from (B2.out.block b (by have:=Z0.out;omega)).trans ((BA.out.block b (by have:=Z0.out;omega)).trans (Nr.out.block b hb)))⟩) _ _ WY.out) Jq.out.sm Jq.out.tf);have S0:w2.drew.cell? ⟨Q,3,none⟩=some (.slice av m cv)/\w2.drew.cell? ⟨p,9,none⟩=some (.slice kI kJ kK):=⟨Kj.out.cell 3 _ rfl,GJ.out.cell 9 _ rfl⟩;go_upto_region 13 with (fail)
    refine q22 11 (fun w'=>w'.cell? ⟨Q,3,none⟩=some (.slice av m cv)/\w'.cell? ⟨p,9,none⟩=some (.slice kI kJ kK)) (by kernel_rfl) S0 ?_;intro hH;refine ou (i:=0) (v:=?_) rfl (by kernel_rfl) (by kernel_rfl) (by kernel_rfl) (by kernel_rfl) (fun _ _ _ h=>h) hH (Or.inl ⟨by rfl,?_⟩) ?_;rotate_left
    ·(intro wv hSw;(try dsimp only at hSw);go_simp;try with_reducible rfl)
    try simp only [Act.put,jc3,jc4,jc5]
    refine ou (i:=1) (v:=?_) rfl (by kernel_rfl) (by kernel_rfl) (by kernel_rfl) (by kernel_rfl) (fun _ _ _ h=>h) hH (Or.inl ⟨by rfl,?_⟩) ?_;rotate_left
    ·(intro wv hSw;(try dsimp only at hSw);go_simp;try with_reducible rfl)
    try simp only [Act.put,jc3,jc4,jc5]
    refine ou (i:=2) (v:=?_) rfl (by kernel_rfl) (by kernel_rfl) (by kernel_rfl) (by kernel_rfl) (fun _ _ _ h=>h) hH (Or.inl ⟨by rfl,?_⟩) ?_;rotate_left
    ·(intro wv hSw;(try dsimp only at hSw);go_simp;try with_reducible rfl)
    try simp only [Act.put,jc3,jc4,jc5]
    refine ou (i:=3) (v:=?_) rfl (by kernel_rfl) (by kernel_rfl) (by kernel_rfl) (by kernel_rfl) (fun _ _ _ h=>h) hH (Or.inl ⟨by rfl,?_⟩) ?_;rotate_left
    ·(intro wv hSw;(try dsimp only at hSw);go_simp;try with_reducible rfl)
    try simp only [Act.put,jc3,jc4,jc5]
    refine ou (i:=4) (v:=?_) rfl (by kernel_rfl) (by kernel_rfl) (by kernel_rfl) (by kernel_rfl) (fun _ _ _ h=>h) hH (Or.inl ⟨by rfl,?_⟩) ?_;rotate_left
    ·(intro wv hSw;(try dsimp only at hSw);go_simp;try with_reducible rfl)
    try simp only [Act.put,jc3,jc4,jc5]
    refine ou (i:=5) (v:=?_) rfl (by kernel_rfl) (by kernel_rfl) (by kernel_rfl) (by kernel_rfl) (fun _ _ _ h=>h) hH (Or.inl ⟨by rfl,?_⟩) ?_;rotate_left
    ·(intro wv hSw;(try dsimp only at hSw);go_simp;try with_reducible rfl)
    try simp only [Act.put,jc3,jc4,jc5]
    refine lF (i:=6) rfl (by kernel_rfl) (fun KQ hK=>?_);go_simp;go_at_call 50
    (with_reducible refine LC.out.mono ?_)
    rintro e w3 ⟨dD,v3,rfl,hrow3⟩;obtain ⟨a3,n3,c3,rfl⟩:=hrow3.slice3;have b3:Below w2.heap.size w2 w3:=((jc7 _ _).drew).trans hrow3.aJ;have B3:=hid b3;have Kk:=hid (show Rd (w2.heap.size<=·) w3 (bU (fA sQ)) [.slice a3 n3 c3] from hrow3.eD);have Q3:=Kj.out.below b3;have P3:=GJ.out.below b3;have S3:w3.cell? ⟨Q,3,none⟩=some (.slice av m cv)/\w3.cell? ⟨p,9,none⟩=some (.slice kI kJ kK):=⟨Q3.cell 3 _ rfl,P3.cell 9 _ rfl⟩;have U3:=hid (U2.out.below b3);have zO:=hid Q3;have D5:=hid P3;have EC:=hid (gL name a2 a3 1 n3 c2 c3 w3);clear hrow3 b3 Q3 P3 LC U2;refine hK.out _ _ (fun _=>S3) (fun hH2=>?_);clear hK KQ hH;have hH:=hH2 (by decide);clear hH2;try simp only [Act.put,jc3,jc4,jc5]
    refine lF (i:=7) rfl (by kernel_rfl) (fun KQ hK=>?_);go_simp;go_at_call 57
    (with_reducible refine EC.out.mono ?_)
    rintro e w4 ⟨rfl,b4⟩;have B4:=hid (aQ B3.out b4);have U4:=hid (U3.out.below b4);have Q4:=zO.out.below b4;have P4:=D5.out.below b4;have S4:w4.cell? ⟨Q,3,none⟩=some (.slice av m cv)/\w4.cell? ⟨p,9,none⟩=some (.slice kI kJ kK):=⟨Q4.cell 3 _ rfl,P4.cell 9 _ rfl⟩;have Kl:=hid Q4;have GK:=hid P4;have WL:=B4.out.size;have XD:=hid (show Rd (fun b=>False\/U<=b) w4 (aL name ([⟨tF,⟨#[99,101,110,116,101,114]⟩⟩]) (fA sQ)).d [.string name,.string ⟨#[]⟩,.slice a2 1 c2,.slice a3 n3 c3] from Nd.fK name ⟨#[]⟩ ⟨Rd.weaken ((PR.out.aZ B3.out).aZ b4) (fun b hb=>.inr (by omega)),Rd.weaken (Kk.out.aZ b4) (fun b hb=>.inr (by omega))⟩);clear b4 Q4 P4 EC U3 Kk zO D5;refine hK.out _ _ (fun _=>S4) (fun hH2=>?_);clear hK KQ hH;have hH:=hH2 (by decide);clear hH2;try simp only [Act.put,jc3,jc4,jc5]
    refine lF (i:=8) rfl (by kernel_rfl) (fun KQ hK=>?_);go_simp;refine hK.out _ _ (fun _=>⟨past S4.1 _,past S4.2 _⟩) (fun hH2=>?_);clear hK KQ hH;have hH:=hH2 (by decide);clear hH2;try simp only [Act.put,jc3,jc4,jc5]
    refine lF (i:=9) rfl (by kernel_rfl) (fun KQ hK=>?_);refine jV rfl (.tmp 36) (.tmp 43) 34 rfl iN _ 80 Tryz.underlying34 wG jh ji jk rfl (by decide) U4.out (fun _=>False.elim) (aL name ([⟨tF,⟨#[99,101,110,116,101,114]⟩⟩]) (fA sQ)).d [.string name,.string ⟨#[]⟩,.slice a2 1 c2,.slice a3 n3 c3] XD.out rfl fE HM.out (by omega) (by decide) rfl rfl ?_;intro a5 c5 w5 aN hg5;have Ue:w4.heap.size+1<=w5.heap.size:=by have h:=hg5.size;simp at h;exact h
    have Km:some Q≠(Value.slice av m cv).ownBlock:=fun e=>by have:=(U4.out.own.lt Q e.symm).1;have:=lK.out;omega
    have hvp:some p≠(Value.slice av m cv).ownBlock:=fun e=>by have:=U4.out.oU p e.symm;omega
    have q5:CB 43 Q [.string ⟨#[116,114]⟩,.string ⟨#[]⟩,.slice none 0 0,.slice av m cv] w5:=(hg5.block Q (by simp;omega) Km).trans ((jd2 w4 _ Q Kl.out.lt).trans Kl.out);have p5:CB 30 p [.int .i64 yk,.int .i64 Cv,.string yi,.string yt,.string yd,.string AX,.string AY.id,.slice Gr Gs Gt,.slice Gu Gv Gw,.slice kI kJ kK,.slice Gx Gy Gz] w5:=(hg5.block p (by simp;omega) hvp).trans ((jd2 w4 _ p GK.out.lt).trans GK.out);have S5:w5.cell? ⟨Q,3,none⟩=some (.slice av m cv)/\w5.cell? ⟨p,9,none⟩=some (.slice kI kJ kK):=⟨q5.cell 3 _ rfl,p5.cell 9 _ rfl⟩;have fz:=l8 q5;have e3:=q5.cell 3 _ rfl;have EN:=hid q5;have U5:=hid aN;have qK:=hid hg5;clear aN hg5 q5 p5 hvp XD;refine hK.out _ _ (fun _=>S5) (fun hH2=>?_);clear hK KQ hH;have hH:=hH2 (by decide);clear hH2;try simp only [Act.put,jc3,jc4,jc5]
    refine lF (i:=10) rfl (by kernel_rfl) (fun KQ hK=>?_);go_simp;refine hK.out _ _ (fun _=>S5) (fun hH2=>?_);clear hK KQ hH;have hH:=hH2 (by decide);clear hH2;try simp only [Act.put,jc3,jc4,jc5]
    refine lF (i:=11) rfl (by kernel_rfl) (fun KQ hK=>?_);go_simp;refine hK.out _ _ (fun h=>absurd rfl h) (fun _=>?_);clear hK KQ;refine Rk (by kernel_rfl) ?_ _;obtain ⟨w6,dh⟩:∃ w6,w6=w5.setCell ⟨Q,3,none⟩ (.slice a5 (m+1) c5):=⟨_,rfl⟩;rw [<- dh];have g6:w5.grownBy w6 (some Q):=by rw [dh];exact ⟨rfl,rfl,rfl,by simp [je1],fun b _ hb=>jd1 w5 ⟨Q,3,none⟩ _ b (fun e=>hb (by rw [e]))⟩
    have q6:CB 43 Q [.string ⟨#[116,114]⟩,.string ⟨#[]⟩,.slice none 0 0,.slice a5 (m+1) c5] w6:=by rw [dh];exact nO EN.out 3 _
    have QJ:w6.heap.size=w5.heap.size:=by rw [dh];simp [je1]
    obtain ⟨Rq,Kn,dn⟩:=U5.out.hop2 (p:=Q) (by have:=lK.out;omega) g6;have HF:Hid (yD Q w1 name letters.data.toList ks (.int .i64 ((j+1:Nat):Int)) w6):=by
     have h1:=dn.up (U':=w6.heap.size) (by omega) (jc8 _);rw [<- kE.out] at h1;refine ⟨j+1,_,_,w6.heap.size,Rq,by have:=yh.out;omega,rfl,Kn.trans lK.out,h1,q6,?_⟩;have Iu:Q<=wr.heap.size:=by omega
     refine dY.out.trans ((BA.out.mono Iu).trans ((B2.out.mono (by have:=BA.out.size;omega)).trans ((B4.out.mono (by omega)).trans ?_)));exact ((jc7 _ _).alloc (by omega) _ |>.grown qK.out (by simp;omega) (fun g hg=>by have:=(U4.out.own.lt g hg).1;have:=lK.out;omega)).trans ((jc7 Q w5).grown g6 (by omega) (fun g hg=>by have:=jd0 hg;omega))
    clear dh g6 q6 dn Kn U5 qK EN hH S0 S3 S4 S5 fz e3 Km;go_wp2;go_roundw;case rel=>exact HF.out
    case measure=>simp [intOf];omega
   by_cases Nt:c=114
   ·subst Nt;have hal:oz 114=⟨#[114,105,103,104,116]⟩:=rfl;rw [hal] at kE;have PC:Hid (Calls Tryz.prog 58 #[.slice (some ⟨wA.heap.size,0,none⟩) 2 2] (wA.alloc (.cells #[.string ⟨#[97,108,105,103,110]⟩,.string ⟨#[114,105,103,104,116]⟩] 9)) (bE (wA.alloc (.cells #[.string ⟨#[97,108,105,103,110]⟩,.string ⟨#[114,105,103,104,116]⟩] 9)) [⟨tF,⟨#[114,105,103,104,116]⟩⟩])):=JY tF ⟨#[114,105,103,104,116]⟩ wA;rw [show lC tF ⟨#[114,105,103,104,116]⟩=[⟨tF,⟨#[114,105,103,104,116]⟩⟩] from rfl] at kE;clear hal;go_wp2_with fail
    (with_reducible refine PC.out.mono ?_)
    rintro e w2 ⟨bg,v2,rfl,hrow2⟩;obtain ⟨a2,c2,rfl,-,-⟩:=hrow2.cap (n:=1) rfl;have bl:Below wA.heap.size wA (wA.alloc (.cells #[.string ⟨#[97,108,105,103,110]⟩,.string ⟨#[114,105,103,104,116]⟩] 9)):=(jc7 _ _).alloc (jc8 _) _;have B2:=hid (bl.trans (hrow2.aJ.mono bl.size));have PR:=hid (show Rd (wA.heap.size<=·) w2 (dQ [⟨tF,⟨#[114,105,103,104,116]⟩⟩]) [.slice a2 1 c2] from hrow2.eD.weaken (fun b hb=>Nat.le_trans bl.size hb));clear hrow2 bl PC;have U2:=hid ((aY.out.below BA.out).below B2.out);have Kj:=hid ((Ki.out.below BA.out).below B2.out);have GJ:=hid (Un.out.below B2.out);have hz2:=B2.out.size;have LC:=hid (iH 900000 sQ (.slice kI kJ kK) w2.drew Jq.out.sz (by decide) (Rd.keep (w:=W0) (w':=w2.drew) (ok:=(·<S)) (fun b (hb:b<S) hlt=>⟨by show b<w2.heap.size;have:=Z0.out;omega,(show w2.heap[b]?=W0.heap[b]? from (B2.out.block b (by have:=Z0.out;omega)).trans ((BA.out.block b (by have:=Z0.out;omega)).trans (Nr.out.block b hb)))⟩) _ _ WY.out) Jq.out.sm Jq.out.tf);have S0:w2.drew.cell? ⟨Q,3,none⟩=some (.slice av m cv)/\w2.drew.cell? ⟨p,9,none⟩=some (.slice kI kJ kK):=⟨Kj.out.cell 3 _ rfl,GJ.out.cell 9 _ rfl⟩;go_upto_region 13 with (fail)
    refine q22 11 (fun w'=>w'.cell? ⟨Q,3,none⟩=some (.slice av m cv)/\w'.cell? ⟨p,9,none⟩=some (.slice kI kJ kK)) (by kernel_rfl) S0 ?_;intro hH;refine ou (i:=0) (v:=?_) rfl (by kernel_rfl) (by kernel_rfl) (by kernel_rfl) (by kernel_rfl) (fun _ _ _ h=>h) hH (Or.inl ⟨by rfl,?_⟩) ?_;rotate_left
    ·(intro wv hSw;(try dsimp only at hSw);go_simp;try with_reducible rfl)
    try simp only [Act.put,jc3,jc4,jc5]
    refine ou (i:=1) (v:=?_) rfl (by kernel_rfl) (by kernel_rfl) (by kernel_rfl) (by kernel_rfl) (fun _ _ _ h=>h) hH (Or.inl ⟨by rfl,?_⟩) ?_;rotate_left
    ·(intro wv hSw;(try dsimp only at hSw);go_simp;try with_reducible rfl)
    try simp only [Act.put,jc3,jc4,jc5]
    refine ou (i:=2) (v:=?_) rfl (by kernel_rfl) (by kernel_rfl) (by kernel_rfl) (by kernel_rfl) (fun _ _ _ h=>h) hH (Or.inl ⟨by rfl,?_⟩) ?_;rotate_left
    ·(intro wv hSw;(try dsimp only at hSw);go_simp;try with_reducible rfl)
    try simp only [Act.put,jc3,jc4,jc5]
    refine ou (i:=3) (v:=?_) rfl (by kernel_rfl) (by kernel_rfl) (by kernel_rfl) (by kernel_rfl) (fun _ _ _ h=>h) hH (Or.inl ⟨by rfl,?_⟩) ?_;rotate_left
    ·(intro wv hSw;(try dsimp only at hSw);go_simp;try with_reducible rfl)
    try simp only [Act.put,jc3,jc4,jc5]
    refine ou (i:=4) (v:=?_) rfl (by kernel_rfl) (by kernel_rfl) (by kernel_rfl) (by kernel_rfl) (fun _ _ _ h=>h) hH (Or.inl ⟨by rfl,?_⟩) ?_;rotate_left
    ·(intro wv hSw;(try dsimp only at hSw);go_simp;try with_reducible rfl)
    try simp only [Act.put,jc3,jc4,jc5]
    refine ou (i:=5) (v:=?_) rfl (by kernel_rfl) (by kernel_rfl) (by kernel_rfl) (by kernel_rfl) (fun _ _ _ h=>h) hH (Or.inl ⟨by rfl,?_⟩) ?_;rotate_left
    ·(intro wv hSw;(try dsimp only at hSw);go_simp;try with_reducible rfl)
    try simp only [Act.put,jc3,jc4,jc5]
    refine lF (i:=6) rfl (by kernel_rfl) (fun KQ hK=>?_);go_simp;go_at_call 50
    (with_reducible refine LC.out.mono ?_)
    rintro e w3 ⟨dD,v3,rfl,hrow3⟩;obtain ⟨a3,n3,c3,rfl⟩:=hrow3.slice3;have b3:Below w2.heap.size w2 w3:=((jc7 _ _).drew).trans hrow3.aJ;have B3:=hid b3;have Kk:=hid (show Rd (w2.heap.size<=·) w3 (bU (fA sQ)) [.slice a3 n3 c3] from hrow3.eD);have Q3:=Kj.out.below b3;have P3:=GJ.out.below b3;have S3:w3.cell? ⟨Q,3,none⟩=some (.slice av m cv)/\w3.cell? ⟨p,9,none⟩=some (.slice kI kJ kK):=⟨Q3.cell 3 _ rfl,P3.cell 9 _ rfl⟩;have U3:=hid (U2.out.below b3);have zO:=hid Q3;have D5:=hid P3;have EC:=hid (gL name a2 a3 1 n3 c2 c3 w3);clear hrow3 b3 Q3 P3 LC U2;refine hK.out _ _ (fun _=>S3) (fun hH2=>?_);clear hK KQ hH;have hH:=hH2 (by decide);clear hH2;try simp only [Act.put,jc3,jc4,jc5]
    refine lF (i:=7) rfl (by kernel_rfl) (fun KQ hK=>?_);go_simp;go_at_call 57
    (with_reducible refine EC.out.mono ?_)
    rintro e w4 ⟨rfl,b4⟩;have B4:=hid (aQ B3.out b4);have U4:=hid (U3.out.below b4);have Q4:=zO.out.below b4;have P4:=D5.out.below b4;have S4:w4.cell? ⟨Q,3,none⟩=some (.slice av m cv)/\w4.cell? ⟨p,9,none⟩=some (.slice kI kJ kK):=⟨Q4.cell 3 _ rfl,P4.cell 9 _ rfl⟩;have Kl:=hid Q4;have GK:=hid P4;have WL:=B4.out.size;have XD:=hid (show Rd (fun b=>False\/U<=b) w4 (aL name ([⟨tF,⟨#[114,105,103,104,116]⟩⟩]) (fA sQ)).d [.string name,.string ⟨#[]⟩,.slice a2 1 c2,.slice a3 n3 c3] from Nd.fK name ⟨#[]⟩ ⟨Rd.weaken ((PR.out.aZ B3.out).aZ b4) (fun b hb=>.inr (by omega)),Rd.weaken (Kk.out.aZ b4) (fun b hb=>.inr (by omega))⟩);clear b4 Q4 P4 EC U3 Kk zO D5;refine hK.out _ _ (fun _=>S4) (fun hH2=>?_);clear hK KQ hH;have hH:=hH2 (by decide);clear hH2;try simp only [Act.put,jc3,jc4,jc5]
    refine lF (i:=8) rfl (by kernel_rfl) (fun KQ hK=>?_);go_simp;refine hK.out _ _ (fun _=>⟨past S4.1 _,past S4.2 _⟩) (fun hH2=>?_);clear hK KQ hH;have hH:=hH2 (by decide);clear hH2;try simp only [Act.put,jc3,jc4,jc5]
    refine lF (i:=9) rfl (by kernel_rfl) (fun KQ hK=>?_);refine jV rfl (.tmp 36) (.tmp 43) 34 rfl iN _ 80 Tryz.underlying34 wG jh ji jk rfl (by decide) U4.out (fun _=>False.elim) (aL name ([⟨tF,⟨#[114,105,103,104,116]⟩⟩]) (fA sQ)).d [.string name,.string ⟨#[]⟩,.slice a2 1 c2,.slice a3 n3 c3] XD.out rfl fE HM.out (by omega) (by decide) rfl rfl ?_;intro a5 c5 w5 aN hg5;have Ue:w4.heap.size+1<=w5.heap.size:=by have h:=hg5.size;simp at h;exact h
    have Km:some Q≠(Value.slice av m cv).ownBlock:=fun e=>by have:=(U4.out.own.lt Q e.symm).1;have:=lK.out;omega
    have hvp:some p≠(Value.slice av m cv).ownBlock:=fun e=>by have:=U4.out.oU p e.symm;omega
    have q5:CB 43 Q [.string ⟨#[116,114]⟩,.string ⟨#[]⟩,.slice none 0 0,.slice av m cv] w5:=(hg5.block Q (by simp;omega) Km).trans ((jd2 w4 _ Q Kl.out.lt).trans Kl.out);have p5:CB 30 p [.int .i64 yk,.int .i64 Cv,.string yi,.string yt,.string yd,.string AX,.string AY.id,.slice Gr Gs Gt,.slice Gu Gv Gw,.slice kI kJ kK,.slice Gx Gy Gz] w5:=(hg5.block p (by simp;omega) hvp).trans ((jd2 w4 _ p GK.out.lt).trans GK.out);have S5:w5.cell? ⟨Q,3,none⟩=some (.slice av m cv)/\w5.cell? ⟨p,9,none⟩=some (.slice kI kJ kK):=⟨q5.cell 3 _ rfl,p5.cell 9 _ rfl⟩;have fz:=l8 q5;have e3:=q5.cell 3 _ rfl;have EN:=hid q5;have U5:=hid aN;have qK:=hid hg5;clear aN hg5 q5 p5 hvp XD;refine hK.out _ _ (fun _=>S5) (fun hH2=>?_);clear hK KQ hH;have hH:=hH2 (by decide);clear hH2;try simp only [Act.put,jc3,jc4,jc5]
    refine lF (i:=10) rfl (by kernel_rfl) (fun KQ hK=>?_);go_simp;refine hK.out _ _ (fun _=>S5) (fun hH2=>?_);clear hK KQ hH;have hH:=hH2 (by decide);clear hH2;try simp only [Act.put,jc3,jc4,jc5]
    refine lF (i:=11) rfl (by kernel_rfl) (fun KQ hK=>?_);go_simp;refine hK.out _ _ (fun h=>absurd rfl h) (fun _=>?_);clear hK KQ;refine Rk (by kernel_rfl) ?_ _;obtain ⟨w6,dh⟩:∃ w6,w6=w5.setCell ⟨Q,3,none⟩ (.slice a5 (m+1) c5):=⟨_,rfl⟩;rw [<- dh];have g6:w5.grownBy w6 (some Q):=by rw [dh];exact ⟨rfl,rfl,rfl,by simp [je1],fun b _ hb=>jd1 w5 ⟨Q,3,none⟩ _ b (fun e=>hb (by rw [e]))⟩
    have q6:CB 43 Q [.string ⟨#[116,114]⟩,.string ⟨#[]⟩,.slice none 0 0,.slice a5 (m+1) c5] w6:=by rw [dh];exact nO EN.out 3 _
    have QJ:w6.heap.size=w5.heap.size:=by rw [dh];simp [je1]
    obtain ⟨Rq,Kn,dn⟩:=U5.out.hop2 (p:=Q) (by have:=lK.out;omega) g6;have HF:Hid (yD Q w1 name letters.data.toList ks (.int .i64 ((j+1:Nat):Int)) w6):=by
     have h1:=dn.up (U':=w6.heap.size) (by omega) (jc8 _);rw [<- kE.out] at h1;refine ⟨j+1,_,_,w6.heap.size,Rq,by have:=yh.out;omega,rfl,Kn.trans lK.out,h1,q6,?_⟩;have Iu:Q<=wr.heap.size:=by omega
     refine dY.out.trans ((BA.out.mono Iu).trans ((B2.out.mono (by have:=BA.out.size;omega)).trans ((B4.out.mono (by omega)).trans ?_)));exact ((jc7 _ _).alloc (by omega) _ |>.grown qK.out (by simp;omega) (fun g hg=>by have:=(U4.out.own.lt g hg).1;have:=lK.out;omega)).trans ((jc7 Q w5).grown g6 (by omega) (fun g hg=>by have:=jd0 hg;omega))
    clear dh g6 q6 dn Kn U5 qK EN hH S0 S3 S4 S5 fz e3 Km;go_wp2;go_roundw;case rel=>exact HF.out
    case measure=>simp [intOf];omega
   have q1:((c.toNat:Int)==108)=false:=by rw [beq_eq_false_iff_ne];intro h;exact Ns (UInt8.toNat_inj.1 (show c.toNat=108 by omega))
   have q2:((c.toNat:Int)==99)=false:=by rw [beq_eq_false_iff_ne];intro h;exact WZ (UInt8.toNat_inj.1 (show c.toNat=99 by omega))
   have q3:((c.toNat:Int)==114)=false:=by rw [beq_eq_false_iff_ne];intro h;exact Nt (UInt8.toNat_inj.1 (show c.toNat=114 by omega))
   have hal:oz c=⟨#[]⟩:=by unfold oz;rw [if_neg Ns,if_neg WZ,if_neg Nt]
   rw [hal,show lC tF ⟨#[]⟩=[] from rfl] at kE;have PR:Hid (Rd (wA.heap.size<=·) wA (dQ []) [.slice none 0 0]):=Rd.ay _ _ _;have B2:Hid (Below wA.heap.size wA wA):=jc7 _ _;clear Ns WZ Nt hal;have U2:=hid ((aY.out.below BA.out).below B2.out);have Kj:=hid ((Ki.out.below BA.out).below B2.out);have GJ:=hid (Un.out.below B2.out);have hz2:=B2.out.size;have LC:=hid (iH 900000 sQ (.slice kI kJ kK) wA.drew Jq.out.sz (by decide) (Rd.keep (w:=W0) (w':=wA.drew) (ok:=(·<S)) (fun b (hb:b<S) hlt=>⟨by show b<wA.heap.size;have:=Z0.out;omega,(show wA.heap[b]?=W0.heap[b]? from (B2.out.block b (by have:=Z0.out;omega)).trans ((BA.out.block b (by have:=Z0.out;omega)).trans (Nr.out.block b hb)))⟩) _ _ WY.out) Jq.out.sm Jq.out.tf);have S0:wA.drew.cell? ⟨Q,3,none⟩=some (.slice av m cv)/\wA.drew.cell? ⟨p,9,none⟩=some (.slice kI kJ kK):=⟨Kj.out.cell 3 _ rfl,GJ.out.cell 9 _ rfl⟩;go_upto_region 13 with (fail)
   refine q22 11 (fun w'=>w'.cell? ⟨Q,3,none⟩=some (.slice av m cv)/\w'.cell? ⟨p,9,none⟩=some (.slice kI kJ kK)) (by kernel_rfl) S0 ?_;intro hH;refine ou (i:=0) (v:=?_) rfl (by kernel_rfl) (by kernel_rfl) (by kernel_rfl) (by kernel_rfl) (fun _ _ _ h=>h) hH (Or.inl ⟨by rfl,?_⟩) ?_;rotate_left
   ·(intro wv hSw;(try dsimp only at hSw);go_simp;try with_reducible rfl)
   try simp only [Act.put,jc3,jc4,jc5]
   refine ou (i:=1) (v:=?_) rfl (by kernel_rfl) (by kernel_rfl) (by kernel_rfl) (by kernel_rfl) (fun _ _ _ h=>h) hH (Or.inl ⟨by rfl,?_⟩) ?_;rotate_left
   ·(intro wv hSw;(try dsimp only at hSw);go_simp;try with_reducible rfl)
   try simp only [Act.put,jc3,jc4,jc5]
   refine ou (i:=2) (v:=?_) rfl (by kernel_rfl) (by kernel_rfl) (by kernel_rfl) (by kernel_rfl) (fun _ _ _ h=>h) hH (Or.inl ⟨by rfl,?_⟩) ?_;rotate_left
   ·(intro wv hSw;(try dsimp only at hSw);go_simp;try with_reducible rfl)
   try simp only [Act.put,jc3,jc4,jc5]
   refine ou (i:=3) (v:=?_) rfl (by kernel_rfl) (by kernel_rfl) (by kernel_rfl) (by kernel_rfl) (fun _ _ _ h=>h) hH (Or.inl ⟨by rfl,?_⟩) ?_;rotate_left
   ·(intro wv hSw;(try dsimp only at hSw);go_simp;try with_reducible rfl)
   try simp only [Act.put,jc3,jc4,jc5]
   refine ou (i:=4) (v:=?_) rfl (by kernel_rfl) (by kernel_rfl) (by kernel_rfl) (by kernel_rfl) (fun _ _ _ h=>h) hH (Or.inl ⟨by rfl,?_⟩) ?_;rotate_left
   ·(intro wv hSw;(try dsimp only at hSw);go_simp;try with_reducible rfl)
   try simp only [Act.put,jc3,jc4,jc5]
   refine ou (i:=5) (v:=?_) rfl (by kernel_rfl) (by kernel_rfl) (by kernel_rfl) (by kernel_rfl) (fun _ _ _ h=>h) hH (Or.inl ⟨by rfl,?_⟩) ?_;rotate_left
   ·(intro wv hSw;(try dsimp only at hSw);go_simp;try with_reducible rfl)
   try simp only [Act.put,jc3,jc4,jc5]
   refine lF (i:=6) rfl (by kernel_rfl) (fun KQ hK=>?_);go_simp;go_at_call 50
   (with_reducible refine LC.out.mono ?_)
   rintro e w3 ⟨dD,v3,rfl,hrow3⟩;obtain ⟨a3,n3,c3,rfl⟩:=hrow3.slice3;have b3:Below wA.heap.size wA w3:=((jc7 _ _).drew).trans hrow3.aJ;have B3:=hid b3;have Kk:=hid (show Rd (wA.heap.size<=·) w3 (bU (fA sQ)) [.slice a3 n3 c3] from hrow3.eD);have Q3:=Kj.out.below b3;have P3:=GJ.out.below b3;have S3:w3.cell? ⟨Q,3,none⟩=some (.slice av m cv)/\w3.cell? ⟨p,9,none⟩=some (.slice kI kJ kK):=⟨Q3.cell 3 _ rfl,P3.cell 9 _ rfl⟩;have U3:=hid (U2.out.below b3);have zO:=hid Q3;have D5:=hid P3;have EC:=hid (gL name none a3 0 n3 0 c3 w3);clear hrow3 b3 Q3 P3 LC U2;refine hK.out _ _ (fun _=>S3) (fun hH2=>?_);clear hK KQ hH;have hH:=hH2 (by decide);clear hH2;try simp only [Act.put,jc3,jc4,jc5]
   refine lF (i:=7) rfl (by kernel_rfl) (fun KQ hK=>?_);go_simp;go_at_call 57
   (with_reducible refine EC.out.mono ?_)
   rintro e w4 ⟨rfl,b4⟩;have B4:=hid (aQ B3.out b4);have U4:=hid (U3.out.below b4);have Q4:=zO.out.below b4;have P4:=D5.out.below b4;have S4:w4.cell? ⟨Q,3,none⟩=some (.slice av m cv)/\w4.cell? ⟨p,9,none⟩=some (.slice kI kJ kK):=⟨Q4.cell 3 _ rfl,P4.cell 9 _ rfl⟩;have Kl:=hid Q4;have GK:=hid P4;have WL:=B4.out.size;have XD:=hid (show Rd (fun b=>False\/U<=b) w4 (aL name ([]) (fA sQ)).d [.string name,.string ⟨#[]⟩,.slice none 0 0,.slice a3 n3 c3] from Nd.fK name ⟨#[]⟩ ⟨Rd.weaken ((PR.out.aZ B3.out).aZ b4) (fun b hb=>.inr (by omega)),Rd.weaken (Kk.out.aZ b4) (fun b hb=>.inr (by omega))⟩);clear b4 Q4 P4 EC U3 Kk zO D5;refine hK.out _ _ (fun _=>S4) (fun hH2=>?_);clear hK KQ hH;have hH:=hH2 (by decide);clear hH2;try simp only [Act.put,jc3,jc4,jc5]
   refine lF (i:=8) rfl (by kernel_rfl) (fun KQ hK=>?_);go_simp;refine hK.out _ _ (fun _=>⟨past S4.1 _,past S4.2 _⟩) (fun hH2=>?_);clear hK KQ hH;have hH:=hH2 (by decide);clear hH2;try simp only [Act.put,jc3,jc4,jc5]
   refine lF (i:=9) rfl (by kernel_rfl) (fun KQ hK=>?_);refine jV rfl (.tmp 36) (.tmp 43) 34 rfl iN _ 80 Tryz.underlying34 wG jh ji jk rfl (by decide) U4.out (fun _=>False.elim) (aL name ([]) (fA sQ)).d [.string name,.string ⟨#[]⟩,.slice none 0 0,.slice a3 n3 c3] XD.out rfl fE HM.out (by omega) (by decide) rfl rfl ?_;intro a5 c5 w5 aN hg5;have Ue:w4.heap.size+1<=w5.heap.size:=by have h:=hg5.size;simp at h;exact h
   have Km:some Q≠(Value.slice av m cv).ownBlock:=fun e=>by have:=(U4.out.own.lt Q e.symm).1;have:=lK.out;omega
   have hvp:some p≠(Value.slice av m cv).ownBlock:=fun e=>by have:=U4.out.oU p e.symm;omega
   have q5:CB 43 Q [.string ⟨#[116,114]⟩,.string ⟨#[]⟩,.slice none 0 0,.slice av m cv] w5:=(hg5.block Q (by simp;omega) Km).trans ((jd2 w4 _ Q Kl.out.lt).trans Kl.out);have p5:CB 30 p [.int .i64 yk,.int .i64 Cv,.string yi,.string yt,.string yd,.string AX,.string AY.id,.slice Gr Gs Gt,.slice Gu Gv Gw,.slice kI kJ kK,.slice Gx Gy Gz] w5:=(hg5.block p (by simp;omega) hvp).trans ((jd2 w4 _ p GK.out.lt).trans GK.out);have S5:w5.cell? ⟨Q,3,none⟩=some (.slice av m cv)/\w5.cell? ⟨p,9,none⟩=some (.slice kI kJ kK):=⟨q5.cell 3 _ rfl,p5.cell 9 _ rfl⟩;have fz:=l8 q5;have e3:=q5.cell 3 _ rfl;have EN:=hid q5;have U5:=hid aN;have qK:=hid hg5;clear aN hg5 q5 p5 hvp XD;refine hK.out _ _ (fun _=>S5) (fun hH2=>?_);clear hK KQ hH;have hH:=hH2 (by decide);clear hH2;try simp only [Act.put,jc3,jc4,jc5]
   refine lF (i:=10) rfl (by kernel_rfl) (fun KQ hK=>?_);go_simp;refine hK.out _ _ (fun _=>S5) (fun hH2=>?_);clear hK KQ hH;have hH:=hH2 (by decide);clear hH2;try simp only [Act.put,jc3,jc4,jc5]
   refine lF (i:=11) rfl (by kernel_rfl) (fun KQ hK=>?_);go_simp;refine hK.out _ _ (fun h=>absurd rfl h) (fun _=>?_);clear hK KQ;refine Rk (by kernel_rfl) ?_ _;obtain ⟨w6,dh⟩:∃ w6,w6=w5.setCell ⟨Q,3,none⟩ (.slice a5 (m+1) c5):=⟨_,rfl⟩;rw [<- dh];have g6:w5.grownBy w6 (some Q):=by rw [dh];exact ⟨rfl,rfl,rfl,by simp [je1],fun b _ hb=>jd1 w5 ⟨Q,3,none⟩ _ b (fun e=>hb (by rw [e]))⟩
   have q6:CB 43 Q [.string ⟨#[116,114]⟩,.string ⟨#[]⟩,.slice none 0 0,.slice a5 (m+1) c5] w6:=by rw [dh];exact nO EN.out 3 _
   have QJ:w6.heap.size=w5.heap.size:=by rw [dh];simp [je1]
   obtain ⟨Rq,Kn,dn⟩:=U5.out.hop2 (p:=Q) (by have:=lK.out;omega) g6;have HF:Hid (yD Q w1 name letters.data.toList ks (.int .i64 ((j+1:Nat):Int)) w6):=by
    have h1:=dn.up (U':=w6.heap.size) (by omega) (jc8 _);rw [<- kE.out] at h1;refine ⟨j+1,_,_,w6.heap.size,Rq,by have:=yh.out;omega,rfl,Kn.trans lK.out,h1,q6,?_⟩;have Iu:Q<=wr.heap.size:=by omega
    refine dY.out.trans ((BA.out.mono Iu).trans ((B2.out.mono (by have:=BA.out.size;omega)).trans ((B4.out.mono (by omega)).trans ?_)));exact ((jc7 _ _).alloc (by omega) _ |>.grown qK.out (by simp;omega) (fun g hg=>by have:=(U4.out.own.lt g hg).1;have:=lK.out;omega)).trans ((jc7 Q w5).grown g6 (by omega) (fun g hg=>by have:=jd0 hg;omega))
   clear dh g6 q6 dn Kn U5 qK EN hH S0 S3 S4 S5 fz e3 Km;go_wp2;go_roundw;case rel=>exact HF.out
   case measure=>simp [intOf];omega
  ·have hkl:j=nk:=by have:=yh.out;omega
   have hjk:j=ks.length:=by have:=yh.out;omega
   have hll:letters.data.toList.length=letters.size:=by simp
   have Nu:Hid (jK (W0.heap.size<=·) wr [] (ko name letters.data.toList ks) (.slice none 0 0) (.slice av m cv)):=by have h:=aY.out.eD;rw [xA.out,List.take_of_length_le (by rw [hll];have:=Ew.out;omega),List.take_of_length_le (by omega)] at h;exact ⟨Rd.ay _ _ _,h.weaken (fun b hb=>by have:=lK.out;omega)⟩
   have BL:=hid (B1.out.trans (dY.out.mono hWQ));obtain ⟨x0,x1,x2,x3,xf⟩:=gX (K1.out.below BL.out);obtain ⟨y0,y1,y2,y3,-⟩:=UJ Ki.out;clear hll hjk;go_upto_region 15 with (fail)
   obtain ⟨w9,aS⟩:∃ w9,w9=bZ wr (S+1) (.string ⟨#[116,114]⟩) (.string ⟨#[]⟩) (.slice none 0 0) (.slice av m cv):=⟨_,rfl⟩;have hf:=lM ⟨#[116,114]⟩ ⟨#[]⟩ [] (ko name letters.data.toList ks) EM.out Z0.out B0.out K1.out BL.out Nu.out;rw [<- aS] at hf;have iy:=hid hf.1;have zM:=hid hf.2;clear hf;have hw8:=aS;simp only [bZ] at hw8;clear aS;go_wp2;rw [<- hw8];have r0:=iy.out.cell 0 _ rfl;have r1:=iy.out.cell 1 _ rfl;have r2:=iy.out.cell 2 _ rfl;have r3:=iy.out.cell 3 _ rfl;exact bodyPost_ret (v:=.agg #[.string ⟨#[116,114]⟩,.string ⟨#[]⟩,.slice none 0 0,.slice av m cv]) (by simp [results,Tryz.results201,go_sem,r0,r1,r2,r3]) rfl zM.out
end Go.Proofs.YtclikfjalmcoaaaGreatDoor

