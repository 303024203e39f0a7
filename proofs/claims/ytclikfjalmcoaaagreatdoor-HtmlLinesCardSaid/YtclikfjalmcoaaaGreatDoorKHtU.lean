/- Contract of publisherref34.one, given that of nodes at the Kids. Contract of publisherref34.nodes: the nodes of inlines; plain part: the classes of well-formed inlines are not empty. Contracts of html.unresolved and publisherref34.unresolved. -/
import Derived.Test.YtclikfjalmcoaaaGreatDoorKHrJ
set_option maxHeartbeats 8000000
set_option maxRecDepth 100000
open Go.Lib (hid)
namespace Go.Proofs.YtclikfjalmcoaaaGreatDoor
open List renaming getElem?_eq_getElem->jh0,length_map->jh7,mem_of_getElem?->jhx,nil_append->ji1,map_append->ji2
open Go.RowKit.Below renaming refl->jh1
open Nat renaming le_refl->jh2,le_trans->jh3
open Go.World renaming cell?->ji9
open Go renaming World->jk3,Value->jk5
open Go.RowKit
set_option linter.unusedVariables false
set_option linter.unusedSimpArgs false
def fK (w:jk3) (ks:List aj) (vk:jk5):Prop:=∀ W:jk3,Below w.heap.size w W->Calls Tryz.prog 53 #[vk] W (bM W (dD ks))
theorem aI.aF (ps:List Pr) (ok:Nat->Prop) (w:jk3) (hn:0<ps.length) (hm:ps.length<=1000):aI 74 2 ok (w.heap.size+1) w (ps.map Pr.d) (ps.map fun p=>[.string p.key,.string p.val]) (.slice (some ⟨w.heap.size,0,none⟩) ps.length ps.length) (w.alloc (.cells (ps.map fun p=>[Value.string p.key,.string p.val]).flatten.toArray 74)):=by
 have hs:(w.alloc (.cells (ps.map fun p=>[Value.string p.key,.string p.val]).flatten.toArray 74)).heap.size=w.heap.size+1:=World.size_alloc _ _;have hfl:(ps.map fun p=>[Value.string p.key,.string p.val]).flatten.length=ps.length*2:=by rw [iJ 2 _ (by simp),jh7]
 refine ⟨?_,?_,by simp,(jh1 _ _).alloc (jh2 _) _,?_,by omega,by omega⟩
 ·rw [jh7];refine ⟨hfl,.inr ⟨w.heap.size,ps.length,_,rfl,jh2 _,heap_alloc_new w _,jh2 _,by unfold maxLen;omega,by simp only [List.size_toArray];exact hfl,?_⟩⟩;show List.take (ps.length*2) _=_;rw [List.take_of_length_le (by simp only [List.toList_toArray];omega)]
 ·have gen:∀ l:List Pr,aP (fun b=>(ok b\/w.heap.size<=b)/\(Value.slice (some ⟨w.heap.size,0,none⟩) ps.length ps.length).ownBlock≠some b/\b<w.heap.size+1) (w.alloc (.cells (ps.map fun p=>[Value.string p.key,.string p.val]).flatten.toArray 74)) (l.map Pr.d) (l.map fun p=>[Value.string p.key,.string p.val]):=by
   intro l;induction l with
   | nil=>exact aP.none
   | cons p l ih=>exact aP.cons (Pr.fJ _ _ p) ih
  exact gen ps
 ·intro g hg;have e1:w.heap.size=g:=by simpa [Value.ownBlock] using hg
  omega
theorem qp {ok:Nat->Prop} {w:jk3} {d:D} {cs:List jk5} (h:Rd ok w d cs) (o:Obj):Rd ok (w.alloc o) d cs:=Rd.keep (fun b h1 h2=>⟨h1,Below.heap_alloc w o b h2⟩) _ _ h
theorem VE (t d ti:ByteArray) (at_:At) (ar:List ByteArray) (ci:List Ci) (ks:List aj) (vc vp va vi vk:jk5) (w:jk3) (hR:dQ (·<w.heap.size) w at_ ar ci ks vc vp va vi vk) (hs:(aj.mk (2:Int) t d ti at_ ar ci ks).small) (hl:fK w ks vk) (hcf:∀ c∈at_.cls,aT c=false) : Calls Tryz.prog 103 #[.agg #[.int .i64 2,.string t,.string d,.string ti,.string at_.id,vc,vp,va,vi,vk]] w (jB w (aj.mk (2:Int) t d ti at_ ar ci ks).nd):=by
 have E:Hid ((aj.mk 2 t d ti at_ ar ci ks).nd=zF GR):=by show _=_;rw [aj.nd];rfl
 rw [E.out];obtain ⟨ac,nc,cc,rfl⟩:=Rd.ah hR.at_.cls
 obtain ⟨ap,np,cp,rfl⟩:=Rd.ah hR.at_.aF
 obtain ⟨aa,na,ca,rfl⟩:=Rd.ah hR.args;obtain ⟨ai,ni,fI,rfl⟩:=Rd.ah hR.bg;obtain ⟨ak,nk,ck,rfl⟩:=Rd.ah hR.kids;obtain ⟨S,W0,hS,hW0,z0,k0,k1,b0⟩:=kL 51 w [.int .i64 2,.string t,.string d,.string ti,.string at_.id,.slice ac nc cc,.slice ap np cp,.slice aa na ca,.slice ai ni fI,.slice ak nk ck];have SX:=dG k0;have e0:=k0.cell 0 _ rfl;have gQ:=mK hS hl b0;have eG:=hid hs;have Gd:=hid hcf;have HR:=dQ.lM hS hR b0;have HS:=hid hS;have HW0:=hid hW0;have Z0:=hid z0;have B0:=hid b0;have K1:=hid k1;have hst:t.size<=300:=by rw [aj.small] at hs;exact hs.1
 clear hcf hR hs hl hS hW0 z0 k0 k1 b0 E;go_enter Tryz.func103,Tryz.ntmps103;go_upto_region 3 with (fail)
 rw [<- HS.out];have hk0:=HW0.out;simp only [iY] at hk0;rw [<- hk0];clear hk0;have BL:Hid (Below W0.heap.size W0 W0):=jh1 _ _;obtain ⟨w9,aO⟩:∃ w9,w9=bU W0 (S+1) (.string ⟨#[]⟩) (.string ⟨#[32]⟩) (.slice none 0 0) (.slice none 0 0):=⟨_,rfl⟩;have hf:=iZ ⟨#[]⟩ ⟨#[32]⟩ [] [] HS.out Z0.out B0.out K1.out BL.out ⟨Rd.ay _ _ _,Rd.ay _ _ _⟩;rw [<- aO] at hf;have HC:=hid hf.1;have HP:=hid hf.2;clear hf;have hw8:=aO;simp only [bU] at hw8;clear aO;obtain ⟨x0,x1,x2,x3,xf⟩:=dW (K1.out.below BL.out);go_wp2;rw [<- hw8];have r0:=HC.out.cell 0 _ rfl;have r1:=HC.out.cell 1 _ rfl;have r2:=HC.out.cell 2 _ rfl;have r3:=HC.out.cell 3 _ rfl;exact bodyPost_ret (v:=.agg #[.string ⟨#[]⟩,.string ⟨#[32]⟩,(.slice none 0 0),(.slice none 0 0)]) (by simp [results,Tryz.results103,go_sem,r0,r1,r2,r3]) rfl HP.out
theorem Nz (k:Int) (t d ti:ByteArray) (at_:At) (ar:List ByteArray) (ci:List Ci) (ks:List aj) (vc vp va vi vk:jk5) (w:jk3) (hR:dQ (·<w.heap.size) w at_ ar ci ks vc vp va vi vk) (hs:(aj.mk k t d ti at_ ar ci ks).small) (hl:fK w ks vk) (hcf:∀ c∈at_.cls,aT c=false) (hk:k≠2/\k≠3/\k≠4/\k≠5/\k≠6/\k≠7/\k≠8/\k≠9/\k≠10/\k≠11/\k≠12/\k≠16) : Calls Tryz.prog 103 #[.agg #[.int .i64 k,.string t,.string d,.string ti,.string at_.id,vc,vp,va,vi,vk]] w (jB w (aj.mk k t d ti at_ ar ci ks).nd):=by
 have E:Hid ((aj.mk k t d ti at_ ar ci ks).nd=zF t):=by show _=_;rw [aj.nd];obtain ⟨h2,h3,h4,h5,h6,h7,h8,h9,h10,h11,h12,h16⟩:=hk;rw [if_neg h2,if_neg h3,if_neg h4,if_neg h5,if_neg h6,if_neg h7,if_neg h8,if_neg h9,if_neg h10,if_neg h11,if_neg h12,if_neg h16]
 rw [E.out];obtain ⟨ac,nc,cc,rfl⟩:=Rd.ah hR.at_.cls
 obtain ⟨ap,np,cp,rfl⟩:=Rd.ah hR.at_.aF
 obtain ⟨aa,na,ca,rfl⟩:=Rd.ah hR.args;obtain ⟨ai,ni,fI,rfl⟩:=Rd.ah hR.bg;obtain ⟨ak,nk,ck,rfl⟩:=Rd.ah hR.kids;obtain ⟨S,W0,hS,hW0,z0,k0,k1,b0⟩:=kL 51 w [.int .i64 k,.string t,.string d,.string ti,.string at_.id,.slice ac nc cc,.slice ap np cp,.slice aa na ca,.slice ai ni fI,.slice ak nk ck];have SX:=dG k0;have e0:=k0.cell 0 _ rfl;have gQ:=mK hS hl b0;have eG:=hid hs;have Gd:=hid hcf;have HR:=dQ.lM hS hR b0;have HS:=hid hS;have HW0:=hid hW0;have Z0:=hid z0;have B0:=hid b0;have K1:=hid k1;have hst:t.size<=300:=by rw [aj.small] at hs;exact hs.1
 have q2:(k==2)=false:=by rw [beq_eq_false_iff_ne];exact hk.1
 have q3:(k==3)=false:=by rw [beq_eq_false_iff_ne];exact hk.2.1
 have q4:(k==4)=false:=by rw [beq_eq_false_iff_ne];exact hk.2.2.1
 have q5:(k==5)=false:=by rw [beq_eq_false_iff_ne];exact hk.2.2.2.1
 have q6:(k==6)=false:=by rw [beq_eq_false_iff_ne];exact hk.2.2.2.2.1
 have q7:(k==7)=false:=by rw [beq_eq_false_iff_ne];exact hk.2.2.2.2.2.1
 have q8:(k==8)=false:=by rw [beq_eq_false_iff_ne];exact hk.2.2.2.2.2.2.1
 have q9:(k==9)=false:=by rw [beq_eq_false_iff_ne];exact hk.2.2.2.2.2.2.2.1
 have q10:(k==10)=false:=by rw [beq_eq_false_iff_ne];exact hk.2.2.2.2.2.2.2.2.1
 have q11:(k==11)=false:=by rw [beq_eq_false_iff_ne];exact hk.2.2.2.2.2.2.2.2.2.1
 have q12:(k==12)=false:=by rw [beq_eq_false_iff_ne];exact hk.2.2.2.2.2.2.2.2.2.2.1
 have q16:(k==16)=false:=by rw [beq_eq_false_iff_ne];exact hk.2.2.2.2.2.2.2.2.2.2.2
 clear hk;clear hcf hR hs hl hS hW0 z0 k0 k1 b0 E;go_enter Tryz.func103,Tryz.ntmps103;go_upto_region 28 with (fail)
 rw [<- HS.out];have hk0:=HW0.out;simp only [iY] at hk0;rw [<- hk0];clear hk0;have BL:Hid (Below W0.heap.size W0 W0):=jh1 _ _;have g1:=(SX.out W0 (jh1 _ _)).1;obtain ⟨w9,aO⟩:∃ w9,w9=bU W0 (S+1) (.string ⟨#[]⟩) (.string t) (.slice none 0 0) (.slice none 0 0):=⟨_,rfl⟩;have hf:=iZ ⟨#[]⟩ t [] [] HS.out Z0.out B0.out K1.out BL.out ⟨Rd.ay _ _ _,Rd.ay _ _ _⟩;rw [<- aO] at hf;have HC:=hid hf.1;have HP:=hid hf.2;clear hf;have hw8:=aO;simp only [bU] at hw8;clear aO;obtain ⟨x0,x1,x2,x3,xf⟩:=dW (K1.out.below BL.out);go_wp2;rw [<- hw8];have r0:=HC.out.cell 0 _ rfl;have r1:=HC.out.cell 1 _ rfl;have r2:=HC.out.cell 2 _ rfl;have r3:=HC.out.cell 3 _ rfl;exact bodyPost_ret (v:=.agg #[.string ⟨#[]⟩,.string t,(.slice none 0 0),(.slice none 0 0)]) (by simp [results,Tryz.results103,go_sem,r0,r1,r2,r3]) rfl HP.out
theorem VF (t d ti:ByteArray) (at_:At) (ar:List ByteArray) (ci:List Ci) (ks:List aj) (vc vp va vi vk:jk5) (w:jk3) (hR:dQ (·<w.heap.size) w at_ ar ci ks vc vp va vi vk) (hs:(aj.mk (3:Int) t d ti at_ ar ci ks).small) (hl:fK w ks vk) (hcf:∀ c∈at_.cls,aT c=false) : Calls Tryz.prog 103 #[.agg #[.int .i64 3,.string t,.string d,.string ti,.string at_.id,vc,vp,va,vi,vk]] w (jB w (aj.mk (3:Int) t d ti at_ ar ci ks).nd):=by
 have E:Hid ((aj.mk 3 t d ti at_ ar ci ks).nd=aN nBr [] []):=by show _=_;rw [aj.nd];rfl
 rw [E.out];obtain ⟨ac,nc,cc,rfl⟩:=Rd.ah hR.at_.cls
 obtain ⟨ap,np,cp,rfl⟩:=Rd.ah hR.at_.aF
 obtain ⟨aa,na,ca,rfl⟩:=Rd.ah hR.args;obtain ⟨ai,ni,fI,rfl⟩:=Rd.ah hR.bg;obtain ⟨ak,nk,ck,rfl⟩:=Rd.ah hR.kids;obtain ⟨S,W0,hS,hW0,z0,k0,k1,b0⟩:=kL 51 w [.int .i64 3,.string t,.string d,.string ti,.string at_.id,.slice ac nc cc,.slice ap np cp,.slice aa na ca,.slice ai ni fI,.slice ak nk ck];have SX:=dG k0;have e0:=k0.cell 0 _ rfl;have gQ:=mK hS hl b0;have eG:=hid hs;have Gd:=hid hcf;have HR:=dQ.lM hS hR b0;have HS:=hid hS;have HW0:=hid hW0;have Z0:=hid z0;have B0:=hid b0;have K1:=hid k1;have hst:t.size<=300:=by rw [aj.small] at hs;exact hs.1
 clear hcf hR hs hl hS hW0 z0 k0 k1 b0 E;go_enter Tryz.func103,Tryz.ntmps103;go_upto_region 5 with (fail)
 rw [<- HS.out];have hk0:=HW0.out;simp only [iY] at hk0;rw [<- hk0];clear hk0;have EC:=hid (KR ⟨#[98,114]⟩ none none 0 0 0 0 W0);have B4:Hid (Below W0.heap.size W0 W0):=jh1 _ _;go_wp2_with fail
 (with_reducible refine EC.out.mono ?_)
 rintro e w5 ⟨rfl,b5⟩;have BL:=hid (aM B4.out b5);clear b5;obtain ⟨w9,aO⟩:∃ w9,w9=bU w5 (S+1) (.string ⟨#[98,114]⟩) (.string ⟨#[]⟩) (.slice none 0 0) (.slice none 0 0):=⟨_,rfl⟩;have hf:=iZ ⟨#[98,114]⟩ ⟨#[]⟩ [] [] HS.out Z0.out B0.out K1.out BL.out ⟨Rd.ay _ _ _,Rd.ay _ _ _⟩;rw [<- aO] at hf;have HC:=hid hf.1;have HP:=hid hf.2;clear hf;have hw8:=aO;simp only [bU] at hw8;clear aO;obtain ⟨x0,x1,x2,x3,xf⟩:=dW (K1.out.below BL.out);go_wp2;rw [<- hw8];have r0:=HC.out.cell 0 _ rfl;have r1:=HC.out.cell 1 _ rfl;have r2:=HC.out.cell 2 _ rfl;have r3:=HC.out.cell 3 _ rfl;exact bodyPost_ret (v:=.agg #[.string ⟨#[98,114]⟩,.string ⟨#[]⟩,(.slice none 0 0),(.slice none 0 0)]) (by simp [results,Tryz.results103,go_sem,r0,r1,r2,r3]) rfl HP.out
theorem VG (t d ti:ByteArray) (at_:At) (ar:List ByteArray) (ci:List Ci) (ks:List aj) (vc vp va vi vk:jk5) (w:jk3) (hR:dQ (·<w.heap.size) w at_ ar ci ks vc vp va vi vk) (hs:(aj.mk (4:Int) t d ti at_ ar ci ks).small) (hl:fK w ks vk) (hcf:∀ c∈at_.cls,aT c=false) : Calls Tryz.prog 103 #[.agg #[.int .i64 4,.string t,.string d,.string ti,.string at_.id,vc,vp,va,vi,vk]] w (jB w (aj.mk (4:Int) t d ti at_ ar ci ks).nd):=by
 have E:Hid ((aj.mk 4 t d ti at_ ar ci ks).nd=aN iT [] (bI t)):=by show _=_;rw [aj.nd];rfl
 rw [E.out];obtain ⟨ac,nc,cc,rfl⟩:=Rd.ah hR.at_.cls
 obtain ⟨ap,np,cp,rfl⟩:=Rd.ah hR.at_.aF
 obtain ⟨aa,na,ca,rfl⟩:=Rd.ah hR.args;obtain ⟨ai,ni,fI,rfl⟩:=Rd.ah hR.bg;obtain ⟨ak,nk,ck,rfl⟩:=Rd.ah hR.kids;obtain ⟨S,W0,hS,hW0,z0,k0,k1,b0⟩:=kL 51 w [.int .i64 4,.string t,.string d,.string ti,.string at_.id,.slice ac nc cc,.slice ap np cp,.slice aa na ca,.slice ai ni fI,.slice ak nk ck];have SX:=dG k0;have e0:=k0.cell 0 _ rfl;have gQ:=mK hS hl b0;have eG:=hid hs;have Gd:=hid hcf;have HR:=dQ.lM hS hR b0;have HS:=hid hS;have HW0:=hid hW0;have Z0:=hid z0;have B0:=hid b0;have K1:=hid k1;have hst:t.size<=300:=by rw [aj.small] at hs;exact hs.1
 clear hcf hR hs hl hS hW0 z0 k0 k1 b0 E;go_enter Tryz.func103,Tryz.ntmps103;go_upto_region 7 with (fail)
 rw [<- HS.out];have hk0:=HW0.out;simp only [iY] at hk0;rw [<- hk0];clear hk0;have DC:=hid (iq t W0);have g1:=(SX.out W0 (jh1 _ _)).1;go_wp2_with fail
 (with_reducible refine DC.out.mono ?_)
 rintro e w4 ⟨bK,v4,rfl,hrow4⟩;obtain ⟨a4,n4,c4,rfl⟩:=hrow4.slice3;have b4:=hrow4.aL;have B4:=hid (aM (jh1 W0.heap.size W0) b4);have dw:=hid (show Rd (W0.heap.size<=·) w4 (bS (bI t)) [.slice a4 n4 c4] from hrow4.cu.weaken (fun b hb=>jh3 ((jh1 W0.heap.size W0)).size hb));have EC:=hid (KR ⟨#[99,111,100,101]⟩ none a4 0 n4 0 c4 w4);clear b4 hrow4 DC g1;go_wp2_with fail
 (with_reducible refine EC.out.mono ?_)
 rintro e w5 ⟨rfl,b5⟩;have BL:=hid (aM B4.out b5);have HN:=hid (show gP (W0.heap.size<=·) w5 [] (bI t) (.slice none 0 0) (.slice a4 n4 c4) from ⟨Rd.ay _ _ _,dw.out.aW b5⟩);clear b5 dw EC;obtain ⟨w9,aO⟩:∃ w9,w9=bU w5 (S+1) (.string ⟨#[99,111,100,101]⟩) (.string ⟨#[]⟩) (.slice none 0 0) (.slice a4 n4 c4):=⟨_,rfl⟩;have hf:=iZ ⟨#[99,111,100,101]⟩ ⟨#[]⟩ [] (bI t) HS.out Z0.out B0.out K1.out BL.out HN.out;rw [<- aO] at hf;have HC:=hid hf.1;have HP:=hid hf.2;clear hf;have hw8:=aO;simp only [bU] at hw8;clear aO;obtain ⟨x0,x1,x2,x3,xf⟩:=dW (K1.out.below BL.out);go_wp2;rw [<- hw8];have r0:=HC.out.cell 0 _ rfl;have r1:=HC.out.cell 1 _ rfl;have r2:=HC.out.cell 2 _ rfl;have r3:=HC.out.cell 3 _ rfl;exact bodyPost_ret (v:=.agg #[.string ⟨#[99,111,100,101]⟩,.string ⟨#[]⟩,(.slice none 0 0),(.slice a4 n4 c4)]) (by simp [results,Tryz.results103,go_sem,r0,r1,r2,r3]) rfl HP.out
theorem VH (t d ti:ByteArray) (at_:At) (ar:List ByteArray) (ci:List Ci) (ks:List aj) (vc vp va vi vk:jk5) (w:jk3) (hR:dQ (·<w.heap.size) w at_ ar ci ks vc vp va vi vk) (hs:(aj.mk (6:Int) t d ti at_ ar ci ks).small) (hl:fK w ks vk) (hcf:∀ c∈at_.cls,aT c=false) : Calls Tryz.prog 103 #[.agg #[.int .i64 6,.string t,.string d,.string ti,.string at_.id,vc,vp,va,vi,vk]] w (jB w (aj.mk (6:Int) t d ti at_ ar ci ks).nd):=by
 have E:Hid ((aj.mk 6 t d ti at_ ar ci ks).nd=aN nEm [] (dD ks)):=by show _=_;rw [aj.nd];rfl
 rw [E.out];obtain ⟨ac,nc,cc,rfl⟩:=Rd.ah hR.at_.cls
 obtain ⟨ap,np,cp,rfl⟩:=Rd.ah hR.at_.aF
 obtain ⟨aa,na,ca,rfl⟩:=Rd.ah hR.args;obtain ⟨ai,ni,fI,rfl⟩:=Rd.ah hR.bg;obtain ⟨ak,nk,ck,rfl⟩:=Rd.ah hR.kids;obtain ⟨S,W0,hS,hW0,z0,k0,k1,b0⟩:=kL 51 w [.int .i64 6,.string t,.string d,.string ti,.string at_.id,.slice ac nc cc,.slice ap np cp,.slice aa na ca,.slice ai ni fI,.slice ak nk ck];have SX:=dG k0;have e0:=k0.cell 0 _ rfl;have gQ:=mK hS hl b0;have eG:=hid hs;have Gd:=hid hcf;have HR:=dQ.lM hS hR b0;have HS:=hid hS;have HW0:=hid hW0;have Z0:=hid z0;have B0:=hid b0;have K1:=hid k1;have hst:t.size<=300:=by rw [aj.small] at hs;exact hs.1
 clear hcf hR hs hl hS hW0 z0 k0 k1 b0 E;go_enter Tryz.func103,Tryz.ntmps103;go_upto_region 11 with (fail)
 rw [<- HS.out];have hk0:=HW0.out;simp only [iY] at hk0;rw [<- hk0];clear hk0;have LC:=hid (gQ.out W0 (jh1 _ _));have g9:=(SX.out W0 (jh1 _ _)).2.2.2.2.2.2;go_wp2_with fail
 (with_reducible refine LC.out.mono ?_)
 rintro e w4 ⟨bK,v4,rfl,hrow4⟩;obtain ⟨a4,n4,c4,rfl⟩:=hrow4.slice3;have b4:=hrow4.aL;have B4:=hid b4;have dw:=hid (show Rd (W0.heap.size<=·) w4 (bS (dD ks)) [.slice a4 n4 c4] from hrow4.cu);have EC:=hid (KR ⟨#[101,109]⟩ none a4 0 n4 0 c4 w4);clear b4 hrow4 LC g9;go_wp2_with fail
 (with_reducible refine EC.out.mono ?_)
 rintro e w5 ⟨rfl,b5⟩;have BL:=hid (aM B4.out b5);have HN:=hid (show gP (W0.heap.size<=·) w5 [] (dD ks) (.slice none 0 0) (.slice a4 n4 c4) from ⟨Rd.ay _ _ _,dw.out.aW b5⟩);clear b5 dw EC;obtain ⟨w9,aO⟩:∃ w9,w9=bU w5 (S+1) (.string ⟨#[101,109]⟩) (.string ⟨#[]⟩) (.slice none 0 0) (.slice a4 n4 c4):=⟨_,rfl⟩;have hf:=iZ ⟨#[101,109]⟩ ⟨#[]⟩ [] (dD ks) HS.out Z0.out B0.out K1.out BL.out HN.out;rw [<- aO] at hf;have HC:=hid hf.1;have HP:=hid hf.2;clear hf;have hw8:=aO;simp only [bU] at hw8;clear aO;obtain ⟨x0,x1,x2,x3,xf⟩:=dW (K1.out.below BL.out);go_wp2;rw [<- hw8];have r0:=HC.out.cell 0 _ rfl;have r1:=HC.out.cell 1 _ rfl;have r2:=HC.out.cell 2 _ rfl;have r3:=HC.out.cell 3 _ rfl;exact bodyPost_ret (v:=.agg #[.string ⟨#[101,109]⟩,.string ⟨#[]⟩,(.slice none 0 0),(.slice a4 n4 c4)]) (by simp [results,Tryz.results103,go_sem,r0,r1,r2,r3]) rfl HP.out
theorem VI (t d ti:ByteArray) (at_:At) (ar:List ByteArray) (ci:List Ci) (ks:List aj) (vc vp va vi vk:jk5) (w:jk3) (hR:dQ (·<w.heap.size) w at_ ar ci ks vc vp va vi vk) (hs:(aj.mk (7:Int) t d ti at_ ar ci ks).small) (hl:fK w ks vk) (hcf:∀ c∈at_.cls,aT c=false) : Calls Tryz.prog 103 #[.agg #[.int .i64 7,.string t,.string d,.string ti,.string at_.id,vc,vp,va,vi,vk]] w (jB w (aj.mk (7:Int) t d ti at_ ar ci ks).nd):=by
 have E:Hid ((aj.mk 7 t d ti at_ ar ci ks).nd=aN Co [] (dD ks)):=by show _=_;rw [aj.nd];rfl
 rw [E.out];obtain ⟨ac,nc,cc,rfl⟩:=Rd.ah hR.at_.cls
 obtain ⟨ap,np,cp,rfl⟩:=Rd.ah hR.at_.aF
 obtain ⟨aa,na,ca,rfl⟩:=Rd.ah hR.args;obtain ⟨ai,ni,fI,rfl⟩:=Rd.ah hR.bg;obtain ⟨ak,nk,ck,rfl⟩:=Rd.ah hR.kids;obtain ⟨S,W0,hS,hW0,z0,k0,k1,b0⟩:=kL 51 w [.int .i64 7,.string t,.string d,.string ti,.string at_.id,.slice ac nc cc,.slice ap np cp,.slice aa na ca,.slice ai ni fI,.slice ak nk ck];have SX:=dG k0;have e0:=k0.cell 0 _ rfl;have gQ:=mK hS hl b0;have eG:=hid hs;have Gd:=hid hcf;have HR:=dQ.lM hS hR b0;have HS:=hid hS;have HW0:=hid hW0;have Z0:=hid z0;have B0:=hid b0;have K1:=hid k1;have hst:t.size<=300:=by rw [aj.small] at hs;exact hs.1
 clear hcf hR hs hl hS hW0 z0 k0 k1 b0 E;go_enter Tryz.func103,Tryz.ntmps103;go_upto_region 13 with (fail)
 rw [<- HS.out];have hk0:=HW0.out;simp only [iY] at hk0;rw [<- hk0];clear hk0;have LC:=hid (gQ.out W0 (jh1 _ _));have g9:=(SX.out W0 (jh1 _ _)).2.2.2.2.2.2;go_wp2_with fail
 (with_reducible refine LC.out.mono ?_)
 rintro e w4 ⟨bK,v4,rfl,hrow4⟩;obtain ⟨a4,n4,c4,rfl⟩:=hrow4.slice3;have b4:=hrow4.aL;have B4:=hid b4;have dw:=hid (show Rd (W0.heap.size<=·) w4 (bS (dD ks)) [.slice a4 n4 c4] from hrow4.cu);have EC:=hid (KR ⟨#[115,116,114,111,110,103]⟩ none a4 0 n4 0 c4 w4);clear b4 hrow4 LC g9;go_wp2_with fail
 (with_reducible refine EC.out.mono ?_)
 rintro e w5 ⟨rfl,b5⟩;have BL:=hid (aM B4.out b5);have HN:=hid (show gP (W0.heap.size<=·) w5 [] (dD ks) (.slice none 0 0) (.slice a4 n4 c4) from ⟨Rd.ay _ _ _,dw.out.aW b5⟩);clear b5 dw EC;obtain ⟨w9,aO⟩:∃ w9,w9=bU w5 (S+1) (.string ⟨#[115,116,114,111,110,103]⟩) (.string ⟨#[]⟩) (.slice none 0 0) (.slice a4 n4 c4):=⟨_,rfl⟩;have hf:=iZ ⟨#[115,116,114,111,110,103]⟩ ⟨#[]⟩ [] (dD ks) HS.out Z0.out B0.out K1.out BL.out HN.out;rw [<- aO] at hf;have HC:=hid hf.1;have HP:=hid hf.2;clear hf;have hw8:=aO;simp only [bU] at hw8;clear aO;obtain ⟨x0,x1,x2,x3,xf⟩:=dW (K1.out.below BL.out);go_wp2;rw [<- hw8];have r0:=HC.out.cell 0 _ rfl;have r1:=HC.out.cell 1 _ rfl;have r2:=HC.out.cell 2 _ rfl;have r3:=HC.out.cell 3 _ rfl;exact bodyPost_ret (v:=.agg #[.string ⟨#[115,116,114,111,110,103]⟩,.string ⟨#[]⟩,(.slice none 0 0),(.slice a4 n4 c4)]) (by simp [results,Tryz.results103,go_sem,r0,r1,r2,r3]) rfl HP.out
theorem VJ (t d ti:ByteArray) (at_:At) (ar:List ByteArray) (ci:List Ci) (ks:List aj) (vc vp va vi vk:jk5) (w:jk3) (hR:dQ (·<w.heap.size) w at_ ar ci ks vc vp va vi vk) (hs:(aj.mk (8:Int) t d ti at_ ar ci ks).small) (hl:fK w ks vk) (hcf:∀ c∈at_.cls,aT c=false) : Calls Tryz.prog 103 #[.agg #[.int .i64 8,.string t,.string d,.string ti,.string at_.id,vc,vp,va,vi,vk]] w (jB w (aj.mk (8:Int) t d ti at_ ar ci ks).nd):=by
 have E:Hid ((aj.mk 8 t d ti at_ ar ci ks).nd=aN nS [] (dD ks)):=by show _=_;rw [aj.nd];rfl
 rw [E.out];obtain ⟨ac,nc,cc,rfl⟩:=Rd.ah hR.at_.cls
 obtain ⟨ap,np,cp,rfl⟩:=Rd.ah hR.at_.aF
 obtain ⟨aa,na,ca,rfl⟩:=Rd.ah hR.args;obtain ⟨ai,ni,fI,rfl⟩:=Rd.ah hR.bg;obtain ⟨ak,nk,ck,rfl⟩:=Rd.ah hR.kids;obtain ⟨S,W0,hS,hW0,z0,k0,k1,b0⟩:=kL 51 w [.int .i64 8,.string t,.string d,.string ti,.string at_.id,.slice ac nc cc,.slice ap np cp,.slice aa na ca,.slice ai ni fI,.slice ak nk ck];have SX:=dG k0;have e0:=k0.cell 0 _ rfl;have gQ:=mK hS hl b0;have eG:=hid hs;have Gd:=hid hcf;have HR:=dQ.lM hS hR b0;have HS:=hid hS;have HW0:=hid hW0;have Z0:=hid z0;have B0:=hid b0;have K1:=hid k1;have hst:t.size<=300:=by rw [aj.small] at hs;exact hs.1
 clear hcf hR hs hl hS hW0 z0 k0 k1 b0 E;go_enter Tryz.func103,Tryz.ntmps103;go_upto_region 15 with (fail)
 rw [<- HS.out];have hk0:=HW0.out;simp only [iY] at hk0;rw [<- hk0];clear hk0;have LC:=hid (gQ.out W0 (jh1 _ _));have g9:=(SX.out W0 (jh1 _ _)).2.2.2.2.2.2;go_wp2_with fail
 (with_reducible refine LC.out.mono ?_)
 rintro e w4 ⟨bK,v4,rfl,hrow4⟩;obtain ⟨a4,n4,c4,rfl⟩:=hrow4.slice3;have b4:=hrow4.aL;have B4:=hid b4;have dw:=hid (show Rd (W0.heap.size<=·) w4 (bS (dD ks)) [.slice a4 n4 c4] from hrow4.cu);have EC:=hid (KR ⟨#[115]⟩ none a4 0 n4 0 c4 w4);clear b4 hrow4 LC g9;go_wp2_with fail
 (with_reducible refine EC.out.mono ?_)
 rintro e w5 ⟨rfl,b5⟩;have BL:=hid (aM B4.out b5);have HN:=hid (show gP (W0.heap.size<=·) w5 [] (dD ks) (.slice none 0 0) (.slice a4 n4 c4) from ⟨Rd.ay _ _ _,dw.out.aW b5⟩);clear b5 dw EC;obtain ⟨w9,aO⟩:∃ w9,w9=bU w5 (S+1) (.string ⟨#[115]⟩) (.string ⟨#[]⟩) (.slice none 0 0) (.slice a4 n4 c4):=⟨_,rfl⟩;have hf:=iZ ⟨#[115]⟩ ⟨#[]⟩ [] (dD ks) HS.out Z0.out B0.out K1.out BL.out HN.out;rw [<- aO] at hf;have HC:=hid hf.1;have HP:=hid hf.2;clear hf;have hw8:=aO;simp only [bU] at hw8;clear aO;obtain ⟨x0,x1,x2,x3,xf⟩:=dW (K1.out.below BL.out);go_wp2;rw [<- hw8];have r0:=HC.out.cell 0 _ rfl;have r1:=HC.out.cell 1 _ rfl;have r2:=HC.out.cell 2 _ rfl;have r3:=HC.out.cell 3 _ rfl;exact bodyPost_ret (v:=.agg #[.string ⟨#[115]⟩,.string ⟨#[]⟩,(.slice none 0 0),(.slice a4 n4 c4)]) (by simp [results,Tryz.results103,go_sem,r0,r1,r2,r3]) rfl HP.out
theorem VK (t d ti:ByteArray) (at_:At) (ar:List ByteArray) (ci:List Ci) (ks:List aj) (vc vp va vi vk:jk5) (w:jk3) (hR:dQ (·<w.heap.size) w at_ ar ci ks vc vp va vi vk) (hs:(aj.mk (5:Int) t d ti at_ ar ci ks).small) (hl:fK w ks vk) (hcf:∀ c∈at_.cls,aT c=false) : Calls Tryz.prog 103 #[.agg #[.int .i64 5,.string t,.string d,.string ti,.string at_.id,vc,vp,va,vi,vk]] w (jB w (aj.mk (5:Int) t d ti at_ ar ci ks).nd):=by
 have E:Hid ((aj.mk 5 t d ti at_ ar ci ks).nd=aN Am [⟨dh,ku⟩] (bI t)):=by show _=_;rw [aj.nd];rfl
 rw [E.out];obtain ⟨ac,nc,cc,rfl⟩:=Rd.ah hR.at_.cls
 obtain ⟨ap,np,cp,rfl⟩:=Rd.ah hR.at_.aF
 obtain ⟨aa,na,ca,rfl⟩:=Rd.ah hR.args;obtain ⟨ai,ni,fI,rfl⟩:=Rd.ah hR.bg;obtain ⟨ak,nk,ck,rfl⟩:=Rd.ah hR.kids;obtain ⟨S,W0,hS,hW0,z0,k0,k1,b0⟩:=kL 51 w [.int .i64 5,.string t,.string d,.string ti,.string at_.id,.slice ac nc cc,.slice ap np cp,.slice aa na ca,.slice ai ni fI,.slice ak nk ck];have SX:=dG k0;have e0:=k0.cell 0 _ rfl;have gQ:=mK hS hl b0;have eG:=hid hs;have Gd:=hid hcf;have HR:=dQ.lM hS hR b0;have HS:=hid hS;have HW0:=hid hW0;have Z0:=hid z0;have B0:=hid b0;have K1:=hid k1;have hst:t.size<=300:=by rw [aj.small] at hs;exact hs.1
 clear hcf hR hs hl hS hW0 z0 k0 k1 b0 E;go_enter Tryz.func103,Tryz.ntmps103;go_upto_region 9 with (fail)
 rw [<- HS.out];have hk0:=HW0.out;simp only [iY] at hk0;rw [<- hk0];clear hk0;have PC:Hid (Calls Tryz.prog 64 #[.string ⟨#[99,108,97,115,115]⟩,.string ⟨#[109,97,116,104]⟩] W0.drew (aR W0.drew [⟨dh,ku⟩])):=jy dh ku W0.drew;have S0:=((SX.out W0.drew (jh1 _ _).drew).1:ji9 (W0.drew) ⟨S,1,none⟩=some (.string t));have Qx:Hid (∀ W:jk3,Calls Tryz.prog 117 #[.string t] W (bM W (bI t))):=fun W=>iq t W
 go_wp2_with fail
 go_region_held3 (fun w'=>w'.cell? ⟨S,1,none⟩=some (.string t))
  (with_reducible assumption)
  (first
   | (go_simp;go_at_call 64;(with_reducible refine PC.out.mono ?_);rintro e w2 ⟨bq,v2,rfl,hrow2⟩;obtain ⟨a2,c2,rfl,-,-⟩:=hrow2.cap (n:=1) rfl;have B2:=hid (((jh1 W0.heap.size W0).drew).trans hrow2.aL);have uW:Hid (Rd (W0.heap.size<=·) w2 (cZ [⟨dh,ku⟩]) [.slice a2 1 c2]):=hrow2.cu;have S2:=((SX.out w2 B2.out).1:ji9 (w2) ⟨S,1,none⟩=some (.string t));have DC:=hid (Qx.out w2))
   | (go_simp;go_at_call 117;(with_reducible refine DC.out.mono ?_);rintro e w4 ⟨bK,v4,rfl,hrow4⟩;obtain ⟨a4,n4,c4,rfl⟩:=hrow4.slice3;have b4:=hrow4.aL;have B4:=hid (aM B2.out b4);have dw:=hid (show Rd (W0.heap.size<=·) w4 (bS (bI t)) [.slice a4 n4 c4] from hrow4.cu.weaken (fun b hb=>jh3 (B2.out).size hb));have jR:=hid (uW.out.aW b4);have S4:=((SX.out w4 B4.out).1:ji9 (w4) ⟨S,1,none⟩=some (.string t));have EC:=hid (KR ⟨#[115,112,97,110]⟩ a2 a4 1 n4 c2 c4 w4))
   | (go_simp;go_at_call 63;(with_reducible refine EC.out.mono ?_);rintro e w5 ⟨rfl,b5⟩;have BL:=hid (aM B4.out b5);obtain ⟨x0,x1,x2,x3,xf⟩:=dW (K1.out.below BL.out);have HN:=hid (show gP (W0.heap.size<=·) w5 [⟨dh,ku⟩] (bI t) (.slice a2 1 c2) (.slice a4 n4 c4) from ⟨jR.out.aW b5,dw.out.aW b5⟩);have S5:=((SX.out w5 BL.out).1:ji9 (w5) ⟨S,1,none⟩=some (.string t));have S6:=(show ji9 ((((w5.setCell ⟨S+1,0,none⟩ (.string ⟨#[115,112,97,110]⟩)).setCell ⟨S+1,1,none⟩ (.string ⟨#[]⟩)).setCell ⟨S+1,2,none⟩ (.slice a2 1 c2)).setCell ⟨S+1,3,none⟩ (.slice a4 n4 c4)) ⟨S,1,none⟩=some (.string t) from mY (SX.out w5 BL.out).1 (by omega))))
 all_goals
  clear S0 S2 S4 S5 S6 hrow2 hrow4 b4 b5 EC;obtain ⟨w9,aO⟩:∃ w9,w9=bU w5 (S+1) (.string ⟨#[115,112,97,110]⟩) (.string ⟨#[]⟩) (.slice a2 1 c2) (.slice a4 n4 c4):=⟨_,rfl⟩;have hf:=iZ ⟨#[115,112,97,110]⟩ ⟨#[]⟩ [⟨dh,ku⟩] (bI t) HS.out Z0.out B0.out K1.out BL.out HN.out;rw [<- aO] at hf;have HC:=hid hf.1;have HP:=hid hf.2;clear hf;have hw8:=aO;simp only [bU] at hw8;clear aO;obtain ⟨x0,x1,x2,x3,xf⟩:=dW (K1.out.below BL.out);go_wp2;rw [<- hw8];have r0:=HC.out.cell 0 _ rfl;have r1:=HC.out.cell 1 _ rfl;have r2:=HC.out.cell 2 _ rfl;have r3:=HC.out.cell 3 _ rfl;exact bodyPost_ret (v:=.agg #[.string ⟨#[115,112,97,110]⟩,.string ⟨#[]⟩,(.slice a2 1 c2),(.slice a4 n4 c4)]) (by simp [results,Tryz.results103,go_sem,r0,r1,r2,r3]) rfl HP.out
theorem QT (t d ti:ByteArray) (at_:At) (ar:List ByteArray) (ci:List Ci) (ks:List aj) (vc vp va vi vk:jk5) (w:jk3) (hR:dQ (·<w.heap.size) w at_ ar ci ks vc vp va vi vk) (hs:(aj.mk (16:Int) t d ti at_ ar ci ks).small) (hl:fK w ks vk) (hcf:∀ c∈at_.cls,aT c=false) : Calls Tryz.prog 103 #[.agg #[.int .i64 16,.string t,.string d,.string ti,.string at_.id,vc,vp,va,vi,vk]] w (jB w (aj.mk (16:Int) t d ti at_ ar ci ks).nd):=by
 have E:Hid ((aj.mk 16 t d ti at_ ar ci ks).nd=aN nA [⟨jf,d⟩] (bI d)):=by show _=_;rw [aj.nd];rfl
 rw [E.out];obtain ⟨ac,nc,cc,rfl⟩:=Rd.ah hR.at_.cls
 obtain ⟨ap,np,cp,rfl⟩:=Rd.ah hR.at_.aF
 obtain ⟨aa,na,ca,rfl⟩:=Rd.ah hR.args;obtain ⟨ai,ni,fI,rfl⟩:=Rd.ah hR.bg;obtain ⟨ak,nk,ck,rfl⟩:=Rd.ah hR.kids;obtain ⟨S,W0,hS,hW0,z0,k0,k1,b0⟩:=kL 51 w [.int .i64 16,.string t,.string d,.string ti,.string at_.id,.slice ac nc cc,.slice ap np cp,.slice aa na ca,.slice ai ni fI,.slice ak nk ck];have SX:=dG k0;have e0:=k0.cell 0 _ rfl;have gQ:=mK hS hl b0;have eG:=hid hs;have Gd:=hid hcf;have HR:=dQ.lM hS hR b0;have HS:=hid hS;have HW0:=hid hW0;have Z0:=hid z0;have B0:=hid b0;have K1:=hid k1;have hst:t.size<=300:=by rw [aj.small] at hs;exact hs.1
 clear hcf hR hs hl hS hW0 z0 k0 k1 b0 E;go_enter Tryz.func103,Tryz.ntmps103;go_upto_region 27 with (fail)
 rw [<- HS.out];have hk0:=HW0.out;simp only [iY] at hk0;rw [<- hk0];clear hk0;obtain ⟨wL,Tw⟩:∃ wL,wL=(W0.alloc (.cells #[.string ⟨#[104,114,101,102]⟩,.string d] 74)).drew:=⟨_,rfl⟩;have dY:=hid (P6 W0 (.cells #[.string ⟨#[104,114,101,102]⟩,.string d] 74));have Xd:=hid (show Rd (W0.heap.size<=·) (W0.alloc (.cells #[.string ⟨#[104,114,101,102]⟩,.string d] 74)).drew (cZ [⟨jf,d⟩]) [.slice (some ⟨W0.heap.size,0,none⟩) 1 1] from Rd.keep (w:=W0.alloc (.cells #[.string ⟨#[104,114,101,102]⟩,.string d] 74)) (ok:=(W0.heap.size<=·)) (fun b hb _=>⟨hb,rfl⟩) _ _ (aI.aF [⟨jf,d⟩] (fun _=>False) W0 (by simp) (by simp)).cu);have S0:=((SX.out W0.drew (jh1 _ _).drew).2.1:ji9 (W0.drew) ⟨S,2,none⟩=some (.string d));have S1:=((SX.out (W0.alloc (.cells #[.string ⟨#[104,114,101,102]⟩,.string d] 74)).drew dY.out).2.1:ji9 ((W0.alloc (.cells #[.string ⟨#[104,114,101,102]⟩,.string d] 74)).drew) ⟨S,2,none⟩=some (.string d));have DA:=hid (iq d ((W0.alloc (.cells #[.string ⟨#[104,114,101,102]⟩,.string d] 74)).drew));have DB:=hid (iq d W0.drew);clear Tw wL;go_wp2_with fail
 go_region_held3 (fun w'=>w'.cell? ⟨S,2,none⟩=some (.string d))
  (with_reducible assumption)
  (first
   | (go_simp;go_at_call 117;(with_reducible refine DA.out.mono ?_);rintro e w4 ⟨bK,v4,rfl,hrow4⟩;obtain ⟨a4,n4,c4,rfl⟩:=hrow4.slice3;have b4:=hrow4.aL;have B4:=hid (dY.out.trans (b4.mono dY.out.size));have dw:=hid (show Rd (W0.heap.size<=·) w4 (bS (bI d)) [.slice a4 n4 c4] from hrow4.cu.weaken (fun b hb=>jh3 dY.out.size hb));have jR:=hid (Xd.out.aW b4);have S4:=((SX.out w4 B4.out).2.1:ji9 (w4) ⟨S,2,none⟩=some (.string d));have EC:=hid (KR ⟨#[97]⟩ (some ⟨W0.heap.size,0,none⟩) a4 1 n4 1 c4 w4))
   | (go_simp;go_at_call 117;(with_reducible refine DB.out.mono ?_);rintro e w4 ⟨bK,v4,rfl,hrow4⟩;obtain ⟨a4,n4,c4,rfl⟩:=hrow4.slice3;have b4:=hrow4.aL;have B3:Hid (Below W0.heap.size W0 w4):=((jh1 W0.heap.size W0).drew).trans b4;have S3:=((SX.out w4 B3.out).2.1:ji9 (w4) ⟨S,2,none⟩=some (.string d));have B4:=hid (B3.out.alloc B3.out.size (.cells #[.string ⟨#[104,114,101,102]⟩,.string d] 74));have S4:=((SX.out (w4.alloc (.cells #[.string ⟨#[104,114,101,102]⟩,.string d] 74)) B4.out).2.1:ji9 ((w4.alloc (.cells #[.string ⟨#[104,114,101,102]⟩,.string d] 74))) ⟨S,2,none⟩=some (.string d));have dw:=hid (show Rd (W0.heap.size<=·) (w4.alloc (.cells #[.string ⟨#[104,114,101,102]⟩,.string d] 74)) (bS (bI d)) [.slice a4 n4 c4] from qp hrow4.cu _);have jR:=hid (show Rd (W0.heap.size<=·) (w4.alloc (.cells #[.string ⟨#[104,114,101,102]⟩,.string d] 74)) (cZ [⟨jf,d⟩]) [.slice (some ⟨w4.heap.size,0,none⟩) 1 1] from (aI.aF [⟨jf,d⟩] (fun _=>False) w4 (by simp) (by simp)).cu.weaken (fun b hb=>jh3 B3.out.size hb));have EC:=hid (KR ⟨#[97]⟩ (some ⟨w4.heap.size,0,none⟩) a4 1 n4 1 c4 (w4.alloc (.cells #[.string ⟨#[104,114,101,102]⟩,.string d] 74))))
   | (go_simp;go_at_call 63;(with_reducible refine EC.out.mono ?_);rintro e w5 ⟨rfl,b5⟩;have BL:=hid (aM B4.out b5);obtain ⟨x0,x1,x2,x3,xf⟩:=dW (K1.out.below BL.out);have HN:=hid (show gP (W0.heap.size<=·) w5 [⟨jf,d⟩] (bI d) (.slice (some ⟨W0.heap.size,0,none⟩) 1 1) (.slice a4 n4 c4) from ⟨jR.out.aW b5,dw.out.aW b5⟩);have S5:=((SX.out w5 BL.out).2.1:ji9 (w5) ⟨S,2,none⟩=some (.string d));have S6:=(show ji9 ((((w5.setCell ⟨S+1,0,none⟩ (.string ⟨#[97]⟩)).setCell ⟨S+1,1,none⟩ (.string ⟨#[]⟩)).setCell ⟨S+1,2,none⟩ (.slice (some ⟨W0.heap.size,0,none⟩) 1 1)).setCell ⟨S+1,3,none⟩ (.slice a4 n4 c4)) ⟨S,2,none⟩=some (.string d) from mY (SX.out w5 BL.out).2.1 (by omega)))
   | (go_simp;go_at_call 63;(with_reducible refine EC.out.mono ?_);rintro e w5 ⟨rfl,b5⟩;have BL:=hid (aM B4.out b5);obtain ⟨x0,x1,x2,x3,xf⟩:=dW (K1.out.below BL.out);have HN:=hid (show gP (W0.heap.size<=·) w5 [⟨jf,d⟩] (bI d) (.slice (some ⟨w4.heap.size,0,none⟩) 1 1) (.slice a4 n4 c4) from ⟨jR.out.aW b5,dw.out.aW b5⟩);have S5:=((SX.out w5 BL.out).2.1:ji9 (w5) ⟨S,2,none⟩=some (.string d));have S6:=(show ji9 ((((w5.setCell ⟨S+1,0,none⟩ (.string ⟨#[97]⟩)).setCell ⟨S+1,1,none⟩ (.string ⟨#[]⟩)).setCell ⟨S+1,2,none⟩ (.slice (some ⟨w4.heap.size,0,none⟩) 1 1)).setCell ⟨S+1,3,none⟩ (.slice a4 n4 c4)) ⟨S,2,none⟩=some (.string d) from mY (SX.out w5 BL.out).2.1 (by omega))))
 all_goals
  clear hrow4 b4 b5 EC
  (first
   | (obtain ⟨w9,aO⟩:∃ w9,w9=bU w5 (S+1) (.string ⟨#[97]⟩) (.string ⟨#[]⟩) (.slice (some ⟨W0.heap.size,0,none⟩) 1 1) (.slice a4 n4 c4):=⟨_,rfl⟩;have hf:=iZ ⟨#[97]⟩ ⟨#[]⟩ [⟨jf,d⟩] (bI d) HS.out Z0.out B0.out K1.out BL.out HN.out;rw [<- aO] at hf;have HC:=hid hf.1;have HP:=hid hf.2;clear hf;have hw8:=aO;simp only [bU] at hw8;clear aO ;obtain ⟨x0,x1,x2,x3,xf⟩:=dW (K1.out.below BL.out);go_wp2;rw [<- hw8];have r0:=HC.out.cell 0 _ rfl;have r1:=HC.out.cell 1 _ rfl;have r2:=HC.out.cell 2 _ rfl;have r3:=HC.out.cell 3 _ rfl;exact bodyPost_ret (v:=.agg #[.string ⟨#[97]⟩,.string ⟨#[]⟩,(.slice (some ⟨W0.heap.size,0,none⟩) 1 1),(.slice a4 n4 c4)]) (by simp [results,Tryz.results103,go_sem,r0,r1,r2,r3]) rfl HP.out)
   | (obtain ⟨w9,aO⟩:∃ w9,w9=bU w5 (S+1) (.string ⟨#[97]⟩) (.string ⟨#[]⟩) (.slice (some ⟨w4.heap.size,0,none⟩) 1 1) (.slice a4 n4 c4):=⟨_,rfl⟩;have hf:=iZ ⟨#[97]⟩ ⟨#[]⟩ [⟨jf,d⟩] (bI d) HS.out Z0.out B0.out K1.out BL.out HN.out;rw [<- aO] at hf;have HC:=hid hf.1;have HP:=hid hf.2;clear hf;have hw8:=aO;simp only [bU] at hw8;clear aO ;obtain ⟨x0,x1,x2,x3,xf⟩:=dW (K1.out.below BL.out);go_wp2;rw [<- hw8];have r0:=HC.out.cell 0 _ rfl;have r1:=HC.out.cell 1 _ rfl;have r2:=HC.out.cell 2 _ rfl;have r3:=HC.out.cell 3 _ rfl;exact bodyPost_ret (v:=.agg #[.string ⟨#[97]⟩,.string ⟨#[]⟩,(.slice (some ⟨w4.heap.size,0,none⟩) 1 1),(.slice a4 n4 c4)]) (by simp [results,Tryz.results103,go_sem,r0,r1,r2,r3]) rfl HP.out))
theorem QU (t d ti:ByteArray) (at_:At) (ar:List ByteArray) (ci:List Ci) (ks:List aj) (vc vp va vi vk:jk5) (w:jk3) (hR:dQ (·<w.heap.size) w at_ ar ci ks vc vp va vi vk) (hs:(aj.mk (12:Int) t d ti at_ ar ci ks).small) (hl:fK w ks vk) (hcf:∀ c∈at_.cls,aT c=false) : Calls Tryz.prog 103 #[.agg #[.int .i64 12,.string t,.string d,.string ti,.string at_.id,vc,vp,va,vi,vk]] w (jB w (aj.mk (12:Int) t d ti at_ ar ci ks).nd):=by
 have E:Hid ((aj.mk 12 t d ti at_ ar ci ks).nd=aN nA [⟨jf,eZ++t⟩,⟨dh,Ga⟩] (bI t)):=by show _=_;rw [aj.nd];rfl
 rw [E.out];obtain ⟨ac,nc,cc,rfl⟩:=Rd.ah hR.at_.cls
 obtain ⟨ap,np,cp,rfl⟩:=Rd.ah hR.at_.aF
 obtain ⟨aa,na,ca,rfl⟩:=Rd.ah hR.args;obtain ⟨ai,ni,fI,rfl⟩:=Rd.ah hR.bg;obtain ⟨ak,nk,ck,rfl⟩:=Rd.ah hR.kids;obtain ⟨S,W0,hS,hW0,z0,k0,k1,b0⟩:=kL 51 w [.int .i64 12,.string t,.string d,.string ti,.string at_.id,.slice ac nc cc,.slice ap np cp,.slice aa na ca,.slice ai ni fI,.slice ak nk ck];have SX:=dG k0;have e0:=k0.cell 0 _ rfl;have gQ:=mK hS hl b0;have eG:=hid hs;have Gd:=hid hcf;have HR:=dQ.lM hS hR b0;have HS:=hid hS;have HW0:=hid hW0;have Z0:=hid z0;have B0:=hid b0;have K1:=hid k1;have hst:t.size<=300:=by rw [aj.small] at hs;exact hs.1
 clear hcf hR hs hl hS hW0 z0 k0 k1 b0 E;go_enter Tryz.func103,Tryz.ntmps103;go_upto_region 25 with (fail)
 rw [<- HS.out];have hk0:=HW0.out;simp only [iY] at hk0;rw [<- hk0];clear hk0;have q5:(⟨#[35,110,111,116,101,45]⟩:ByteArray).size+t.size<=9223372036854775807:=by have:(⟨#[35,110,111,116,101,45]⟩:ByteArray).size=6:=rfl;omega
 have q6:6+t.size<=9223372036854775807:=by omega
 have hadd:∀ w:jk3,(Op.stringOp .add (⟨#[35,110,111,116,101,45]⟩:ByteArray) t).run Tryz.prog w=.ok (.string (⟨#[35,110,111,116,101,45]⟩++t)) w:=fun w=>run_string_add_sum w _ _ q5
 obtain ⟨wL,Tw⟩:∃ wL,wL=(W0.alloc (.cells #[.string ⟨#[104,114,101,102]⟩,.string (⟨#[35,110,111,116,101,45]⟩++t),.string ⟨#[99,108,97,115,115]⟩,.string ⟨#[110,111,116,101,114,101,102]⟩] 74)).drew:=⟨_,rfl⟩;have dY:=hid (P6 W0 (.cells #[.string ⟨#[104,114,101,102]⟩,.string (⟨#[35,110,111,116,101,45]⟩++t),.string ⟨#[99,108,97,115,115]⟩,.string ⟨#[110,111,116,101,114,101,102]⟩] 74));have Xd:=hid (show Rd (W0.heap.size<=·) (W0.alloc (.cells #[.string ⟨#[104,114,101,102]⟩,.string (⟨#[35,110,111,116,101,45]⟩++t),.string ⟨#[99,108,97,115,115]⟩,.string ⟨#[110,111,116,101,114,101,102]⟩] 74)).drew (cZ [⟨jf,eZ++t⟩,⟨dh,Ga⟩]) [.slice (some ⟨W0.heap.size,0,none⟩) 2 2] from Rd.keep (w:=W0.alloc (.cells #[.string ⟨#[104,114,101,102]⟩,.string (⟨#[35,110,111,116,101,45]⟩++t),.string ⟨#[99,108,97,115,115]⟩,.string ⟨#[110,111,116,101,114,101,102]⟩] 74)) (ok:=(W0.heap.size<=·)) (fun b hb _=>⟨hb,rfl⟩) _ _ (aI.aF [⟨jf,eZ++t⟩,⟨dh,Ga⟩] (fun _=>False) W0 (by simp) (by simp)).cu);have S0:=((SX.out W0.drew (jh1 _ _).drew).1:ji9 (W0.drew) ⟨S,1,none⟩=some (.string t));have S1:=((SX.out (W0.alloc (.cells #[.string ⟨#[104,114,101,102]⟩,.string (⟨#[35,110,111,116,101,45]⟩++t),.string ⟨#[99,108,97,115,115]⟩,.string ⟨#[110,111,116,101,114,101,102]⟩] 74)).drew dY.out).1:ji9 ((W0.alloc (.cells #[.string ⟨#[104,114,101,102]⟩,.string (⟨#[35,110,111,116,101,45]⟩++t),.string ⟨#[99,108,97,115,115]⟩,.string ⟨#[110,111,116,101,114,101,102]⟩] 74)).drew) ⟨S,1,none⟩=some (.string t));have DA:=hid (iq t ((W0.alloc (.cells #[.string ⟨#[104,114,101,102]⟩,.string (⟨#[35,110,111,116,101,45]⟩++t),.string ⟨#[99,108,97,115,115]⟩,.string ⟨#[110,111,116,101,114,101,102]⟩] 74)).drew));have DB:=hid (iq t W0.drew);clear Tw wL;go_wp2_with fail
 go_region_held3 (fun w'=>w'.cell? ⟨S,1,none⟩=some (.string t))
  (with_reducible assumption)
  (first
   | (go_simp;go_at_call 117;(with_reducible refine DA.out.mono ?_);rintro e w4 ⟨bK,v4,rfl,hrow4⟩;obtain ⟨a4,n4,c4,rfl⟩:=hrow4.slice3;have b4:=hrow4.aL;have B4:=hid (dY.out.trans (b4.mono dY.out.size));have dw:=hid (show Rd (W0.heap.size<=·) w4 (bS (bI t)) [.slice a4 n4 c4] from hrow4.cu.weaken (fun b hb=>jh3 dY.out.size hb));have jR:=hid (Xd.out.aW b4);have S4:=((SX.out w4 B4.out).1:ji9 (w4) ⟨S,1,none⟩=some (.string t));have EC:=hid (KR ⟨#[97]⟩ (some ⟨W0.heap.size,0,none⟩) a4 2 n4 2 c4 w4))
   | (go_simp;go_at_call 117;(with_reducible refine DB.out.mono ?_);rintro e w4 ⟨bK,v4,rfl,hrow4⟩;obtain ⟨a4,n4,c4,rfl⟩:=hrow4.slice3;have b4:=hrow4.aL;have B3:Hid (Below W0.heap.size W0 w4):=((jh1 W0.heap.size W0).drew).trans b4;have S3:=((SX.out w4 B3.out).1:ji9 (w4) ⟨S,1,none⟩=some (.string t));have B4:=hid (B3.out.alloc B3.out.size (.cells #[.string ⟨#[104,114,101,102]⟩,.string (⟨#[35,110,111,116,101,45]⟩++t),.string ⟨#[99,108,97,115,115]⟩,.string ⟨#[110,111,116,101,114,101,102]⟩] 74));have S4:=((SX.out (w4.alloc (.cells #[.string ⟨#[104,114,101,102]⟩,.string (⟨#[35,110,111,116,101,45]⟩++t),.string ⟨#[99,108,97,115,115]⟩,.string ⟨#[110,111,116,101,114,101,102]⟩] 74)) B4.out).1:ji9 ((w4.alloc (.cells #[.string ⟨#[104,114,101,102]⟩,.string (⟨#[35,110,111,116,101,45]⟩++t),.string ⟨#[99,108,97,115,115]⟩,.string ⟨#[110,111,116,101,114,101,102]⟩] 74))) ⟨S,1,none⟩=some (.string t));have dw:=hid (show Rd (W0.heap.size<=·) (w4.alloc (.cells #[.string ⟨#[104,114,101,102]⟩,.string (⟨#[35,110,111,116,101,45]⟩++t),.string ⟨#[99,108,97,115,115]⟩,.string ⟨#[110,111,116,101,114,101,102]⟩] 74)) (bS (bI t)) [.slice a4 n4 c4] from qp hrow4.cu _);have jR:=hid (show Rd (W0.heap.size<=·) (w4.alloc (.cells #[.string ⟨#[104,114,101,102]⟩,.string (⟨#[35,110,111,116,101,45]⟩++t),.string ⟨#[99,108,97,115,115]⟩,.string ⟨#[110,111,116,101,114,101,102]⟩] 74)) (cZ [⟨jf,eZ++t⟩,⟨dh,Ga⟩]) [.slice (some ⟨w4.heap.size,0,none⟩) 2 2] from (aI.aF [⟨jf,eZ++t⟩,⟨dh,Ga⟩] (fun _=>False) w4 (by simp) (by simp)).cu.weaken (fun b hb=>jh3 B3.out.size hb));have EC:=hid (KR ⟨#[97]⟩ (some ⟨w4.heap.size,0,none⟩) a4 2 n4 2 c4 (w4.alloc (.cells #[.string ⟨#[104,114,101,102]⟩,.string (⟨#[35,110,111,116,101,45]⟩++t),.string ⟨#[99,108,97,115,115]⟩,.string ⟨#[110,111,116,101,114,101,102]⟩] 74))))
   | (go_simp;go_at_call 63;(with_reducible refine EC.out.mono ?_);rintro e w5 ⟨rfl,b5⟩;have BL:=hid (aM B4.out b5);obtain ⟨x0,x1,x2,x3,xf⟩:=dW (K1.out.below BL.out);have HN:=hid (show gP (W0.heap.size<=·) w5 [⟨jf,eZ++t⟩,⟨dh,Ga⟩] (bI t) (.slice (some ⟨W0.heap.size,0,none⟩) 2 2) (.slice a4 n4 c4) from ⟨jR.out.aW b5,dw.out.aW b5⟩);have S5:=((SX.out w5 BL.out).1:ji9 (w5) ⟨S,1,none⟩=some (.string t));have S6:=(show ji9 ((((w5.setCell ⟨S+1,0,none⟩ (.string ⟨#[97]⟩)).setCell ⟨S+1,1,none⟩ (.string ⟨#[]⟩)).setCell ⟨S+1,2,none⟩ (.slice (some ⟨W0.heap.size,0,none⟩) 2 2)).setCell ⟨S+1,3,none⟩ (.slice a4 n4 c4)) ⟨S,1,none⟩=some (.string t) from mY (SX.out w5 BL.out).1 (by omega)))
   | (go_simp;go_at_call 63;(with_reducible refine EC.out.mono ?_);rintro e w5 ⟨rfl,b5⟩;have BL:=hid (aM B4.out b5);obtain ⟨x0,x1,x2,x3,xf⟩:=dW (K1.out.below BL.out);have HN:=hid (show gP (W0.heap.size<=·) w5 [⟨jf,eZ++t⟩,⟨dh,Ga⟩] (bI t) (.slice (some ⟨w4.heap.size,0,none⟩) 2 2) (.slice a4 n4 c4) from ⟨jR.out.aW b5,dw.out.aW b5⟩);have S5:=((SX.out w5 BL.out).1:ji9 (w5) ⟨S,1,none⟩=some (.string t));have S6:=(show ji9 ((((w5.setCell ⟨S+1,0,none⟩ (.string ⟨#[97]⟩)).setCell ⟨S+1,1,none⟩ (.string ⟨#[]⟩)).setCell ⟨S+1,2,none⟩ (.slice (some ⟨w4.heap.size,0,none⟩) 2 2)).setCell ⟨S+1,3,none⟩ (.slice a4 n4 c4)) ⟨S,1,none⟩=some (.string t) from mY (SX.out w5 BL.out).1 (by omega))))
 all_goals
  clear hrow4 b4 b5 EC
  (first
   | (obtain ⟨w9,aO⟩:∃ w9,w9=bU w5 (S+1) (.string ⟨#[97]⟩) (.string ⟨#[]⟩) (.slice (some ⟨W0.heap.size,0,none⟩) 2 2) (.slice a4 n4 c4):=⟨_,rfl⟩;have hf:=iZ ⟨#[97]⟩ ⟨#[]⟩ [⟨jf,eZ++t⟩,⟨dh,Ga⟩] (bI t) HS.out Z0.out B0.out K1.out BL.out HN.out;rw [<- aO] at hf;have HC:=hid hf.1;have HP:=hid hf.2;clear hf;have hw8:=aO;simp only [bU] at hw8;clear aO ;obtain ⟨x0,x1,x2,x3,xf⟩:=dW (K1.out.below BL.out);go_wp2;rw [<- hw8];have r0:=HC.out.cell 0 _ rfl;have r1:=HC.out.cell 1 _ rfl;have r2:=HC.out.cell 2 _ rfl;have r3:=HC.out.cell 3 _ rfl;exact bodyPost_ret (v:=.agg #[.string ⟨#[97]⟩,.string ⟨#[]⟩,(.slice (some ⟨W0.heap.size,0,none⟩) 2 2),(.slice a4 n4 c4)]) (by simp [results,Tryz.results103,go_sem,r0,r1,r2,r3]) rfl HP.out)
   | (obtain ⟨w9,aO⟩:∃ w9,w9=bU w5 (S+1) (.string ⟨#[97]⟩) (.string ⟨#[]⟩) (.slice (some ⟨w4.heap.size,0,none⟩) 2 2) (.slice a4 n4 c4):=⟨_,rfl⟩;have hf:=iZ ⟨#[97]⟩ ⟨#[]⟩ [⟨jf,eZ++t⟩,⟨dh,Ga⟩] (bI t) HS.out Z0.out B0.out K1.out BL.out HN.out;rw [<- aO] at hf;have HC:=hid hf.1;have HP:=hid hf.2;clear hf;have hw8:=aO;simp only [bU] at hw8;clear aO ;obtain ⟨x0,x1,x2,x3,xf⟩:=dW (K1.out.below BL.out);go_wp2;rw [<- hw8];have r0:=HC.out.cell 0 _ rfl;have r1:=HC.out.cell 1 _ rfl;have r2:=HC.out.cell 2 _ rfl;have r3:=HC.out.cell 3 _ rfl;exact bodyPost_ret (v:=.agg #[.string ⟨#[97]⟩,.string ⟨#[]⟩,(.slice (some ⟨w4.heap.size,0,none⟩) 2 2),(.slice a4 n4 c4)]) (by simp [results,Tryz.results103,go_sem,r0,r1,r2,r3]) rfl HP.out))
theorem QV (t d ti:ByteArray) (at_:At) (ar:List ByteArray) (ci:List Ci) (ks:List aj) (vc vp va vi vk:jk5) (w:jk3) (hR:dQ (·<w.heap.size) w at_ ar ci ks vc vp va vi vk) (hs:(aj.mk (11:Int) t d ti at_ ar ci ks).small) (hl:fK w ks vk) (hcf:∀ c∈at_.cls,aT c=false) : Calls Tryz.prog 103 #[.agg #[.int .i64 11,.string t,.string d,.string ti,.string at_.id,vc,vp,va,vi,vk]] w (jB w (aj.mk (11:Int) t d ti at_ ar ci ks).nd):=by
 have E:Hid ((aj.mk 11 t d ti at_ ar ci ks).nd=aN Am (q0z at_ []) (dD ks)):=by show _=_;rw [aj.nd];rfl
 rw [E.out];obtain ⟨ac,nc,cc,rfl⟩:=Rd.ah hR.at_.cls
 obtain ⟨ap,np,cp,rfl⟩:=Rd.ah hR.at_.aF
 obtain ⟨aa,na,ca,rfl⟩:=Rd.ah hR.args;obtain ⟨ai,ni,fI,rfl⟩:=Rd.ah hR.bg;obtain ⟨ak,nk,ck,rfl⟩:=Rd.ah hR.kids;obtain ⟨S,W0,hS,hW0,z0,k0,k1,b0⟩:=kL 51 w [.int .i64 11,.string t,.string d,.string ti,.string at_.id,.slice ac nc cc,.slice ap np cp,.slice aa na ca,.slice ai ni fI,.slice ak nk ck];have SX:=dG k0;have e0:=k0.cell 0 _ rfl;have gQ:=mK hS hl b0;have eG:=hid hs;have Gd:=hid hcf;have HR:=dQ.lM hS hR b0;have HS:=hid hS;have HW0:=hid hW0;have Z0:=hid z0;have B0:=hid b0;have K1:=hid k1;have hst:t.size<=300:=by rw [aj.small] at hs;exact hs.1
 clear hcf hR hs hl hS hW0 z0 k0 k1 b0 E;go_enter Tryz.func103,Tryz.ntmps103;go_upto_region 23 with (fail)
 rw [<- HS.out];have hk0:=HW0.out;simp only [iY] at hk0;rw [<- hk0];clear hk0;have hsc:at_.cls.length<=100/\∀ c∈at_.cls,c.size<=1000:=⟨by have h:=(nT eG.out).1;rwa [ji1] at h,fun c hc=>(nT eG.out).2 c (by rwa [ji1])⟩
 have AC:Hid (Calls Tryz.prog 155 #[.agg #[.string at_.id,.slice ac nc cc,.slice ap np cp],.string ⟨#[]⟩] W0.drew (aR W0.drew (q0z at_ []))):=wT at_ ⟨#[]⟩ (.slice ac nc cc) (.slice ap np cp) W0.drew (Ni (by have:=Z0.out;omega) HR.out.at_) hsc.1 hsc.2 (by decide) Gd.out
 have S0:=(⟨(SX.out W0.drew (jh1 _ _).drew).2.2.2.1,(SX.out W0.drew (jh1 _ _).drew).2.2.2.2.1,(SX.out W0.drew (jh1 _ _).drew).2.2.2.2.2.1,(SX.out W0.drew (jh1 _ _).drew).2.2.2.2.2.2⟩:ji9 (W0.drew) ⟨S,4,none⟩=some (.string at_.id)/\ji9 (W0.drew) ⟨S,5,none⟩=some (.slice ac nc cc)/\ji9 (W0.drew) ⟨S,6,none⟩=some (.slice ap np cp)/\ji9 (W0.drew) ⟨S,9,none⟩=some (.slice ak nk ck));clear hsc;go_wp2_with fail
 go_region_held3 (fun w'=>w'.cell? ⟨S,4,none⟩=some (.string at_.id)/\w'.cell? ⟨S,5,none⟩=some (.slice ac nc cc)/\w'.cell? ⟨S,6,none⟩=some (.slice ap np cp)/\w'.cell? ⟨S,9,none⟩=some (.slice ak nk ck))
  (with_reducible assumption)
  (first
   | (go_simp;go_at_call 155;(with_reducible refine AC.out.mono ?_);rintro e w3 ⟨bY,v3,rfl,hrow3⟩;obtain ⟨a3,n3,c3,rfl⟩:=hrow3.slice3;have B3:Hid (Below W0.heap.size W0 w3):=((jh1 W0.heap.size W0).drew).trans hrow3.aL;have vE:Hid (Rd (W0.heap.size<=·) w3 (cZ (q0z at_ [])) [.slice a3 n3 c3]):=hrow3.cu;have S3:=(⟨(SX.out w3 B3.out).2.2.2.1,(SX.out w3 B3.out).2.2.2.2.1,(SX.out w3 B3.out).2.2.2.2.2.1,(SX.out w3 B3.out).2.2.2.2.2.2⟩:ji9 (w3) ⟨S,4,none⟩=some (.string at_.id)/\ji9 (w3) ⟨S,5,none⟩=some (.slice ac nc cc)/\ji9 (w3) ⟨S,6,none⟩=some (.slice ap np cp)/\ji9 (w3) ⟨S,9,none⟩=some (.slice ak nk ck));have LC:=hid (gQ.out w3 B3.out))
   | (go_simp;go_at_call 53;(with_reducible refine LC.out.mono ?_);rintro e w4 ⟨bK,v4,rfl,hrow4⟩;obtain ⟨a4,n4,c4,rfl⟩:=hrow4.slice3;have b4:=hrow4.aL;have B4:=hid (aM B3.out b4);have dw:=hid (show Rd (W0.heap.size<=·) w4 (bS (dD ks)) [.slice a4 n4 c4] from hrow4.cu.weaken (fun b hb=>jh3 B3.out.size hb));have jR:=hid (vE.out.aW b4);have S4:=(⟨(SX.out w4 B4.out).2.2.2.1,(SX.out w4 B4.out).2.2.2.2.1,(SX.out w4 B4.out).2.2.2.2.2.1,(SX.out w4 B4.out).2.2.2.2.2.2⟩:ji9 (w4) ⟨S,4,none⟩=some (.string at_.id)/\ji9 (w4) ⟨S,5,none⟩=some (.slice ac nc cc)/\ji9 (w4) ⟨S,6,none⟩=some (.slice ap np cp)/\ji9 (w4) ⟨S,9,none⟩=some (.slice ak nk ck));have EC:=hid (KR ⟨#[115,112,97,110]⟩ a3 a4 n3 n4 c3 c4 w4))
   | (go_simp;go_at_call 63;(with_reducible refine EC.out.mono ?_);rintro e w5 ⟨rfl,b5⟩;have BL:=hid (aM B4.out b5);obtain ⟨x0,x1,x2,x3,xf⟩:=dW (K1.out.below BL.out);have HN:=hid (show gP (W0.heap.size<=·) w5 (q0z at_ []) (dD ks) (.slice a3 n3 c3) (.slice a4 n4 c4) from ⟨jR.out.aW b5,dw.out.aW b5⟩);have S5:=(⟨(SX.out w5 BL.out).2.2.2.1,(SX.out w5 BL.out).2.2.2.2.1,(SX.out w5 BL.out).2.2.2.2.2.1,(SX.out w5 BL.out).2.2.2.2.2.2⟩:ji9 (w5) ⟨S,4,none⟩=some (.string at_.id)/\ji9 (w5) ⟨S,5,none⟩=some (.slice ac nc cc)/\ji9 (w5) ⟨S,6,none⟩=some (.slice ap np cp)/\ji9 (w5) ⟨S,9,none⟩=some (.slice ak nk ck));have S6:=(show ji9 ((((w5.setCell ⟨S+1,0,none⟩ (.string ⟨#[115,112,97,110]⟩)).setCell ⟨S+1,1,none⟩ (.string ⟨#[]⟩)).setCell ⟨S+1,2,none⟩ (.slice a3 n3 c3)).setCell ⟨S+1,3,none⟩ (.slice a4 n4 c4)) ⟨S,4,none⟩=some (.string at_.id)/\ji9 ((((w5.setCell ⟨S+1,0,none⟩ (.string ⟨#[115,112,97,110]⟩)).setCell ⟨S+1,1,none⟩ (.string ⟨#[]⟩)).setCell ⟨S+1,2,none⟩ (.slice a3 n3 c3)).setCell ⟨S+1,3,none⟩ (.slice a4 n4 c4)) ⟨S,5,none⟩=some (.slice ac nc cc)/\ji9 ((((w5.setCell ⟨S+1,0,none⟩ (.string ⟨#[115,112,97,110]⟩)).setCell ⟨S+1,1,none⟩ (.string ⟨#[]⟩)).setCell ⟨S+1,2,none⟩ (.slice a3 n3 c3)).setCell ⟨S+1,3,none⟩ (.slice a4 n4 c4)) ⟨S,6,none⟩=some (.slice ap np cp)/\ji9 ((((w5.setCell ⟨S+1,0,none⟩ (.string ⟨#[115,112,97,110]⟩)).setCell ⟨S+1,1,none⟩ (.string ⟨#[]⟩)).setCell ⟨S+1,2,none⟩ (.slice a3 n3 c3)).setCell ⟨S+1,3,none⟩ (.slice a4 n4 c4)) ⟨S,9,none⟩=some (.slice ak nk ck) from ⟨mY (SX.out w5 BL.out).2.2.2.1 (by omega),mY (SX.out w5 BL.out).2.2.2.2.1 (by omega),mY (SX.out w5 BL.out).2.2.2.2.2.1 (by omega),mY (SX.out w5 BL.out).2.2.2.2.2.2 (by omega)⟩)))
 all_goals
  clear b5 EC hrow3 hrow4 b4 S0 S3 S4 S5 S6;obtain ⟨w9,aO⟩:∃ w9,w9=bU w5 (S+1) (.string ⟨#[115,112,97,110]⟩) (.string ⟨#[]⟩) (.slice a3 n3 c3) (.slice a4 n4 c4):=⟨_,rfl⟩;have hf:=iZ ⟨#[115,112,97,110]⟩ ⟨#[]⟩ (q0z at_ []) (dD ks) HS.out Z0.out B0.out K1.out BL.out HN.out;rw [<- aO] at hf;have HC:=hid hf.1;have HP:=hid hf.2;clear hf;have hw8:=aO;simp only [bU] at hw8;clear aO;obtain ⟨x0,x1,x2,x3,xf⟩:=dW (K1.out.below BL.out);go_wp2;rw [<- hw8];have r0:=HC.out.cell 0 _ rfl;have r1:=HC.out.cell 1 _ rfl;have r2:=HC.out.cell 2 _ rfl;have r3:=HC.out.cell 3 _ rfl;exact bodyPost_ret (v:=.agg #[.string ⟨#[115,112,97,110]⟩,.string ⟨#[]⟩,(.slice a3 n3 c3),(.slice a4 n4 c4)]) (by simp [results,Tryz.results103,go_sem,r0,r1,r2,r3]) rfl HP.out
theorem VL (t d ti:ByteArray) (at_:At) (ar:List ByteArray) (ci:List Ci) (ks:List aj) (vc vp va vi vk:jk5) (w:jk3) (hR:dQ (·<w.heap.size) w at_ ar ci ks vc vp va vi vk) (hs:(aj.mk (9:Int) t d ti at_ ar ci ks).small) (hl:fK w ks vk) (hcf:∀ c∈at_.cls,aT c=false) : Calls Tryz.prog 103 #[.agg #[.int .i64 9,.string t,.string d,.string ti,.string at_.id,vc,vp,va,vi,vk]] w (jB w (aj.mk (9:Int) t d ti at_ ar ci ks).nd):=by
 have E:Hid ((aj.mk 9 t d ti at_ ar ci ks).nd=aN nA ([⟨jf,d⟩]++dF kY ti) (dD ks)):=by show _=_;rw [aj.nd];rfl
 rw [E.out];obtain ⟨ac,nc,cc,rfl⟩:=Rd.ah hR.at_.cls
 obtain ⟨ap,np,cp,rfl⟩:=Rd.ah hR.at_.aF
 obtain ⟨aa,na,ca,rfl⟩:=Rd.ah hR.args;obtain ⟨ai,ni,fI,rfl⟩:=Rd.ah hR.bg;obtain ⟨ak,nk,ck,rfl⟩:=Rd.ah hR.kids;obtain ⟨S,W0,hS,hW0,z0,k0,k1,b0⟩:=kL 51 w [.int .i64 9,.string t,.string d,.string ti,.string at_.id,.slice ac nc cc,.slice ap np cp,.slice aa na ca,.slice ai ni fI,.slice ak nk ck];have SX:=dG k0;have e0:=k0.cell 0 _ rfl;have gQ:=mK hS hl b0;have eG:=hid hs;have Gd:=hid hcf;have HR:=dQ.lM hS hR b0;have HS:=hid hS;have HW0:=hid hW0;have Z0:=hid z0;have B0:=hid b0;have K1:=hid k1;have hst:t.size<=300:=by rw [aj.small] at hs;exact hs.1
 clear hcf hR hs hl hS hW0 z0 k0 k1 b0 E;go_enter Tryz.func103,Tryz.ntmps103;go_upto_region 17 with (fail)
 rw [<- HS.out];have hk0:=HW0.out;simp only [iY] at hk0;rw [<- hk0];clear hk0;obtain ⟨iP,hiP,pq,pE,pF⟩:=info_parts lV;obtain ⟨m,hm⟩:∃ m,m=(List.map Pr.d (dF kY ti)).length:=⟨_,rfl⟩;have hm1:m<=1:=by rw [hm];unfold dF;split<;>simp
 have HM:=hid hm.symm;clear hm;have dY:=hid (P6 W0 (.cells #[.string ⟨#[104,114,101,102]⟩,.string d] 74));have L1:=hid (show aI 74 2 (fun _=>False) (World.heap ((W0.alloc (.cells #[.string ⟨#[104,114,101,102]⟩,.string d] 74)).drew)).size W0 (List.map Pr.d [⟨jf,d⟩]) (List.map (fun (p:Pr)=>[Value.string p.key,.string p.val]) [⟨jf,d⟩]) (.slice (some ⟨W0.heap.size,0,none⟩) 1 1) (W0.alloc (.cells #[.string ⟨#[104,114,101,102]⟩,.string d] 74)).drew from (aI.aF [⟨jf,d⟩] (fun _=>False) W0 (by simp) (by simp)).drew.top);have S0:=(⟨(SX.out W0.drew (jh1 _ _).drew).2.1,(SX.out W0.drew (jh1 _ _).drew).2.2.1,(SX.out W0.drew (jh1 _ _).drew).2.2.2.2.2.2⟩:ji9 (W0.drew) ⟨S,2,none⟩=some (.string d)/\ji9 (W0.drew) ⟨S,3,none⟩=some (.string ti)/\ji9 (W0.drew) ⟨S,9,none⟩=some (.slice ak nk ck));have S1:=(⟨(SX.out (W0.alloc (.cells #[.string ⟨#[104,114,101,102]⟩,.string d] 74)).drew dY.out).2.1,(SX.out (W0.alloc (.cells #[.string ⟨#[104,114,101,102]⟩,.string d] 74)).drew dY.out).2.2.1,(SX.out (W0.alloc (.cells #[.string ⟨#[104,114,101,102]⟩,.string d] 74)).drew dY.out).2.2.2.2.2.2⟩:ji9 ((W0.alloc (.cells #[.string ⟨#[104,114,101,102]⟩,.string d] 74)).drew) ⟨S,2,none⟩=some (.string d)/\ji9 ((W0.alloc (.cells #[.string ⟨#[104,114,101,102]⟩,.string d] 74)).drew) ⟨S,3,none⟩=some (.string ti)/\ji9 ((W0.alloc (.cells #[.string ⟨#[104,114,101,102]⟩,.string d] 74)).drew) ⟨S,9,none⟩=some (.slice ak nk ck));have SA:Hid (Calls Tryz.prog 64 #[.string ⟨#[116,105,116,108,101]⟩,.string ti] ((W0.alloc (.cells #[.string ⟨#[104,114,101,102]⟩,.string d] 74)).drew) (aR ((W0.alloc (.cells #[.string ⟨#[104,114,101,102]⟩,.string d] 74)).drew) (dF kY ti))):=jy kY ti _;have SB:Hid (Calls Tryz.prog 64 #[.string ⟨#[116,105,116,108,101]⟩,.string ti] W0.drew (aR W0.drew (dF kY ti))):=jy kY ti _;go_wp2_with fail
 go_region_held3 (fun w'=>w'.cell? ⟨S,2,none⟩=some (.string d)/\w'.cell? ⟨S,3,none⟩=some (.string ti)/\w'.cell? ⟨S,9,none⟩=some (.slice ak nk ck))
  (with_reducible assumption)
  (first
   | (go_simp;go_at_call 64;(with_reducible refine SA.out.mono ?_);rintro e w2 ⟨bq,v2,rfl,hrow2⟩;obtain ⟨a2,c2,rfl,-,-⟩:=hrow2.cap HM.out;have B2:=hid (dY.out.trans (hrow2.aL.mono dY.out.size));have LA:=hid (L1.out.below hrow2.aL);have XA:=hid (show Rd (fun b=>False\/(World.heap ((W0.alloc (.cells #[.string ⟨#[104,114,101,102]⟩,.string d] 74)).drew)).size<=b) w2 (.sl 2 (List.map Pr.d (dF kY ti))) [.slice a2 m c2] from hrow2.cu.weaken (fun b hb=>.inr hb));have S2:=(⟨(SX.out w2 B2.out).2.1,(SX.out w2 B2.out).2.2.1,(SX.out w2 B2.out).2.2.2.2.2.2⟩:ji9 (w2) ⟨S,2,none⟩=some (.string d)/\ji9 (w2) ⟨S,3,none⟩=some (.string ti)/\ji9 (w2) ⟨S,9,none⟩=some (.slice ak nk ck)))
   | (go_simp;go_at_call 64;(with_reducible refine SB.out.mono ?_);rintro e w2 ⟨bq,v2,rfl,hrow2⟩;obtain ⟨a2,c2,rfl,-,-⟩:=hrow2.cap HM.out;have B2:Hid (Below W0.heap.size W0 w2):=((jh1 W0.heap.size W0).drew).trans hrow2.aL;have S2:=(⟨(SX.out w2 B2.out).2.1,(SX.out w2 B2.out).2.2.1,(SX.out w2 B2.out).2.2.2.2.2.2⟩:ji9 (w2) ⟨S,2,none⟩=some (.string d)/\ji9 (w2) ⟨S,3,none⟩=some (.string ti)/\ji9 (w2) ⟨S,9,none⟩=some (.slice ak nk ck));have B2a:=hid (B2.out.alloc B2.out.size (.cells #[.string ⟨#[104,114,101,102]⟩,.string d] 74));have S2a:=(⟨(SX.out (w2.alloc (.cells #[.string ⟨#[104,114,101,102]⟩,.string d] 74)) B2a.out).2.1,(SX.out (w2.alloc (.cells #[.string ⟨#[104,114,101,102]⟩,.string d] 74)) B2a.out).2.2.1,(SX.out (w2.alloc (.cells #[.string ⟨#[104,114,101,102]⟩,.string d] 74)) B2a.out).2.2.2.2.2.2⟩:ji9 ((w2.alloc (.cells #[.string ⟨#[104,114,101,102]⟩,.string d] 74))) ⟨S,2,none⟩=some (.string d)/\ji9 ((w2.alloc (.cells #[.string ⟨#[104,114,101,102]⟩,.string d] 74))) ⟨S,3,none⟩=some (.string ti)/\ji9 ((w2.alloc (.cells #[.string ⟨#[104,114,101,102]⟩,.string d] 74))) ⟨S,9,none⟩=some (.slice ak nk ck));have LB:=hid (aI.aF [⟨jf,d⟩] (fun b=>W0.heap.size<=b/\b<w2.heap.size) w2 (by simp) (by simp));have XB:=hid (show Rd (fun b=>(W0.heap.size<=b/\b<w2.heap.size)\/w2.heap.size+1<=b) (w2.alloc (.cells #[.string ⟨#[104,114,101,102]⟩,.string d] 74)) (.sl 2 (List.map Pr.d (dF kY ti))) [.slice a2 m c2] from qp (Rd.weaken hrow2.cu.inside (fun b hb=>.inl hb)) _))
   | (refine Ag (n:=1) (m:=m) rfl (.tmp 48) (.tmp 51) 25 rfl iP _ 32 Tryz.underlying25 hiP pq pE pF rfl (by decide) LA.out (fun _=>False.elim) (.slice a2 m c2) XA.out (fun rs ok' h=>kV (dF kY ti) rs ok' _ h) rfl HM.out (by omega) (by decide) rfl rfl ?_;intro a3 c3 bY w3 hrow3 hg3;have B3:Hid (Below W0.heap.size W0 w3):=hrow3.aL;have vE:=hid (show Rd (W0.heap.size<=·) w3 (cZ ([⟨jf,d⟩]++dF kY ti)) [.slice a3 (1+m) c3] from (by have h:=hrow3.cu;rw [<- ji2] at h;exact h));have S3:=(⟨(SX.out w3 B3.out).2.1,(SX.out w3 B3.out).2.2.1,(SX.out w3 B3.out).2.2.2.2.2.2⟩:ji9 (w3) ⟨S,2,none⟩=some (.string d)/\ji9 (w3) ⟨S,3,none⟩=some (.string ti)/\ji9 (w3) ⟨S,9,none⟩=some (.slice ak nk ck));have LC:=hid (gQ.out w3 B3.out))
   | (refine Ag (n:=1) (m:=m) rfl (.tmp 48) (.tmp 51) 25 rfl iP _ 32 Tryz.underlying25 hiP pq pE pF rfl (by decide) LB.out (fun b hb=>hb.2) (.slice a2 m c2) XB.out (fun rs ok' h=>kV (dF kY ti) rs ok' _ h) rfl HM.out (by omega) (by decide) rfl rfl ?_;intro a3 c3 bY w3 hrow3 hg3;have B3:=hid (B2.out.trans (hrow3.aL.mono B2.out.size));have vE:=hid (show Rd (W0.heap.size<=·) w3 (cZ ([⟨jf,d⟩]++dF kY ti)) [.slice a3 (1+m) c3] from (by have h:=hrow3.rd.weaken (ok':=(W0.heap.size<=·)) (fun b hb=>hb.elim (fun h=>h.1) (fun h=>jh3 B2.out.size h));rw [<- ji2] at h;exact h));have S3:=(⟨(SX.out w3 B3.out).2.1,(SX.out w3 B3.out).2.2.1,(SX.out w3 B3.out).2.2.2.2.2.2⟩:ji9 (w3) ⟨S,2,none⟩=some (.string d)/\ji9 (w3) ⟨S,3,none⟩=some (.string ti)/\ji9 (w3) ⟨S,9,none⟩=some (.slice ak nk ck));have LC:=hid (gQ.out w3 B3.out))
   | (go_simp;go_at_call 53;(with_reducible refine LC.out.mono ?_);rintro e w4 ⟨bK,v4,rfl,hrow4⟩;obtain ⟨a4,n4,c4,rfl⟩:=hrow4.slice3;have b4:=hrow4.aL;have B4:=hid (aM B3.out b4);have dw:=hid (show Rd (W0.heap.size<=·) w4 (bS (dD ks)) [.slice a4 n4 c4] from hrow4.cu.weaken (fun b hb=>jh3 B3.out.size hb));have jR:=hid (vE.out.aW b4);have S4:=(⟨(SX.out w4 B4.out).2.1,(SX.out w4 B4.out).2.2.1,(SX.out w4 B4.out).2.2.2.2.2.2⟩:ji9 (w4) ⟨S,2,none⟩=some (.string d)/\ji9 (w4) ⟨S,3,none⟩=some (.string ti)/\ji9 (w4) ⟨S,9,none⟩=some (.slice ak nk ck));have EC:=hid (KR ⟨#[97]⟩ a3 a4 (1+m) n4 c3 c4 w4))
   | (go_simp;go_at_call 63;(with_reducible refine EC.out.mono ?_);rintro e w5 ⟨rfl,b5⟩;have BL:=hid (aM B4.out b5);obtain ⟨x0,x1,x2,x3,xf⟩:=dW (K1.out.below BL.out);have HN:=hid (show gP (W0.heap.size<=·) w5 ([⟨jf,d⟩]++dF kY ti) (dD ks) (.slice a3 (1+m) c3) (.slice a4 n4 c4) from ⟨jR.out.aW b5,dw.out.aW b5⟩);have S5:=(⟨(SX.out w5 BL.out).2.1,(SX.out w5 BL.out).2.2.1,(SX.out w5 BL.out).2.2.2.2.2.2⟩:ji9 (w5) ⟨S,2,none⟩=some (.string d)/\ji9 (w5) ⟨S,3,none⟩=some (.string ti)/\ji9 (w5) ⟨S,9,none⟩=some (.slice ak nk ck));have S6:=(show ji9 ((((w5.setCell ⟨S+1,0,none⟩ (.string ⟨#[97]⟩)).setCell ⟨S+1,1,none⟩ (.string ⟨#[]⟩)).setCell ⟨S+1,2,none⟩ (.slice a3 (1+m) c3)).setCell ⟨S+1,3,none⟩ (.slice a4 n4 c4)) ⟨S,2,none⟩=some (.string d)/\ji9 ((((w5.setCell ⟨S+1,0,none⟩ (.string ⟨#[97]⟩)).setCell ⟨S+1,1,none⟩ (.string ⟨#[]⟩)).setCell ⟨S+1,2,none⟩ (.slice a3 (1+m) c3)).setCell ⟨S+1,3,none⟩ (.slice a4 n4 c4)) ⟨S,3,none⟩=some (.string ti)/\ji9 ((((w5.setCell ⟨S+1,0,none⟩ (.string ⟨#[97]⟩)).setCell ⟨S+1,1,none⟩ (.string ⟨#[]⟩)).setCell ⟨S+1,2,none⟩ (.slice a3 (1+m) c3)).setCell ⟨S+1,3,none⟩ (.slice a4 n4 c4)) ⟨S,9,none⟩=some (.slice ak nk ck) from ⟨mY (SX.out w5 BL.out).2.1 (by omega),mY (SX.out w5 BL.out).2.2.1 (by omega),mY (SX.out w5 BL.out).2.2.2.2.2.2 (by omega)⟩)))
 all_goals
  clear b5 EC hrow3 hrow4 b4 S0 S1 S3 S4 S5 S6 SA SB;obtain ⟨w9,aO⟩:∃ w9,w9=bU w5 (S+1) (.string ⟨#[97]⟩) (.string ⟨#[]⟩) (.slice a3 (1+m) c3) (.slice a4 n4 c4):=⟨_,rfl⟩;have hf:=iZ ⟨#[97]⟩ ⟨#[]⟩ ([⟨jf,d⟩]++dF kY ti) (dD ks) HS.out Z0.out B0.out K1.out BL.out HN.out;rw [<- aO] at hf;have HC:=hid hf.1;have HP:=hid hf.2;clear hf;have hw8:=aO;simp only [bU] at hw8;clear aO;obtain ⟨x0,x1,x2,x3,xf⟩:=dW (K1.out.below BL.out);go_wp2;rw [<- hw8];have r0:=HC.out.cell 0 _ rfl;have r1:=HC.out.cell 1 _ rfl;have r2:=HC.out.cell 2 _ rfl;have r3:=HC.out.cell 3 _ rfl;exact bodyPost_ret (v:=.agg #[.string ⟨#[97]⟩,.string ⟨#[]⟩,(.slice a3 (1+m) c3),(.slice a4 n4 c4)]) (by simp [results,Tryz.results103,go_sem,r0,r1,r2,r3]) rfl HP.out
theorem QW (t d ti:ByteArray) (at_:At) (ar:List ByteArray) (ci:List Ci) (ks:List aj) (vc vp va vi vk:jk5) (w:jk3) (hR:dQ (·<w.heap.size) w at_ ar ci ks vc vp va vi vk) (hs:(aj.mk (10:Int) t d ti at_ ar ci ks).small) (hl:fK w ks vk) (hcf:∀ c∈at_.cls,aT c=false) (hz:aj.aZ ks<=1000000) : Calls Tryz.prog 103 #[.agg #[.int .i64 10,.string t,.string d,.string ti,.string at_.id,vc,vp,va,vi,vk]] w (jB w (aj.mk (10:Int) t d ti at_ ar ci ks).nd):=by
 have E:Hid ((aj.mk 10 t d ti at_ ar ci ks).nd=aN Vo ([⟨mQ,d⟩,⟨mR,dO ks⟩]++dF kY ti++q0z at_ []) []):=by show _=_;rw [aj.nd];rfl
 rw [E.out];obtain ⟨ac,nc,cc,rfl⟩:=Rd.ah hR.at_.cls
 obtain ⟨ap,np,cp,rfl⟩:=Rd.ah hR.at_.aF
 obtain ⟨aa,na,ca,rfl⟩:=Rd.ah hR.args;obtain ⟨ai,ni,fI,rfl⟩:=Rd.ah hR.bg;obtain ⟨ak,nk,ck,rfl⟩:=Rd.ah hR.kids;obtain ⟨S,W0,hS,hW0,z0,k0,k1,b0⟩:=kL 51 w [.int .i64 10,.string t,.string d,.string ti,.string at_.id,.slice ac nc cc,.slice ap np cp,.slice aa na ca,.slice ai ni fI,.slice ak nk ck];have SX:=dG k0;have e0:=k0.cell 0 _ rfl;have gQ:=mK hS hl b0;have eG:=hid hs;have Gd:=hid hcf;have HR:=dQ.lM hS hR b0;have HS:=hid hS;have HW0:=hid hW0;have Z0:=hid z0;have B0:=hid b0;have K1:=hid k1;have hst:t.size<=300:=by rw [aj.small] at hs;exact hs.1
 clear hcf hR hs hl hS hW0 z0 k0 k1 b0 E;go_enter Tryz.func103,Tryz.ntmps103;go_upto_region 19 with (fail)
 rw [<- HS.out];have hk0:=HW0.out;simp only [iY] at hk0;rw [<- hk0];clear hk0;obtain ⟨iP,hiP,pq,pE,pF⟩:=info_parts lV;have hpl:(aj.aD ks).length<=1000000000:=by have h:=eG.out;rw [aj.small] at h;have:=aj.oL ks h.2.2.2.2.2.2.2.2;omega
 have PL:=hid (Hq _ ks (·<S) (.slice ak nk ck) W0.drew (jh2 _) (Rd.keep (w:=W0) (w':=W0.drew) (ok:=(·<S)) (fun b (hb:b<S) _=>⟨hb,rfl⟩) _ _ HR.out.kids) hpl);have dY:=hid (P6 W0 (.cells #[.string ⟨#[115,114,99]⟩,.string d,.string ⟨#[97,108,116]⟩,.string ⟨(aj.aD ks).toArray⟩] 74));have L1:=hid (show aI 74 2 (fun _=>False) (World.heap ((W0.alloc (.cells #[.string ⟨#[115,114,99]⟩,.string d,.string ⟨#[97,108,116]⟩,.string ⟨(aj.aD ks).toArray⟩] 74)).drew)).size W0 (List.map Pr.d [⟨mQ,d⟩,⟨mR,dO ks⟩]) (List.map (fun (p:Pr)=>[Value.string p.key,.string p.val]) [⟨mQ,d⟩,⟨mR,dO ks⟩]) (.slice (some ⟨W0.heap.size,0,none⟩) 2 2) (W0.alloc (.cells #[.string ⟨#[115,114,99]⟩,.string d,.string ⟨#[97,108,116]⟩,.string ⟨(aj.aD ks).toArray⟩] 74)).drew from (aI.aF [⟨mQ,d⟩,⟨mR,dO ks⟩] (fun _=>False) W0 (by simp) (by simp)).drew.top);have S0:=(⟨(SX.out W0.drew (jh1 _ _).drew).2.1,(SX.out W0.drew (jh1 _ _).drew).2.2.2.2.2.2⟩:ji9 (W0.drew) ⟨S,2,none⟩=some (.string d)/\ji9 (W0.drew) ⟨S,9,none⟩=some (.slice ak nk ck));have S1:=(⟨(SX.out (W0.alloc (.cells #[.string ⟨#[115,114,99]⟩,.string d,.string ⟨#[97,108,116]⟩,.string ⟨(aj.aD ks).toArray⟩] 74)).drew dY.out).2.1,(SX.out (W0.alloc (.cells #[.string ⟨#[115,114,99]⟩,.string d,.string ⟨#[97,108,116]⟩,.string ⟨(aj.aD ks).toArray⟩] 74)).drew dY.out).2.2.2.2.2.2⟩:ji9 ((W0.alloc (.cells #[.string ⟨#[115,114,99]⟩,.string d,.string ⟨#[97,108,116]⟩,.string ⟨(aj.aD ks).toArray⟩] 74)).drew) ⟨S,2,none⟩=some (.string d)/\ji9 ((W0.alloc (.cells #[.string ⟨#[115,114,99]⟩,.string d,.string ⟨#[97,108,116]⟩,.string ⟨(aj.aD ks).toArray⟩] 74)).drew) ⟨S,9,none⟩=some (.slice ak nk ck));have hsc:at_.cls.length<=100/\∀ c∈at_.cls,c.size<=1000:=⟨by have h:=(nT eG.out).1;rwa [ji1] at h,fun c hc=>(nT eG.out).2 c (by rwa [ji1])⟩
 have HSC:=hid hsc;clear hpl hsc;go_wp2_with fail
 go_region_held3 (fun w'=>w'.cell? ⟨S,2,none⟩=some (.string d)/\w'.cell? ⟨S,9,none⟩=some (.slice ak nk ck))
  (with_reducible assumption)
  (first
   | (go_simp;go_at_call 27;(with_reducible refine PL.out.mono ?_);rintro e w' ⟨rfl,rfl⟩))
 all_goals
  obtain ⟨w1,hw1⟩:∃ w1,w1=(W0.alloc (.cells #[.string ⟨#[115,114,99]⟩,.string d,.string ⟨#[97,108,116]⟩,.string ⟨(aj.aD ks).toArray⟩] 74)).drew:=⟨_,rfl⟩;rw [<- hw1];rw [<- hw1] at dY L1;clear hw1 S0 S1 PL;obtain ⟨m,hm⟩:∃ m,m=(List.map Pr.d (dF kY ti)).length:=⟨_,rfl⟩;have hm1:m<=1:=by rw [hm];unfold dF;split<;>simp
  have HM:=hid hm.symm;clear hm;obtain ⟨-,-,g3,g4,g5,g6,-⟩:=SX.out w1 dY.out;have SM:Hid (Calls Tryz.prog 64 #[.string ⟨#[116,105,116,108,101]⟩,.string ti] w1 (aR w1 (dF kY ti))):=jy kY ti w1;go_wp2_with fail
  (with_reducible refine SM.out.mono ?_)
  rintro e w2 ⟨bq,v2,rfl,hrow2⟩;obtain ⟨a2,c2,rfl,-,-⟩:=hrow2.cap HM.out;have L2:=hid (L1.out.below hrow2.aL);have B2:=hid (dY.out.trans (hrow2.aL.mono dY.out.size));have X2:=hid (show Rd (fun b=>False\/w1.heap.size<=b) w2 (.sl 2 (List.map Pr.d (dF kY ti))) [.slice a2 m c2] from hrow2.cu.weaken (fun b hb=>.inr hb));have O2:=hid (fun (rs:List (List jk5)) (ok':Nat->Prop) h=>kV (dF kY ti) rs ok' w2 h);clear hrow2 SM L1 g3 g4 g5 g6;go_wp2_with (at_builtin;refine jX (n:=2) (m:=m) rfl _ _ 25 rfl iP _ 32 Tryz.underlying25 hiP pq pE pF rfl (by decide) L2.out (fun _=>False.elim) (.slice a2 m c2) X2.out O2.out rfl HM.out (by omega) (by decide) rfl rfl ?_)
  intro a3 c3 bY w3 hrow3 hg3;have B3:Hid (Below W0.heap.size W0 w3):=hrow3.aL;have U3:=hid hrow3;obtain ⟨-,-,-,g4,g5,g6,-⟩:=SX.out w3 B3.out;have AC:Hid (Calls Tryz.prog 155 #[.agg #[.string at_.id,.slice ac nc cc,.slice ap np cp],.string ⟨#[]⟩] w3 (aR w3 (q0z at_ []))):=wT at_ ⟨#[]⟩ (.slice ac nc cc) (.slice ap np cp) w3 (wX HR.out.at_ B3.out (by have:=Z0.out;omega)) HSC.out.1 HSC.out.2 (by decide) Gd.out
  have Mt:Hid ((List.map Pr.d [⟨mQ,d⟩,⟨mR,dO ks⟩]++List.map Pr.d (dF kY ti)).length=2+m):=by show _=_;rw [List.length_append,HM.out];rfl
  clear hrow3 hg3 L2 X2 O2;go_upto_region 21 with (fail)
  go_wp2_with fail
  (with_reducible refine AC.out.mono ?_)
  rintro e w4 ⟨bK,v4,rfl,hrow4⟩;obtain ⟨m4,KI⟩:∃ m,m=(List.map Pr.d (q0z at_ [])).length:=⟨_,rfl⟩;obtain ⟨a4,c4,rfl,-,-⟩:=hrow4.cap KI.symm;have jb0:m4<=2:=by rw [KI];unfold q0z dF EA;split<;>split<;>simp
  have HM4:=hid KI.symm;have b4:=hrow4.aL;have U4:=hid (U3.out.below b4);have X4:=hid (show Rd (fun b=>False\/w3.heap.size<=b) w4 (.sl 2 (List.map Pr.d (q0z at_ []))) [.slice a4 m4 c4] from hrow4.cu.weaken (fun b hb=>.inr hb));have O4:=hid (fun (rs:List (List jk5)) (ok':Nat->Prop) h=>kV (q0z at_ []) rs ok' w4 h);clear KI hrow4 b4 g4 g5 g6 AC;go_wp2_with (at_builtin;refine jX (n:=2+m) (m:=m4) rfl _ _ 25 rfl iP _ 32 Tryz.underlying25 hiP pq pE pF rfl (by decide) U4.out (fun _=>False.elim) (.slice a4 m4 c4) X4.out O4.out Mt.out HM4.out (by omega) (by decide) rfl rfl ?_)
  intro a5 c5 kW w5 aH hg5;have B5:Hid (Below W0.heap.size W0 w5):=aH.aL;have Yq:Hid (Rd (W0.heap.size<=·) w5 (cZ ([⟨mQ,d⟩,⟨mR,dO ks⟩]++dF kY ti++q0z at_ [])) [.slice a5 (2+m+m4) c5]):=by have h:=aH.cu;show Rd _ _ (.sl 2 (List.map Pr.d _)) _;rw [ji2,ji2];exact h
  have EC:=hid (KR ⟨#[105,109,103]⟩ a5 none (2+m+m4) 0 c5 0 w5);clear aH hg5 U4 X4 O4 U3;go_wp2_with fail
  (with_reducible refine EC.out.mono ?_)
  rintro e w6 ⟨rfl,b6⟩;have BL:=hid (aM B5.out b6);have HN:=hid (show gP (W0.heap.size<=·) w6 ([⟨mQ,d⟩,⟨mR,dO ks⟩]++dF kY ti++q0z at_ []) [] (.slice a5 (2+m+m4) c5) (.slice none 0 0) from ⟨Yq.out.aW b6,Rd.ay _ _ _⟩);clear b6 EC Yq;obtain ⟨w9,aO⟩:∃ w9,w9=bU w6 (S+1) (.string ⟨#[105,109,103]⟩) (.string ⟨#[]⟩) (.slice a5 (2+m+m4) c5) (.slice none 0 0):=⟨_,rfl⟩;have hf:=iZ ⟨#[105,109,103]⟩ ⟨#[]⟩ ([⟨mQ,d⟩,⟨mR,dO ks⟩]++dF kY ti++q0z at_ []) [] HS.out Z0.out B0.out K1.out BL.out HN.out;rw [<- aO] at hf;have HC:=hid hf.1;have HP:=hid hf.2;clear hf;have hw8:=aO;simp only [bU] at hw8;clear aO;obtain ⟨x0,x1,x2,x3,xf⟩:=dW (K1.out.below BL.out);go_wp2;rw [<- hw8];have r0:=HC.out.cell 0 _ rfl;have r1:=HC.out.cell 1 _ rfl;have r2:=HC.out.cell 2 _ rfl;have r3:=HC.out.cell 3 _ rfl;exact bodyPost_ret (v:=.agg #[.string ⟨#[105,109,103]⟩,.string ⟨#[]⟩,(.slice a5 (2+m+m4) c5),(.slice none 0 0)]) (by simp [results,Tryz.results103,go_sem,r0,r1,r2,r3]) rfl HP.out
theorem QX (k:Int) (t d ti:ByteArray) (at_:At) (ar:List ByteArray) (ci:List Ci) (ks:List aj) (vc vp va vi vk:jk5) (w:jk3) (hR:dQ (·<w.heap.size) w at_ ar ci ks vc vp va vi vk) (hs:(aj.mk k t d ti at_ ar ci ks).small) (hl:fK w ks vk) (hcf:∀ c∈at_.cls,aT c=false) (hz:aj.aZ ks<=1000000) : Calls Tryz.prog 103 #[.agg #[.int .i64 k,.string t,.string d,.string ti,.string at_.id,vc,vp,va,vi,vk]] w (jB w (aj.mk k t d ti at_ ar ci ks).nd):=by
 by_cases h2:k=2
 ·subst h2;exact VE t d ti at_ ar ci ks vc vp va vi vk w hR hs hl hcf
 by_cases h3:k=3
 ·subst h3;exact VF t d ti at_ ar ci ks vc vp va vi vk w hR hs hl hcf
 by_cases h4:k=4
 ·subst h4;exact VG t d ti at_ ar ci ks vc vp va vi vk w hR hs hl hcf
 by_cases h5:k=5
 ·subst h5;exact VK t d ti at_ ar ci ks vc vp va vi vk w hR hs hl hcf
 by_cases h6:k=6
 ·subst h6;exact VH t d ti at_ ar ci ks vc vp va vi vk w hR hs hl hcf
 by_cases h7:k=7
 ·subst h7;exact VI t d ti at_ ar ci ks vc vp va vi vk w hR hs hl hcf
 by_cases h8:k=8
 ·subst h8;exact VJ t d ti at_ ar ci ks vc vp va vi vk w hR hs hl hcf
 by_cases h9:k=9
 ·subst h9;exact VL t d ti at_ ar ci ks vc vp va vi vk w hR hs hl hcf
 by_cases h10:k=10
 ·subst h10;exact QW t d ti at_ ar ci ks vc vp va vi vk w hR hs hl hcf hz
 by_cases h11:k=11
 ·subst h11;exact QV t d ti at_ ar ci ks vc vp va vi vk w hR hs hl hcf
 by_cases h12:k=12
 ·subst h12;exact QU t d ti at_ ar ci ks vc vp va vi vk w hR hs hl hcf
 by_cases h16:k=16
 ·subst h16;exact QT t d ti at_ ar ci ks vc vp va vi vk w hR hs hl hcf
 exact Nz k t d ti at_ ar ci ks vc vp va vi vk w hR hs hl hcf ⟨h2,h3,h4,h5,h6,h7,h8,h9,h10,h11,h12,h16⟩
open Go.RowKit
mutual
def aj.cf:aj->Prop
 | .mk k t d ti a ar ci ks=>(∀ c∈a.cls,aT c=false)/\aj.QY ks
def aj.QY:List aj->Prop
 | []=>True
 | x::l=>x.cf/\aj.QY l
end
theorem aj.JV:∀ (l:List aj),aj.QY l->∀ x∈l,x.cf
 | [],_,x,hx=>by cases hx
 | y::l,h,x,hx=>by
  rw [aj.QY] at h;rcases List.mem_cons.1 hx with rfl | hx
  ·exact h.1
  ·exact aj.JV l h.2 x hx
theorem aI.elder {T:TypeId} {k U:Nat} {ok:Nat->Prop} {w0 wb w:jk3} {ds:List D} {rows:List (List jk5)} {v:jk5} (h:aI T k ok U w0 ds rows v w) (hok:∀ b,ok b->wb.heap.size<=b) (hs:wb.heap.size<=w0.heap.size) (hb:Below wb.heap.size wb w):aI T k (fun _=>False) U wb ds rows v w:=
 ⟨ED h.own hs,aP.keep (fun b hb _=>⟨⟨.inr (by rcases hb.1 with h1 | h1;exact hok b h1;omega),hb.2.1,hb.2.2⟩,rfl⟩) _ _ h.red,h.len,hb,h.oU,jh3 hs h.Er,h.GK⟩
def NA (w:jk3) (N:List Nd) (v vi:jk5) (wr:jk3):Prop:=
 ∃ (k:Nat) (rows:List (List jk5)),k<=N.length/\vi=.int .i64 k/\aI 43 4 (fun _=>False) wr.heap.size w ((N.take k).map Nd.d) rows v wr
theorem Hr (n:Nat):∀ (l:List aj) (v:jk5) (w:jk3),aj.aZ l<=n->n<=1000000->Rd (·<w.heap.size) w (bC l) [v]->aj.aC l->aj.QY l -> Calls Tryz.prog 53 #[v] w (bM w (dD l)):=by
 induction n using Nat.strongRecOn with
 | _ n ih=>
  intro l v w hn hnm hrd hsm hcf;obtain ⟨iN,qG,fZ,gq,gu⟩:=info_parts lW;obtain ⟨a,cap,hv,hs⟩:=Rd.aB hrd;obtain rfl:v=.slice a l.length cap:=by simpa using hv
  have hcap:l.length<=cap:=by simpa using hs.le
  have hll:=aj.gZ l;have hmx:=hs.max;unfold maxLen at hmx;obtain ⟨N,hN⟩:∃ N,N=aj.GZ l:=⟨_,rfl⟩;have Ya:N.length=l.length:=by rw [hN,kg,jh7]
  have Yb:∀ x∈N,x.tx.size<=300:=by intro x hx;rw [hN,kg] at hx;obtain ⟨y,hy,rfl⟩:=List.mem_map.1 hx;exact Tc y (aj.jG l hsm y hy)
  have R0:Hid (NA w N (.slice none 0 0) (.int .i64 0) w):=⟨0,[],Nat.zero_le _,rfl,aI.nil _ _ _ _⟩;have HS:=hid hs;have IH:=hid ih;have eG:=hid hsm;have Gd:=hid hcf;have HN:=hid hN;have Eu:=hid Ya;have HNT:=hid Yb;have HJN:Hid (dD l=zG N):=by show _=_;rw [hN];rfl
  clear hs hv hrd ih hsm hcf hN Ya Yb;go_enter Tryz.func53,Tryz.ntmps53;go_wp2
  go_loopw [3,4] (fun v vi wr=>NA w N v vi wr) (fun _ i _=>l.length-(intOf i).toNat)
  case atStart=>exact R0.out
  case round=>
   clear R0;obtain ⟨k,rows,hk,rfl,hrow⟩:=hrel;rw [Eu.out] at hk;obtain ⟨ds,hds⟩:∃ ds,ds=(N.take k).map Nd.d:=⟨_,rfl⟩;rw [<- hds] at hrow;have hdn:ds.length=k:=by rw [hds,jh7,List.length_take,Eu.out];omega
   have vG:=hid hds;have Yw:=hid hdn;obtain ⟨av,cv,rfl,-,-⟩:=hrow.cap hdn;have aV:=hid hrow;have hbel:=hrow.aL;clear hrow hdn hds;by_cases hlt:k<l.length
   ·obtain ⟨x,hx⟩:∃ x,l[k]?=some x:=⟨_,jh0 hlt⟩;have U9:N[k]?=some x.nd:=by rw [HN.out,kg,List.getElem?_map,hx];rfl
    have HX:=hid (lZ Nd.d N k x.nd U9);rw [<- vG.out] at HX;have hxs:=aj.jG l eG.out x (jhx hx);have hxc:=aj.JV l Gd.out x (jhx hx);have hsz:=aj.bE l k _ hx;obtain ⟨X,hX⟩:∃ X,X=x.nd:=⟨_,rfl⟩;rw [<- hX] at HX;obtain ⟨kd,t,d,ti,at_,ar,ci,ks⟩:=x;obtain ⟨g,off,vc,vp,va,vi,vk,rfl,hok,hbl,hc,hR⟩:=Jp HS.out hx;obtain ⟨c0,c1,c2,c3,c4,c5,c6,c7,c8,c9⟩:=hc.below hbel;rw [aj.sz] at hsz;obtain ⟨ac,nc,cc,rfl⟩:=Rd.ah hR.at_.cls
    obtain ⟨ap,np,cp,rfl⟩:=Rd.ah hR.at_.aF
    obtain ⟨aa,na,ca,rfl⟩:=Rd.ah hR.args;obtain ⟨ai,ni,fI,rfl⟩:=Rd.ah hR.bg;obtain ⟨ak,nk,ck,rfl⟩:=Rd.ah hR.kids;have Vz:=hR.Td hbel hbel.size;have VN:=hxs;rw [aj.small] at VN;rw [aj.cf] at hxc;have LC:fK wr ks (.slice ak nk ck):=fun W hW=>IH.out (aj.aZ ks) (by omega) ks _ W (jh2 _) (by omega) (Vz.kids.up hW) VN.2.2.2.2.2.2.2.2 hxc.2
    have OC:=QX kd t d ti at_ ar ci ks _ _ _ _ _ wr Vz hxs LC hxc.1 (by omega)
    rw [<- hX] at OC;have OL:=hid OC;have hkk:k<=10000000:=by omega
    have hwz:=hbel.size;clear hc hok hbl hR hX hxs VN hxc U9 hx Vz LC OC;go_wp2_with fail
    (with_reducible refine OL.out.mono ?_)
    rintro e w1 ⟨vA,vK,rfl,PX,b1⟩;obtain ⟨aA,nA,cA,rfl⟩:=Rd.ah PX.at_
    obtain ⟨aK,nK,cK,rfl⟩:=Rd.ah PX.ks;obtain ⟨nm,tx,XA,XK⟩:=X;dsimp only [Nd.nm,Nd.tx,Nd.at_,Nd.ks] at PX;dsimp only [Nd.nm,Nd.tx];have U1:=hid (aV.out.below b1);have XD:=hid (show Rd (fun b=>False\/wr.heap.size<=b) w1 (Nd.mk nm tx XA XK).d [.string nm,.string tx,.slice aA nA cA,.slice aK nK cK] from (Nd.fJ nm tx PX).weaken (fun b hb=>.inr hb));clear PX b1 OL hbel c0 c1 c2 c3 c4 c5 c6 c7 c8 c9;go_wp2_with (at_builtin;refine MZ (n:=k) rfl _ _ 34 rfl iN _ 80 Tryz.underlying34 qG fZ gq gu rfl (by decide) U1.out (fun _=>False.elim) (Nd.mk nm tx XA XK).d [.string nm,.string tx,.slice aA nA cA,.slice aK nK cK] XD.out rfl Ev Yw.out hkk (by decide) rfl rfl ?_)
    intro a' c' w5 aH hg5;have HF:Hid (NA w N (.slice a' (k+1) c') (.int .i64 ((k+1:Nat):Int)) w5):=by rw [<- HX.out] at aH;exact ⟨k+1,_,by rw [Eu.out];omega,rfl,aH⟩
    clear aH hg5;go_wp2;go_roundw;case rel=>exact HF.out
    case measure=>simp [intOf];omega
   ·have hkl:k=l.length:=by omega
    subst hkl;have hrd:Rd (w.heap.size<=·) wr (bS N) [.slice av l.length cv]:=by have h:=aV.out.cu;rw [vG.out,List.take_of_length_le (by rw [Eu.out];exact jh2 _)] at h;exact h
    have JC:=hid (Ez w.heap.size N (.slice av l.length cv) wr hrd (by rw [Eu.out];omega) HNT.out);have HB:=hid hbel;clear hrd hbel;go_wp2_with fail
    (with_reducible refine JC.out.mono ?_)
    rintro e w3 ⟨bY,v3,rfl,hrow3⟩;have HF:Hid (bM w (dD l) (.returned v3) w3):=by rw [HJN.out];exact ⟨bY,v3,rfl,hrow3.elder (fun b hb=>hb.1) HB.out.size (HB.out.trans (hrow3.aL.mono HB.out.size))⟩
    clear hrow3 JC;go_wp2;go_ret;exact HF.out
open Go.RowKit
def JW (w:jk3) (l:List aj) (vi:jk5) (wr:jk3):Prop:=∃ k:Nat,k<=l.length/\vi=.int .i64 k/\(l.take k).any fA=false/\Below w.heap.size w wr
def ND (w:jk3) (b:Bool) (e:Ending) (w':jk3):Prop:=e=.returned (.bool b)/\Below w.heap.size w w'
theorem pR {l:List aj} {k:Nat} {x:aj} (hx:l[k]?=some x) (h:fA x=true):l.any fA=true:=List.any_eq_true.2 ⟨x,jhx hx,h⟩
theorem oP {l:List aj} {k:Nat} {x:aj} (hx:l[k]?=some x) (h:fA x=false) (hk:(l.take k).any fA=false):(l.take (k+1)).any fA=false:=by rw [List.take_add_one,hx,List.any_append,hk];simp [h]
theorem xA (l:List aj) (ok:Nat->Prop) (v:jk5) (w:jk3) (hrd:Rd ok w (bC l) [v]):Calls Tryz.prog 48 #[v] w (ND w (l.any fA)):=by
 obtain ⟨a,cap,hv,hs⟩:=Rd.aB hrd;obtain rfl:v=.slice a l.length cap:=by simpa using hv
 have hcap:l.length<=cap:=by simpa using hs.le
 have hmx:=hs.max;unfold maxLen at hmx;have HS:=hid hs;have R0:Hid (JW w l (.int .i64 0) w):=⟨0,Nat.zero_le _,rfl,by simp,jh1 _ _⟩;clear hs hv hrd;go_enter Tryz.func48,Tryz.ntmps48;go_wp2
 go_loopw [7] (fun vi wr=>JW w l vi wr) (fun i _=>l.length-(intOf i).toNat)
 case atStart=>exact R0.out
 case round=>
  clear R0;obtain ⟨k,hk,rfl,hany,hbel⟩:=hrel;have HK:=hid hany;clear hany;by_cases hlt:k<l.length
  ·obtain ⟨x,hx⟩:∃ x,l[k]?=some x:=⟨_,jh0 hlt⟩;obtain ⟨kd,t,d,ti,at_,ar,ci,ks⟩:=x;obtain ⟨g,off,vc,vp,va,vi,vk,rfl,hok,hbl,hc,hR⟩:=Jp HS.out hx;obtain ⟨c0,c1,c2,c3,c4,c5,c6,c7,c8,c9⟩:=hc.below hbel;obtain ⟨ac,nc,cc,rfl⟩:=Rd.ah hR.at_.cls
   obtain ⟨ap,np,cp,rfl⟩:=Rd.ah hR.at_.aF
   obtain ⟨aa,na,ca,rfl⟩:=Rd.ah hR.args;obtain ⟨ai,ni,fI,rfl⟩:=Rd.ah hR.bg;obtain ⟨ak,nk,ck,rfl⟩:=Rd.ah hR.kids;have HX:=hid hx;have qe:=Ms t;obtain ⟨p,hp⟩:∃ p,p=wr.heap.size:=⟨_,rfl⟩;obtain ⟨wA,gN⟩:∃ wA,wA=wr.alloc (.cells #[.int .i64 kd,.string t,.string d,.string ti,.string at_.id,.slice ac nc cc,.slice ap np cp,.slice aa na ca,.slice ai ni fI,.slice ak nk ck] 51):=⟨_,rfl⟩;have PA:PB p [.int .i64 kd,.string t,.string d,.string ti,.string at_.id,.slice ac nc cc,.slice ap np cp,.slice aa na ca,.slice ai ni fI,.slice ak nk ck] wA:=by rw [gN,hp];exact heap_alloc_new wr _
   have ql:Hid (Below w.heap.size w wA):=by rw [gN];exact hbel.alloc hbel.size _
   clear hc hok hbl hR hx hbel;go_upto_region 4 with (fail)
   rw [<- gN,<- hp];obtain ⟨e0,e1,-,-,-,-,-,-,-,-⟩:=GX PA;clear gN hp PA c0 c1 c2 c3 c4 c5 c6 c7 c8 c9;by_cases qg:kd=15
   ·subst qg;have HT:=hid (pR HX.out (show fA (aj.mk 15 t d ti at_ ar ci ks)=true by unfold fA;simp));clear HX;go_wp2;go_ret;exact ⟨by rw [HT.out];rfl,ql.out⟩
   by_cases QZ:kd=13
   ·subst QZ;have HT:=hid (pR HX.out (show fA (aj.mk 13 t d ti at_ ar ci ks)=true by unfold fA;simp));clear HX;go_wp2;go_ret;exact ⟨by rw [HT.out];rfl,ql.out⟩
   by_cases Hg:kd=14
   ·subst Hg;have HT:=hid (pR HX.out (show fA (aj.mk 14 t d ti at_ ar ci ks)=true by unfold fA;simp));clear HX;go_wp2;go_ret;exact ⟨by rw [HT.out];rfl,ql.out⟩
   by_cases h9:kd=9
   ·subst h9;cases ht:aT t
    ·have q1:t.toList.isEmpty=false:=by rw [qe];exact ht
     have HT:=hid (pR HX.out (show fA (aj.mk 9 t d ti at_ ar ci ks)=true by unfold fA;simp [ht]));clear HX ht qe;go_wp2;go_ret;exact ⟨by rw [HT.out];rfl,ql.out⟩
    ·have q1:t.toList.isEmpty=true:=by rw [qe];exact ht
     have q2:t.toList=[]:=by rw [List.isEmpty_iff] at q1;exact q1
     have HT:=hid (oP HX.out (show fA (aj.mk 9 t d ti at_ ar ci ks)=false by unfold fA;simp [ht]) HK.out);clear HX HK ht qe;go_wp2;go_roundw;case rel=>exact ⟨k+1,by omega,by go_num,HT.out,ql.out⟩
     case measure=>simp [intOf];omega
   by_cases h10:kd=10
   ·subst h10;cases ht:aT t
    ·have q1:t.toList.isEmpty=false:=by rw [qe];exact ht
     have HT:=hid (pR HX.out (show fA (aj.mk 10 t d ti at_ ar ci ks)=true by unfold fA;simp [ht]));clear HX ht qe;go_wp2;go_ret;exact ⟨by rw [HT.out];rfl,ql.out⟩
    ·have q1:t.toList.isEmpty=true:=by rw [qe];exact ht
     have q2:t.toList=[]:=by rw [List.isEmpty_iff] at q1;exact q1
     have HT:=hid (oP HX.out (show fA (aj.mk 10 t d ti at_ ar ci ks)=false by unfold fA;simp [ht]) HK.out);clear HX HK ht qe;go_wp2;go_roundw;case rel=>exact ⟨k+1,by omega,by go_num,HT.out,ql.out⟩
     case measure=>simp [intOf];omega
   have PV:(kd==15)=false:=by rw [beq_eq_false_iff_ne];exact qg
   have q13:(kd==13)=false:=by rw [beq_eq_false_iff_ne];exact QZ
   have q14:(kd==14)=false:=by rw [beq_eq_false_iff_ne];exact Hg
   have q9:(kd==9)=false:=by rw [beq_eq_false_iff_ne];exact h9
   have q10:(kd==10)=false:=by rw [beq_eq_false_iff_ne];exact h10
   have HT:=hid (oP HX.out (show fA (aj.mk kd t d ti at_ ar ci ks)=false by unfold fA;simp [qg,QZ,Hg,h9,h10]) HK.out);clear HX HK qg QZ Hg h9 h10 qe;go_wp2;go_roundw;case rel=>exact ⟨k+1,by omega,by go_num,HT.out,ql.out⟩
   case measure=>simp [intOf];omega
  ·have hkl:k=l.length:=by omega
   have HT:Hid (l.any fA=false):=by
    have h:=HK.out
    rwa [hkl,List.take_length] at h
   clear hkl;go_wp2;go_ret;exact ⟨by rw [HT.out];rfl,hbel⟩
theorem Ht (l0:List aj) (v0:jk5) (w0:jk3) (VO:Rd (·<w0.heap.size) w0 (bC l0) [v0]) (hsz:aj.aZ l0<=1000000):Calls Tryz.prog 52 #[v0] w0 (ND w0 (jc l0)):=by
 obtain ⟨a0,n0,c0,rfl⟩:=Rd.ah VO;have DC:=hid (NG _ l0 w0.heap.size _ w0 (jh2 _) hsz VO (jh2 _));have hue:jc l0=(aj.aU l0).any fA:=rfl;rw [hue];obtain ⟨l,hl⟩:∃ l,l=aj.aU l0:=⟨_,rfl⟩;rw [<- hl] at DC ⊢;clear hue hl VO;go_enter Tryz.func52,Tryz.ntmps52;go_wp2_with fail
 (with_reducible refine DC.out.mono ?_)
 rintro e w ⟨v,rows,rfl,hrow⟩;have hrd:Rd (fun _=>True) w (bC l) [v]:=Rd.ig hrow.own (aP.keep (fun b _ _=>⟨trivial,rfl⟩) _ _ hrow.red) hrow.len (fun _ _=>trivial);have HB0:=hid hrow.aL;obtain ⟨a,cap,hv,hs⟩:=Rd.aB hrd;obtain rfl:v=.slice a l.length cap:=by simpa using hv
 have hcap:l.length<=cap:=by simpa using hs.le
 have hmx:=hs.max;unfold maxLen at hmx;have HS:=hid hs;have R0:Hid (JW w l (.int .i64 0) w):=⟨0,Nat.zero_le _,rfl,by simp,jh1 _ _⟩;clear hs hv hrd hrow DC;go_wp2
 go_loopw [4] (fun vi wr=>JW w l vi wr) (fun i _=>l.length-(intOf i).toNat)
 case atStart=>exact R0.out
 case round=>
  clear R0;obtain ⟨k,hk,rfl,hany,hbel⟩:=hrel;have HK:=hid hany;clear hany;by_cases hlt:k<l.length
  ·obtain ⟨x,hx⟩:∃ x,l[k]?=some x:=⟨_,jh0 hlt⟩;obtain ⟨kd,t,d,ti,at_,ar,ci,ks⟩:=x;obtain ⟨g,off,vc,vp,va,vi,vk,rfl,hok,hbl,hc,hR⟩:=Jp HS.out hx;obtain ⟨c0,c1,c2,c3,c4,c5,c6,c7,c8,c9⟩:=hc.below hbel;obtain ⟨ac,nc,cc,rfl⟩:=Rd.ah hR.at_.cls
   obtain ⟨ap,np,cp,rfl⟩:=Rd.ah hR.at_.aF
   obtain ⟨aa,na,ca,rfl⟩:=Rd.ah hR.args;obtain ⟨ai,ni,fI,rfl⟩:=Rd.ah hR.bg;obtain ⟨ak,nk,ck,rfl⟩:=Rd.ah hR.kids;have HX:=hid hx;have qe:=Ms t;obtain ⟨p,hp⟩:∃ p,p=wr.heap.size:=⟨_,rfl⟩;obtain ⟨wA,gN⟩:∃ wA,wA=wr.alloc (.cells #[.int .i64 kd,.string t,.string d,.string ti,.string at_.id,.slice ac nc cc,.slice ap np cp,.slice aa na ca,.slice ai ni fI,.slice ak nk ck] 51):=⟨_,rfl⟩;have PA:PB p [.int .i64 kd,.string t,.string d,.string ti,.string at_.id,.slice ac nc cc,.slice ap np cp,.slice aa na ca,.slice ai ni fI,.slice ak nk ck] wA:=by rw [gN,hp];exact heap_alloc_new wr _
   have ql:Hid (Below w.heap.size w wA):=by rw [gN];exact hbel.alloc hbel.size _
   clear hc hok hbl hR hx hbel;go_upto_region 6 with (fail)
   rw [<- gN,<- hp];obtain ⟨e0,e1,-,-,-,-,-,-,-,-⟩:=GX PA;clear gN hp PA c0 c1 c2 c3 c4 c5 c6 c7 c8 c9;by_cases qg:kd=15
   ·subst qg;have HT:=hid (pR HX.out (show fA (aj.mk 15 t d ti at_ ar ci ks)=true by unfold fA;simp));clear HX;go_wp2;go_ret;exact ⟨by rw [HT.out];rfl,aM HB0.out ql.out⟩
   by_cases QZ:kd=13
   ·subst QZ;have HT:=hid (pR HX.out (show fA (aj.mk 13 t d ti at_ ar ci ks)=true by unfold fA;simp));clear HX;go_wp2;go_ret;exact ⟨by rw [HT.out];rfl,aM HB0.out ql.out⟩
   by_cases Hg:kd=14
   ·subst Hg;have HT:=hid (pR HX.out (show fA (aj.mk 14 t d ti at_ ar ci ks)=true by unfold fA;simp));clear HX;go_wp2;go_ret;exact ⟨by rw [HT.out];rfl,aM HB0.out ql.out⟩
   by_cases h9:kd=9
   ·subst h9;cases ht:aT t
    ·have q1:t.toList.isEmpty=false:=by rw [qe];exact ht
     have HT:=hid (pR HX.out (show fA (aj.mk 9 t d ti at_ ar ci ks)=true by unfold fA;simp [ht]));clear HX ht qe;go_wp2;go_ret;exact ⟨by rw [HT.out];rfl,aM HB0.out ql.out⟩
    ·have q1:t.toList.isEmpty=true:=by rw [qe];exact ht
     have q2:t.toList=[]:=by rw [List.isEmpty_iff] at q1;exact q1
     have HT:=hid (oP HX.out (show fA (aj.mk 9 t d ti at_ ar ci ks)=false by unfold fA;simp [ht]) HK.out);clear HX HK ht qe;go_wp2;go_roundw;case rel=>exact ⟨k+1,by omega,by go_num,HT.out,ql.out⟩
     case measure=>simp [intOf];omega
   by_cases h10:kd=10
   ·subst h10;cases ht:aT t
    ·have q1:t.toList.isEmpty=false:=by rw [qe];exact ht
     have HT:=hid (pR HX.out (show fA (aj.mk 10 t d ti at_ ar ci ks)=true by unfold fA;simp [ht]));clear HX ht qe;go_wp2;go_ret;exact ⟨by rw [HT.out];rfl,aM HB0.out ql.out⟩
    ·have q1:t.toList.isEmpty=true:=by rw [qe];exact ht
     have q2:t.toList=[]:=by rw [List.isEmpty_iff] at q1;exact q1
     have HT:=hid (oP HX.out (show fA (aj.mk 10 t d ti at_ ar ci ks)=false by unfold fA;simp [ht]) HK.out);clear HX HK ht qe;go_wp2;go_roundw;case rel=>exact ⟨k+1,by omega,by go_num,HT.out,ql.out⟩
     case measure=>simp [intOf];omega
   have PV:(kd==15)=false:=by rw [beq_eq_false_iff_ne];exact qg
   have q13:(kd==13)=false:=by rw [beq_eq_false_iff_ne];exact QZ
   have q14:(kd==14)=false:=by rw [beq_eq_false_iff_ne];exact Hg
   have q9:(kd==9)=false:=by rw [beq_eq_false_iff_ne];exact h9
   have q10:(kd==10)=false:=by rw [beq_eq_false_iff_ne];exact h10
   have HT:=hid (oP HX.out (show fA (aj.mk kd t d ti at_ ar ci ks)=false by unfold fA;simp [qg,QZ,Hg,h9,h10]) HK.out);clear HX HK qg QZ Hg h9 h10 qe;go_wp2;go_roundw;case rel=>exact ⟨k+1,by omega,by go_num,HT.out,ql.out⟩
   case measure=>simp [intOf];omega
  ·have hkl:k=l.length:=by omega
   have HT:Hid (l.any fA=false):=by
    have h:=HK.out
    rwa [hkl,List.take_length] at h
   clear hkl;go_wp2;go_ret;exact ⟨by rw [HT.out];rfl,aM HB0.out hbel⟩
end Go.Proofs.YtclikfjalmcoaaaGreatDoor

