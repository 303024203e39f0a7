/- Contract of the function that markup.Values calls for each node (markup.Values$1): the values of a key, one behind the other. Contracts of markup.Values and html.Anchors. -/
import Derived.Test.YtklhajbpfelliaaGreatDoorKHsm
set_option maxHeartbeats 4000000
set_option maxRecDepth 100000
open Go.Lib (hid)
namespace Go.Proofs.YtklhajbpfelliaaGreatDoor
open Go.RowKit.Below renaming refl->jFj
open Nat renaming le_refl->jFk
open List renaming length_append->jG0,append_assoc->jH0,append_nil->jI9
open Go.World renaming size_alloc->jG8
open Go renaming Value->jIz
open Go.RowKit
set_option linter.unusedVariables false
set_option linter.unusedSimpArgs false
def fv (key:ByteArray) (a:List Pr):List ByteArray:=(a.filter fun p=>decide (p.key=key)).map (·.val)
theorem TH (key:ByteArray) (a b:List Pr):fv key (a++b)=fv key a++fv key b:=by unfold fv;simp
theorem Yh (key:ByteArray) (a:List Pr) (k:Nat) (p:Pr) (h:a[k]?=some p):fv key (a.take (k+1))=fv key (a.take k)++if p.key=key then [p.val] else []:=by rw [List.take_add_one,h,TH];unfold fv;by_cases hk:p.key=key<;>simp [hk]
theorem jok (key:ByteArray) (a:List Pr) (k:Nat):(fv key (a.take k)).length<=(fv key a).length:=by
 have h:fv key a=fv key (a.take k)++fv key (a.drop k):=by rw [<- TH,List.take_append_drop]
 rw [h,jG0];omega
theorem KO (key:ByteArray) (l:List Nd) (k:Nat) (x:Nd) (h:l[k]?=some x):Nd.dI key (l.take (k+1))=Nd.dI key (l.take k)++x.vals key:=by rw [List.take_add_one,h,Dy];show _++Nd.dI key [x]=_;rw [Nd.dI,Nd.dI,jI9]
theorem Pm (key:ByteArray) (l:List Nd) (k:Nat):(Nd.dI key (l.take k)).length<=(Nd.dI key l).length:=by
 have h:Nd.dI key l=Nd.dI key (l.take k)++Nd.dI key (l.drop k):=by rw [<- Dy,List.take_append_drop]
 rw [h,jG0];omega
def VaF (S:Nat):jIz:=.func (.func 66) #[] #[.pointer (some ⟨S,0,none⟩),.pointer (some ⟨S+1,0,none⟩),.pointer (some ⟨S+2,0,none⟩)]
structure WO (S B:Nat) (key:ByteArray) (TF:TypeId) (L:List ByteArray) (v:jIz) (w:World):Prop where
 k1:aJ S (.string key) 9 w
 k2:aJ (S+1) v 41 w
 k3:aJ (S+2) (VaF S) TF w
 own:w.ownsRow B 9 1 v L.length (L.map Value.string)
structure sZ (S B:Nat) (key:ByteArray) (TF:TypeId) (L:List ByteArray) (v:jIz) (w w':World) (v':jIz):Prop where
 i:WO S B key TF L v' w'
 keep:∀ b,b<w.heap.size->b≠S+1->v.ownBlock≠some b->w'.heap[b]?=w.heap[b]?
 own:∀ g,v'.ownBlock=some g->v.ownBlock=some g\/w.heap.size<=g
 aO:Below S w w'
theorem sZ.refl {S B:Nat} {key:ByteArray} {TF:TypeId} {L:List ByteArray} {v:jIz} {w:World} (h:WO S B key TF L v w):sZ S B key TF L v w w v:=
 ⟨h,fun _ _ _ _=>rfl,fun _ h=>.inl h,jFj _ _⟩
theorem sZ.trans {S B:Nat} {key:ByteArray} {TF:TypeId} {L1 L2:List ByteArray} {v v1 v2:jIz} {w w1 w2:World} (h1:sZ S B key TF L1 v w w1 v1) (h2:sZ S B key TF L2 v1 w1 w2 v2):sZ S B key TF L2 v w w2 v2:=by
 have hs:=h1.aO.size;refine ⟨h2.i,fun b hb hn ho=>?_,fun g hg=>?_,h1.aO.trans h2.aO⟩
 ·refine (h2.keep b (by omega) hn (fun e=>?_)).trans (h1.keep b hb hn ho);rcases h1.own b e with h | h
  ·exact ho h
  ·omega
 ·rcases h2.own g hg with h | h
  ·exact h1.own g h
  ·exact .inr (by omega)
theorem WO.alloc {S B:Nat} {key:ByteArray} {TF:TypeId} {L:List ByteArray} {v:jIz} {w:World} (h:WO S B key TF L v w) (o:Obj):WO S B key TF L v (w.alloc o):=
 ⟨h.k1.alloc o,h.k2.alloc o,h.k3.alloc o,h.own.alloc o⟩
theorem sZ.alloc {S B:Nat} {key:ByteArray} {TF:TypeId} {L:List ByteArray} {v v':jIz} {w w':World} (h:sZ S B key TF L v w w' v') (o:Obj):sZ S B key TF L v w (w'.alloc o) v':=by have hs:=h.aO.size;have hS:=h.i.k1.lt;exact ⟨h.i.alloc o,fun b hb hn ho=>(Below.heap_alloc w' o b (by omega)).trans (h.keep b hb hn ho),h.own,h.aO.alloc (by omega) o⟩
theorem KR {w:World} {B:Nat} {e:TypeId} {k n:Nat} {v:jIz} {xs:List jIz} (h:w.ownsRow B e k v n xs) (b:Nat) (hb:b<B) (u:jIz):(w.setCell ⟨b,0,none⟩ u).ownsRow B e k v n xs:=by
 obtain ⟨h1,h2⟩:=h;refine ⟨h1,?_⟩;rcases h2 with h2 | ⟨g,cap,cur,rfl,r2,r3,r4⟩
 ·exact .inl h2
 ·exact .inr ⟨g,cap,cur,rfl,r2,(Below.heap_setCell w ⟨b,0,none⟩ u g (by show g≠b;omega)).trans r3,r4⟩
theorem WO.box {S B:Nat} {key:ByteArray} {TF:TypeId} {L:List ByteArray} {v:jIz} {w w3:World} {o:Obj} (h:WO S B key TF L v w) (hB:S+3<=B) (hg:(w.alloc o).grownBy w3 v.ownBlock) : aJ S (.string key) 9 w3/\aJ (S+1) v 41 w3/\aJ (S+2) (VaF S) TF w3:=by
 have hl:=h.k3.lt;have hn:∀ b,b<B->some b≠v.ownBlock:=fun b hb e=>by have:=(h.own.lt b e.symm).1;omega
 have hh:∀ b,b<B->b<w.heap.size->w3.heap[b]?=w.heap[b]?:=fun b hb hlt=>(hg.block b (by simp;omega) (hn b hb)).trans (Below.heap_alloc w o b hlt)
 exact ⟨(hh S (by omega) h.k1.lt).trans h.k1,(hh (S+1) (by omega) h.k2.lt).trans h.k2,(hh (S+2) (by omega) h.k3.lt).trans h.k3⟩
theorem WO.push {S B:Nat} {key val:ByteArray} {TF:TypeId} {L:List ByteArray} {v v2:jIz} {w w3:World} {o:Obj} (h:WO S B key TF L v w) (hB:S+3<=B) (hg:(w.alloc o).grownBy w3 v.ownBlock) (hown:w3.ownsRow B 9 1 v2 (L.length+1) (L.map Value.string++[.string val])) (hat:v2.ownBlock=v.ownBlock\/v2.ownBlock=some (w.alloc o).heap.size) : sZ S B key TF (L++[val]) v w (w3.setCell ⟨S+1,0,none⟩ v2) v2:=by
 obtain ⟨b1,b2,b3⟩:=h.box hB hg;have hz:(w.alloc o).heap.size=w.heap.size+1:=jG8 _ _;have hsz:=hg.size;refine ⟨⟨b1.far (by omega) v2,b2.set v2,b3.far (by omega) v2,?_⟩,fun b hb hn ho=>?_,fun g hg2=>?_,?_⟩
 ·have h3:=KR hown (S+1) (by omega) v2;rw [jG0,List.length_singleton,List.map_append];exact h3
 ·exact (Below.heap_setCell w3 ⟨S+1,0,none⟩ v2 b hn).trans ((hg.block b (by omega) (fun e=>ho e.symm)).trans (Below.heap_alloc w o b hb))
 ·rcases hat with e | e
  ·exact .inl (e ▸ hg2)
  ·rw [e] at hg2;have:=Option.some.inj hg2;exact .inr (by omega)
 ·have hl:=h.k1.lt;exact (((jFj S w).alloc (by omega) o).grown hg (by omega) (fun g hg3=>by have:=(h.own.lt g hg3).1;omega)).setCell (by show S<=S+1;omega) v2
def VaR (S B:Nat) (key:ByteArray) (TF:TypeId) (N:Nat) (f:Nat->List ByteArray) (v:jIz) (w:World) (vi:jIz) (wr:World):Prop:=
 ∃ (k:Nat) (v':jIz),k<=N/\vi=.int .i64 k/\sZ S B key TF (f k) v w wr v'
theorem TI{P:Prop}(h:P:=by
 go_wp2;go_roundw;case rel=>exact HF.out
 case measure=>simp [intOf];omega):P:=h
theorem TJ (key:ByteArray) (TF:TypeId) (n:Nat):∀ (nm tx:ByteArray) (at_:List Pr) (ks:List Nd) (S B:Nat) (L:List ByteArray) (v va vk:jIz) (w:World),(Nd.mk nm tx at_ ks).sz<=n->gP (·<S) w at_ ks va vk->WO S B key TF L v w->S+3<=B->B<=w.heap.size -> L.length+((Nd.mk nm tx at_ ks).vals key).length<=10000000 -> Calls Tryz.prog 66 #[.agg #[.string nm,.string tx,va,vk],.pointer (some ⟨S,0,none⟩),.pointer (some ⟨S+1,0,none⟩),.pointer (some ⟨S+2,0,none⟩)] w (fun e w'=>e=.returned (.tuple #[])/\∃ v',sZ S B key TF (L++(Nd.mk nm tx at_ ks).vals key) v w w' v'):=by
 induction n using Nat.strongRecOn with
 | _ n ih=>
  intro nm tx at_ ks S B L v va vk w hn hR hI hB hBw hlen
  obtain ⟨i0,hi0,hz0,hz1,hz2⟩:=info_parts GD;obtain ⟨aa,ca,hva,hsa⟩:=Rd.ay hR.at_
  obtain ⟨ak,ck,hvk,hsk⟩:=Rd.ay hR.ks;obtain ⟨na,hna⟩:∃ na,na=at_.length:=⟨_,rfl⟩
  obtain ⟨nk,hnk⟩:∃ nk,nk=ks.length:=⟨_,rfl⟩;obtain rfl:va=.slice aa na ca:=by rw [hna];simpa using hva
  obtain rfl:vk=.slice ak nk ck:=by rw [hnk];simpa using hvk
  have jD5:na<=ca:=by have:=hsa.le;rw [List.length_map] at this;omega
  have jzk:=hsa.max;have jD6:nk<=ck:=by have:=hsk.le;rw [List.length_map] at this;omega
  have jzq:=hsk.max;unfold maxLen at jzk jzq;obtain ⟨p,hp⟩:∃ p,p=w.heap.size:=⟨_,rfl⟩;obtain ⟨wA,iH⟩:∃ wA,wA=w.alloc (.cells #[.string nm,.string tx,.slice aa na ca,.slice ak nk ck] 30):=⟨_,rfl⟩;have PA:CB 30 p [.string nm,.string tx,.slice aa na ca,.slice ak nk ck] wA:=by rw [iH,hp];exact CB.new _ _ w
  have zA:wA.heap.size=p+1:=by rw [iH,hp];simp
  have K0:sZ S B key TF L v w wA v:=by rw [iH];exact (sZ.refl hI).alloc _
  have hvp:v.ownBlock≠some p:=fun e=>by have:=(hI.own.lt p e).2;omega
  have hSp:p≠S+1:=by omega
  have HK0:=hid K0;have HPA:=hid PA;have HSA:=hid hsa;have KT:=hid hsk;have HNA:=hid hna;have uH:=hid hnk;have HN:=hid hn;have IH:=hid ih;have HLEN:=hid hlen;have HP:=hid hp;have HZA:=hid zA;have HVP:=hid hvp;have HCP:Hid (∀ (L':List ByteArray) (v':jIz) (wr:World),sZ S B key TF L' v wA wr v'->CB 30 p [.string nm,.string tx,.slice aa na ca,.slice ak nk ck] wr):=fun L' v' wr h=>(h.keep p (by omega) hSp hvp).trans PA
  have KA:Hid (sZ S B key TF L v wA wA v):=sZ.refl K0.i;clear hR hI hva hvk hsa hsk hna hnk hn ih hlen zA K0 hvp hSp;have d0:=PA.cell 0 _ rfl;have d2:=PA.cell 2 _ rfl;clear PA;go_enter Tryz.func66,Tryz.ntmps66;go_upto_region 1 with (fail)
  rw [<- iH,<- hp];clear iH hp;have WJ:nm.toList.isEmpty=bq nm:=by rw [Lib.toList_data,Bool.eq_iff_iff,List.isEmpty_iff,bq,decide_eq_true_iff]
  by_cases hne:bq nm=true
  ·have hv0:Hid ((Nd.mk nm tx at_ ks).vals key=[]):=by show _=_;rw [Nd.vals,if_pos hne]
   rw [hne] at WJ;clear hne;go_wp2;refine bodyPost_ret (v:=.tuple #[]) (by simp [results,Tryz.results66,go_sem]) rfl ⟨rfl,v,?_⟩;rw [hv0.out,jI9];exact HK0.out
  have hv1:Hid ((Nd.mk nm tx at_ ks).vals key=fv key at_++Nd.dI key ks):=by show _=_;rw [Nd.vals,if_neg hne];rfl
  have hne:bq nm=false:=by simpa using hne
  rw [hne] at WJ;clear hne;have R1:Hid (VaR S B key TF na (fun k=>L++fv key (at_.take k)) v wA (.int .i64 0) wA):=⟨0,v,Nat.zero_le _,rfl,by
   have h:=KA.out;show sZ S B key TF (L++fv key []) v wA wA v;rw [show fv key []=[] from rfl,jI9];exact h⟩
  go_wp2
  go_loopw [15] (fun vi wr=>VaR S B key TF na (fun k=>L++fv key (at_.take k)) v wA vi wr) (fun i _=>na-(intOf i).toNat)
  case atStart=>exact R1.out
  case round=>
   clear R1 d0 d2 WJ;obtain ⟨j,v1,hj,rfl,hk⟩:=hrel;have hcb:=HCP.out _ _ _ hk;by_cases hlt:j<na
   ·obtain ⟨y,hy⟩:∃ y,at_[j]?=some y:=⟨_,List.getElem?_eq_getElem (by have:=HNA.out;omega)⟩
    have hsn:=Yh key at_ j y hy
    obtain ⟨b,off,rfl,hok,hbl,c0,c1⟩:=jB HSA.out hy;have hbS:=(HK0.out.aO.trans hk.aO).block b hok;have c0:=(jy hbS (o:=off+j*2)).trans c0;have c1:=(jy hbS (o:=off+j*2+1)).trans c1;have HY:=hid hy;have Xg:=hid hk;have gZ:=hid hsn;obtain ⟨yk,yv⟩:=y;clear hk hsn hy hbS hok hbl hcb;go_upto_region 5 with (fail)
    obtain ⟨p2,hp2⟩:∃ p2,p2=wr.heap.size:=⟨_,rfl⟩;obtain ⟨w2,hw2⟩:∃ w2,w2=wr.alloc (.cells #[.string yk,.string yv] 37):=⟨_,rfl⟩;have K2:sZ S B key TF (L++fv key (at_.take j)) v wA w2 v1:=by rw [hw2];exact Xg.out.alloc _
    have P2:CB 37 p2 [.string yk,.string yv] w2:=by rw [hw2,hp2];exact CB.new _ _ wr
    rw [<- hw2,<- hp2];have g0:=P2.cell 0 _ rfl;have g1:=P2.cell 1 _ rfl;have gk:=K2.i.k1.cell;have Nt:=hid K2;clear hw2 hp2 P2 K2 c0 c1;by_cases hkey:yk=key
    ·have HF0:Hid (fv key (at_.take (j+1))=fv key (at_.take j)++[yv]):=by show _=_;rw [gZ.out,if_pos hkey]
     subst hkey;obtain ⟨m,hm⟩:∃ m,m=(L++fv yk (at_.take j)).length:=⟨_,rfl⟩;have hm1:m<=10000000:=by
      have h1:=jok yk at_ j
      have h2:=HLEN.out;rw [hv1.out,jG0] at h2;rw [hm,jG0];omega
     have OW:w2.ownsRow B 9 1 v1 m ((L++fv yk (at_.take j)).map Value.string):=by rw [hm];exact Nt.out.i.own
     obtain ⟨a1,c1,rfl⟩:=kY OW;have gv:=Nt.out.i.k2.cell;have HOW:=hid OW;have HM:=hid hm;have hBw2:B<=w2.heap.size:=by have:=Nt.out.aO.size;have:=HZA.out;have:=HP.out;have h:=Nt.out.keep;have hs2:wA.heap.size<=w2.heap.size:=Nt.out.aO.size;omega
     clear OW hm;go_wp2_with (at_builtin;refine wpList_append_own_at _ rfl _ _ 41 rfl B 9 i0 _ 1 16 Tryz.underlying41 hi0 hz0 hz1 hz2 rfl (by decide) _ _ _ rfl (HOW.out.alloc _) ⟨w2.heap.size,0,none⟩ 1 1 [.string yv] rfl rfl (EY w2 (.string yv) 9) (by intro u hu;simp at hu;subst hu;rfl) (by unfold maxLen;omega) (by omega) (by simp;omega) ?_)
     intro v2 w3 hown3 hg3 _ xw;obtain ⟨a3,c3,rfl⟩:=kY hown3;have bx:=(Nt.out.i.box hB hg3).2.1;have bc:=bx.cell;have bf:=bx.free;have PU:=Nt.out.i.push hB hg3 (by rw [<- HM.out,List.map_append,jH0];exact hown3) (by rw [jG8];exact xw);have HF:Hid (VaR S B yk TF na (fun k=>L++fv yk (at_.take k)) v wA (.int .i64 ((j+1:Nat):Int)) (w3.setCell ⟨S+1,0,none⟩ (.slice a3 (m+1) c3))):=⟨j+1,_,by omega,rfl,by
      show sZ S B yk TF (L++fv yk (at_.take (j+1))) v wA _ _;rw [HF0.out,<- jH0];exact Nt.out.trans PU⟩
     clear hown3 hg3 xw PU bx g0 g1 gk gv HOW;exact TI
    ·have HF0:Hid (fv key (at_.take (j+1))=fv key (at_.take j)):=by show _=_;rw [gZ.out,if_neg hkey,jI9]
     have hq:(yk.toList==key.toList)=false:=by rw [beq_eq_false_iff_ne];intro e;rw [Lib.toList_data,Lib.toList_data] at e;exact hkey (ByteArray.ext (Array.toList_inj.1 e))
     have HF:Hid (VaR S B key TF na (fun k=>L++fv key (at_.take k)) v wA (.int .i64 ((j+1:Nat):Int)) w2):=⟨j+1,v1,by omega,rfl,by
      show sZ S B key TF (L++fv key (at_.take (j+1))) v wA _ _;rw [HF0.out];exact Nt.out⟩
     exact TI
   ·have hjn:j=na:=by omega
    have Xg:Hid (sZ S B key TF (L++fv key at_) v wA wr v1):=by have h:sZ S B key TF (L++fv key (at_.take j)) v wA wr v1:=hk;rw [hjn,HNA.out,List.take_length] at h;exact h
    obtain ⟨w1,hw1⟩:∃ w1:World,w1=wr:=⟨_,rfl⟩;subst hw1;have f3:=hcb.cell 3 _ rfl;have R2:Hid (VaR S B key TF nk (fun k=>L++fv key at_++Nd.dI key (ks.take k)) v wA (.int .i64 0) w1):=⟨0,v1,Nat.zero_le _,rfl,by
     show sZ S B key TF (L++fv key at_++Nd.dI key []) v wA _ _;rw [Nd.dI,jI9];exact Xg.out⟩
    clear hk hcb hjn hj;go_wp2
    go_loopw [32] (fun vi wr=>VaR S B key TF nk (fun k=>L++fv key at_++Nd.dI key (ks.take k)) v wA vi wr) (fun i _=>nk-(intOf i).toNat)
    case atStart=>exact R2.out
    case round=>
     clear R2 f3;obtain ⟨j,v1,hj,rfl,hk⟩:=hrel;by_cases hlt:j<nk
     ·obtain ⟨y,hy⟩:∃ y,ks[j]?=some y:=⟨_,List.getElem?_eq_getElem (by have:=uH.out;omega)⟩;have hsn:=KO key ks j y hy;have hsz:=Nd.bI ks j y hy;obtain ⟨yn,yt,ya,lZ⟩:=y;obtain ⟨b,off,va2,vk2,rfl,hok,hbl,c0,c1,c2,c3,hR2⟩:=om KT.out hy;obtain ⟨a2,n2,cc2,rfl⟩:=Rd.au hR2.at_
      obtain ⟨a4,n4,cc4,rfl⟩:=Rd.au hR2.ks;have hb2:=HK0.out.aO.trans hk.aO;have hbS:=hb2.block b hok;have c0:=(jy hbS (o:=off+j*4)).trans c0;have c1:=(jy hbS (o:=off+j*4+1)).trans c1;have c2:=(jy hbS (o:=off+j*4+2)).trans c2;have c3:=(jy hbS (o:=off+j*4+3)).trans c3;have Xg:=hid hk;have gZ:=hid hsn;have Sj:=hid hsz;have HR2:=hid hR2;clear hk hsn hsz hy hbS hok hbl hR2 hb2;go_upto_region 11 with (fail)
      obtain ⟨p2,hp2⟩:∃ p2,p2=wr.heap.size:=⟨_,rfl⟩;obtain ⟨w2,hw2⟩:∃ w2,w2=wr.alloc (.cells #[.string yn,.string yt,.slice a2 n2 cc2,.slice a4 n4 cc4] 30):=⟨_,rfl⟩;have K2:sZ S B key TF (L++fv key at_++Nd.dI key (ks.take j)) v wA w2 v1:=by rw [hw2];exact Xg.out.alloc _
      have P2:CB 30 p2 [.string yn,.string yt,.slice a2 n2 cc2,.slice a4 n4 cc4] w2:=by rw [hw2,hp2];exact CB.new _ _ wr
      rw [<- hw2,<- hp2];have g0:=P2.cell 0 _ rfl;have g1:=P2.cell 1 _ rfl;have g2:=P2.cell 2 _ rfl;have g3:=P2.cell 3 _ rfl;have gf:=K2.i.k3.cell;unfold VaF at gf;have hSs:S<=w.heap.size:=by omega
      have HC:=hid (IH.out (Nd.mk yn yt ya lZ).sz (by have:=Sj.out;have h:=HN.out;rw [Nd.sz] at h;omega) yn yt ya lZ S B _ v1 (.slice a2 n2 cc2) (.slice a4 n4 cc4) w2 (jFk _) (HR2.out.keep (fun b (hb:b<S) hlt=>⟨hb,(HK0.out.aO.trans K2.aO).block b hb⟩)) K2.i hB (by have:=K2.aO.size;have:=HZA.out;have:=HP.out;omega) (by
       have h1:=Pm key ks (j+1);have h2:=HLEN.out;rw [hv1.out,jG0] at h2;rw [gZ.out,jG0] at h1;rw [jG0,jG0];omega))
      have Nt:=hid K2;clear hw2 hp2 P2 K2 c0 c1 c2 c3;go_wp2_with fail
      (with_reducible refine HC.out.mono ?_)
      rintro e w3 ⟨rfl,v3,hk3⟩;have HF:Hid (VaR S B key TF nk (fun k=>L++fv key at_++Nd.dI key (ks.take k)) v wA (.int .i64 ((j+1:Nat):Int)) w3):=⟨j+1,v3,by omega,rfl,by
       show sZ S B key TF (L++fv key at_++Nd.dI key (ks.take (j+1))) v wA _ _;rw [gZ.out,<- jH0];exact Nt.out.trans hk3⟩
      clear hk3 HC g0 g1 g2 g3 gf;exact TI
     ·have hjn:j=nk:=by omega
      have HE:Hid (sZ S B key TF (L++(Nd.mk nm tx at_ ks).vals key) v w wr v1):=by show sZ S B key TF _ v w wr v1;rw [hv1.out,<- jH0];have h:sZ S B key TF (L++fv key at_++Nd.dI key (ks.take j)) v wA wr v1:=hk;rw [hjn,uH.out,List.take_length] at h;exact HK0.out.trans h
      clear hk hjn;go_wp2
      go_end0
      exact ⟨rfl,v1,HE.out⟩
open Go.RowKit
def lN (w:World) (l:List ByteArray) (e:Ending) (w':World):Prop:=
 ∃ v,e=.returned v/\w'.ownsRow w.heap.size 9 1 v l.length (l.map Value.string)/\Below w.heap.size w w'
theorem KU (key nm tx:ByteArray) (at_:List Pr) (ks:List Nd) (va vk:jIz) (w:World) (hR:gP (·<w.heap.size) w at_ ks va vk) (hlen:((Nd.mk nm tx at_ ks).vals key).length<=10000000) : Calls Tryz.prog 33 #[.agg #[.string nm,.string tx,va,vk],.string key] w (lN w ((Nd.mk nm tx at_ ks).vals key)):=by
 obtain ⟨aa,na,ca,rfl⟩:=Rd.au hR.at_
 obtain ⟨ak,nk,ck,rfl⟩:=Rd.au hR.ks;have HR:=hid hR;have HLEN:=hid hlen;clear hR hlen;go_enter Tryz.func33,Tryz.ntmps33;go_upto_region 4 with (fail)
 obtain ⟨p,hp⟩:∃ p,p=w.heap.size:=⟨_,rfl⟩;obtain ⟨S,hS⟩:∃ S,S=p+1:=⟨_,rfl⟩;obtain ⟨w4,hw4⟩:∃ w4,w4=(((w.alloc (.cells #[.string nm,.string tx,.slice aa na ca,.slice ak nk ck] 30)).alloc (.cells #[.string key] 9)).alloc (.cells #[.slice none 0 0] 41)).alloc (.cells #[VaF S] 108):=⟨_,rfl⟩;have Df:=hw4;unfold VaF at Df;rw [<- hp,<- hS,show S+1+1=S+2 from rfl,<- Df];have z1:(w.alloc (.cells #[.string nm,.string tx,.slice aa na ca,.slice ak nk ck] 30)).heap.size=S:=by rw [jG8,hS,hp]
 have z2:((w.alloc (.cells #[.string nm,.string tx,.slice aa na ca,.slice ak nk ck] 30)).alloc (.cells #[.string key] 9)).heap.size=S+1:=by rw [jG8,z1]
 have z3:(((w.alloc (.cells #[.string nm,.string tx,.slice aa na ca,.slice ak nk ck] 30)).alloc (.cells #[.string key] 9)).alloc (.cells #[.slice none 0 0] 41)).heap.size=S+2:=by rw [jG8,z2]
 have z4:w4.heap.size=S+3:=by rw [hw4,jG8,z3]
 have PN:CB 30 p [.string nm,.string tx,.slice aa na ca,.slice ak nk ck] w4:=by
  have h:CB 30 p [.string nm,.string tx,.slice aa na ca,.slice ak nk ck] (w.alloc (.cells #[.string nm,.string tx,.slice aa na ca,.slice ak nk ck] 30)):=by rw [hp];exact CB.new _ _ w
  rw [hw4];exact ((h.below ((jFj _ _).alloc (jFk _) _)).below ((jFj _ _).alloc (jFk _) _)).below ((jFj _ _).alloc (jFk _) _)
 have K1:aJ S (.string key) 9 w4:=by have h:=aJ.new (w.alloc (.cells #[.string nm,.string tx,.slice aa na ca,.slice ak nk ck] 30)) (.string key) 9;rw [z1] at h;rw [hw4];exact (h.alloc _).alloc _
 have K2:aJ (S+1) (.slice none 0 0) 41 w4:=by have h:=aJ.new ((w.alloc (.cells #[.string nm,.string tx,.slice aa na ca,.slice ak nk ck] 30)).alloc (.cells #[.string key] 9)) (.slice none 0 0) 41;rw [z2] at h;rw [hw4];exact h.alloc _
 have K3:aJ (S+2) (VaF S) 108 w4:=by have h:=aJ.new (((w.alloc (.cells #[.string nm,.string tx,.slice aa na ca,.slice ak nk ck] 30)).alloc (.cells #[.string key] 9)).alloc (.cells #[.slice none 0 0] 41)) (VaF S) 108;rw [z3] at h;rw [hw4];exact h
 have B4:Below w.heap.size w w4:=by rw [hw4];exact ((((jFj _ w).alloc (jFk _) _).alloc (by omega) _).alloc (by omega) _).alloc (by omega) _
 have VC:=hid (TJ key 108 (Nd.mk nm tx at_ ks).sz nm tx at_ ks S (S+3) [] (.slice none 0 0) (.slice aa na ca) (.slice ak nk ck) w4 (jFk _) (HR.out.keep (fun b (hb:b<w.heap.size) hlt=>⟨by show b<S;omega,B4.block b hb⟩)) ⟨K1,K2,K3,⟨by simp,.inl ⟨rfl,rfl⟩⟩⟩ (jFk _) (by omega) (by simpa using HLEN.out));have f0:=PN.cell 0 _ rfl;have f1:=PN.cell 1 _ rfl;have f2:=PN.cell 2 _ rfl;have f3:=PN.cell 3 _ rfl;have fk:=K3.cell;unfold VaF at fk;have kS:=hid B4;have HSp:Hid (S=w.heap.size+1):=by show _=_;omega
 clear hw4 Df hp hS z1 z2 z3 z4 PN K1 K2 K3 B4;go_wp2_with fail
 (with_reducible refine VC.out.mono ?_)
 rintro e w5 ⟨rfl,v',hk⟩;have c2:=hk.i.k2.cell;have HO:Hid (lN w ((Nd.mk nm tx at_ ks).vals key) (.returned v') w5):=by
  refine ⟨v',rfl,?_,?_⟩
  ·have h:=hk.i.own;rw [List.nil_append] at h;obtain ⟨h1,h2⟩:=h;refine ⟨h1,?_⟩;rcases h2 with h2 | ⟨g,cap,cur,rfl,r2,r3,r4⟩
   ·exact .inl h2
   ·exact .inr ⟨g,cap,cur,rfl,by have:=HSp.out;omega,r3,r4⟩
  ·exact kS.out.trans (hk.aO.mono (by have:=HSp.out;omega))
 obtain ⟨a5,c5,rfl⟩:=kY hk.i.own;clear hk VC;go_wp2;go_ret;exact HO.out
theorem EZ (nm tx:ByteArray) (at_:List Pr) (ks:List Nd) (va vk:jIz) (w:World) (hR:gP (·<w.heap.size) w at_ ks va vk) (hlen:((Nd.mk nm tx at_ ks).vals jX).length<=10000000) : Calls Tryz.prog 13 #[.agg #[.string nm,.string tx,va,vk]] w (lN w ((Nd.mk nm tx at_ ks).vals jX)):=by
 obtain ⟨aa,na,ca,rfl⟩:=Rd.au hR.at_
 obtain ⟨ak,nk,ck,rfl⟩:=Rd.au hR.ks;obtain ⟨w1,hw1⟩:∃ w1,w1=w.alloc (.cells #[.string nm,.string tx,.slice aa na ca,.slice ak nk ck] 30):=⟨_,rfl⟩;refine Nu ?_;intro b1;have PN:CB 30 w.heap.size [.string nm,.string tx,.slice aa na ca,.slice ak nk ck] w1:=by rw [hw1];exact CB.new _ _ w
 have VC:Hid (Calls Tryz.prog 33 #[.agg #[.string nm,.string tx,.slice aa na ca,.slice ak nk ck],.string ⟨#[105,100]⟩] w1 (lN w1 ((Nd.mk nm tx at_ ks).vals jX))):=(KU jX nm tx at_ ks (.slice aa na ca) (.slice ak nk ck) w1 (hR.keep (fun b (hb:b<w.heap.size) hlt=>⟨by show b<w1.heap.size;have:=b1.size;omega,b1.block b hb⟩)) hlen);have HB1:=hid b1;have f0:=PN.cell 0 _ rfl;have f1:=PN.cell 1 _ rfl;have f2:=PN.cell 2 _ rfl;have f3:=PN.cell 3 _ rfl;clear hR hlen b1 PN;go_enter Tryz.func13,Tryz.ntmps13;go_upto_region 1 with (fail)
 rw [<- hw1];clear hw1;go_wp2_with fail
 (with_reducible refine VC.out.mono ?_)
 rintro e w5 ⟨v',rfl,hown,hb⟩;have HO:Hid (lN w ((Nd.mk nm tx at_ ks).vals jX) (.returned v') w5):=by
  refine ⟨v',rfl,?_,HB1.out.trans (hb.mono HB1.out.size)⟩;obtain ⟨h1,h2⟩:=hown;refine ⟨h1,?_⟩;rcases h2 with h2 | ⟨g,cap,cur,rfl,r2,r3,r4⟩
  ·exact .inl h2
  ·exact .inr ⟨g,cap,cur,rfl,Nat.le_trans HB1.out.size r2,r3,r4⟩
 obtain ⟨a5,c5,rfl⟩:=kY hown;clear hown hb VC;go_wp2;go_ret;exact HO.out
end Go.Proofs.YtklhajbpfelliaaGreatDoor

