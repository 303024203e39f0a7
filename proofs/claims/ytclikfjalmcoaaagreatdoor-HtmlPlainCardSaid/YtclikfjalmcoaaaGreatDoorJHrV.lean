/- Contract of the function that markup.Values calls for each node (markup.Values$1): the values of a key, one behind the other. Contracts of markup.Values and html.Anchors. Contracts of publisherref33.Plain and publisherref33.Values. -/
import Derived.Test.YtclikfjalmcoaaaGreatDoorJHrK
set_option maxHeartbeats 4000000
set_option maxRecDepth 100000
open Go.Lib (hid)
namespace Go.Proofs.YtclikfjalmcoaaaGreatDoor
open List renaming getElem?_eq_getElem->jc6,length_append->jcq,append_assoc->jdq,append_nil->jf6
open Go.RowKit.Below renaming refl->jc7
open Nat renaming le_refl->jc8
open Go.World renaming size_alloc->jd5
open Go renaming World->jf9,Value->jfk
open Go.RowKit
set_option linter.unusedVariables false
set_option linter.unusedSimpArgs false
def fv (key:ByteArray) (a:List Pr):List ByteArray:=(a.filter fun p=>decide (p.key=key)).map (·.val)
theorem J4 (key:ByteArray) (a b:List Pr):fv key (a++b)=fv key a++fv key b:=by unfold fv;simp
theorem Na (key:ByteArray) (a:List Pr) (k:Nat) (p:Pr) (h:a[k]?=some p):fv key (a.take (k+1))=fv key (a.take k)++if p.key=key then [p.val] else []:=by rw [List.take_add_one,h,J4];unfold fv;by_cases hk:p.key=key<;>simp [hk]
theorem QX (key:ByteArray) (a:List Pr) (k:Nat):(fv key (a.take k)).length<=(fv key a).length:=by
 have h:fv key a=fv key (a.take k)++fv key (a.drop k):=by rw [<- J4,List.take_append_drop]
 rw [h,jcq];omega
theorem EG (key:ByteArray) (l:List Nd) (k:Nat) (x:Nd) (h:l[k]?=some x):Nd.bV key (l.take (k+1))=Nd.bV key (l.take k)++x.vals key:=by rw [List.take_add_one,h,yA];show _++Nd.bV key [x]=_;rw [Nd.bV,Nd.bV,jf6]
theorem Ik (key:ByteArray) (l:List Nd) (k:Nat):(Nd.bV key (l.take k)).length<=(Nd.bV key l).length:=by
 have h:Nd.bV key l=Nd.bV key (l.take k)++Nd.bV key (l.drop k):=by rw [<- yA,List.take_append_drop]
 rw [h,jcq];omega
def Pm (S:Nat):jfk:=.func (.func 118) #[] #[.pointer (some ⟨S,0,none⟩),.pointer (some ⟨S+1,0,none⟩),.pointer (some ⟨S+2,0,none⟩)]
structure Ms (S B:Nat) (key:ByteArray) (TF:TypeId) (L:List ByteArray) (v:jfk) (w:jf9):Prop where
 k1:aF S (.string key) 9 w
 k2:aF (S+1) v 24 w
 k3:aF (S+2) (Pm S) TF w
 own:w.ownsRow B 9 1 v L.length (L.map Value.string)
structure pO (S B:Nat) (key:ByteArray) (TF:TypeId) (L:List ByteArray) (v:jfk) (w w':jf9) (v':jfk):Prop where
 i:Ms S B key TF L v' w'
 keep:∀ b,b<w.heap.size->b≠S+1->v.ownBlock≠some b->w'.heap[b]?=w.heap[b]?
 own:∀ g,v'.ownBlock=some g->v.ownBlock=some g\/w.heap.size<=g
 aJ:Below S w w'
theorem pO.refl {S B:Nat} {key:ByteArray} {TF:TypeId} {L:List ByteArray} {v:jfk} {w:jf9} (h:Ms S B key TF L v w):pO S B key TF L v w w v:=
 ⟨h,fun _ _ _ _=>rfl,fun _ h=>.inl h,jc7 _ _⟩
theorem pO.trans {S B:Nat} {key:ByteArray} {TF:TypeId} {L1 L2:List ByteArray} {v v1 v2:jfk} {w w1 w2:jf9} (h1:pO S B key TF L1 v w w1 v1) (h2:pO S B key TF L2 v1 w1 w2 v2):pO S B key TF L2 v w w2 v2:=by
 have hs:=h1.aJ.size;refine ⟨h2.i,fun b hb hn ho=>?_,fun g hg=>?_,h1.aJ.trans h2.aJ⟩
 ·refine (h2.keep b (by omega) hn (fun e=>?_)).trans (h1.keep b hb hn ho);rcases h1.own b e with h | h
  ·exact ho h
  ·omega
 ·rcases h2.own g hg with h | h
  ·exact h1.own g h
  ·exact .inr (by omega)
theorem Ms.alloc {S B:Nat} {key:ByteArray} {TF:TypeId} {L:List ByteArray} {v:jfk} {w:jf9} (h:Ms S B key TF L v w) (o:Obj):Ms S B key TF L v (w.alloc o):=
 ⟨h.k1.alloc o,h.k2.alloc o,h.k3.alloc o,h.own.alloc o⟩
theorem pO.alloc {S B:Nat} {key:ByteArray} {TF:TypeId} {L:List ByteArray} {v v':jfk} {w w':jf9} (h:pO S B key TF L v w w' v') (o:Obj):pO S B key TF L v w (w'.alloc o) v':=by have hs:=h.aJ.size;have hS:=h.i.k1.lt;exact ⟨h.i.alloc o,fun b hb hn ho=>(Below.heap_alloc w' o b (by omega)).trans (h.keep b hb hn ho),h.own,h.aJ.alloc (by omega) o⟩
theorem EH {w:jf9} {B:Nat} {e:TypeId} {k n:Nat} {v:jfk} {xs:List jfk} (h:w.ownsRow B e k v n xs) (b:Nat) (hb:b<B) (u:jfk):(w.setCell ⟨b,0,none⟩ u).ownsRow B e k v n xs:=by
 obtain ⟨h1,h2⟩:=h;refine ⟨h1,?_⟩;rcases h2 with h2 | ⟨g,cap,cur,rfl,r2,r3,r4⟩
 ·exact .inl h2
 ·exact .inr ⟨g,cap,cur,rfl,r2,(Below.heap_setCell w ⟨b,0,none⟩ u g (by show g≠b;omega)).trans r3,r4⟩
theorem Ms.box {S B:Nat} {key:ByteArray} {TF:TypeId} {L:List ByteArray} {v:jfk} {w w3:jf9} {o:Obj} (h:Ms S B key TF L v w) (hB:S+3<=B) (hg:(w.alloc o).grownBy w3 v.ownBlock) : aF S (.string key) 9 w3/\aF (S+1) v 24 w3/\aF (S+2) (Pm S) TF w3:=by
 have hl:=h.k3.lt;have hn:∀ b,b<B->some b≠v.ownBlock:=fun b hb e=>by have:=(h.own.lt b e.symm).1;omega
 have hh:∀ b,b<B->b<w.heap.size->w3.heap[b]?=w.heap[b]?:=fun b hb hlt=>(hg.block b (by simp;omega) (hn b hb)).trans (Below.heap_alloc w o b hlt)
 exact ⟨(hh S (by omega) h.k1.lt).trans h.k1,(hh (S+1) (by omega) h.k2.lt).trans h.k2,(hh (S+2) (by omega) h.k3.lt).trans h.k3⟩
theorem Ms.push {S B:Nat} {key val:ByteArray} {TF:TypeId} {L:List ByteArray} {v v2:jfk} {w w3:jf9} {o:Obj} (h:Ms S B key TF L v w) (hB:S+3<=B) (hg:(w.alloc o).grownBy w3 v.ownBlock) (hown:w3.ownsRow B 9 1 v2 (L.length+1) (L.map Value.string++[.string val])) (hat:v2.ownBlock=v.ownBlock\/v2.ownBlock=some (w.alloc o).heap.size) : pO S B key TF (L++[val]) v w (w3.setCell ⟨S+1,0,none⟩ v2) v2:=by
 obtain ⟨b1,b2,b3⟩:=h.box hB hg;have hz:(w.alloc o).heap.size=w.heap.size+1:=jd5 _ _;have hsz:=hg.size;refine ⟨⟨b1.far (by omega) v2,b2.set v2,b3.far (by omega) v2,?_⟩,fun b hb hn ho=>?_,fun g hg2=>?_,?_⟩
 ·have h3:=EH hown (S+1) (by omega) v2;rw [jcq,List.length_singleton,List.map_append];exact h3
 ·exact (Below.heap_setCell w3 ⟨S+1,0,none⟩ v2 b hn).trans ((hg.block b (by omega) (fun e=>ho e.symm)).trans (Below.heap_alloc w o b hb))
 ·rcases hat with e | e
  ·exact .inl (e ▸ hg2)
  ·rw [e] at hg2;have:=Option.some.inj hg2;exact .inr (by omega)
 ·have hl:=h.k1.lt;exact (((jc7 S w).alloc (by omega) o).grown hg (by omega) (fun g hg3=>by have:=(h.own.lt g hg3).1;omega)).setCell (by show S<=S+1;omega) v2
def QY (S B:Nat) (key:ByteArray) (TF:TypeId) (N:Nat) (f:Nat->List ByteArray) (v:jfk) (w:jf9) (vi:jfk) (wr:jf9):Prop:=
 ∃ (k:Nat) (v':jfk),k<=N/\vi=.int .i64 k/\pO S B key TF (f k) v w wr v'
theorem J5 (key:ByteArray) (TF:TypeId) (n:Nat):∀ (nm tx:ByteArray) (at_:List Pr) (ks:List Nd) (S B:Nat) (L:List ByteArray) (v va vk:jfk) (w:jf9),(Nd.mk nm tx at_ ks).sz<=n->jK (·<S) w at_ ks va vk->Ms S B key TF L v w->S+3<=B->B<=w.heap.size -> L.length+((Nd.mk nm tx at_ ks).vals key).length<=10000000 -> Calls Tryz.prog 118 #[.agg #[.string nm,.string tx,va,vk],.pointer (some ⟨S,0,none⟩),.pointer (some ⟨S+1,0,none⟩),.pointer (some ⟨S+2,0,none⟩)] w (fun e w'=>e=.returned (.tuple #[])/\∃ v',pO S B key TF (L++(Nd.mk nm tx at_ ks).vals key) v w w' v'):=by
 induction n using Nat.strongRecOn with
 | _ n ih=>
  intro nm tx at_ ks S B L v va vk w hn hR hI hB hBw hlen
  obtain ⟨i0,hi0,hz0,hz1,hz2⟩:=info_parts Gg;obtain ⟨aa,ca,hva,hsa⟩:=Rd.aD hR.at_
  obtain ⟨ak,ck,hvk,hsk⟩:=Rd.aD hR.ks;obtain ⟨na,hna⟩:∃ na,na=at_.length:=⟨_,rfl⟩
  obtain ⟨nk,hnk⟩:∃ nk,nk=ks.length:=⟨_,rfl⟩;obtain rfl:va=.slice aa na ca:=by rw [hna];simpa using hva
  obtain rfl:vk=.slice ak nk ck:=by rw [hnk];simpa using hvk
  have ja5:na<=ca:=by have:=hsa.le;rw [List.length_map] at this;omega
  have Yb:=hsa.max;have ja6:nk<=ck:=by have:=hsk.le;rw [List.length_map] at this;omega
  have Yc:=hsk.max;unfold maxLen at Yb Yc;obtain ⟨p,hp⟩:∃ p,p=w.heap.size:=⟨_,rfl⟩;obtain ⟨wA,gQ⟩:∃ wA,wA=w.alloc (.cells #[.string nm,.string tx,.slice aa na ca,.slice ak nk ck] 43):=⟨_,rfl⟩;have PA:CB 43 p [.string nm,.string tx,.slice aa na ca,.slice ak nk ck] wA:=by rw [gQ,hp];exact CB.new _ _ w
  have zA:wA.heap.size=p+1:=by rw [gQ,hp];simp
  have K0:pO S B key TF L v w wA v:=by rw [gQ];exact (pO.refl hI).alloc _
  have hvp:v.ownBlock≠some p:=fun e=>by have:=(hI.own.lt p e).2;omega
  have hSp:p≠S+1:=by omega
  have Um:=hid K0;have Un:=hid PA;have Uo:=hid hsa;have Uq:=hid hsk;have HNA:=hid hna;have yh:=hid hnk;have HN:=hid hn;have IH:=hid ih;have HLEN:=hid hlen;have HP:=hid hp;have HZA:=hid zA;have Yd:=hid hvp;have HCP:Hid (∀ (L':List ByteArray) (v':jfk) (wr:jf9),pO S B key TF L' v wA wr v'->CB 43 p [.string nm,.string tx,.slice aa na ca,.slice ak nk ck] wr):=fun L' v' wr h=>(h.keep p (by omega) hSp hvp).trans PA
  have KA:Hid (pO S B key TF L v wA wA v):=pO.refl K0.i;clear hR hI hva hvk hsa hsk hna hnk hn ih hlen zA K0 hvp hSp;have d0:=PA.cell 0 _ rfl;have d2:=PA.cell 2 _ rfl;clear PA;go_enter Tryz.func118,Tryz.ntmps118;go_upto_region 1 with (fail)
  rw [<- gQ,<- hp];clear gQ hp;have Jm:nm.toList.isEmpty=aW nm:=by rw [Lib.toList_data,Bool.eq_iff_iff,List.isEmpty_iff,aW,decide_eq_true_iff]
  by_cases hne:aW nm=true
  ·have hv0:Hid ((Nd.mk nm tx at_ ks).vals key=[]):=by show _=_;rw [Nd.vals,if_pos hne]
   rw [hne] at Jm;clear hne;go_wp2;refine bodyPost_ret (v:=.tuple #[]) (by simp [results,Tryz.results118,go_sem]) rfl ⟨rfl,v,?_⟩;rw [hv0.out,jf6];exact Um.out
  have hv1:Hid ((Nd.mk nm tx at_ ks).vals key=fv key at_++Nd.bV key ks):=by show _=_;rw [Nd.vals,if_neg hne];rfl
  have hne:aW nm=false:=by simpa using hne
  rw [hne] at Jm;clear hne;have R1:Hid (QY S B key TF na (fun k=>L++fv key (at_.take k)) v wA (.int .i64 0) wA):=⟨0,v,Nat.zero_le _,rfl,by
   have h:=KA.out;show pO S B key TF (L++fv key []) v wA wA v;rw [show fv key []=[] from rfl,jf6];exact h⟩
  go_wp2
  go_loopw [15] (fun vi wr=>QY S B key TF na (fun k=>L++fv key (at_.take k)) v wA vi wr) (fun i _=>na-(intOf i).toNat)
  case atStart=>exact R1.out
  case round=>
   clear R1 d0 d2 Jm;obtain ⟨j,v1,hj,rfl,hk⟩:=hrel;have hcb:=HCP.out _ _ _ hk;by_cases hlt:j<na
   ·obtain ⟨y,hy⟩:∃ y,at_[j]?=some y:=⟨_,jc6 (by have:=HNA.out;omega)⟩
    have hsn:=Na key at_ j y hy
    obtain ⟨b,off,rfl,hok,hbl,c0,c1⟩:=qF Uo.out hy;have hbS:=(Um.out.aJ.trans hk.aJ).block b hok;have c0:=(fJ hbS (o:=off+j*2)).trans c0;have c1:=(fJ hbS (o:=off+j*2+1)).trans c1;have HY:=hid hy;have Ur:=hid hk;have kE:=hid hsn;obtain ⟨yk,yv⟩:=y;clear hk hsn hy hbS hok hbl hcb;go_upto_region 5 with (fail)
    obtain ⟨p2,hp2⟩:∃ p2,p2=wr.heap.size:=⟨_,rfl⟩;obtain ⟨w2,hw2⟩:∃ w2,w2=wr.alloc (.cells #[.string yk,.string yv] 74):=⟨_,rfl⟩;have K2:pO S B key TF (L++fv key (at_.take j)) v wA w2 v1:=by rw [hw2];exact Ur.out.alloc _
    have P2:CB 74 p2 [.string yk,.string yv] w2:=by rw [hw2,hp2];exact CB.new _ _ wr
    rw [<- hw2,<- hp2];have g0:=P2.cell 0 _ rfl;have g1:=P2.cell 1 _ rfl;have gk:=K2.i.k1.cell;have Il:=hid K2;clear hw2 hp2 P2 K2 c0 c1;by_cases hkey:yk=key
    ·have Ye:Hid (fv key (at_.take (j+1))=fv key (at_.take j)++[yv]):=by show _=_;rw [kE.out,if_pos hkey]
     subst hkey;obtain ⟨m,hm⟩:∃ m,m=(L++fv yk (at_.take j)).length:=⟨_,rfl⟩;have hm1:m<=10000000:=by
      have h1:=QX yk at_ j
      have h2:=HLEN.out;rw [hv1.out,jcq] at h2;rw [hm,jcq];omega
     have OW:w2.ownsRow B 9 1 v1 m ((L++fv yk (at_.take j)).map Value.string):=by rw [hm];exact Il.out.i.own
     obtain ⟨a1,c1,rfl⟩:=qP OW;have gv:=Il.out.i.k2.cell;have HOW:=hid OW;have HM:=hid hm;have hBw2:B<=w2.heap.size:=by have:=Il.out.aJ.size;have:=HZA.out;have:=HP.out;have h:=Il.out.keep;have hs2:wA.heap.size<=w2.heap.size:=Il.out.aJ.size;omega
     clear OW hm;go_wp2_with (at_builtin;refine wpList_append_own_at _ rfl _ _ 24 rfl B 9 i0 _ 1 16 Tryz.underlying24 hi0 hz0 hz1 hz2 rfl (by decide) _ _ _ rfl (HOW.out.alloc _) ⟨w2.heap.size,0,none⟩ 1 1 [.string yv] rfl rfl (Nb w2 (.string yv) 9) (by intro u hu;simp at hu;subst hu;rfl) (by unfold maxLen;omega) (by omega) (by simp;omega) ?_)
     intro v2 w3 hown3 hg3 _ sO;obtain ⟨a3,c3,rfl⟩:=qP hown3;have bx:=(Il.out.i.box hB hg3).2.1;have bc:=bx.cell;have bf:=bx.free;have PU:=Il.out.i.push hB hg3 (by rw [<- HM.out,List.map_append,jdq];exact hown3) (by rw [jd5];exact sO);have HF:Hid (QY S B yk TF na (fun k=>L++fv yk (at_.take k)) v wA (.int .i64 ((j+1:Nat):Int)) (w3.setCell ⟨S+1,0,none⟩ (.slice a3 (m+1) c3))):=⟨j+1,_,by omega,rfl,by
      show pO S B yk TF (L++fv yk (at_.take (j+1))) v wA _ _;rw [Ye.out,<- jdq];exact Il.out.trans PU⟩
     clear hown3 hg3 sO PU bx g0 g1 gk gv HOW;go_wp2;go_roundw;case rel=>exact HF.out
     case measure=>simp [intOf];omega
    ·have Ye:Hid (fv key (at_.take (j+1))=fv key (at_.take j)):=by show _=_;rw [kE.out,if_neg hkey,jf6]
     have hq:(yk.toList==key.toList)=false:=by rw [beq_eq_false_iff_ne];intro e;rw [Lib.toList_data,Lib.toList_data] at e;exact hkey (ByteArray.ext (Array.toList_inj.1 e))
     have HF:Hid (QY S B key TF na (fun k=>L++fv key (at_.take k)) v wA (.int .i64 ((j+1:Nat):Int)) w2):=⟨j+1,v1,by omega,rfl,by
      show pO S B key TF (L++fv key (at_.take (j+1))) v wA _ _;rw [Ye.out];exact Il.out⟩
     go_wp2;go_roundw;case rel=>exact HF.out
     case measure=>simp [intOf];omega
   ·have hjn:j=na:=by omega
    have Ur:Hid (pO S B key TF (L++fv key at_) v wA wr v1):=by have h:pO S B key TF (L++fv key (at_.take j)) v wA wr v1:=hk;rw [hjn,HNA.out,List.take_length] at h;exact h
    obtain ⟨w1,hw1⟩:∃ w1:jf9,w1=wr:=⟨_,rfl⟩;subst hw1;have f3:=hcb.cell 3 _ rfl;have R2:Hid (QY S B key TF nk (fun k=>L++fv key at_++Nd.bV key (ks.take k)) v wA (.int .i64 0) w1):=⟨0,v1,Nat.zero_le _,rfl,by
     show pO S B key TF (L++fv key at_++Nd.bV key []) v wA _ _;rw [Nd.bV,jf6];exact Ur.out⟩
    clear hk hcb hjn hj;go_wp2
    go_loopw [32] (fun vi wr=>QY S B key TF nk (fun k=>L++fv key at_++Nd.bV key (ks.take k)) v wA vi wr) (fun i _=>nk-(intOf i).toNat)
    case atStart=>exact R2.out
    case round=>
     clear R2 f3;obtain ⟨j,v1,hj,rfl,hk⟩:=hrel;by_cases hlt:j<nk
     ·obtain ⟨y,hy⟩:∃ y,ks[j]?=some y:=⟨_,jc6 (by have:=yh.out;omega)⟩;have hsn:=EG key ks j y hy;have hsz:=Nd.bD ks j y hy;obtain ⟨yn,yt,ya,AZ⟩:=y;obtain ⟨b,off,va2,vk2,rfl,hok,hbl,c0,c1,c2,c3,hR2⟩:=qQ Uq.out hy;obtain ⟨a2,n2,Yf,rfl⟩:=Rd.aj hR2.at_
      obtain ⟨a4,n4,Yg,rfl⟩:=Rd.aj hR2.ks;have hb2:=Um.out.aJ.trans hk.aJ;have hbS:=hb2.block b hok;have c0:=(fJ hbS (o:=off+j*4)).trans c0;have c1:=(fJ hbS (o:=off+j*4+1)).trans c1;have c2:=(fJ hbS (o:=off+j*4+2)).trans c2;have c3:=(fJ hbS (o:=off+j*4+3)).trans c3;have Ur:=hid hk;have kE:=hid hsn;have Gn:=hid hsz;have HR2:=hid hR2;clear hk hsn hsz hy hbS hok hbl hR2 hb2;go_upto_region 11 with (fail)
      obtain ⟨p2,hp2⟩:∃ p2,p2=wr.heap.size:=⟨_,rfl⟩;obtain ⟨w2,hw2⟩:∃ w2,w2=wr.alloc (.cells #[.string yn,.string yt,.slice a2 n2 Yf,.slice a4 n4 Yg] 43):=⟨_,rfl⟩;have K2:pO S B key TF (L++fv key at_++Nd.bV key (ks.take j)) v wA w2 v1:=by rw [hw2];exact Ur.out.alloc _
      have P2:CB 43 p2 [.string yn,.string yt,.slice a2 n2 Yf,.slice a4 n4 Yg] w2:=by rw [hw2,hp2];exact CB.new _ _ wr
      rw [<- hw2,<- hp2];have g0:=P2.cell 0 _ rfl;have g1:=P2.cell 1 _ rfl;have g2:=P2.cell 2 _ rfl;have g3:=P2.cell 3 _ rfl;have gf:=K2.i.k3.cell;unfold Pm at gf;have hSs:S<=w.heap.size:=by omega
      have HC:=hid (IH.out (Nd.mk yn yt ya AZ).sz (by have:=Gn.out;have h:=HN.out;rw [Nd.sz] at h;omega) yn yt ya AZ S B _ v1 (.slice a2 n2 Yf) (.slice a4 n4 Yg) w2 (jc8 _) (HR2.out.keep (fun b (hb:b<S) hlt=>⟨hb,(Um.out.aJ.trans K2.aJ).block b hb⟩)) K2.i hB (by have:=K2.aJ.size;have:=HZA.out;have:=HP.out;omega) (by
       have h1:=Ik key ks (j+1);have h2:=HLEN.out;rw [hv1.out,jcq] at h2;rw [kE.out,jcq] at h1;rw [jcq,jcq];omega))
      have Il:=hid K2;clear hw2 hp2 P2 K2 c0 c1 c2 c3;go_wp2_with fail
      (with_reducible refine HC.out.mono ?_)
      rintro e w3 ⟨rfl,v3,hk3⟩;have HF:Hid (QY S B key TF nk (fun k=>L++fv key at_++Nd.bV key (ks.take k)) v wA (.int .i64 ((j+1:Nat):Int)) w3):=⟨j+1,v3,by omega,rfl,by
       show pO S B key TF (L++fv key at_++Nd.bV key (ks.take (j+1))) v wA _ _;rw [kE.out,<- jdq];exact Il.out.trans hk3⟩
      clear hk3 HC g0 g1 g2 g3 gf;go_wp2;go_roundw;case rel=>exact HF.out
      case measure=>simp [intOf];omega
     ·have hjn:j=nk:=by omega
      have HE:Hid (pO S B key TF (L++(Nd.mk nm tx at_ ks).vals key) v w wr v1):=by show pO S B key TF _ v w wr v1;rw [hv1.out,<- jdq];have h:pO S B key TF (L++fv key at_++Nd.bV key (ks.take j)) v wA wr v1:=hk;rw [hjn,yh.out,List.take_length] at h;exact Um.out.trans h
      clear hk hjn;go_wp2
      go_end0
      exact ⟨rfl,v1,HE.out⟩
open Go.RowKit
def jW (w:jf9) (l:List ByteArray) (e:Ending) (w':jf9):Prop:=
 ∃ v,e=.returned v/\w'.ownsRow w.heap.size 9 1 v l.length (l.map Value.string)/\Below w.heap.size w w'
theorem EI (key nm tx:ByteArray) (at_:List Pr) (ks:List Nd) (va vk:jfk) (w:jf9) (hR:jK (·<w.heap.size) w at_ ks va vk) (hlen:((Nd.mk nm tx at_ ks).vals key).length<=10000000) : Calls Tryz.prog 70 #[.agg #[.string nm,.string tx,va,vk],.string key] w (jW w ((Nd.mk nm tx at_ ks).vals key)):=by
 obtain ⟨aa,na,ca,rfl⟩:=Rd.aj hR.at_
 obtain ⟨ak,nk,ck,rfl⟩:=Rd.aj hR.ks;have HR:=hid hR;have HLEN:=hid hlen;clear hR hlen;go_enter Tryz.func70,Tryz.ntmps70;go_upto_region 4 with (fail)
 obtain ⟨p,hp⟩:∃ p,p=w.heap.size:=⟨_,rfl⟩;obtain ⟨S,hS⟩:∃ S,S=p+1:=⟨_,rfl⟩;obtain ⟨w4,hw4⟩:∃ w4,w4=(((w.alloc (.cells #[.string nm,.string tx,.slice aa na ca,.slice ak nk ck] 43)).alloc (.cells #[.string key] 9)).alloc (.cells #[.slice none 0 0] 24)).alloc (.cells #[Pm S] 142):=⟨_,rfl⟩;have Im:=hw4;unfold Pm at Im;rw [<- hp,<- hS,show S+1+1=S+2 from rfl,<- Im];have z1:(w.alloc (.cells #[.string nm,.string tx,.slice aa na ca,.slice ak nk ck] 43)).heap.size=S:=by rw [jd5,hS,hp]
 have z2:((w.alloc (.cells #[.string nm,.string tx,.slice aa na ca,.slice ak nk ck] 43)).alloc (.cells #[.string key] 9)).heap.size=S+1:=by rw [jd5,z1]
 have z3:(((w.alloc (.cells #[.string nm,.string tx,.slice aa na ca,.slice ak nk ck] 43)).alloc (.cells #[.string key] 9)).alloc (.cells #[.slice none 0 0] 24)).heap.size=S+2:=by rw [jd5,z2]
 have z4:w4.heap.size=S+3:=by rw [hw4,jd5,z3]
 have PN:CB 43 p [.string nm,.string tx,.slice aa na ca,.slice ak nk ck] w4:=by
  have h:CB 43 p [.string nm,.string tx,.slice aa na ca,.slice ak nk ck] (w.alloc (.cells #[.string nm,.string tx,.slice aa na ca,.slice ak nk ck] 43)):=by rw [hp];exact CB.new _ _ w
  rw [hw4];exact ((h.below ((jc7 _ _).alloc (jc8 _) _)).below ((jc7 _ _).alloc (jc8 _) _)).below ((jc7 _ _).alloc (jc8 _) _)
 have K1:aF S (.string key) 9 w4:=by have h:=aF.new (w.alloc (.cells #[.string nm,.string tx,.slice aa na ca,.slice ak nk ck] 43)) (.string key) 9;rw [z1] at h;rw [hw4];exact (h.alloc _).alloc _
 have K2:aF (S+1) (.slice none 0 0) 24 w4:=by have h:=aF.new ((w.alloc (.cells #[.string nm,.string tx,.slice aa na ca,.slice ak nk ck] 43)).alloc (.cells #[.string key] 9)) (.slice none 0 0) 24;rw [z2] at h;rw [hw4];exact h.alloc _
 have K3:aF (S+2) (Pm S) 142 w4:=by have h:=aF.new (((w.alloc (.cells #[.string nm,.string tx,.slice aa na ca,.slice ak nk ck] 43)).alloc (.cells #[.string key] 9)).alloc (.cells #[.slice none 0 0] 24)) (Pm S) 142;rw [z3] at h;rw [hw4];exact h
 have B4:Below w.heap.size w w4:=by rw [hw4];exact ((((jc7 _ w).alloc (jc8 _) _).alloc (by omega) _).alloc (by omega) _).alloc (by omega) _
 have VC:=hid (J5 key 142 (Nd.mk nm tx at_ ks).sz nm tx at_ ks S (S+3) [] (.slice none 0 0) (.slice aa na ca) (.slice ak nk ck) w4 (jc8 _) (HR.out.keep (fun b (hb:b<w.heap.size) hlt=>⟨by show b<S;omega,B4.block b hb⟩)) ⟨K1,K2,K3,⟨by simp,.inl ⟨rfl,rfl⟩⟩⟩ (jc8 _) (by omega) (by simpa using HLEN.out));have f0:=PN.cell 0 _ rfl;have f1:=PN.cell 1 _ rfl;have f2:=PN.cell 2 _ rfl;have f3:=PN.cell 3 _ rfl;have fk:=K3.cell;unfold Pm at fk;have zl:=hid B4;have HSp:Hid (S=w.heap.size+1):=by show _=_;omega
 clear hw4 Im hp hS z1 z2 z3 z4 PN K1 K2 K3 B4;go_wp2_with fail
 (with_reducible refine VC.out.mono ?_)
 rintro e w5 ⟨rfl,v',hk⟩;have c2:=hk.i.k2.cell;have HO:Hid (jW w ((Nd.mk nm tx at_ ks).vals key) (.returned v') w5):=by
  refine ⟨v',rfl,?_,?_⟩
  ·have h:=hk.i.own;rw [List.nil_append] at h;obtain ⟨h1,h2⟩:=h;refine ⟨h1,?_⟩;rcases h2 with h2 | ⟨g,cap,cur,rfl,r2,r3,r4⟩
   ·exact .inl h2
   ·exact .inr ⟨g,cap,cur,rfl,by have:=HSp.out;omega,r3,r4⟩
  ·exact zl.out.trans (hk.aJ.mono (by have:=HSp.out;omega))
 obtain ⟨a5,c5,rfl⟩:=qP hk.i.own;clear hk VC;go_wp2;go_ret;exact HO.out
theorem zH (nm tx:ByteArray) (at_:List Pr) (ks:List Nd) (va vk:jfk) (w:jf9) (hR:jK (·<w.heap.size) w at_ ks va vk) (hlen:((Nd.mk nm tx at_ ks).vals jX).length<=10000000) : Calls Tryz.prog 28 #[.agg #[.string nm,.string tx,va,vk]] w (jW w ((Nd.mk nm tx at_ ks).vals jX)):=by
 obtain ⟨aa,na,ca,rfl⟩:=Rd.aj hR.at_
 obtain ⟨ak,nk,ck,rfl⟩:=Rd.aj hR.ks;obtain ⟨w1,hw1⟩:∃ w1,w1=w.alloc (.cells #[.string nm,.string tx,.slice aa na ca,.slice ak nk ck] 43):=⟨_,rfl⟩;have b1:Below w.heap.size w w1:=by rw [hw1];exact (jc7 _ _).alloc (jc8 _) _
 have PN:CB 43 w.heap.size [.string nm,.string tx,.slice aa na ca,.slice ak nk ck] w1:=by rw [hw1];exact CB.new _ _ w
 have VC:Hid (Calls Tryz.prog 70 #[.agg #[.string nm,.string tx,.slice aa na ca,.slice ak nk ck],.string ⟨#[105,100]⟩] w1 (jW w1 ((Nd.mk nm tx at_ ks).vals jX))):=(EI jX nm tx at_ ks (.slice aa na ca) (.slice ak nk ck) w1 (hR.keep (fun b (hb:b<w.heap.size) hlt=>⟨by show b<w1.heap.size;have:=b1.size;omega,b1.block b hb⟩)) hlen);have HB1:=hid b1;have f0:=PN.cell 0 _ rfl;have f1:=PN.cell 1 _ rfl;have f2:=PN.cell 2 _ rfl;have f3:=PN.cell 3 _ rfl;clear hR hlen b1 PN;go_enter Tryz.func28,Tryz.ntmps28;go_upto_region 1 with (fail)
 rw [<- hw1];clear hw1;go_wp2_with fail
 (with_reducible refine VC.out.mono ?_)
 rintro e w5 ⟨v',rfl,hown,hb⟩;have HO:Hid (jW w ((Nd.mk nm tx at_ ks).vals jX) (.returned v') w5):=by
  refine ⟨v',rfl,?_,HB1.out.trans (hb.mono HB1.out.size)⟩;obtain ⟨h1,h2⟩:=hown;refine ⟨h1,?_⟩;rcases h2 with h2 | ⟨g,cap,cur,rfl,r2,r3,r4⟩
  ·exact .inl h2
  ·exact .inr ⟨g,cap,cur,rfl,Nat.le_trans HB1.out.size r2,r3,r4⟩
 obtain ⟨a5,c5,rfl⟩:=qP hown;clear hown hb VC;go_wp2;go_ret;exact HO.out
open Go.RowKit
theorem J6 (l:List Nd) (k:Nat) (x:Nd) (h:l[k]?=some x):Nd.iX (l.take (k+1))=Nd.iX (l.take k)++x.pl:=by rw [List.take_add_one,h,kL];show _++Nd.iX [x]=_;rw [kM]
theorem Nc (l:List Nd) (k:Nat):(Nd.iX (l.take k)).length<=(Nd.iX l).length:=by
 have h:Nd.iX l=Nd.iX (l.take k)++Nd.iX (l.drop k):=by rw [<- kL,List.take_append_drop]
 rw [h,jcq];omega
def J7 (W1:jf9) (ks:List Nd) (vs vi:jfk) (wr:jf9):Prop:=∃ k:Nat,k<=ks.length/\vi=.int .i64 k/\vs=.string (A8 (Nd.iX (ks.take k)))/\Below W1.heap.size W1 wr
theorem zI (N:Nat):∀ (x:Nd) (va vk:jfk) (w:jf9),x.sz<=N->x.pl.length<=1000000->jK (·<w.heap.size) w x.at_ x.ks va vk -> Calls Tryz.prog 26 #[.agg #[.string x.nm,.string x.tx,va,vk]] w (dJ (.string (A8 x.pl)) w):=by
 induction N using Nat.strongRecOn with
 | _ N ih=>
  intro x va vk w hN hpl hA;obtain ⟨nm,tx,at_,ks⟩:=x;dsimp only [Nd.nm,Nd.tx,Nd.at_,Nd.ks] at hA ⊢;obtain ⟨a1,m1,c1,rfl⟩:=Rd.aj hA.at_
  obtain ⟨a2,c2,h2,s2⟩:=Rd.aD hA.ks;obtain ⟨n2,hn2⟩:∃ n,n=ks.length:=⟨_,rfl⟩;obtain rfl:vk=.slice a2 n2 c2:=by rw [hn2];simpa using h2
  have l2:=s2.le;rw [List.length_map,<- hn2] at l2;have m2:=s2.max;unfold maxLen at m2;rw [Nd.sz] at hN;have hks:=Nd.bD ks;obtain ⟨S,hS⟩:∃ S,S=w.heap.size:=⟨_,rfl⟩;obtain ⟨W1,hW1⟩:∃ W,W=w.alloc (.cells #[.string nm,.string tx,.slice a1 m1 c1,.slice a2 n2 c2] 43):=⟨_,rfl⟩;have k0:CB 43 S [.string nm,.string tx,.slice a1 m1 c1,.slice a2 n2 c2] W1:=by rw [hW1,hS];exact CB.new _ _ w
  have bW:Below w.heap.size w W1:=by rw [hW1];exact (jc7 _ _).alloc (jc8 _) _
  have CL:Hid (∀ w':jf9,Below W1.heap.size W1 w'->w'.cell? ⟨S,3,none⟩=some (.slice a2 n2 c2)):=fun w' hb=>(k0.below hb).cell 3 _ rfl
  have e0:=k0.cell 0 _ rfl;have e1:=k0.cell 1 _ rfl;have Jm:nm.toList.isEmpty=aW nm:=by rw [Lib.toList_data,Bool.eq_iff_iff,List.isEmpty_iff,aW,decide_eq_true_iff]
  have H2:=hid s2;have IH:=hid ih;have WH:=hid hks;have BW:=hid bW;have Ib:=hid hn2;have HN:=hid hN;have Nf:(Nd.mk nm tx at_ ks).pl=if aW nm=true then tx.data.toList else Nd.iX ks:=by rw [Nd.pl]
  clear hA h2 s2 ih hks k0 bW hn2 hN;by_cases hne:aW nm=true
  ·rw [hne] at Jm;have HF:Hid (A8 (Nd.mk nm tx at_ ks).pl=tx):=by show _=_;rw [Nf,if_pos hne,Ng]
   clear hne Nf hpl;go_enter Tryz.func26,Tryz.ntmps26;go_upto_region 1 with (fail)
   rw [<- hW1,<- hS];clear hW1 hS;go_wp2;go_ret;exact ⟨by rw [HF.out];rfl,BW.out⟩
  ·have hne:aW nm=false:=by simpa using hne
   rw [hne] at Jm;have HF:Hid ((Nd.mk nm tx at_ ks).pl=Nd.iX ks):=by show _=_;rw [Nf,if_neg (by rw [hne];decide)]
   rw [HF.out] at hpl;have SK:=hid hpl;have R0:Hid (J7 W1 ks (.string ⟨#[]⟩) (.int .i64 0) W1):=⟨0,Nat.zero_le _,rfl,by rw [List.take_zero,Nd.iX];rfl,jc7 _ _⟩;clear hne Nf hpl;go_enter Tryz.func26,Tryz.ntmps26;go_upto_region 1 with (fail)
   rw [<- hW1,<- hS];clear hW1 hS;go_wp2
   go_loopw [3,4] (fun vs vi wr=>J7 W1 ks vs vi wr) (fun _ i _=>n2-(intOf i).toNat)
   case atStart=>exact R0.out
   case round=>
    clear R0 e0 e1 Jm;obtain ⟨j,hj,rfl,rfl,hbel⟩:=hrel;have e3:=CL.out _ hbel;obtain ⟨A,hA⟩:∃ A,A=A8 (Nd.iX (ks.take j)):=⟨_,rfl⟩;have HA:=hid hA;rw [<- hA];clear hA;have HB:=hid hbel;by_cases hlt:j<n2
    ·obtain ⟨y,hy⟩:∃ y,ks[j]?=some y:=⟨_,jc6 (by have:=Ib.out;omega)⟩;have Yh:=WH.out j y hy;have hsn:=J6 ks j y hy;have hle:=Nc ks (j+1);rw [hsn,jcq] at hle;obtain ⟨yn,yt,ya,yk⟩:=y;obtain ⟨g1,o1,u1,u2,rfl,-,hg1,x0,x1,x2,x3,WI⟩:=qQ H2.out hy;obtain ⟨i1,i2,i3,rfl⟩:=Rd.aj WI.at_
     obtain ⟨i4,i5,i6,rfl⟩:=Rd.aj WI.ks;have QZ:=BW.out.trans (hbel.mono BW.out.size);have y0:wr.cell? ⟨g1,o1+j*4,none⟩=some (.string yn):=(QZ.cell (p:=⟨_,_,none⟩) hg1).trans x0;have y1:wr.cell? ⟨g1,o1+j*4+1,none⟩=some (.string yt):=(QZ.cell (p:=⟨_,_,none⟩) hg1).trans x1;have y2:wr.cell? ⟨g1,o1+j*4+2,none⟩=some (.slice i1 i2 i3):=(QZ.cell (p:=⟨_,_,none⟩) hg1).trans x2;have y3:wr.cell? ⟨g1,o1+j*4+3,none⟩=some (.slice i4 i5 i6):=(QZ.cell (p:=⟨_,_,none⟩) hg1).trans x3;have IC:Hid (Calls Tryz.prog 26 #[.agg #[.string yn,.string yt,.slice i1 i2 i3,.slice i4 i5 i6]] wr (dJ (.string (A8 (Nd.mk yn yt ya yk).pl)) wr)):=
      IH.out (Nd.mk yn yt ya yk).sz (by have:=HN.out;omega) (Nd.mk yn yt ya yk) _ _ wr (jc8 _) (by have:=SK.out;omega) (WI.keep (fun b (hb:b<w.heap.size) _=>⟨Nat.lt_of_lt_of_le hb QZ.size,QZ.block b hb⟩))
     obtain ⟨Y,hY⟩:∃ Y,Y=A8 (Nd.mk yn yt ya yk).pl:=⟨_,rfl⟩;have HAY:=hid (show A8 (Nd.iX (ks.take (j+1)))=A++Y by rw [hsn,Q5,HA.out,hY]);have q5:A.size+Y.size<=9223372036854775807:=by
      have e1:A.size=(Nd.iX (ks.take j)).length:=by rw [HA.out];simp [A8,ByteArray.size]
      have e2:Y.size=(Nd.mk yn yt ya yk).pl.length:=by rw [hY];simp [A8,ByteArray.size]
      have:=SK.out;omega
     rw [<- hY] at IC;have hadd:∀ w:jf9,(Op.stringOp .add A Y).run Tryz.prog w=.ok (.string (A++Y)) w:=fun w=>run_string_add_sum w _ _ q5
     clear hy Yh hsn hle x0 x1 x2 x3 WI QZ hY hbel;go_wp2_with fail
     (with_reducible refine IC.out.mono ?_)
     rintro e w2 ⟨rfl,b2⟩;have Us:Hid (J7 W1 ks (.string (A++Y)) (.int .i64 ((j+1:Nat):Int)) w2):=⟨j+1,by have:=Ib.out;omega,rfl,by rw [HAY.out],aQ HB.out b2⟩;clear b2 IC y0 y1 y2 y3;go_wp2;go_roundw;case rel=>exact Us.out
     case measure=>simp [intOf];omega
    ·have hjl:j=ks.length:=by have:=Ib.out;omega
     have HAF:Hid (A=A8 (Nd.mk nm tx at_ ks).pl):=by show _=_;rw [HA.out,hjl,List.take_length,HF.out]
     clear hjl hbel;go_wp2;go_ret;exact ⟨by rw [HAF.out];rfl,aQ BW.out HB.out⟩
end Go.Proofs.YtclikfjalmcoaaaGreatDoor

