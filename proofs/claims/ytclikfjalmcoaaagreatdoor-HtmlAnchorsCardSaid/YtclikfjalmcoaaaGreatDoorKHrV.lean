/- Contract of the function that markup.Values calls for each node (markup.Values$1): the values of a key, one behind the other. Contracts of markup.Values and html.Anchors. Contracts of publisherref33.Plain and publisherref33.Values. -/
import Derived.Test.YtclikfjalmcoaaaGreatDoorKHrK
set_option maxHeartbeats 8000000
set_option maxRecDepth 100000
open Go.Lib (hid)
namespace Go.Proofs.YtclikfjalmcoaaaGreatDoor
open List renaming getElem?_eq_getElem->je6,length_append->jeq,length_map->jex,map_append->jf8,append_assoc->jfq,take_length->jfx,append_nil->jh6
open Go.RowKit.Below renaming refl->je7
open Nat renaming le_refl->je8
open Go.World renaming size_alloc->jf5
open Go renaming World->jh9,Value->jhk
open Go.RowKit
set_option linter.unusedVariables false
set_option linter.unusedSimpArgs false
def fv (key:ByteArray) (a:List Pr):List ByteArray:=(a.filter fun p=>decide (p.key=key)).map (·.val)
theorem JM (key:ByteArray) (a b:List Pr):fv key (a++b)=fv key a++fv key b:=by unfold fv;simp
theorem FP (key:ByteArray) (a:List Pr) (k:Nat) (p:Pr) (h:a[k]?=some p):fv key (a.take (k+1))=fv key (a.take k)++if p.key=key then [p.val] else []:=by rw [List.take_add_one,h,JM];unfold fv;by_cases hk:p.key=key<;>simp [hk]
theorem JO (key:ByteArray) (a:List Pr) (k:Nat):(fv key (a.take k)).length<=(fv key a).length:=by
 have h:fv key a=fv key (a.take k)++fv key (a.drop k):=by rw [<- JM,List.take_append_drop]
 rw [h,jeq];omega
theorem tL (key:ByteArray) (l:List Nd) (k:Nat) (x:Nd) (h:l[k]?=some x):Nd.aD key (l.take (k+1))=Nd.aD key (l.take k)++x.vals key:=by rw [List.take_add_one,h,Ho];show _++Nd.aD key [x]=_;rw [Nd.aD,Nd.aD,jh6]
theorem qh (key:ByteArray) (l:List Nd) (k:Nat):(Nd.aD key (l.take k)).length<=(Nd.aD key l).length:=by
 have h:Nd.aD key l=Nd.aD key (l.take k)++Nd.aD key (l.drop k):=by rw [<- Ho,List.take_append_drop]
 rw [h,jeq];omega
def Pf (S:Nat):jhk:=.func (.func 118) #[] #[.pointer (some ⟨S,0,none⟩),.pointer (some ⟨S+1,0,none⟩),.pointer (some ⟨S+2,0,none⟩)]
structure Mq (S B:Nat) (key:ByteArray) (TF:TypeId) (L:List ByteArray) (v:jhk) (w:jh9):Prop where
 k1:aG S (.string key) 9 w
 k2:aG (S+1) v 24 w
 k3:aG (S+2) (Pf S) TF w
 own:w.ownsRow B 9 1 v L.length (L.map Value.string)
structure oD (S B:Nat) (key:ByteArray) (TF:TypeId) (L:List ByteArray) (v:jhk) (w w':jh9) (v':jhk):Prop where
 i:Mq S B key TF L v' w'
 keep:∀ b,b<w.heap.size->b≠S+1->v.ownBlock≠some b->w'.heap[b]?=w.heap[b]?
 own:∀ g,v'.ownBlock=some g->v.ownBlock=some g\/w.heap.size<=g
 aJ:Below S w w'
theorem oD.refl {S B:Nat} {key:ByteArray} {TF:TypeId} {L:List ByteArray} {v:jhk} {w:jh9} (h:Mq S B key TF L v w):oD S B key TF L v w w v:=
 ⟨h,fun _ _ _ _=>rfl,fun _ h=>.inl h,je7 _ _⟩
theorem oD.trans {S B:Nat} {key:ByteArray} {TF:TypeId} {L1 L2:List ByteArray} {v v1 v2:jhk} {w w1 w2:jh9} (h1:oD S B key TF L1 v w w1 v1) (h2:oD S B key TF L2 v1 w1 w2 v2):oD S B key TF L2 v w w2 v2:=by
 have hs:=h1.aJ.size;refine ⟨h2.i,fun b hb hn ho=>?_,fun g hg=>?_,h1.aJ.trans h2.aJ⟩
 ·refine (h2.keep b (by omega) hn (fun e=>?_)).trans (h1.keep b hb hn ho);rcases h1.own b e with h | h
  ·exact ho h
  ·omega
 ·rcases h2.own g hg with h | h
  ·exact h1.own g h
  ·exact .inr (by omega)
theorem Mq.alloc {S B:Nat} {key:ByteArray} {TF:TypeId} {L:List ByteArray} {v:jhk} {w:jh9} (h:Mq S B key TF L v w) (o:Obj):Mq S B key TF L v (w.alloc o):=
 ⟨h.k1.alloc o,h.k2.alloc o,h.k3.alloc o,h.own.alloc o⟩
theorem oD.alloc {S B:Nat} {key:ByteArray} {TF:TypeId} {L:List ByteArray} {v v':jhk} {w w':jh9} (h:oD S B key TF L v w w' v') (o:Obj):oD S B key TF L v w (w'.alloc o) v':=by have hs:=h.aJ.size;have hS:=h.i.k1.lt;exact ⟨h.i.alloc o,fun b hb hn ho=>(Below.heap_alloc w' o b (by omega)).trans (h.keep b hb hn ho),h.own,h.aJ.alloc (by omega) o⟩
theorem DZ {w:jh9} {B:Nat} {e:TypeId} {k n:Nat} {v:jhk} {xs:List jhk} (h:w.ownsRow B e k v n xs) (b:Nat) (hb:b<B) (u:jhk):(w.setCell ⟨b,0,none⟩ u).ownsRow B e k v n xs:=by
 obtain ⟨h1,h2⟩:=h;refine ⟨h1,?_⟩;rcases h2 with h2 | ⟨g,cap,cur,rfl,r2,r3,r4⟩
 ·exact .inl h2
 ·exact .inr ⟨g,cap,cur,rfl,r2,(Below.heap_setCell w ⟨b,0,none⟩ u g (by show g≠b;omega)).trans r3,r4⟩
theorem Mq.box {S B:Nat} {key:ByteArray} {TF:TypeId} {L:List ByteArray} {v:jhk} {w w3:jh9} {o:Obj} (h:Mq S B key TF L v w) (hB:S+3<=B) (hg:(w.alloc o).grownBy w3 v.ownBlock) : aG S (.string key) 9 w3/\aG (S+1) v 24 w3/\aG (S+2) (Pf S) TF w3:=by
 have hl:=h.k3.lt;have hn:∀ b,b<B->some b≠v.ownBlock:=fun b hb e=>by have:=(h.own.lt b e.symm).1;omega
 have hh:∀ b,b<B->b<w.heap.size->w3.heap[b]?=w.heap[b]?:=fun b hb hlt=>(hg.block b (by simp;omega) (hn b hb)).trans (Below.heap_alloc w o b hlt)
 exact ⟨(hh S (by omega) h.k1.lt).trans h.k1,(hh (S+1) (by omega) h.k2.lt).trans h.k2,(hh (S+2) (by omega) h.k3.lt).trans h.k3⟩
theorem Mq.push {S B:Nat} {key val:ByteArray} {TF:TypeId} {L:List ByteArray} {v v2:jhk} {w w3:jh9} {o:Obj} (h:Mq S B key TF L v w) (hB:S+3<=B) (hg:(w.alloc o).grownBy w3 v.ownBlock) (hown:w3.ownsRow B 9 1 v2 (L.length+1) (L.map Value.string++[.string val])) (hat:v2.ownBlock=v.ownBlock\/v2.ownBlock=some (w.alloc o).heap.size) : oD S B key TF (L++[val]) v w (w3.setCell ⟨S+1,0,none⟩ v2) v2:=by
 obtain ⟨b1,b2,b3⟩:=h.box hB hg;have hz:(w.alloc o).heap.size=w.heap.size+1:=jf5 _ _;have hsz:=hg.size;refine ⟨⟨b1.far (by omega) v2,b2.set v2,b3.far (by omega) v2,?_⟩,fun b hb hn ho=>?_,fun g hg2=>?_,?_⟩
 ·have h3:=DZ hown (S+1) (by omega) v2;rw [jeq,List.length_singleton,jf8];exact h3
 ·exact (Below.heap_setCell w3 ⟨S+1,0,none⟩ v2 b hn).trans ((hg.block b (by omega) (fun e=>ho e.symm)).trans (Below.heap_alloc w o b hb))
 ·rcases hat with e | e
  ·exact .inl (e ▸ hg2)
  ·rw [e] at hg2;have:=Option.some.inj hg2;exact .inr (by omega)
 ·have hl:=h.k1.lt;exact (((je7 S w).alloc (by omega) o).grown hg (by omega) (fun g hg3=>by have:=(h.own.lt g hg3).1;omega)).setCell (by show S<=S+1;omega) v2
def QX (S B:Nat) (key:ByteArray) (TF:TypeId) (N:Nat) (f:Nat->List ByteArray) (v:jhk) (w:jh9) (vi:jhk) (wr:jh9):Prop:=
 ∃ (k:Nat) (v':jhk),k<=N/\vi=.int .i64 k/\oD S B key TF (f k) v w wr v'
theorem JQ (key:ByteArray) (TF:TypeId) (n:Nat):∀ (nm tx:ByteArray) (at_:List Pr) (ks:List Nd) (S B:Nat) (L:List ByteArray) (v va vk:jhk) (w:jh9),(Nd.mk nm tx at_ ks).sz<=n->jA (·<S) w at_ ks va vk->Mq S B key TF L v w->S+3<=B->B<=w.heap.size -> L.length+((Nd.mk nm tx at_ ks).vals key).length<=10000000 -> Calls Tryz.prog 118 #[.agg #[.string nm,.string tx,va,vk],.pointer (some ⟨S,0,none⟩),.pointer (some ⟨S+1,0,none⟩),.pointer (some ⟨S+2,0,none⟩)] w (fun e w'=>e=.returned (.tuple #[])/\∃ v',oD S B key TF (L++(Nd.mk nm tx at_ ks).vals key) v w w' v'):=by
 induction n using Nat.strongRecOn with
 | _ n ih=>
  intro nm tx at_ ks S B L v va vk w hn hR hI hB hBw hlen
  obtain ⟨i0,hi0,hz0,hz1,hz2⟩:=info_parts AZ;obtain ⟨aa,ca,hva,hsa⟩:=Rd.aC hR.at_
  obtain ⟨ak,ck,hvk,hsk⟩:=Rd.aC hR.ks;obtain ⟨na,hna⟩:∃ na,na=at_.length:=⟨_,rfl⟩
  obtain ⟨nk,hnk⟩:∃ nk,nk=ks.length:=⟨_,rfl⟩;obtain rfl:va=.slice aa na ca:=by rw [hna];simpa using hva
  obtain rfl:vk=.slice ak nk ck:=by rw [hnk];simpa using hvk
  have jc4:na<=ca:=by have:=hsa.le;rw [jex] at this;omega
  have YK:=hsa.max;have jc5:nk<=ck:=by have:=hsk.le;rw [jex] at this;omega
  have YL:=hsk.max;unfold maxLen at YK YL;obtain ⟨p,hp⟩:∃ p,p=w.heap.size:=⟨_,rfl⟩;obtain ⟨wA,gW⟩:∃ wA,wA=w.alloc (.cells #[.string nm,.string tx,.slice aa na ca,.slice ak nk ck] 43):=⟨_,rfl⟩;have PA:CB 43 p [.string nm,.string tx,.slice aa na ca,.slice ak nk ck] wA:=by rw [gW,hp];exact CB.new _ _ w
  have zA:wA.heap.size=p+1:=by rw [gW,hp];simp
  have K0:oD S B key TF L v w wA v:=by rw [gW];exact (oD.refl hI).alloc _
  have hvp:v.ownBlock≠some p:=fun e=>by have:=(hI.own.lt p e).2;omega
  have hSp:p≠S+1:=by omega
  have UF:=hid K0;have HPA:=hid PA;have UG:=hid hsa;have UH:=hid hsk;have HNA:=hid hna;have Bo:=hid hnk;have HN:=hid hn;have IH:=hid ih;have HLEN:=hid hlen;have HP:=hid hp;have HZA:=hid zA;have YM:=hid hvp;have HCP:Hid (∀ (L':List ByteArray) (v':jhk) (wr:jh9),oD S B key TF L' v wA wr v'->CB 43 p [.string nm,.string tx,.slice aa na ca,.slice ak nk ck] wr):=fun L' v' wr h=>(h.keep p (by omega) hSp hvp).trans PA
  have KA:Hid (oD S B key TF L v wA wA v):=oD.refl K0.i;clear hR hI hva hvk hsa hsk hna hnk hn ih hlen zA K0 hvp hSp;have d0:=PA.cell 0 _ rfl;have d2:=PA.cell 2 _ rfl;clear PA;go_enter Tryz.func118,Tryz.ntmps118;go_upto_region 1 with (fail)
  rw [<- gW,<- hp];clear gW hp;have DW:nm.toList.isEmpty=q01 nm:=by rw [Lib.toList_data,Bool.eq_iff_iff,List.isEmpty_iff,q01,decide_eq_true_iff]
  by_cases hne:q01 nm=true
  ·have hv0:Hid ((Nd.mk nm tx at_ ks).vals key=[]):=by show _=_;rw [Nd.vals,if_pos hne]
   rw [hne] at DW;clear hne;go_wp2;refine bodyPost_ret (v:=.tuple #[]) (by simp [results,Tryz.results118,go_sem]) rfl ⟨rfl,v,?_⟩;rw [hv0.out,jh6];exact UF.out
  have hv1:Hid ((Nd.mk nm tx at_ ks).vals key=fv key at_++Nd.aD key ks):=by show _=_;rw [Nd.vals,if_neg hne];rfl
  have hne:q01 nm=false:=by simpa using hne
  rw [hne] at DW;clear hne;have R1:Hid (QX S B key TF na (fun k=>L++fv key (at_.take k)) v wA (.int .i64 0) wA):=⟨0,v,Nat.zero_le _,rfl,by
   have h:=KA.out;show oD S B key TF (L++fv key []) v wA wA v;rw [show fv key []=[] from rfl,jh6];exact h⟩
  go_wp2
  go_loopw [15] (fun vi wr=>QX S B key TF na (fun k=>L++fv key (at_.take k)) v wA vi wr) (fun i _=>na-(intOf i).toNat)
  case atStart=>exact R1.out
  case round=>
   clear R1 d0 d2 DW;obtain ⟨j,v1,hj,rfl,hk⟩:=hrel;have hcb:=HCP.out _ _ _ hk;by_cases hlt:j<na
   ·obtain ⟨y,hy⟩:∃ y,at_[j]?=some y:=⟨_,je6 (by have:=HNA.out;omega)⟩
    have hsn:=FP key at_ j y hy
    obtain ⟨b,off,rfl,hok,hbl,c0,c1⟩:=pW UG.out hy;have hbS:=(UF.out.aJ.trans hk.aJ).block b hok;have c0:=(fH hbS (o:=off+j*2)).trans c0;have c1:=(fH hbS (o:=off+j*2+1)).trans c1;have HY:=hid hy;have UJ:=hid hk;have pJ:=hid hsn;obtain ⟨yk,yv⟩:=y;clear hk hsn hy hbS hok hbl hcb;go_upto_region 5 with (fail)
    obtain ⟨p2,hp2⟩:∃ p2,p2=wr.heap.size:=⟨_,rfl⟩;obtain ⟨w2,hw2⟩:∃ w2,w2=wr.alloc (.cells #[.string yk,.string yv] 74):=⟨_,rfl⟩;have K2:oD S B key TF (L++fv key (at_.take j)) v wA w2 v1:=by rw [hw2];exact UJ.out.alloc _
    have P2:CB 74 p2 [.string yk,.string yv] w2:=by rw [hw2,hp2];exact CB.new _ _ wr
    rw [<- hw2,<- hp2];have g0:=P2.cell 0 _ rfl;have g1:=P2.cell 1 _ rfl;have gk:=K2.i.k1.cell;have JR:=hid K2;clear hw2 hp2 P2 K2 c0 c1;by_cases hkey:yk=key
    ·have YN:Hid (fv key (at_.take (j+1))=fv key (at_.take j)++[yv]):=by show _=_;rw [pJ.out,if_pos hkey]
     subst hkey;obtain ⟨m,hm⟩:∃ m,m=(L++fv yk (at_.take j)).length:=⟨_,rfl⟩;have hm1:m<=10000000:=by
      have h1:=JO yk at_ j
      have h2:=HLEN.out;rw [hv1.out,jeq] at h2;rw [hm,jeq];omega
     have OW:w2.ownsRow B 9 1 v1 m ((L++fv yk (at_.take j)).map Value.string):=by rw [hm];exact JR.out.i.own
     obtain ⟨a1,c1,rfl⟩:=lW OW;have gv:=JR.out.i.k2.cell;have HOW:=hid OW;have HM:=hid hm;have hBw2:B<=w2.heap.size:=by have:=JR.out.aJ.size;have:=HZA.out;have:=HP.out;have h:=JR.out.keep;have hs2:wA.heap.size<=w2.heap.size:=JR.out.aJ.size;omega
     clear OW hm;go_wp2_with (at_builtin;refine wpList_append_own_at _ rfl _ _ 24 rfl B 9 i0 _ 1 16 Tryz.underlying24 hi0 hz0 hz1 hz2 rfl (by decide) _ _ _ rfl (HOW.out.alloc _) ⟨w2.heap.size,0,none⟩ 1 1 [.string yv] rfl rfl (FQ w2 (.string yv) 9) (by intro u hu;simp at hu;subst hu;rfl) (by unfold maxLen;omega) (by omega) (by simp;omega) ?_)
     intro v2 w3 hown3 hg3 _ oF;obtain ⟨a3,c3,rfl⟩:=lW hown3;have bx:=(JR.out.i.box hB hg3).2.1;have bc:=bx.cell;have bf:=bx.free;have PU:=JR.out.i.push hB hg3 (by rw [<- HM.out,jf8,jfq];exact hown3) (by rw [jf5];exact oF);have HF:Hid (QX S B yk TF na (fun k=>L++fv yk (at_.take k)) v wA (.int .i64 ((j+1:Nat):Int)) (w3.setCell ⟨S+1,0,none⟩ (.slice a3 (m+1) c3))):=⟨j+1,_,by omega,rfl,by
      show oD S B yk TF (L++fv yk (at_.take (j+1))) v wA _ _;rw [YN.out,<- jfq];exact JR.out.trans PU⟩
     clear hown3 hg3 oF PU bx g0 g1 gk gv HOW;go_wp2;go_roundw;case rel=>exact HF.out
     case measure=>simp [intOf];omega
    ·have YN:Hid (fv key (at_.take (j+1))=fv key (at_.take j)):=by show _=_;rw [pJ.out,if_neg hkey,jh6]
     have hq:(yk.toList==key.toList)=false:=by rw [beq_eq_false_iff_ne];intro e;rw [Lib.toList_data,Lib.toList_data] at e;exact hkey (ByteArray.ext (Array.toList_inj.1 e))
     have HF:Hid (QX S B key TF na (fun k=>L++fv key (at_.take k)) v wA (.int .i64 ((j+1:Nat):Int)) w2):=⟨j+1,v1,by omega,rfl,by
      show oD S B key TF (L++fv key (at_.take (j+1))) v wA _ _;rw [YN.out];exact JR.out⟩
     go_wp2;go_roundw;case rel=>exact HF.out
     case measure=>simp [intOf];omega
   ·have hjn:j=na:=by omega
    have UJ:Hid (oD S B key TF (L++fv key at_) v wA wr v1):=by have h:oD S B key TF (L++fv key (at_.take j)) v wA wr v1:=hk;rw [hjn,HNA.out,jfx] at h;exact h
    obtain ⟨w1,hw1⟩:∃ w1:jh9,w1=wr:=⟨_,rfl⟩;subst hw1;have f3:=hcb.cell 3 _ rfl;have R2:Hid (QX S B key TF nk (fun k=>L++fv key at_++Nd.aD key (ks.take k)) v wA (.int .i64 0) w1):=⟨0,v1,Nat.zero_le _,rfl,by
     show oD S B key TF (L++fv key at_++Nd.aD key []) v wA _ _;rw [Nd.aD,jh6];exact UJ.out⟩
    clear hk hcb hjn hj;go_wp2
    go_loopw [32] (fun vi wr=>QX S B key TF nk (fun k=>L++fv key at_++Nd.aD key (ks.take k)) v wA vi wr) (fun i _=>nk-(intOf i).toNat)
    case atStart=>exact R2.out
    case round=>
     clear R2 f3;obtain ⟨j,v1,hj,rfl,hk⟩:=hrel;by_cases hlt:j<nk
     ·obtain ⟨y,hy⟩:∃ y,ks[j]?=some y:=⟨_,je6 (by have:=Bo.out;omega)⟩;have hsn:=tL key ks j y hy;have hsz:=Nd.aZ ks j y hy;obtain ⟨yn,yt,ya,Bq⟩:=y;obtain ⟨b,off,va2,vk2,rfl,hok,hbl,c0,c1,c2,c3,hR2⟩:=qj UH.out hy;obtain ⟨a2,n2,YO,rfl⟩:=Rd.au hR2.at_
      obtain ⟨a4,n4,YP,rfl⟩:=Rd.au hR2.ks;have hb2:=UF.out.aJ.trans hk.aJ;have hbS:=hb2.block b hok;have c0:=(fH hbS (o:=off+j*4)).trans c0;have c1:=(fH hbS (o:=off+j*4+1)).trans c1;have c2:=(fH hbS (o:=off+j*4+2)).trans c2;have c3:=(fH hbS (o:=off+j*4+3)).trans c3;have UJ:=hid hk;have pJ:=hid hsn;have Hl:=hid hsz;have HR2:=hid hR2;clear hk hsn hsz hy hbS hok hbl hR2 hb2;go_upto_region 11 with (fail)
      obtain ⟨p2,hp2⟩:∃ p2,p2=wr.heap.size:=⟨_,rfl⟩;obtain ⟨w2,hw2⟩:∃ w2,w2=wr.alloc (.cells #[.string yn,.string yt,.slice a2 n2 YO,.slice a4 n4 YP] 43):=⟨_,rfl⟩;have K2:oD S B key TF (L++fv key at_++Nd.aD key (ks.take j)) v wA w2 v1:=by rw [hw2];exact UJ.out.alloc _
      have P2:CB 43 p2 [.string yn,.string yt,.slice a2 n2 YO,.slice a4 n4 YP] w2:=by rw [hw2,hp2];exact CB.new _ _ wr
      rw [<- hw2,<- hp2];have g0:=P2.cell 0 _ rfl;have g1:=P2.cell 1 _ rfl;have g2:=P2.cell 2 _ rfl;have g3:=P2.cell 3 _ rfl;have gf:=K2.i.k3.cell;unfold Pf at gf;have hSs:S<=w.heap.size:=by omega
      have HC:=hid (IH.out (Nd.mk yn yt ya Bq).sz (by have:=Hl.out;have h:=HN.out;rw [Nd.sz] at h;omega) yn yt ya Bq S B _ v1 (.slice a2 n2 YO) (.slice a4 n4 YP) w2 (je8 _) (HR2.out.keep (fun b (hb:b<S) hlt=>⟨hb,(UF.out.aJ.trans K2.aJ).block b hb⟩)) K2.i hB (by have:=K2.aJ.size;have:=HZA.out;have:=HP.out;omega) (by
       have h1:=qh key ks (j+1);have h2:=HLEN.out;rw [hv1.out,jeq] at h2;rw [pJ.out,jeq] at h1;rw [jeq,jeq];omega))
      have JR:=hid K2;clear hw2 hp2 P2 K2 c0 c1 c2 c3;go_wp2_with fail
      (with_reducible refine HC.out.mono ?_)
      rintro e w3 ⟨rfl,v3,hk3⟩;have HF:Hid (QX S B key TF nk (fun k=>L++fv key at_++Nd.aD key (ks.take k)) v wA (.int .i64 ((j+1:Nat):Int)) w3):=⟨j+1,v3,by omega,rfl,by
       show oD S B key TF (L++fv key at_++Nd.aD key (ks.take (j+1))) v wA _ _;rw [pJ.out,<- jfq];exact JR.out.trans hk3⟩
      clear hk3 HC g0 g1 g2 g3 gf;go_wp2;go_roundw;case rel=>exact HF.out
      case measure=>simp [intOf];omega
     ·have hjn:j=nk:=by omega
      have HE:Hid (oD S B key TF (L++(Nd.mk nm tx at_ ks).vals key) v w wr v1):=by show oD S B key TF _ v w wr v1;rw [hv1.out,<- jfq];have h:oD S B key TF (L++fv key at_++Nd.aD key (ks.take j)) v wA wr v1:=hk;rw [hjn,Bo.out,jfx] at h;exact UF.out.trans h
      clear hk hjn;go_wp2
      go_end0
      exact ⟨rfl,v1,HE.out⟩
open Go.RowKit
def dU (w:jh9) (l:List ByteArray) (e:Ending) (w':jh9):Prop:=
 ∃ v,e=.returned v/\w'.ownsRow w.heap.size 9 1 v l.length (l.map Value.string)/\Below w.heap.size w w'
theorem D5 (key nm tx:ByteArray) (at_:List Pr) (ks:List Nd) (va vk:jhk) (w:jh9) (hR:jA (·<w.heap.size) w at_ ks va vk) (hlen:((Nd.mk nm tx at_ ks).vals key).length<=10000000) : Calls Tryz.prog 70 #[.agg #[.string nm,.string tx,va,vk],.string key] w (dU w ((Nd.mk nm tx at_ ks).vals key)):=by
 obtain ⟨aa,na,ca,rfl⟩:=Rd.au hR.at_
 obtain ⟨ak,nk,ck,rfl⟩:=Rd.au hR.ks;have HR:=hid hR;have HLEN:=hid hlen;clear hR hlen;go_enter Tryz.func70,Tryz.ntmps70;go_upto_region 4 with (fail)
 obtain ⟨p,hp⟩:∃ p,p=w.heap.size:=⟨_,rfl⟩;obtain ⟨S,hS⟩:∃ S,S=p+1:=⟨_,rfl⟩;obtain ⟨w4,hw4⟩:∃ w4,w4=(((w.alloc (.cells #[.string nm,.string tx,.slice aa na ca,.slice ak nk ck] 43)).alloc (.cells #[.string key] 9)).alloc (.cells #[.slice none 0 0] 24)).alloc (.cells #[Pf S] 142):=⟨_,rfl⟩;have Mr:=hw4;unfold Pf at Mr;rw [<- hp,<- hS,show S+1+1=S+2 from rfl,<- Mr];have z1:(w.alloc (.cells #[.string nm,.string tx,.slice aa na ca,.slice ak nk ck] 43)).heap.size=S:=by rw [jf5,hS,hp]
 have z2:((w.alloc (.cells #[.string nm,.string tx,.slice aa na ca,.slice ak nk ck] 43)).alloc (.cells #[.string key] 9)).heap.size=S+1:=by rw [jf5,z1]
 have z3:(((w.alloc (.cells #[.string nm,.string tx,.slice aa na ca,.slice ak nk ck] 43)).alloc (.cells #[.string key] 9)).alloc (.cells #[.slice none 0 0] 24)).heap.size=S+2:=by rw [jf5,z2]
 have z4:w4.heap.size=S+3:=by rw [hw4,jf5,z3]
 have PN:CB 43 p [.string nm,.string tx,.slice aa na ca,.slice ak nk ck] w4:=by
  have h:CB 43 p [.string nm,.string tx,.slice aa na ca,.slice ak nk ck] (w.alloc (.cells #[.string nm,.string tx,.slice aa na ca,.slice ak nk ck] 43)):=by rw [hp];exact CB.new _ _ w
  rw [hw4];exact ((h.below ((je7 _ _).alloc (je8 _) _)).below ((je7 _ _).alloc (je8 _) _)).below ((je7 _ _).alloc (je8 _) _)
 have K1:aG S (.string key) 9 w4:=by have h:=aG.new (w.alloc (.cells #[.string nm,.string tx,.slice aa na ca,.slice ak nk ck] 43)) (.string key) 9;rw [z1] at h;rw [hw4];exact (h.alloc _).alloc _
 have K2:aG (S+1) (.slice none 0 0) 24 w4:=by have h:=aG.new ((w.alloc (.cells #[.string nm,.string tx,.slice aa na ca,.slice ak nk ck] 43)).alloc (.cells #[.string key] 9)) (.slice none 0 0) 24;rw [z2] at h;rw [hw4];exact h.alloc _
 have K3:aG (S+2) (Pf S) 142 w4:=by have h:=aG.new (((w.alloc (.cells #[.string nm,.string tx,.slice aa na ca,.slice ak nk ck] 43)).alloc (.cells #[.string key] 9)).alloc (.cells #[.slice none 0 0] 24)) (Pf S) 142;rw [z3] at h;rw [hw4];exact h
 have B4:Below w.heap.size w w4:=by rw [hw4];exact ((((je7 _ w).alloc (je8 _) _).alloc (by omega) _).alloc (by omega) _).alloc (by omega) _
 have VC:=hid (JQ key 142 (Nd.mk nm tx at_ ks).sz nm tx at_ ks S (S+3) [] (.slice none 0 0) (.slice aa na ca) (.slice ak nk ck) w4 (je8 _) (HR.out.keep (fun b (hb:b<w.heap.size) hlt=>⟨by show b<S;omega,B4.block b hb⟩)) ⟨K1,K2,K3,⟨by simp,.inl ⟨rfl,rfl⟩⟩⟩ (je8 _) (by omega) (by simpa using HLEN.out));have f0:=PN.cell 0 _ rfl;have f1:=PN.cell 1 _ rfl;have f2:=PN.cell 2 _ rfl;have f3:=PN.cell 3 _ rfl;have fk:=K3.cell;unfold Pf at fk;have yE:=hid B4;have HSp:Hid (S=w.heap.size+1):=by show _=_;omega
 clear hw4 Mr hp hS z1 z2 z3 z4 PN K1 K2 K3 B4;go_wp2_with fail
 (with_reducible refine VC.out.mono ?_)
 rintro e w5 ⟨rfl,v',hk⟩;have c2:=hk.i.k2.cell;have HO:Hid (dU w ((Nd.mk nm tx at_ ks).vals key) (.returned v') w5):=by
  refine ⟨v',rfl,?_,?_⟩
  ·have h:=hk.i.own;rw [List.nil_append] at h;obtain ⟨h1,h2⟩:=h;refine ⟨h1,?_⟩;rcases h2 with h2 | ⟨g,cap,cur,rfl,r2,r3,r4⟩
   ·exact .inl h2
   ·exact .inr ⟨g,cap,cur,rfl,by have:=HSp.out;omega,r3,r4⟩
  ·exact yE.out.trans (hk.aJ.mono (by have:=HSp.out;omega))
 obtain ⟨a5,c5,rfl⟩:=lW hk.i.own;clear hk VC;go_wp2;go_ret;exact HO.out
theorem oG (nm tx:ByteArray) (at_:List Pr) (ks:List Nd) (va vk:jhk) (w:jh9) (hR:jA (·<w.heap.size) w at_ ks va vk) (hlen:((Nd.mk nm tx at_ ks).vals eT).length<=10000000) : Calls Tryz.prog 28 #[.agg #[.string nm,.string tx,va,vk]] w (dU w ((Nd.mk nm tx at_ ks).vals eT)):=by
 obtain ⟨aa,na,ca,rfl⟩:=Rd.au hR.at_
 obtain ⟨ak,nk,ck,rfl⟩:=Rd.au hR.ks;obtain ⟨w1,hw1⟩:∃ w1,w1=w.alloc (.cells #[.string nm,.string tx,.slice aa na ca,.slice ak nk ck] 43):=⟨_,rfl⟩;have b1:Below w.heap.size w w1:=by rw [hw1];exact (je7 _ _).alloc (je8 _) _
 have PN:CB 43 w.heap.size [.string nm,.string tx,.slice aa na ca,.slice ak nk ck] w1:=by rw [hw1];exact CB.new _ _ w
 have VC:Hid (Calls Tryz.prog 70 #[.agg #[.string nm,.string tx,.slice aa na ca,.slice ak nk ck],.string ⟨#[105,100]⟩] w1 (dU w1 ((Nd.mk nm tx at_ ks).vals eT))):=(D5 eT nm tx at_ ks (.slice aa na ca) (.slice ak nk ck) w1 (hR.keep (fun b (hb:b<w.heap.size) hlt=>⟨by show b<w1.heap.size;have:=b1.size;omega,b1.block b hb⟩)) hlen);have HB1:=hid b1;have f0:=PN.cell 0 _ rfl;have f1:=PN.cell 1 _ rfl;have f2:=PN.cell 2 _ rfl;have f3:=PN.cell 3 _ rfl;clear hR hlen b1 PN;go_enter Tryz.func28,Tryz.ntmps28;go_upto_region 1 with (fail)
 rw [<- hw1];clear hw1;go_wp2_with fail
 (with_reducible refine VC.out.mono ?_)
 rintro e w5 ⟨v',rfl,hown,hb⟩;have HO:Hid (dU w ((Nd.mk nm tx at_ ks).vals eT) (.returned v') w5):=by
  refine ⟨v',rfl,?_,HB1.out.trans (hb.mono HB1.out.size)⟩;obtain ⟨h1,h2⟩:=hown;refine ⟨h1,?_⟩;rcases h2 with h2 | ⟨g,cap,cur,rfl,r2,r3,r4⟩
  ·exact .inl h2
  ·exact .inr ⟨g,cap,cur,rfl,Nat.le_trans HB1.out.size r2,r3,r4⟩
 obtain ⟨a5,c5,rfl⟩:=lW hown;clear hown hb VC;go_wp2;go_ret;exact HO.out
open Go.RowKit
def tN (W1:jh9) (f:Nat->List ByteArray) (n:Nat) (v vi:jhk) (wr:jh9):Prop:=∃ k:Nat,k<=n/\vi=.int .i64 k/\wr.ownsRow W1.heap.size 9 1 v (f k).length ((f k).map Value.string)/\Below W1.heap.size W1 wr
theorem wu (key:ByteArray) (N:Nat):∀ (x:Nd) (va vk:jhk) (w:jh9),x.sz<=N->(x.vals key).length<=1000000->jA (·<w.heap.size) w x.at_ x.ks va vk -> Calls Tryz.prog 31 #[.agg #[.string x.nm,.string x.tx,va,vk],.string key] w (dU w (x.vals key)):=by
 induction N using Nat.strongRecOn with
 | _ N ih=>
  intro x va vk w hN hpl hA;obtain ⟨i0,hi0,hz0,hz1,hz2⟩:=info_parts AZ;obtain ⟨nm,tx,at_,ks⟩:=x;dsimp only [Nd.nm,Nd.tx,Nd.at_,Nd.ks] at hA ⊢;obtain ⟨a1,c1,h1,s1⟩:=Rd.aC hA.at_
  obtain ⟨a2,c2,h2,s2⟩:=Rd.aC hA.ks;obtain ⟨n1,hn1⟩:∃ n,n=at_.length:=⟨_,rfl⟩
  obtain ⟨n2,hn2⟩:∃ n,n=ks.length:=⟨_,rfl⟩;obtain rfl:va=.slice a1 n1 c1:=by rw [hn1];simpa using h1
  obtain rfl:vk=.slice a2 n2 c2:=by rw [hn2];simpa using h2
  have l1:=s1.le;have l2:=s2.le;rw [jex,<- hn1] at l1;rw [jex,<- hn2] at l2;have m1:=s1.max;have m2:=s2.max;unfold maxLen at m1 m2;rw [Nd.sz] at hN;have hks:=Nd.aZ ks;obtain ⟨S,hS⟩:∃ S,S=w.heap.size:=⟨_,rfl⟩;obtain ⟨W1,hW1⟩:∃ W,W=w.alloc (.cells #[.string nm,.string tx,.slice a1 n1 c1,.slice a2 n2 c2] 43):=⟨_,rfl⟩;have k0:CB 43 S [.string nm,.string tx,.slice a1 n1 c1,.slice a2 n2 c2] W1:=by rw [hW1,hS];exact CB.new _ _ w
  have bW:Below w.heap.size w W1:=by rw [hW1];exact (je7 _ _).alloc (je8 _) _
  have CL:Hid (∀ w':jh9,Below W1.heap.size W1 w'->w'.cell? ⟨S,2,none⟩=some (.slice a1 n1 c1)/\w'.cell? ⟨S,3,none⟩=some (.slice a2 n2 c2)):=fun w' hb=>⟨(k0.below hb).cell 2 _ rfl,(k0.below hb).cell 3 _ rfl⟩
  have e0:=k0.cell 0 _ rfl;have DW:nm.toList.isEmpty=q01 nm:=by rw [Lib.toList_data,Bool.eq_iff_iff,List.isEmpty_iff,q01,decide_eq_true_iff]
  have H1:=hid s1;have H2:=hid s2;have IH:=hid ih;have Xo:=hid hks;have BW:=hid bW;have Xp:=hid hn1;have O6:=hid hn2;have HN:=hid hN;have hv0:(Nd.mk nm tx at_ ks).vals key=if q01 nm=true then [] else fv key at_++Nd.aD key ks:=by rw [Nd.vals];rfl
  clear hA h1 h2 s1 s2 ih hks k0 bW hn1 hn2 hN;by_cases hne:q01 nm=true
  ·rw [hne] at DW;have HF:Hid ((Nd.mk nm tx at_ ks).vals key=[]):=by show _=_;rw [hv0,if_pos hne]
   clear hne hv0 hpl;go_enter Tryz.func31,Tryz.ntmps31;go_upto_region 2 with (fail)
   rw [<- hW1,<- hS];clear hW1 hS;go_wp2;go_ret;exact ⟨.slice none 0 0,rfl,by rw [HF.out];exact World.ownsRow_nil _ _ _ _,BW.out⟩
  ·have hne:q01 nm=false:=by simpa using hne
   rw [hne] at DW;have HF:Hid ((Nd.mk nm tx at_ ks).vals key=fv key at_++Nd.aD key ks):=by show _=_;rw [hv0,if_neg (by rw [hne];decide)]
   rw [HF.out,jeq] at hpl;have Pg:=hid hpl;have R0:Hid (tN W1 (fun k=>fv key (at_.take k)) n1 (.slice none 0 0) (.int .i64 0) W1):=⟨0,Nat.zero_le _,rfl,World.ownsRow_nil _ _ _ _,je7 _ _⟩;clear hne hv0 hpl;go_enter Tryz.func31,Tryz.ntmps31;go_upto_region 2 with (fail)
   rw [<- hW1,<- hS];clear hW1 hS;go_wp2
   go_loopw [5,6] (fun v vi wr=>tN W1 (fun k=>fv key (at_.take k)) n1 v vi wr) (fun _ i _=>n1-(intOf i).toNat)
   case atStart=>exact R0.out
   case round=>
    clear R0 e0 DW;obtain ⟨j,hj,rfl,hown,hbel⟩:=hrel;obtain ⟨e2,e3⟩:=CL.out _ hbel;have hfl:=JO key at_ j
    obtain ⟨m,hm⟩:∃ m,m=(fv key (at_.take j)).length:=⟨_,rfl⟩;have hm1:m<=1000000:=by have:=Pg.out;omega
    dsimp only at hown;rw [<- hm] at hown;obtain ⟨av,cv,rfl⟩:=lW hown;have HOW:=hid hown;have HB:=hid hbel;have HM:=hid hm;have hsz:=hbel.size;clear hown hbel hm hfl;by_cases hlt:j<n1
    ·obtain ⟨y,hy⟩:∃ y,at_[j]?=some y:=⟨_,je6 (by have:=Xp.out;omega)⟩
     have hsn:=FP key at_ j y hy
     obtain ⟨g1,o1,rfl,-,hg1,k1,k2⟩:=pW H1.out hy;have JU:=BW.out.trans (HB.out.mono BW.out.size);have r1:wr.cell? ⟨g1,o1+j*2,none⟩=some (.string y.key):=(JU.cell (p:=⟨g1,_,none⟩) hg1).trans k1;have r2:wr.cell? ⟨g1,o1+j*2+1,none⟩=some (.string y.val):=(JU.cell (p:=⟨g1,_,none⟩) hg1).trans k2;clear hy k1 k2 JU;obtain ⟨yk,yv⟩:=y;dsimp only at r1 r2 hsn;by_cases hkey:yk=key
     ·subst hkey;have hq:(yk.toList==yk.toList)=true:=by simp
      have pJ:=hid (show fv yk (at_.take (j+1))=fv yk (at_.take j)++[yv] by rw [hsn,if_pos rfl]);clear hsn;go_wp2_with (at_builtin;refine wpList_append_own_at _ rfl _ _ 24 rfl W1.heap.size 9 i0 _ 1 16 Tryz.underlying24 hi0 hz0 hz1 hz2 rfl (by decide) _ _ _ rfl (HOW.out.alloc _) ⟨wr.heap.size,0,none⟩ 1 1 [.string yv] rfl rfl (FQ wr (.string yv) 9) (by intro u hu;simp at hu;subst hu;rfl) (by unfold maxLen;omega) (by omega) (by simp;omega) ?_)
      intro v2 w3 hown3 hg3 _ oF;obtain ⟨a3,c3,rfl⟩:=lW hown3;have UK:Hid (tN W1 (fun k=>fv yk (at_.take k)) n1 (.slice a3 (m+1) c3) (.int .i64 ((j+1:Nat):Int)) w3):=⟨j+1,by omega,rfl,by
       show w3.ownsRow _ _ _ _ (fv yk (at_.take (j+1))).length ((fv yk (at_.take (j+1))).map Value.string);rw [pJ.out,jeq,List.length_singleton,<- HM.out,jf8];exact hown3,(HB.out.alloc hsz _).grown hg3 (by simp;omega) (fun b hb=>(HOW.out.lt b hb).1)⟩
      clear hown3 hg3 oF r1 r2;go_wp2;go_roundw;case rel=>exact UK.out
      case measure=>simp [intOf];omega
     ·have hq:(yk.toList==key.toList)=false:=by
       rw [beq_eq_false_iff_ne];intro e;rw [Lib.toList_data,Lib.toList_data] at e;exact hkey (ByteArray.ext (Array.toList_inj.1 e))
      have pJ:=hid (show fv key (at_.take (j+1))=fv key (at_.take j) by rw [hsn,if_neg hkey,jh6]);have UK:Hid (tN W1 (fun k=>fv key (at_.take k)) n1 (.slice av m cv) (.int .i64 ((j+1:Nat):Int)) wr):=⟨j+1,by omega,rfl,by
       show wr.ownsRow _ _ _ _ (fv key (at_.take (j+1))).length ((fv key (at_.take (j+1))).map Value.string);rw [pJ.out,<- HM.out];exact HOW.out,HB.out⟩
      clear hsn hkey;go_wp2;go_roundw;case rel=>exact UK.out
      case measure=>simp [intOf];omega
    ·have hjl:j=at_.length:=by have:=Xp.out;omega
     have R2:Hid (tN W1 (fun k=>fv key at_++Nd.aD key (ks.take k)) n2 (.slice av m cv) (.int .i64 0) wr):=⟨0,Nat.zero_le _,rfl,by
      have h:=HOW.out;rw [HM.out,hjl,jfx] at h;show wr.ownsRow _ _ _ _ (fv key at_++Nd.aD key []).length ((fv key at_++Nd.aD key []).map Value.string);rw [Nd.aD,jh6];rw [HM.out,hjl,jfx];exact h,HB.out⟩
     obtain ⟨wq,hwq⟩:∃ wq:jh9,wq=wr:=⟨_,rfl⟩;subst hwq;clear hjl HM HOW HB;go_wp2
     go_loopw [5,7] (fun v vi wr=>tN W1 (fun k=>fv key at_++Nd.aD key (ks.take k)) n2 v vi wr) (fun _ i _=>n2-(intOf i).toNat)
     case atStart=>exact R2.out
     case round=>
      clear R2 e2 e3;obtain ⟨q,hq,rfl,hown,hbel⟩:=hrel;obtain ⟨e2,e3⟩:=CL.out _ hbel;have hvl:=qh key ks q;obtain ⟨m,hm⟩:∃ m,m=(fv key at_++Nd.aD key (ks.take q)).length:=⟨_,rfl⟩;have hm1:m<=1000000:=by have:=Pg.out;rw [hm,jeq];omega
      dsimp only at hown;rw [<- hm] at hown;obtain ⟨av,cv,rfl⟩:=lW hown;have HOW:=hid hown;have HB:=hid hbel;have HM:=hid hm;have hsz:=hbel.size;clear hown hbel hm hvl;by_cases hlt:q<n2
      ·obtain ⟨y,hy⟩:∃ y,ks[q]?=some y:=⟨_,je6 (by have:=O6.out;omega)⟩;have YQ:=Xo.out q y hy;have hsn:=tL key ks q y hy;have hle:=qh key ks (q+1);rw [hsn,jeq] at hle;obtain ⟨yn,yt,ya,yk⟩:=y;obtain ⟨g1,o1,u1,u2,rfl,-,hg1,x0,x1,x2,x3,Xq⟩:=qj H2.out hy;obtain ⟨i1,i2,i3,rfl⟩:=Rd.au Xq.at_
       obtain ⟨i4,i5,i6,rfl⟩:=Rd.au Xq.ks;have JU:=BW.out.trans (HB.out.mono BW.out.size);have y0:wr.cell? ⟨g1,o1+q*4,none⟩=some (.string yn):=(JU.cell (p:=⟨_,_,none⟩) hg1).trans x0;have y1:wr.cell? ⟨g1,o1+q*4+1,none⟩=some (.string yt):=(JU.cell (p:=⟨_,_,none⟩) hg1).trans x1;have y2:wr.cell? ⟨g1,o1+q*4+2,none⟩=some (.slice i1 i2 i3):=(JU.cell (p:=⟨_,_,none⟩) hg1).trans x2;have y3:wr.cell? ⟨g1,o1+q*4+3,none⟩=some (.slice i4 i5 i6):=(JU.cell (p:=⟨_,_,none⟩) hg1).trans x3;have IC:Hid (Calls Tryz.prog 31 #[.agg #[.string yn,.string yt,.slice i1 i2 i3,.slice i4 i5 i6],.string key] wr (dU wr ((Nd.mk yn yt ya yk).vals key))):=
        IH.out (Nd.mk yn yt ya yk).sz (by have:=HN.out;omega) (Nd.mk yn yt ya yk) _ _ wr (je8 _) (by have:=Pg.out;omega) (Xq.keep (fun b (hb:b<w.heap.size) _=>⟨Nat.lt_of_lt_of_le hb JU.size,JU.block b hb⟩))
       obtain ⟨Y,hY⟩:∃ Y,Y=(Nd.mk yn yt ya yk).vals key:=⟨_,rfl⟩;have HAY:=hid (show fv key at_++Nd.aD key (ks.take (q+1))=(fv key at_++Nd.aD key (ks.take q))++Y by rw [hsn,jfq,hY]);have hYl:Y.length<=1000000:=by rw [hY];have:=Pg.out;omega
       rw [<- hY] at IC;clear hy YQ hsn hle x0 x1 x2 x3 Xq JU hY;go_wp2_with fail
       (with_reducible refine IC.out.mono ?_)
       rintro e w2 ⟨v2,rfl,hown2,b2⟩;obtain ⟨M,hM⟩:∃ M,M=Y.length:=⟨_,rfl⟩;rw [<- hM] at hown2 hYl;obtain ⟨a2',c2',rfl⟩:=lW hown2;have QY:=hid (QZ HOW.out b2);have B2:=hid (aU HB.out b2);have jcq:=b2.size;have Tw:=hid (Reads.pR hown2);have UM:Hid (∀ u∈Y.map Value.string,u.oneCell'=true):=fun u hu=>by
        obtain ⟨s,-,rfl⟩:=List.mem_map.1 hu;rfl
       have HMY:=hid hM;clear IC hown2 b2 y0 y1 y2 y3 hM;go_wp2_with (at_builtin;refine Mi _ rfl (.tmp 43) (.tmp 50) 24 rfl W1.heap.size 9 i0 _ 1 16 Tryz.underlying24 hi0 hz0 hz1 hz2 rfl (by decide) (.slice av m cv) m _ rfl QY.out w2.heap.size a2' M c2' (Y.map Value.string) rfl Tw.out UM.out ?k3 ?k4 ?k5 ?_)
       case k3=>unfold maxLen;omega
       case k4=>omega
       case k5=>omega
       intro v3 w3 hown3 hg3 _;obtain ⟨a3,c3,rfl⟩:=lW hown3;have UK:Hid (tN W1 (fun k=>fv key at_++Nd.aD key (ks.take k)) n2 (.slice a3 (m+M) c3) (.int .i64 ((q+1:Nat):Int)) w3):=⟨q+1,by omega,rfl,by
        show w3.ownsRow _ _ _ _ (fv key at_++Nd.aD key (ks.take (q+1))).length ((fv key at_++Nd.aD key (ks.take (q+1))).map Value.string);rw [HAY.out,jeq,<- HM.out,<- HMY.out,jf8,jf8,jfq];exact hown3,B2.out.grown hg3 (by omega) (fun b hb=>(QY.out.lt b hb).1)⟩
       clear hown3 hg3 Tw UM;go_wp2;go_roundw;case rel=>exact UK.out
       case measure=>simp [intOf];omega
      ·have UO:q=ks.length:=by have:=O6.out;omega
       have HFN:Hid (dU w ((Nd.mk nm tx at_ ks).vals key) (.returned (.slice av m cv)) wr):=by refine ⟨_,rfl,?_,BW.out.trans (HB.out.mono BW.out.size)⟩;have h:=HOW.out;rw [HM.out,UO,jfx,<- HF.out] at h;rw [HM.out,UO,jfx,<- HF.out];exact Bz h BW.out.size
       clear UO;go_wp2;go_ret;exact HFN.out
end Go.Proofs.YtclikfjalmcoaaaGreatDoor

