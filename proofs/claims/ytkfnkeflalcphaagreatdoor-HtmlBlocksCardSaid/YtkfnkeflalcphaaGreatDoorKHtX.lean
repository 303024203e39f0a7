/- Contract of the function that markup.Values calls for each node (markup.Values$1): the values of a key, one behind the other. Contracts of markup.Values and html.Anchors. -/
import Derived.Test.YtkfnkeflalcphaaGreatDoorKHsm
set_option maxHeartbeats 4000000
set_option maxRecDepth 100000
open Go.Lib (hid)
namespace Go.Proofs.YtkfnkeflalcphaaGreatDoor
open Go.RowKit.Below renaming refl->jD7
open Nat renaming le_refl->jD8
open List renaming length_append->jDq,append_assoc->jEq,append_nil->jG6
open Go.World renaming size_alloc->jE5
open Go renaming Value->jGk
open Go.RowKit
set_option linter.unusedVariables false
set_option linter.unusedSimpArgs false
def fv (key:ByteArray) (a:List Pr):List ByteArray:=(a.filter fun p=>decide (p.key=key)).map (·.val)
theorem Ti (key:ByteArray) (a b:List Pr):fv key (a++b)=fv key a++fv key b:=by unfold fv;simp
theorem XE (key:ByteArray) (a:List Pr) (k:Nat) (p:Pr) (h:a[k]?=some p):fv key (a.take (k+1))=fv key (a.take k)++if p.key=key then [p.val] else []:=by rw [List.take_add_one,h,Ti];unfold fv;by_cases hk:p.key=key<;>simp [hk]
theorem jn7 (key:ByteArray) (a:List Pr) (k:Nat):(fv key (a.take k)).length<=(fv key a).length:=by
 have h:fv key a=fv key (a.take k)++fv key (a.drop k):=by rw [<- Ti,List.take_append_drop]
 rw [h,jDq];omega
theorem Ku (key:ByteArray) (l:List Nd) (k:Nat) (x:Nd) (h:l[k]?=some x):Nd.dF key (l.take (k+1))=Nd.dF key (l.take k)++x.vals key:=by rw [List.take_add_one,h,Di];show _++Nd.dF key [x]=_;rw [Nd.dF,Nd.dF,jG6]
theorem OJ (key:ByteArray) (l:List Nd) (k:Nat):(Nd.dF key (l.take k)).length<=(Nd.dF key l).length:=by
 have h:Nd.dF key l=Nd.dF key (l.take k)++Nd.dF key (l.drop k):=by rw [<- Di,List.take_append_drop]
 rw [h,jDq];omega
def VaF (S:Nat):jGk:=.func (.func 131) #[] #[.pointer (some ⟨S,0,none⟩),.pointer (some ⟨S+1,0,none⟩),.pointer (some ⟨S+2,0,none⟩)]
structure V3 (S B:Nat) (key:ByteArray) (TF:TypeId) (L:List ByteArray) (v:jGk) (w:World):Prop where
 k1:aH S (.string key) 9 w
 k2:aH (S+1) v 43 w
 k3:aH (S+2) (VaF S) TF w
 own:w.ownsRow B 9 1 v L.length (L.map Value.string)
structure sU (S B:Nat) (key:ByteArray) (TF:TypeId) (L:List ByteArray) (v:jGk) (w w':World) (v':jGk):Prop where
 i:V3 S B key TF L v' w'
 keep:∀ b,b<w.heap.size->b≠S+1->v.ownBlock≠some b->w'.heap[b]?=w.heap[b]?
 own:∀ g,v'.ownBlock=some g->v.ownBlock=some g\/w.heap.size<=g
 aM:Below S w w'
theorem sU.refl {S B:Nat} {key:ByteArray} {TF:TypeId} {L:List ByteArray} {v:jGk} {w:World} (h:V3 S B key TF L v w):sU S B key TF L v w w v:=
 ⟨h,fun _ _ _ _=>rfl,fun _ h=>.inl h,jD7 _ _⟩
theorem sU.trans {S B:Nat} {key:ByteArray} {TF:TypeId} {L1 L2:List ByteArray} {v v1 v2:jGk} {w w1 w2:World} (h1:sU S B key TF L1 v w w1 v1) (h2:sU S B key TF L2 v1 w1 w2 v2):sU S B key TF L2 v w w2 v2:=by
 have hs:=h1.aM.size;refine ⟨h2.i,fun b hb hn ho=>?_,fun g hg=>?_,h1.aM.trans h2.aM⟩
 ·refine (h2.keep b (by omega) hn (fun e=>?_)).trans (h1.keep b hb hn ho);rcases h1.own b e with h | h
  ·exact ho h
  ·omega
 ·rcases h2.own g hg with h | h
  ·exact h1.own g h
  ·exact .inr (by omega)
theorem V3.alloc {S B:Nat} {key:ByteArray} {TF:TypeId} {L:List ByteArray} {v:jGk} {w:World} (h:V3 S B key TF L v w) (o:Obj):V3 S B key TF L v (w.alloc o):=
 ⟨h.k1.alloc o,h.k2.alloc o,h.k3.alloc o,h.own.alloc o⟩
theorem sU.alloc {S B:Nat} {key:ByteArray} {TF:TypeId} {L:List ByteArray} {v v':jGk} {w w':World} (h:sU S B key TF L v w w' v') (o:Obj):sU S B key TF L v w (w'.alloc o) v':=by have hs:=h.aM.size;have hS:=h.i.k1.lt;exact ⟨h.i.alloc o,fun b hb hn ho=>(Below.heap_alloc w' o b (by omega)).trans (h.keep b hb hn ho),h.own,h.aM.alloc (by omega) o⟩
theorem Kv {w:World} {B:Nat} {e:TypeId} {k n:Nat} {v:jGk} {xs:List jGk} (h:w.ownsRow B e k v n xs) (b:Nat) (hb:b<B) (u:jGk):(w.setCell ⟨b,0,none⟩ u).ownsRow B e k v n xs:=by
 obtain ⟨h1,h2⟩:=h;refine ⟨h1,?_⟩;rcases h2 with h2 | ⟨g,cap,cur,rfl,r2,r3,r4⟩
 ·exact .inl h2
 ·exact .inr ⟨g,cap,cur,rfl,r2,(Below.heap_setCell w ⟨b,0,none⟩ u g (by show g≠b;omega)).trans r3,r4⟩
theorem V3.box {S B:Nat} {key:ByteArray} {TF:TypeId} {L:List ByteArray} {v:jGk} {w w3:World} {o:Obj} (h:V3 S B key TF L v w) (hB:S+3<=B) (hg:(w.alloc o).grownBy w3 v.ownBlock) : aH S (.string key) 9 w3/\aH (S+1) v 43 w3/\aH (S+2) (VaF S) TF w3:=by
 have hl:=h.k3.lt;have hn:∀ b,b<B->some b≠v.ownBlock:=fun b hb e=>by have:=(h.own.lt b e.symm).1;omega
 have hh:∀ b,b<B->b<w.heap.size->w3.heap[b]?=w.heap[b]?:=fun b hb hlt=>(hg.block b (by simp;omega) (hn b hb)).trans (Below.heap_alloc w o b hlt)
 exact ⟨(hh S (by omega) h.k1.lt).trans h.k1,(hh (S+1) (by omega) h.k2.lt).trans h.k2,(hh (S+2) (by omega) h.k3.lt).trans h.k3⟩
theorem V3.push {S B:Nat} {key val:ByteArray} {TF:TypeId} {L:List ByteArray} {v v2:jGk} {w w3:World} {o:Obj} (h:V3 S B key TF L v w) (hB:S+3<=B) (hg:(w.alloc o).grownBy w3 v.ownBlock) (hown:w3.ownsRow B 9 1 v2 (L.length+1) (L.map Value.string++[.string val])) (hat:v2.ownBlock=v.ownBlock\/v2.ownBlock=some (w.alloc o).heap.size) : sU S B key TF (L++[val]) v w (w3.setCell ⟨S+1,0,none⟩ v2) v2:=by
 obtain ⟨b1,b2,b3⟩:=h.box hB hg;have hz:(w.alloc o).heap.size=w.heap.size+1:=jE5 _ _;have hsz:=hg.size;refine ⟨⟨b1.far (by omega) v2,b2.set v2,b3.far (by omega) v2,?_⟩,fun b hb hn ho=>?_,fun g hg2=>?_,?_⟩
 ·have h3:=Kv hown (S+1) (by omega) v2;rw [jDq,List.length_singleton,List.map_append];exact h3
 ·exact (Below.heap_setCell w3 ⟨S+1,0,none⟩ v2 b hn).trans ((hg.block b (by omega) (fun e=>ho e.symm)).trans (Below.heap_alloc w o b hb))
 ·rcases hat with e | e
  ·exact .inl (e ▸ hg2)
  ·rw [e] at hg2;have:=Option.some.inj hg2;exact .inr (by omega)
 ·have hl:=h.k1.lt;exact (((jD7 S w).alloc (by omega) o).grown hg (by omega) (fun g hg3=>by have:=(h.own.lt g hg3).1;omega)).setCell (by show S<=S+1;omega) v2
def VaR (S B:Nat) (key:ByteArray) (TF:TypeId) (N:Nat) (f:Nat->List ByteArray) (v:jGk) (w:World) (vi:jGk) (wr:World):Prop:=
 ∃ (k:Nat) (v':jGk),k<=N/\vi=.int .i64 k/\sU S B key TF (f k) v w wr v'
theorem Tj{P:Prop}(h:P:=by
 go_wp2;go_roundw;case rel=>exact HF.out
 case measure=>simp [intOf];omega):P:=h
theorem Tk (key:ByteArray) (TF:TypeId) (n:Nat):∀ (nm tx:ByteArray) (at_:List Pr) (ks:List Nd) (S B:Nat) (L:List ByteArray) (v va vk:jGk) (w:World),(Nd.mk nm tx at_ ks).sz<=n->gZ (·<S) w at_ ks va vk->V3 S B key TF L v w->S+3<=B->B<=w.heap.size -> L.length+((Nd.mk nm tx at_ ks).vals key).length<=10000000 -> Calls Tryz.prog 131 #[.agg #[.string nm,.string tx,va,vk],.pointer (some ⟨S,0,none⟩),.pointer (some ⟨S+1,0,none⟩),.pointer (some ⟨S+2,0,none⟩)] w (fun e w'=>e=.returned (.tuple #[])/\∃ v',sU S B key TF (L++(Nd.mk nm tx at_ ks).vals key) v w w' v'):=by
 induction n using Nat.strongRecOn with
 | _ n ih=>
  intro nm tx at_ ks S B L v va vk w hn hR hI hB hBw hlen
  obtain ⟨i0,hi0,hz0,hz1,hz2⟩:=info_parts Gb;obtain ⟨aa,ca,hva,hsa⟩:=Rd.ay hR.at_
  obtain ⟨ak,ck,hvk,hsk⟩:=Rd.ay hR.ks;obtain ⟨na,hna⟩:∃ na,na=at_.length:=⟨_,rfl⟩
  obtain ⟨nk,hnk⟩:∃ nk,nk=ks.length:=⟨_,rfl⟩;obtain rfl:va=.slice aa na ca:=by rw [hna];simpa using hva
  obtain rfl:vk=.slice ak nk ck:=by rw [hnk];simpa using hvk
  have jB1:na<=ca:=by have:=hsa.le;rw [List.length_map] at this;omega
  have jy6:=hsa.max;have jB2:nk<=ck:=by have:=hsk.le;rw [List.length_map] at this;omega
  have jy7:=hsk.max;unfold maxLen at jy6 jy7;obtain ⟨p,hp⟩:∃ p,p=w.heap.size:=⟨_,rfl⟩;obtain ⟨wA,iw⟩:∃ wA,wA=w.alloc (.cells #[.string nm,.string tx,.slice aa na ca,.slice ak nk ck] 35):=⟨_,rfl⟩;have PA:CB 35 p [.string nm,.string tx,.slice aa na ca,.slice ak nk ck] wA:=by rw [iw,hp];exact CB.new _ _ w
  have zA:wA.heap.size=p+1:=by rw [iw,hp];simp
  have K0:sU S B key TF L v w wA v:=by rw [iw];exact (sU.refl hI).alloc _
  have hvp:v.ownBlock≠some p:=fun e=>by have:=(hI.own.lt p e).2;omega
  have hSp:p≠S+1:=by omega
  have HK0:=hid K0;have HPA:=hid PA;have HSA:=hid hsa;have Kw:=hid hsk;have HNA:=hid hna;have uy:=hid hnk;have HN:=hid hn;have IH:=hid ih;have HLEN:=hid hlen;have HP:=hid hp;have HZA:=hid zA;have HVP:=hid hvp;have HCP:Hid (∀ (L':List ByteArray) (v':jGk) (wr:World),sU S B key TF L' v wA wr v'->CB 35 p [.string nm,.string tx,.slice aa na ca,.slice ak nk ck] wr):=fun L' v' wr h=>(h.keep p (by omega) hSp hvp).trans PA
  have KA:Hid (sU S B key TF L v wA wA v):=sU.refl K0.i;clear hR hI hva hvk hsa hsk hna hnk hn ih hlen zA K0 hvp hSp;have d0:=PA.cell 0 _ rfl;have d2:=PA.cell 2 _ rfl;clear PA;go_enter Tryz.func131,Tryz.ntmps131;go_upto_region 1 with (fail)
  rw [<- iw,<- hp];clear iw hp;have VY:nm.toList.isEmpty=aW nm:=by rw [Lib.toList_data,Bool.eq_iff_iff,List.isEmpty_iff,aW,decide_eq_true_iff]
  by_cases hne:aW nm=true
  ·have hv0:Hid ((Nd.mk nm tx at_ ks).vals key=[]):=by show _=_;rw [Nd.vals,if_pos hne]
   rw [hne] at VY;clear hne;go_wp2;refine bodyPost_ret (v:=.tuple #[]) (by simp [results,Tryz.results131,go_sem]) rfl ⟨rfl,v,?_⟩;rw [hv0.out,jG6];exact HK0.out
  have hv1:Hid ((Nd.mk nm tx at_ ks).vals key=fv key at_++Nd.dF key ks):=by show _=_;rw [Nd.vals,if_neg hne];rfl
  have hne:aW nm=false:=by simpa using hne
  rw [hne] at VY;clear hne;have R1:Hid (VaR S B key TF na (fun k=>L++fv key (at_.take k)) v wA (.int .i64 0) wA):=⟨0,v,Nat.zero_le _,rfl,by
   have h:=KA.out;show sU S B key TF (L++fv key []) v wA wA v;rw [show fv key []=[] from rfl,jG6];exact h⟩
  go_wp2
  go_loopw [15] (fun vi wr=>VaR S B key TF na (fun k=>L++fv key (at_.take k)) v wA vi wr) (fun i _=>na-(intOf i).toNat)
  case atStart=>exact R1.out
  case round=>
   clear R1 d0 d2 VY;obtain ⟨j,v1,hj,rfl,hk⟩:=hrel;have hcb:=HCP.out _ _ _ hk;by_cases hlt:j<na
   ·obtain ⟨y,hy⟩:∃ y,at_[j]?=some y:=⟨_,List.getElem?_eq_getElem (by have:=HNA.out;omega)⟩
    have hsn:=XE key at_ j y hy
    obtain ⟨b,off,rfl,hok,hbl,c0,c1⟩:=lU HSA.out hy;have hbS:=(HK0.out.aM.trans hk.aM).block b hok;have c0:=(jq hbS (o:=off+j*2)).trans c0;have c1:=(jq hbS (o:=off+j*2+1)).trans c1;have HY:=hid hy;have WA:=hid hk;have gV:=hid hsn;obtain ⟨yk,yv⟩:=y;clear hk hsn hy hbS hok hbl hcb;go_upto_region 5 with (fail)
    obtain ⟨p2,hp2⟩:∃ p2,p2=wr.heap.size:=⟨_,rfl⟩;obtain ⟨w2,hw2⟩:∃ w2,w2=wr.alloc (.cells #[.string yk,.string yv] 61):=⟨_,rfl⟩;have K2:sU S B key TF (L++fv key (at_.take j)) v wA w2 v1:=by rw [hw2];exact WA.out.alloc _
    have P2:CB 61 p2 [.string yk,.string yv] w2:=by rw [hw2,hp2];exact CB.new _ _ wr
    rw [<- hw2,<- hp2];have g0:=P2.cell 0 _ rfl;have g1:=P2.cell 1 _ rfl;have gk:=K2.i.k1.cell;have Nf:=hid K2;clear hw2 hp2 P2 K2 c0 c1;by_cases hkey:yk=key
    ·have HF0:Hid (fv key (at_.take (j+1))=fv key (at_.take j)++[yv]):=by show _=_;rw [gV.out,if_pos hkey]
     subst hkey;obtain ⟨m,hm⟩:∃ m,m=(L++fv yk (at_.take j)).length:=⟨_,rfl⟩;have hm1:m<=10000000:=by
      have h1:=jn7 yk at_ j
      have h2:=HLEN.out;rw [hv1.out,jDq] at h2;rw [hm,jDq];omega
     have OW:w2.ownsRow B 9 1 v1 m ((L++fv yk (at_.take j)).map Value.string):=by rw [hm];exact Nf.out.i.own
     obtain ⟨a1,c1,rfl⟩:=kW OW;have gv:=Nf.out.i.k2.cell;have HOW:=hid OW;have HM:=hid hm;have hBw2:B<=w2.heap.size:=by have:=Nf.out.aM.size;have:=HZA.out;have:=HP.out;have h:=Nf.out.keep;have hs2:wA.heap.size<=w2.heap.size:=Nf.out.aM.size;omega
     clear OW hm;go_wp2_with (at_builtin;refine wpList_append_own_at _ rfl _ _ 43 rfl B 9 i0 _ 1 16 Tryz.underlying43 hi0 hz0 hz1 hz2 rfl (by decide) _ _ _ rfl (HOW.out.alloc _) ⟨w2.heap.size,0,none⟩ 1 1 [.string yv] rfl rfl (EK w2 (.string yv) 9) (by intro u hu;simp at hu;subst hu;rfl) (by unfold maxLen;omega) (by omega) (by simp;omega) ?_)
     intro v2 w3 hown3 hg3 _ wM;obtain ⟨a3,c3,rfl⟩:=kW hown3;have bx:=(Nf.out.i.box hB hg3).2.1;have bc:=bx.cell;have bf:=bx.free;have PU:=Nf.out.i.push hB hg3 (by rw [<- HM.out,List.map_append,jEq];exact hown3) (by rw [jE5];exact wM);have HF:Hid (VaR S B yk TF na (fun k=>L++fv yk (at_.take k)) v wA (.int .i64 ((j+1:Nat):Int)) (w3.setCell ⟨S+1,0,none⟩ (.slice a3 (m+1) c3))):=⟨j+1,_,by omega,rfl,by
      show sU S B yk TF (L++fv yk (at_.take (j+1))) v wA _ _;rw [HF0.out,<- jEq];exact Nf.out.trans PU⟩
     clear hown3 hg3 wM PU bx g0 g1 gk gv HOW;exact Tj
    ·have HF0:Hid (fv key (at_.take (j+1))=fv key (at_.take j)):=by show _=_;rw [gV.out,if_neg hkey,jG6]
     have hq:(yk.toList==key.toList)=false:=by rw [beq_eq_false_iff_ne];intro e;rw [Lib.toList_data,Lib.toList_data] at e;exact hkey (ByteArray.ext (Array.toList_inj.1 e))
     have HF:Hid (VaR S B key TF na (fun k=>L++fv key (at_.take k)) v wA (.int .i64 ((j+1:Nat):Int)) w2):=⟨j+1,v1,by omega,rfl,by
      show sU S B key TF (L++fv key (at_.take (j+1))) v wA _ _;rw [HF0.out];exact Nf.out⟩
     exact Tj
   ·have hjn:j=na:=by omega
    have WA:Hid (sU S B key TF (L++fv key at_) v wA wr v1):=by have h:sU S B key TF (L++fv key (at_.take j)) v wA wr v1:=hk;rw [hjn,HNA.out,List.take_length] at h;exact h
    obtain ⟨w1,hw1⟩:∃ w1:World,w1=wr:=⟨_,rfl⟩;subst hw1;have f3:=hcb.cell 3 _ rfl;have R2:Hid (VaR S B key TF nk (fun k=>L++fv key at_++Nd.dF key (ks.take k)) v wA (.int .i64 0) w1):=⟨0,v1,Nat.zero_le _,rfl,by
     show sU S B key TF (L++fv key at_++Nd.dF key []) v wA _ _;rw [Nd.dF,jG6];exact WA.out⟩
    clear hk hcb hjn hj;go_wp2
    go_loopw [32] (fun vi wr=>VaR S B key TF nk (fun k=>L++fv key at_++Nd.dF key (ks.take k)) v wA vi wr) (fun i _=>nk-(intOf i).toNat)
    case atStart=>exact R2.out
    case round=>
     clear R2 f3;obtain ⟨j,v1,hj,rfl,hk⟩:=hrel;by_cases hlt:j<nk
     ·obtain ⟨y,hy⟩:∃ y,ks[j]?=some y:=⟨_,List.getElem?_eq_getElem (by have:=uy.out;omega)⟩;have hsn:=Ku key ks j y hy;have hsz:=Nd.bE ks j y hy;obtain ⟨yn,yt,ya,lY⟩:=y;obtain ⟨b,off,va2,vk2,rfl,hok,hbl,c0,c1,c2,c3,hR2⟩:=nZ Kw.out hy;obtain ⟨a2,n2,cc2,rfl⟩:=Rd.au hR2.at_
      obtain ⟨a4,n4,cc4,rfl⟩:=Rd.au hR2.ks;have hb2:=HK0.out.aM.trans hk.aM;have hbS:=hb2.block b hok;have c0:=(jq hbS (o:=off+j*4)).trans c0;have c1:=(jq hbS (o:=off+j*4+1)).trans c1;have c2:=(jq hbS (o:=off+j*4+2)).trans c2;have c3:=(jq hbS (o:=off+j*4+3)).trans c3;have WA:=hid hk;have gV:=hid hsn;have RA:=hid hsz;have HR2:=hid hR2;clear hk hsn hsz hy hbS hok hbl hR2 hb2;go_upto_region 11 with (fail)
      obtain ⟨p2,hp2⟩:∃ p2,p2=wr.heap.size:=⟨_,rfl⟩;obtain ⟨w2,hw2⟩:∃ w2,w2=wr.alloc (.cells #[.string yn,.string yt,.slice a2 n2 cc2,.slice a4 n4 cc4] 35):=⟨_,rfl⟩;have K2:sU S B key TF (L++fv key at_++Nd.dF key (ks.take j)) v wA w2 v1:=by rw [hw2];exact WA.out.alloc _
      have P2:CB 35 p2 [.string yn,.string yt,.slice a2 n2 cc2,.slice a4 n4 cc4] w2:=by rw [hw2,hp2];exact CB.new _ _ wr
      rw [<- hw2,<- hp2];have g0:=P2.cell 0 _ rfl;have g1:=P2.cell 1 _ rfl;have g2:=P2.cell 2 _ rfl;have g3:=P2.cell 3 _ rfl;have gf:=K2.i.k3.cell;unfold VaF at gf;have hSs:S<=w.heap.size:=by omega
      have HC:=hid (IH.out (Nd.mk yn yt ya lY).sz (by have:=RA.out;have h:=HN.out;rw [Nd.sz] at h;omega) yn yt ya lY S B _ v1 (.slice a2 n2 cc2) (.slice a4 n4 cc4) w2 (jD8 _) (HR2.out.keep (fun b (hb:b<S) hlt=>⟨hb,(HK0.out.aM.trans K2.aM).block b hb⟩)) K2.i hB (by have:=K2.aM.size;have:=HZA.out;have:=HP.out;omega) (by
       have h1:=OJ key ks (j+1);have h2:=HLEN.out;rw [hv1.out,jDq] at h2;rw [gV.out,jDq] at h1;rw [jDq,jDq];omega))
      have Nf:=hid K2;clear hw2 hp2 P2 K2 c0 c1 c2 c3;go_wp2_with fail
      (with_reducible refine HC.out.mono ?_)
      rintro e w3 ⟨rfl,v3,hk3⟩;have HF:Hid (VaR S B key TF nk (fun k=>L++fv key at_++Nd.dF key (ks.take k)) v wA (.int .i64 ((j+1:Nat):Int)) w3):=⟨j+1,v3,by omega,rfl,by
       show sU S B key TF (L++fv key at_++Nd.dF key (ks.take (j+1))) v wA _ _;rw [gV.out,<- jEq];exact Nf.out.trans hk3⟩
      clear hk3 HC g0 g1 g2 g3 gf;exact Tj
     ·have hjn:j=nk:=by omega
      have HE:Hid (sU S B key TF (L++(Nd.mk nm tx at_ ks).vals key) v w wr v1):=by show sU S B key TF _ v w wr v1;rw [hv1.out,<- jEq];have h:sU S B key TF (L++fv key at_++Nd.dF key (ks.take j)) v wA wr v1:=hk;rw [hjn,uy.out,List.take_length] at h;exact HK0.out.trans h
      clear hk hjn;go_wp2
      go_end0
      exact ⟨rfl,v1,HE.out⟩
open Go.RowKit
def lK (w:World) (l:List ByteArray) (e:Ending) (w':World):Prop:=
 ∃ v,e=.returned v/\w'.ownsRow w.heap.size 9 1 v l.length (l.map Value.string)/\Below w.heap.size w w'
theorem KD (key nm tx:ByteArray) (at_:List Pr) (ks:List Nd) (va vk:jGk) (w:World) (hR:gZ (·<w.heap.size) w at_ ks va vk) (hlen:((Nd.mk nm tx at_ ks).vals key).length<=10000000) : Calls Tryz.prog 79 #[.agg #[.string nm,.string tx,va,vk],.string key] w (lK w ((Nd.mk nm tx at_ ks).vals key)):=by
 obtain ⟨aa,na,ca,rfl⟩:=Rd.au hR.at_
 obtain ⟨ak,nk,ck,rfl⟩:=Rd.au hR.ks;have HR:=hid hR;have HLEN:=hid hlen;clear hR hlen;go_enter Tryz.func79,Tryz.ntmps79;go_upto_region 4 with (fail)
 obtain ⟨p,hp⟩:∃ p,p=w.heap.size:=⟨_,rfl⟩;obtain ⟨S,hS⟩:∃ S,S=p+1:=⟨_,rfl⟩;obtain ⟨w4,hw4⟩:∃ w4,w4=(((w.alloc (.cells #[.string nm,.string tx,.slice aa na ca,.slice ak nk ck] 35)).alloc (.cells #[.string key] 9)).alloc (.cells #[.slice none 0 0] 43)).alloc (.cells #[VaF S] 151):=⟨_,rfl⟩;have Kg:=hw4;unfold VaF at Kg;rw [<- hp,<- hS,show S+1+1=S+2 from rfl,<- Kg];have z1:(w.alloc (.cells #[.string nm,.string tx,.slice aa na ca,.slice ak nk ck] 35)).heap.size=S:=by rw [jE5,hS,hp]
 have z2:((w.alloc (.cells #[.string nm,.string tx,.slice aa na ca,.slice ak nk ck] 35)).alloc (.cells #[.string key] 9)).heap.size=S+1:=by rw [jE5,z1]
 have z3:(((w.alloc (.cells #[.string nm,.string tx,.slice aa na ca,.slice ak nk ck] 35)).alloc (.cells #[.string key] 9)).alloc (.cells #[.slice none 0 0] 43)).heap.size=S+2:=by rw [jE5,z2]
 have z4:w4.heap.size=S+3:=by rw [hw4,jE5,z3]
 have PN:CB 35 p [.string nm,.string tx,.slice aa na ca,.slice ak nk ck] w4:=by
  have h:CB 35 p [.string nm,.string tx,.slice aa na ca,.slice ak nk ck] (w.alloc (.cells #[.string nm,.string tx,.slice aa na ca,.slice ak nk ck] 35)):=by rw [hp];exact CB.new _ _ w
  rw [hw4];exact ((h.below ((jD7 _ _).alloc (jD8 _) _)).below ((jD7 _ _).alloc (jD8 _) _)).below ((jD7 _ _).alloc (jD8 _) _)
 have K1:aH S (.string key) 9 w4:=by have h:=aH.new (w.alloc (.cells #[.string nm,.string tx,.slice aa na ca,.slice ak nk ck] 35)) (.string key) 9;rw [z1] at h;rw [hw4];exact (h.alloc _).alloc _
 have K2:aH (S+1) (.slice none 0 0) 43 w4:=by have h:=aH.new ((w.alloc (.cells #[.string nm,.string tx,.slice aa na ca,.slice ak nk ck] 35)).alloc (.cells #[.string key] 9)) (.slice none 0 0) 43;rw [z2] at h;rw [hw4];exact h.alloc _
 have K3:aH (S+2) (VaF S) 151 w4:=by have h:=aH.new (((w.alloc (.cells #[.string nm,.string tx,.slice aa na ca,.slice ak nk ck] 35)).alloc (.cells #[.string key] 9)).alloc (.cells #[.slice none 0 0] 43)) (VaF S) 151;rw [z3] at h;rw [hw4];exact h
 have B4:Below w.heap.size w w4:=by rw [hw4];exact ((((jD7 _ w).alloc (jD8 _) _).alloc (by omega) _).alloc (by omega) _).alloc (by omega) _
 have VC:=hid (Tk key 151 (Nd.mk nm tx at_ ks).sz nm tx at_ ks S (S+3) [] (.slice none 0 0) (.slice aa na ca) (.slice ak nk ck) w4 (jD8 _) (HR.out.keep (fun b (hb:b<w.heap.size) hlt=>⟨by show b<S;omega,B4.block b hb⟩)) ⟨K1,K2,K3,⟨by simp,.inl ⟨rfl,rfl⟩⟩⟩ (jD8 _) (by omega) (by simpa using HLEN.out));have f0:=PN.cell 0 _ rfl;have f1:=PN.cell 1 _ rfl;have f2:=PN.cell 2 _ rfl;have f3:=PN.cell 3 _ rfl;have fk:=K3.cell;unfold VaF at fk;have kM:=hid B4;have HSp:Hid (S=w.heap.size+1):=by show _=_;omega
 clear hw4 Kg hp hS z1 z2 z3 z4 PN K1 K2 K3 B4;go_wp2_with fail
 (with_reducible refine VC.out.mono ?_)
 rintro e w5 ⟨rfl,v',hk⟩;have c2:=hk.i.k2.cell;have HO:Hid (lK w ((Nd.mk nm tx at_ ks).vals key) (.returned v') w5):=by
  refine ⟨v',rfl,?_,?_⟩
  ·have h:=hk.i.own;rw [List.nil_append] at h;obtain ⟨h1,h2⟩:=h;refine ⟨h1,?_⟩;rcases h2 with h2 | ⟨g,cap,cur,rfl,r2,r3,r4⟩
   ·exact .inl h2
   ·exact .inr ⟨g,cap,cur,rfl,by have:=HSp.out;omega,r3,r4⟩
  ·exact kM.out.trans (hk.aM.mono (by have:=HSp.out;omega))
 obtain ⟨a5,c5,rfl⟩:=kW hk.i.own;clear hk VC;go_wp2;go_ret;exact HO.out
theorem EL (nm tx:ByteArray) (at_:List Pr) (ks:List Nd) (va vk:jGk) (w:World) (hR:gZ (·<w.heap.size) w at_ ks va vk) (hlen:((Nd.mk nm tx at_ ks).vals jT).length<=10000000) : Calls Tryz.prog 34 #[.agg #[.string nm,.string tx,va,vk]] w (lK w ((Nd.mk nm tx at_ ks).vals jT)):=by
 obtain ⟨aa,na,ca,rfl⟩:=Rd.au hR.at_
 obtain ⟨ak,nk,ck,rfl⟩:=Rd.au hR.ks;obtain ⟨w1,hw1⟩:∃ w1,w1=w.alloc (.cells #[.string nm,.string tx,.slice aa na ca,.slice ak nk ck] 35):=⟨_,rfl⟩;refine Ng ?_;intro b1;have PN:CB 35 w.heap.size [.string nm,.string tx,.slice aa na ca,.slice ak nk ck] w1:=by rw [hw1];exact CB.new _ _ w
 have VC:Hid (Calls Tryz.prog 79 #[.agg #[.string nm,.string tx,.slice aa na ca,.slice ak nk ck],.string ⟨#[105,100]⟩] w1 (lK w1 ((Nd.mk nm tx at_ ks).vals jT))):=(KD jT nm tx at_ ks (.slice aa na ca) (.slice ak nk ck) w1 (hR.keep (fun b (hb:b<w.heap.size) hlt=>⟨by show b<w1.heap.size;have:=b1.size;omega,b1.block b hb⟩)) hlen);have HB1:=hid b1;have f0:=PN.cell 0 _ rfl;have f1:=PN.cell 1 _ rfl;have f2:=PN.cell 2 _ rfl;have f3:=PN.cell 3 _ rfl;clear hR hlen b1 PN;go_enter Tryz.func34,Tryz.ntmps34;go_upto_region 1 with (fail)
 rw [<- hw1];clear hw1;go_wp2_with fail
 (with_reducible refine VC.out.mono ?_)
 rintro e w5 ⟨v',rfl,hown,hb⟩;have HO:Hid (lK w ((Nd.mk nm tx at_ ks).vals jT) (.returned v') w5):=by
  refine ⟨v',rfl,?_,HB1.out.trans (hb.mono HB1.out.size)⟩;obtain ⟨h1,h2⟩:=hown;refine ⟨h1,?_⟩;rcases h2 with h2 | ⟨g,cap,cur,rfl,r2,r3,r4⟩
  ·exact .inl h2
  ·exact .inr ⟨g,cap,cur,rfl,Nat.le_trans HB1.out.size r2,r3,r4⟩
 obtain ⟨a5,c5,rfl⟩:=kW hown;clear hown hb VC;go_wp2;go_ret;exact HO.out
end Go.Proofs.YtkfnkeflalcphaaGreatDoor

