/- Contract of publisherref34.one, given that of nodes at the Kids. Contract of publisherref34.nodes: the nodes of inlines; plain part: the classes of well-formed inlines are not empty. Contracts of html.unresolved and publisherref34.unresolved. Contract of the function that markup.Values calls for each node (markup.Values$1): the values of a key, one behind the other. Contracts of markup.Values and html.Anchors. Contract of publisherref34.row. A literal of one node, whose data are newer than a world, is a row of one's own since that world. Contract of publisherref34.block, kind by kind: the nodes of a block. Contracts of publisherref33.Plain and publisherref33.Values. Contracts of publisherref33.part, Name, Empty, attrs, Check: at valid markup. -/
import Derived.Test.YtkfnkeflalcphaaGreatDoorKHtM
set_option maxHeartbeats 8000000
set_option maxRecDepth 100000
open Go.Lib (hid)
namespace Go.Proofs.YtkfnkeflalcphaaGreatDoor
open List renaming getElem?_eq_getElem->jnj,length_append->jo1,mem_of_getElem?->jo8,append_assoc->jp2,append_nil->jqk
open Go.RowKit.Below renaming refl->jnk
open Nat renaming le_refl->jnq,zero_le->jo7
open Bool renaming eq_iff_iff->jo0
open Go.World renaming size_alloc->jo9
open Go renaming World->jqz,Value->jr1
open Go.RowKit
set_option linter.unusedVariables false
set_option linter.unusedSimpArgs false
open Go.RowKit
open Go.RowKit
def U1 (w:jqz) (l:List aj) (vi:jr1) (wr:jqz):Prop:=∃ k:Nat,k<=l.length/\vi=.int .i64 k/\(l.take k).any fu=false/\Below w.heap.size w wr
def WM (w:jqz) (b:Bool) (e:Ending) (w':jqz):Prop:=e=.returned (.bool b)/\Below w.heap.size w w'
theorem EU {l:List aj} {k:Nat} {x:aj} (hx:l[k]?=some x) (h:fu x=true):l.any fu=true:=List.any_eq_true.2 ⟨x,jo8 hx,h⟩
theorem Cg {l:List aj} {k:Nat} {x:aj} (hx:l[k]?=some x) (h:fu x=false) (hk:(l.take k).any fu=false):(l.take (k+1)).any fu=false:=by rw [List.take_add_one,hx,List.any_append,hk];simp [h]
theorem wh (l:List aj) (ok:Nat->Prop) (v:jr1) (w:jqz) (hrd:Rd ok w (bq l) [v]):Calls Tryz.prog 36 #[v] w (WM w (l.any fu)):=by
 obtain ⟨a,cap,hv,hs⟩:=Rd.aC hrd;obtain rfl:v=.slice a l.length cap:=by simpa using hv
 have hcap:l.length<=cap:=by simpa using hs.le
 have hmx:=hs.max;unfold maxLen at hmx;have HS:=hid hs;have R0:Hid (U1 w l (.int .i64 0) w):=⟨0,jo7 _,rfl,by simp,jnk _ _⟩;clear hs hv hrd;go_enter Tryz.func36,Tryz.ntmps36;go_wp2
 go_loopw [7] (fun vi wr=>U1 w l vi wr) (fun i _=>l.length-(intOf i).toNat)
 case atStart=>exact R0.out
 case round=>
  clear R0;obtain ⟨k,hk,rfl,hany,hbel⟩:=hrel;have HK:=hid hany;clear hany;by_cases hlt:k<l.length
  ·obtain ⟨x,hx⟩:∃ x,l[k]?=some x:=⟨_,jnj hlt⟩;obtain ⟨kd,t,d,ti,at_,ar,ci,ks⟩:=x;obtain ⟨g,off,vc,vp,va,vi,vk,rfl,hok,hbl,hc,hR⟩:=jl HS.out hx;obtain ⟨c0,c1,c2,c3,c4,c5,c6,c7,c8,c9⟩:=hc.below hbel;obtain ⟨ac,nc,cc,rfl⟩:=Rd.au hR.at_.cls
   obtain ⟨ap,np,cp,rfl⟩:=Rd.au hR.at_.aP
   obtain ⟨aa,na,ca,rfl⟩:=Rd.au hR.args;obtain ⟨ai,ni,uP,rfl⟩:=Rd.au hR.jh;obtain ⟨ak,nk,ck,rfl⟩:=Rd.au hR.kids;have HX:=hid hx;have qe:=wm t;obtain ⟨p,hp⟩:∃ p,p=wr.heap.size:=⟨_,rfl⟩;obtain ⟨wA,gD⟩:∃ wA,wA=wr.alloc (.cells #[.int .i64 kd,.string t,.string d,.string ti,.string at_.id,.slice ac nc cc,.slice ap np cp,.slice aa na ca,.slice ai ni uP,.slice ak nk ck] 66):=⟨_,rfl⟩;have PA:PB p [.int .i64 kd,.string t,.string d,.string ti,.string at_.id,.slice ac nc cc,.slice ap np cp,.slice aa na ca,.slice ai ni uP,.slice ak nk ck] wA:=by rw [gD,hp];exact heap_alloc_new wr _
   have zo:Hid (Below w.heap.size w wA):=by rw [gD];exact hbel.alloc hbel.size _
   clear hc hok hbl hR hx hbel;go_upto_region 4 with (fail)
   rw [<- gD,<- hp];obtain ⟨e0,e1,-,-,-,-,-,-,-,-⟩:=Ny PA;clear gD hp PA c0 c1 c2 c3 c4 c5 c6 c7 c8 c9;by_cases zI:kd=15
   ·subst zI;have HT:=hid (EU HX.out (show fu (aj.mk 15 t d ti at_ ar ci ks)=true by unfold fu;simp));clear HX;go_wp2;go_ret;exact ⟨by rw [HT.out];rfl,zo.out⟩
   by_cases ZT:kd=13
   ·subst ZT;have HT:=hid (EU HX.out (show fu (aj.mk 13 t d ti at_ ar ci ks)=true by unfold fu;simp));clear HX;go_wp2;go_ret;exact ⟨by rw [HT.out];rfl,zo.out⟩
   by_cases Ri:kd=14
   ·subst Ri;have HT:=hid (EU HX.out (show fu (aj.mk 14 t d ti at_ ar ci ks)=true by unfold fu;simp));clear HX;go_wp2;go_ret;exact ⟨by rw [HT.out];rfl,zo.out⟩
   by_cases h9:kd=9
   ·subst h9;cases ht:q01 t
    ·have q1:t.toList.isEmpty=false:=by rw [qe];exact ht
     have HT:=hid (EU HX.out (show fu (aj.mk 9 t d ti at_ ar ci ks)=true by unfold fu;simp [ht]));clear HX ht qe;go_wp2;go_ret;exact ⟨by rw [HT.out];rfl,zo.out⟩
    ·have q1:t.toList.isEmpty=true:=by rw [qe];exact ht
     have q2:t.toList=[]:=by rw [List.isEmpty_iff] at q1;exact q1
     have HT:=hid (Cg HX.out (show fu (aj.mk 9 t d ti at_ ar ci ks)=false by unfold fu;simp [ht]) HK.out);clear HX HK ht qe;go_wp2;go_roundw;case rel=>exact ⟨k+1,by omega,by go_num,HT.out,zo.out⟩
     case measure=>simp [intOf];omega
   by_cases h10:kd=10
   ·subst h10;cases ht:q01 t
    ·have q1:t.toList.isEmpty=false:=by rw [qe];exact ht
     have HT:=hid (EU HX.out (show fu (aj.mk 10 t d ti at_ ar ci ks)=true by unfold fu;simp [ht]));clear HX ht qe;go_wp2;go_ret;exact ⟨by rw [HT.out];rfl,zo.out⟩
    ·have q1:t.toList.isEmpty=true:=by rw [qe];exact ht
     have q2:t.toList=[]:=by rw [List.isEmpty_iff] at q1;exact q1
     have HT:=hid (Cg HX.out (show fu (aj.mk 10 t d ti at_ ar ci ks)=false by unfold fu;simp [ht]) HK.out);clear HX HK ht qe;go_wp2;go_roundw;case rel=>exact ⟨k+1,by omega,by go_num,HT.out,zo.out⟩
     case measure=>simp [intOf];omega
   have Y2:(kd==15)=false:=by rw [beq_eq_false_iff_ne];exact zI
   have q13:(kd==13)=false:=by rw [beq_eq_false_iff_ne];exact ZT
   have q14:(kd==14)=false:=by rw [beq_eq_false_iff_ne];exact Ri
   have q9:(kd==9)=false:=by rw [beq_eq_false_iff_ne];exact h9
   have q10:(kd==10)=false:=by rw [beq_eq_false_iff_ne];exact h10
   have HT:=hid (Cg HX.out (show fu (aj.mk kd t d ti at_ ar ci ks)=false by unfold fu;simp [zI,ZT,Ri,h9,h10]) HK.out);clear HX HK zI ZT Ri h9 h10 qe;go_wp2;go_roundw;case rel=>exact ⟨k+1,by omega,by go_num,HT.out,zo.out⟩
   case measure=>simp [intOf];omega
  ·have hkl:k=l.length:=by omega
   have HT:Hid (l.any fu=false):=by
    have h:=HK.out
    rwa [hkl,List.take_length] at h
   clear hkl;go_wp2;go_ret;exact ⟨by rw [HT.out];rfl,hbel⟩
open Go.RowKit
def fv (key:ByteArray) (a:List Pr):List ByteArray:=(a.filter fun p=>decide (p.key=key)).map (·.val)
theorem Nz (key:ByteArray) (a b:List Pr):fv key (a++b)=fv key a++fv key b:=by unfold fv;simp
theorem RU (key:ByteArray) (a:List Pr) (k:Nat) (p:Pr) (h:a[k]?=some p):fv key (a.take (k+1))=fv key (a.take k)++if p.key=key then [p.val] else []:=by rw [List.take_add_one,h,Nz];unfold fv;by_cases hk:p.key=key<;>simp [hk]
theorem WO (key:ByteArray) (a:List Pr) (k:Nat):(fv key (a.take k)).length<=(fv key a).length:=by
 have h:fv key a=fv key (a.take k)++fv key (a.drop k):=by rw [<- Nz,List.take_append_drop]
 rw [h,jo1];omega
theorem Hq (key:ByteArray) (l:List Nd) (k:Nat) (x:Nd) (h:l[k]?=some x):Nd.cZ key (l.take (k+1))=Nd.cZ key (l.take k)++x.vals key:=by rw [List.take_add_one,h,Am];show _++Nd.cZ key [x]=_;rw [Nd.cZ,Nd.cZ,jqk]
theorem Lr (key:ByteArray) (l:List Nd) (k:Nat):(Nd.cZ key (l.take k)).length<=(Nd.cZ key l).length:=by
 have h:Nd.cZ key l=Nd.cZ key (l.take k)++Nd.cZ key (l.drop k):=by rw [<- Am,List.take_append_drop]
 rw [h,jo1];omega
def U6 (S:Nat):jr1:=.func (.func 131) #[] #[.pointer (some ⟨S,0,none⟩),.pointer (some ⟨S+1,0,none⟩),.pointer (some ⟨S+2,0,none⟩)]
structure Rj (S B:Nat) (key:ByteArray) (TF:TypeId) (L:List ByteArray) (v:jr1) (w:jqz):Prop where
 k1:aF S (.string key) 9 w
 k2:aF (S+1) v 43 w
 k3:aF (S+2) (U6 S) TF w
 own:w.ownsRow B 9 1 v L.length (L.map Value.string)
structure qO (S B:Nat) (key:ByteArray) (TF:TypeId) (L:List ByteArray) (v:jr1) (w w':jqz) (v':jr1):Prop where
 i:Rj S B key TF L v' w'
 keep:∀ b,b<w.heap.size->b≠S+1->v.ownBlock≠some b->w'.heap[b]?=w.heap[b]?
 own:∀ g,v'.ownBlock=some g->v.ownBlock=some g\/w.heap.size<=g
 aN:Below S w w'
theorem qO.refl {S B:Nat} {key:ByteArray} {TF:TypeId} {L:List ByteArray} {v:jr1} {w:jqz} (h:Rj S B key TF L v w):qO S B key TF L v w w v:=
 ⟨h,fun _ _ _ _=>rfl,fun _ h=>.inl h,jnk _ _⟩
theorem qO.trans {S B:Nat} {key:ByteArray} {TF:TypeId} {L1 L2:List ByteArray} {v v1 v2:jr1} {w w1 w2:jqz} (h1:qO S B key TF L1 v w w1 v1) (h2:qO S B key TF L2 v1 w1 w2 v2):qO S B key TF L2 v w w2 v2:=by
 have hs:=h1.aN.size;refine ⟨h2.i,fun b hb hn ho=>?_,fun g hg=>?_,h1.aN.trans h2.aN⟩
 ·refine (h2.keep b (by omega) hn (fun e=>?_)).trans (h1.keep b hb hn ho);rcases h1.own b e with h | h
  ·exact ho h
  ·omega
 ·rcases h2.own g hg with h | h
  ·exact h1.own g h
  ·exact .inr (by omega)
theorem Rj.alloc {S B:Nat} {key:ByteArray} {TF:TypeId} {L:List ByteArray} {v:jr1} {w:jqz} (h:Rj S B key TF L v w) (o:Obj):Rj S B key TF L v (w.alloc o):=
 ⟨h.k1.alloc o,h.k2.alloc o,h.k3.alloc o,h.own.alloc o⟩
theorem qO.alloc {S B:Nat} {key:ByteArray} {TF:TypeId} {L:List ByteArray} {v v':jr1} {w w':jqz} (h:qO S B key TF L v w w' v') (o:Obj):qO S B key TF L v w (w'.alloc o) v':=by have hs:=h.aN.size;have hS:=h.i.k1.lt;exact ⟨h.i.alloc o,fun b hb hn ho=>(Below.heap_alloc w' o b (by omega)).trans (h.keep b hb hn ho),h.own,h.aN.alloc (by omega) o⟩
theorem Hr {w:jqz} {B:Nat} {e:TypeId} {k n:Nat} {v:jr1} {xs:List jr1} (h:w.ownsRow B e k v n xs) (b:Nat) (hb:b<B) (u:jr1):(w.setCell ⟨b,0,none⟩ u).ownsRow B e k v n xs:=by
 obtain ⟨h1,h2⟩:=h;refine ⟨h1,?_⟩;rcases h2 with h2 | ⟨g,cap,cur,rfl,r2,r3,r4⟩
 ·exact .inl h2
 ·exact .inr ⟨g,cap,cur,rfl,r2,(Below.heap_setCell w ⟨b,0,none⟩ u g (by show g≠b;omega)).trans r3,r4⟩
theorem Rj.box {S B:Nat} {key:ByteArray} {TF:TypeId} {L:List ByteArray} {v:jr1} {w w3:jqz} {o:Obj} (h:Rj S B key TF L v w) (hB:S+3<=B) (hg:(w.alloc o).grownBy w3 v.ownBlock) : aF S (.string key) 9 w3/\aF (S+1) v 43 w3/\aF (S+2) (U6 S) TF w3:=by
 have hl:=h.k3.lt;have hn:∀ b,b<B->some b≠v.ownBlock:=fun b hb e=>by have:=(h.own.lt b e.symm).1;omega
 have hh:∀ b,b<B->b<w.heap.size->w3.heap[b]?=w.heap[b]?:=fun b hb hlt=>(hg.block b (by simp;omega) (hn b hb)).trans (Below.heap_alloc w o b hlt)
 exact ⟨(hh S (by omega) h.k1.lt).trans h.k1,(hh (S+1) (by omega) h.k2.lt).trans h.k2,(hh (S+2) (by omega) h.k3.lt).trans h.k3⟩
theorem Rj.push {S B:Nat} {key val:ByteArray} {TF:TypeId} {L:List ByteArray} {v v2:jr1} {w w3:jqz} {o:Obj} (h:Rj S B key TF L v w) (hB:S+3<=B) (hg:(w.alloc o).grownBy w3 v.ownBlock) (hown:w3.ownsRow B 9 1 v2 (L.length+1) (L.map Value.string++[.string val])) (hat:v2.ownBlock=v.ownBlock\/v2.ownBlock=some (w.alloc o).heap.size) : qO S B key TF (L++[val]) v w (w3.setCell ⟨S+1,0,none⟩ v2) v2:=by
 obtain ⟨b1,b2,b3⟩:=h.box hB hg;have hz:(w.alloc o).heap.size=w.heap.size+1:=jo9 _ _;have hsz:=hg.size;refine ⟨⟨b1.far (by omega) v2,b2.set v2,b3.far (by omega) v2,?_⟩,fun b hb hn ho=>?_,fun g hg2=>?_,?_⟩
 ·have h3:=Hr hown (S+1) (by omega) v2;rw [jo1,List.length_singleton,List.map_append];exact h3
 ·exact (Below.heap_setCell w3 ⟨S+1,0,none⟩ v2 b hn).trans ((hg.block b (by omega) (fun e=>ho e.symm)).trans (Below.heap_alloc w o b hb))
 ·rcases hat with e | e
  ·exact .inl (e ▸ hg2)
  ·rw [e] at hg2;have:=Option.some.inj hg2;exact .inr (by omega)
 ·have hl:=h.k1.lt;exact (((jnk S w).alloc (by omega) o).grown hg (by omega) (fun g hg3=>by have:=(h.own.lt g hg3).1;omega)).setCell (by show S<=S+1;omega) v2
def WQ (S B:Nat) (key:ByteArray) (TF:TypeId) (N:Nat) (f:Nat->List ByteArray) (v:jr1) (w:jqz) (vi:jr1) (wr:jqz):Prop:=
 ∃ (k:Nat) (v':jr1),k<=N/\vi=.int .i64 k/\qO S B key TF (f k) v w wr v'
theorem NA (key:ByteArray) (TF:TypeId) (n:Nat):∀ (nm tx:ByteArray) (at_:List Pr) (ks:List Nd) (S B:Nat) (L:List ByteArray) (v va vk:jr1) (w:jqz),(Nd.mk nm tx at_ ks).sz<=n->gF (·<S) w at_ ks va vk->Rj S B key TF L v w->S+3<=B->B<=w.heap.size -> L.length+((Nd.mk nm tx at_ ks).vals key).length<=10000000 -> Calls Tryz.prog 131 #[.agg #[.string nm,.string tx,va,vk],.pointer (some ⟨S,0,none⟩),.pointer (some ⟨S+1,0,none⟩),.pointer (some ⟨S+2,0,none⟩)] w (fun e w'=>e=.returned (.tuple #[])/\∃ v',qO S B key TF (L++(Nd.mk nm tx at_ ks).vals key) v w w' v'):=by
 induction n using Nat.strongRecOn with
 | _ n ih=>
  intro nm tx at_ ks S B L v va vk w hn hR hI hB hBw hlen
  obtain ⟨i0,hi0,hz0,hz1,hz2⟩:=info_parts JU;obtain ⟨aa,ca,hva,hsa⟩:=Rd.aC hR.at_
  obtain ⟨ak,ck,hvk,hsk⟩:=Rd.aC hR.ks;obtain ⟨na,hna⟩:∃ na,na=at_.length:=⟨_,rfl⟩
  obtain ⟨nk,hnk⟩:∃ nk,nk=ks.length:=⟨_,rfl⟩;obtain rfl:va=.slice aa na ca:=by rw [hna];simpa using hva
  obtain rfl:vk=.slice ak nk ck:=by rw [hnk];simpa using hvk
  have jkx:na<=ca:=by have:=hsa.le;rw [List.length_map] at this;omega
  have jf6:=hsa.max;have jkz:nk<=ck:=by have:=hsk.le;rw [List.length_map] at this;omega
  have jf7:=hsk.max;unfold maxLen at jf6 jf7;obtain ⟨p,hp⟩:∃ p,p=w.heap.size:=⟨_,rfl⟩;obtain ⟨wA,gD⟩:∃ wA,wA=w.alloc (.cells #[.string nm,.string tx,.slice aa na ca,.slice ak nk ck] 35):=⟨_,rfl⟩;have PA:CB 35 p [.string nm,.string tx,.slice aa na ca,.slice ak nk ck] wA:=by rw [gD,hp];exact CB.new _ _ w
  have zA:wA.heap.size=p+1:=by rw [gD,hp];simp
  have K0:qO S B key TF L v w wA v:=by rw [gD];exact (qO.refl hI).alloc _
  have hvp:v.ownBlock≠some p:=fun e=>by have:=(hI.own.lt p e).2;omega
  have hSp:p≠S+1:=by omega
  have ZU:=hid K0;have HPA:=hid PA;have ZV:=hid hsa;have ZW:=hid hsk;have HNA:=hid hna;have EW:=hid hnk;have HN:=hid hn;have IH:=hid ih;have HLEN:=hid hlen;have HP:=hid hp;have HZA:=hid zA;have HVP:=hid hvp;have HCP:Hid (∀ (L':List ByteArray) (v':jr1) (wr:jqz),qO S B key TF L' v wA wr v'->CB 35 p [.string nm,.string tx,.slice aa na ca,.slice ak nk ck] wr):=fun L' v' wr h=>(h.keep p (by omega) hSp hvp).trans PA
  have KA:Hid (qO S B key TF L v wA wA v):=qO.refl K0.i;clear hR hI hva hvk hsa hsk hna hnk hn ih hlen zA K0 hvp hSp;have d0:=PA.cell 0 _ rfl;have d2:=PA.cell 2 _ rfl;clear PA;go_enter Tryz.func131,Tryz.ntmps131;go_upto_region 1 with (fail)
  rw [<- gD,<- hp];clear gD hp;have EX:nm.toList.isEmpty=q01 nm:=by rw [Lib.toList_data,jo0,List.isEmpty_iff,q01,decide_eq_true_iff]
  by_cases hne:q01 nm=true
  ·have hv0:Hid ((Nd.mk nm tx at_ ks).vals key=[]):=by show _=_;rw [Nd.vals,if_pos hne]
   rw [hne] at EX;clear hne;go_wp2;refine bodyPost_ret (v:=.tuple #[]) (by simp [results,Tryz.results131,go_sem]) rfl ⟨rfl,v,?_⟩;rw [hv0.out,jqk];exact ZU.out
  have hv1:Hid ((Nd.mk nm tx at_ ks).vals key=fv key at_++Nd.cZ key ks):=by show _=_;rw [Nd.vals,if_neg hne];rfl
  have hne:q01 nm=false:=by simpa using hne
  rw [hne] at EX;clear hne;have R1:Hid (WQ S B key TF na (fun k=>L++fv key (at_.take k)) v wA (.int .i64 0) wA):=⟨0,v,jo7 _,rfl,by
   have h:=KA.out;show qO S B key TF (L++fv key []) v wA wA v;rw [show fv key []=[] from rfl,jqk];exact h⟩
  go_wp2
  go_loopw [15] (fun vi wr=>WQ S B key TF na (fun k=>L++fv key (at_.take k)) v wA vi wr) (fun i _=>na-(intOf i).toNat)
  case atStart=>exact R1.out
  case round=>
   clear R1 d0 d2 EX;obtain ⟨j,v1,hj,rfl,hk⟩:=hrel;have hcb:=HCP.out _ _ _ hk;by_cases hlt:j<na
   ·obtain ⟨y,hy⟩:∃ y,at_[j]?=some y:=⟨_,jnj (by have:=HNA.out;omega)⟩
    have hsn:=RU key at_ j y hy
    obtain ⟨b,off,rfl,hok,hbl,c0,c1⟩:=iW ZV.out hy;have hbS:=(ZU.out.aN.trans hk.aN).block b hok;have c0:=(jG hbS (o:=off+j*2)).trans c0;have c1:=(jG hbS (o:=off+j*2+1)).trans c1;have HY:=hid hy;have ZX:=hid hk;have rX:=hid hsn;obtain ⟨yk,yv⟩:=y;clear hk hsn hy hbS hok hbl hcb;go_upto_region 5 with (fail)
    obtain ⟨p2,hp2⟩:∃ p2,p2=wr.heap.size:=⟨_,rfl⟩;obtain ⟨w2,hw2⟩:∃ w2,w2=wr.alloc (.cells #[.string yk,.string yv] 61):=⟨_,rfl⟩;have K2:qO S B key TF (L++fv key (at_.take j)) v wA w2 v1:=by rw [hw2];exact ZX.out.alloc _
    have P2:CB 61 p2 [.string yk,.string yv] w2:=by rw [hw2,hp2];exact CB.new _ _ wr
    rw [<- hw2,<- hp2];have g0:=P2.cell 0 _ rfl;have g1:=P2.cell 1 _ rfl;have gk:=K2.i.k1.cell;have ND:=hid K2;clear hw2 hp2 P2 K2 c0 c1;by_cases hkey:yk=key
    ·have HF0:Hid (fv key (at_.take (j+1))=fv key (at_.take j)++[yv]):=by show _=_;rw [rX.out,if_pos hkey]
     subst hkey;obtain ⟨m,hm⟩:∃ m,m=(L++fv yk (at_.take j)).length:=⟨_,rfl⟩;have hm1:m<=10000000:=by
      have h1:=WO yk at_ j
      have h2:=HLEN.out;rw [hv1.out,jo1] at h2;rw [hm,jo1];omega
     have OW:w2.ownsRow B 9 1 v1 m ((L++fv yk (at_.take j)).map Value.string):=by rw [hm];exact ND.out.i.own
     obtain ⟨a1,c1,rfl⟩:=tT OW;have gv:=ND.out.i.k2.cell;have HOW:=hid OW;have HM:=hid hm;have hBw2:B<=w2.heap.size:=by have:=ND.out.aN.size;have:=HZA.out;have:=HP.out;have h:=ND.out.keep;have hs2:wA.heap.size<=w2.heap.size:=ND.out.aN.size;omega
     clear OW hm;go_wp2_with (at_builtin;refine wpList_append_own_at _ rfl _ _ 43 rfl B 9 i0 _ 1 16 Tryz.underlying43 hi0 hz0 hz1 hz2 rfl (by decide) _ _ _ rfl (HOW.out.alloc _) ⟨w2.heap.size,0,none⟩ 1 1 [.string yv] rfl rfl (Ch w2 (.string yv) 9) (by intro u hu;simp at hu;subst hu;rfl) (by unfold maxLen;omega) (by omega) (by simp;omega) ?_)
     intro v2 w3 hown3 hg3 _ uQ;obtain ⟨a3,c3,rfl⟩:=tT hown3;have bx:=(ND.out.i.box hB hg3).2.1;have bc:=bx.cell;have bf:=bx.free;have PU:=ND.out.i.push hB hg3 (by rw [<- HM.out,List.map_append,jp2];exact hown3) (by rw [jo9];exact uQ);have HF:Hid (WQ S B yk TF na (fun k=>L++fv yk (at_.take k)) v wA (.int .i64 ((j+1:Nat):Int)) (w3.setCell ⟨S+1,0,none⟩ (.slice a3 (m+1) c3))):=⟨j+1,_,by omega,rfl,by
      show qO S B yk TF (L++fv yk (at_.take (j+1))) v wA _ _;rw [HF0.out,<- jp2];exact ND.out.trans PU⟩
     clear hown3 hg3 uQ PU bx g0 g1 gk gv HOW;go_wp2;go_roundw;case rel=>exact HF.out
     case measure=>simp [intOf];omega
    ·have HF0:Hid (fv key (at_.take (j+1))=fv key (at_.take j)):=by show _=_;rw [rX.out,if_neg hkey,jqk]
     have hq:(yk.toList==key.toList)=false:=by rw [beq_eq_false_iff_ne];intro e;rw [Lib.toList_data,Lib.toList_data] at e;exact hkey (ByteArray.ext (Array.toList_inj.1 e))
     have HF:Hid (WQ S B key TF na (fun k=>L++fv key (at_.take k)) v wA (.int .i64 ((j+1:Nat):Int)) w2):=⟨j+1,v1,by omega,rfl,by
      show qO S B key TF (L++fv key (at_.take (j+1))) v wA _ _;rw [HF0.out];exact ND.out⟩
     go_wp2;go_roundw;case rel=>exact HF.out
     case measure=>simp [intOf];omega
   ·have hjn:j=na:=by omega
    have ZX:Hid (qO S B key TF (L++fv key at_) v wA wr v1):=by have h:qO S B key TF (L++fv key (at_.take j)) v wA wr v1:=hk;rw [hjn,HNA.out,List.take_length] at h;exact h
    obtain ⟨w1,hw1⟩:∃ w1:jqz,w1=wr:=⟨_,rfl⟩;subst hw1;have f3:=hcb.cell 3 _ rfl;have R2:Hid (WQ S B key TF nk (fun k=>L++fv key at_++Nd.cZ key (ks.take k)) v wA (.int .i64 0) w1):=⟨0,v1,jo7 _,rfl,by
     show qO S B key TF (L++fv key at_++Nd.cZ key []) v wA _ _;rw [Nd.cZ,jqk];exact ZX.out⟩
    clear hk hcb hjn hj;go_wp2
    go_loopw [32] (fun vi wr=>WQ S B key TF nk (fun k=>L++fv key at_++Nd.cZ key (ks.take k)) v wA vi wr) (fun i _=>nk-(intOf i).toNat)
    case atStart=>exact R2.out
    case round=>
     clear R2 f3;obtain ⟨j,v1,hj,rfl,hk⟩:=hrel;by_cases hlt:j<nk
     ·obtain ⟨y,hy⟩:∃ y,ks[j]?=some y:=⟨_,jnj (by have:=EW.out;omega)⟩;have hsn:=Hq key ks j y hy;have hsz:=Nd.aZ ks j y hy;obtain ⟨yn,yt,ya,EY⟩:=y;obtain ⟨b,off,va2,vk2,rfl,hok,hbl,c0,c1,c2,c3,hR2⟩:=iX ZW.out hy;obtain ⟨a2,n2,cc2,rfl⟩:=Rd.au hR2.at_
      obtain ⟨a4,n4,cc4,rfl⟩:=Rd.au hR2.ks;have hb2:=ZU.out.aN.trans hk.aN;have hbS:=hb2.block b hok;have c0:=(jG hbS (o:=off+j*4)).trans c0;have c1:=(jG hbS (o:=off+j*4+1)).trans c1;have c2:=(jG hbS (o:=off+j*4+2)).trans c2;have c3:=(jG hbS (o:=off+j*4+3)).trans c3;have ZX:=hid hk;have rX:=hid hsn;have NG:=hid hsz;have HR2:=hid hR2;clear hk hsn hsz hy hbS hok hbl hR2 hb2;go_upto_region 11 with (fail)
      obtain ⟨p2,hp2⟩:∃ p2,p2=wr.heap.size:=⟨_,rfl⟩;obtain ⟨w2,hw2⟩:∃ w2,w2=wr.alloc (.cells #[.string yn,.string yt,.slice a2 n2 cc2,.slice a4 n4 cc4] 35):=⟨_,rfl⟩;have K2:qO S B key TF (L++fv key at_++Nd.cZ key (ks.take j)) v wA w2 v1:=by rw [hw2];exact ZX.out.alloc _
      have P2:CB 35 p2 [.string yn,.string yt,.slice a2 n2 cc2,.slice a4 n4 cc4] w2:=by rw [hw2,hp2];exact CB.new _ _ wr
      rw [<- hw2,<- hp2];have g0:=P2.cell 0 _ rfl;have g1:=P2.cell 1 _ rfl;have g2:=P2.cell 2 _ rfl;have g3:=P2.cell 3 _ rfl;have gf:=K2.i.k3.cell;unfold U6 at gf;have hSs:S<=w.heap.size:=by omega
      have HC:=hid (IH.out (Nd.mk yn yt ya EY).sz (by have:=NG.out;have h:=HN.out;rw [Nd.sz] at h;omega) yn yt ya EY S B _ v1 (.slice a2 n2 cc2) (.slice a4 n4 cc4) w2 (jnq _) (HR2.out.keep (fun b (hb:b<S) hlt=>⟨hb,(ZU.out.aN.trans K2.aN).block b hb⟩)) K2.i hB (by have:=K2.aN.size;have:=HZA.out;have:=HP.out;omega) (by
       have h1:=Lr key ks (j+1);have h2:=HLEN.out;rw [hv1.out,jo1] at h2;rw [rX.out,jo1] at h1;rw [jo1,jo1];omega))
      have ND:=hid K2;clear hw2 hp2 P2 K2 c0 c1 c2 c3;go_wp2_with fail
      (with_reducible refine HC.out.mono ?_)
      rintro e w3 ⟨rfl,v3,hk3⟩;have HF:Hid (WQ S B key TF nk (fun k=>L++fv key at_++Nd.cZ key (ks.take k)) v wA (.int .i64 ((j+1:Nat):Int)) w3):=⟨j+1,v3,by omega,rfl,by
       show qO S B key TF (L++fv key at_++Nd.cZ key (ks.take (j+1))) v wA _ _;rw [rX.out,<- jp2];exact ND.out.trans hk3⟩
      clear hk3 HC g0 g1 g2 g3 gf;go_wp2;go_roundw;case rel=>exact HF.out
      case measure=>simp [intOf];omega
     ·have hjn:j=nk:=by omega
      have HE:Hid (qO S B key TF (L++(Nd.mk nm tx at_ ks).vals key) v w wr v1):=by show qO S B key TF _ v w wr v1;rw [hv1.out,<- jp2];have h:qO S B key TF (L++fv key at_++Nd.cZ key (ks.take j)) v wA wr v1:=hk;rw [hjn,EW.out,List.take_length] at h;exact ZU.out.trans h
      clear hk hjn;go_wp2
      go_end0
      exact ⟨rfl,v1,HE.out⟩
open Go.RowKit
def lu (w:jqz) (l:List ByteArray) (e:Ending) (w':jqz):Prop:=
 ∃ v,e=.returned v/\w'.ownsRow w.heap.size 9 1 v l.length (l.map Value.string)/\Below w.heap.size w w'
theorem Ht (key nm tx:ByteArray) (at_:List Pr) (ks:List Nd) (va vk:jr1) (w:jqz) (hR:gF (·<w.heap.size) w at_ ks va vk) (hlen:((Nd.mk nm tx at_ ks).vals key).length<=10000000) : Calls Tryz.prog 79 #[.agg #[.string nm,.string tx,va,vk],.string key] w (lu w ((Nd.mk nm tx at_ ks).vals key)):=by
 obtain ⟨aa,na,ca,rfl⟩:=Rd.au hR.at_
 obtain ⟨ak,nk,ck,rfl⟩:=Rd.au hR.ks;have HR:=hid hR;have HLEN:=hid hlen;clear hR hlen;go_enter Tryz.func79,Tryz.ntmps79;go_upto_region 4 with (fail)
 obtain ⟨p,hp⟩:∃ p,p=w.heap.size:=⟨_,rfl⟩;obtain ⟨S,hS⟩:∃ S,S=p+1:=⟨_,rfl⟩;obtain ⟨w4,hw4⟩:∃ w4,w4=(((w.alloc (.cells #[.string nm,.string tx,.slice aa na ca,.slice ak nk ck] 35)).alloc (.cells #[.string key] 9)).alloc (.cells #[.slice none 0 0] 43)).alloc (.cells #[U6 S] 151):=⟨_,rfl⟩;have Ao:=hw4;unfold U6 at Ao;rw [<- hp,<- hS,show S+1+1=S+2 from rfl,<- Ao];have z1:(w.alloc (.cells #[.string nm,.string tx,.slice aa na ca,.slice ak nk ck] 35)).heap.size=S:=by rw [jo9,hS,hp]
 have z2:((w.alloc (.cells #[.string nm,.string tx,.slice aa na ca,.slice ak nk ck] 35)).alloc (.cells #[.string key] 9)).heap.size=S+1:=by rw [jo9,z1]
 have z3:(((w.alloc (.cells #[.string nm,.string tx,.slice aa na ca,.slice ak nk ck] 35)).alloc (.cells #[.string key] 9)).alloc (.cells #[.slice none 0 0] 43)).heap.size=S+2:=by rw [jo9,z2]
 have z4:w4.heap.size=S+3:=by rw [hw4,jo9,z3]
 have PN:CB 35 p [.string nm,.string tx,.slice aa na ca,.slice ak nk ck] w4:=by
  have h:CB 35 p [.string nm,.string tx,.slice aa na ca,.slice ak nk ck] (w.alloc (.cells #[.string nm,.string tx,.slice aa na ca,.slice ak nk ck] 35)):=by rw [hp];exact CB.new _ _ w
  rw [hw4];exact ((h.below ((jnk _ _).alloc (jnq _) _)).below ((jnk _ _).alloc (jnq _) _)).below ((jnk _ _).alloc (jnq _) _)
 have K1:aF S (.string key) 9 w4:=by have h:=aF.new (w.alloc (.cells #[.string nm,.string tx,.slice aa na ca,.slice ak nk ck] 35)) (.string key) 9;rw [z1] at h;rw [hw4];exact (h.alloc _).alloc _
 have K2:aF (S+1) (.slice none 0 0) 43 w4:=by have h:=aF.new ((w.alloc (.cells #[.string nm,.string tx,.slice aa na ca,.slice ak nk ck] 35)).alloc (.cells #[.string key] 9)) (.slice none 0 0) 43;rw [z2] at h;rw [hw4];exact h.alloc _
 have K3:aF (S+2) (U6 S) 151 w4:=by have h:=aF.new (((w.alloc (.cells #[.string nm,.string tx,.slice aa na ca,.slice ak nk ck] 35)).alloc (.cells #[.string key] 9)).alloc (.cells #[.slice none 0 0] 43)) (U6 S) 151;rw [z3] at h;rw [hw4];exact h
 have B4:Below w.heap.size w w4:=by rw [hw4];exact ((((jnk _ w).alloc (jnq _) _).alloc (by omega) _).alloc (by omega) _).alloc (by omega) _
 have VC:=hid (NA key 151 (Nd.mk nm tx at_ ks).sz nm tx at_ ks S (S+3) [] (.slice none 0 0) (.slice aa na ca) (.slice ak nk ck) w4 (jnq _) (HR.out.keep (fun b (hb:b<w.heap.size) hlt=>⟨by show b<S;omega,B4.block b hb⟩)) ⟨K1,K2,K3,⟨by simp,.inl ⟨rfl,rfl⟩⟩⟩ (jnq _) (by omega) (by simpa using HLEN.out));have f0:=PN.cell 0 _ rfl;have f1:=PN.cell 1 _ rfl;have f2:=PN.cell 2 _ rfl;have f3:=PN.cell 3 _ rfl;have fk:=K3.cell;unfold U6 at fk;have zm:=hid B4;have HSp:Hid (S=w.heap.size+1):=by show _=_;omega
 clear hw4 Ao hp hS z1 z2 z3 z4 PN K1 K2 K3 B4;go_wp2_with fail
 (with_reducible refine VC.out.mono ?_)
 rintro e w5 ⟨rfl,v',hk⟩;have c2:=hk.i.k2.cell;have HO:Hid (lu w ((Nd.mk nm tx at_ ks).vals key) (.returned v') w5):=by
  refine ⟨v',rfl,?_,?_⟩
  ·have h:=hk.i.own;rw [List.nil_append] at h;obtain ⟨h1,h2⟩:=h;refine ⟨h1,?_⟩;rcases h2 with h2 | ⟨g,cap,cur,rfl,r2,r3,r4⟩
   ·exact .inl h2
   ·exact .inr ⟨g,cap,cur,rfl,by have:=HSp.out;omega,r3,r4⟩
  ·exact zm.out.trans (hk.aN.mono (by have:=HSp.out;omega))
 obtain ⟨a5,c5,rfl⟩:=tT hk.i.own;clear hk VC;go_wp2;go_ret;exact HO.out
theorem Cj (nm tx:ByteArray) (at_:List Pr) (ks:List Nd) (va vk:jr1) (w:jqz) (hR:gF (·<w.heap.size) w at_ ks va vk) (hlen:((Nd.mk nm tx at_ ks).vals jZ).length<=10000000) : Calls Tryz.prog 34 #[.agg #[.string nm,.string tx,va,vk]] w (lu w ((Nd.mk nm tx at_ ks).vals jZ)):=by
 obtain ⟨aa,na,ca,rfl⟩:=Rd.au hR.at_
 obtain ⟨ak,nk,ck,rfl⟩:=Rd.au hR.ks;obtain ⟨w1,hw1⟩:∃ w1,w1=w.alloc (.cells #[.string nm,.string tx,.slice aa na ca,.slice ak nk ck] 35):=⟨_,rfl⟩;have b1:Below w.heap.size w w1:=by rw [hw1];exact (jnk _ _).alloc (jnq _) _
 have PN:CB 35 w.heap.size [.string nm,.string tx,.slice aa na ca,.slice ak nk ck] w1:=by rw [hw1];exact CB.new _ _ w
 have VC:Hid (Calls Tryz.prog 79 #[.agg #[.string nm,.string tx,.slice aa na ca,.slice ak nk ck],.string ⟨#[105,100]⟩] w1 (lu w1 ((Nd.mk nm tx at_ ks).vals jZ))):=(Ht jZ nm tx at_ ks (.slice aa na ca) (.slice ak nk ck) w1 (hR.keep (fun b (hb:b<w.heap.size) hlt=>⟨by show b<w1.heap.size;have:=b1.size;omega,b1.block b hb⟩)) hlen);have HB1:=hid b1;have f0:=PN.cell 0 _ rfl;have f1:=PN.cell 1 _ rfl;have f2:=PN.cell 2 _ rfl;have f3:=PN.cell 3 _ rfl;clear hR hlen b1 PN;go_enter Tryz.func34,Tryz.ntmps34;go_upto_region 1 with (fail)
 rw [<- hw1];clear hw1;go_wp2_with fail
 (with_reducible refine VC.out.mono ?_)
 rintro e w5 ⟨v',rfl,hown,hb⟩;have HO:Hid (lu w ((Nd.mk nm tx at_ ks).vals jZ) (.returned v') w5):=by
  refine ⟨v',rfl,?_,HB1.out.trans (hb.mono HB1.out.size)⟩;obtain ⟨h1,h2⟩:=hown;refine ⟨h1,?_⟩;rcases h2 with h2 | ⟨g,cap,cur,rfl,r2,r3,r4⟩
  ·exact .inl h2
  ·exact .inr ⟨g,cap,cur,rfl,Nat.le_trans HB1.out.size r2,r3,r4⟩
 obtain ⟨a5,c5,rfl⟩:=tT hown;clear hown hb VC;go_wp2;go_ret;exact HO.out
open Go.RowKit
open Go.RowKit
open Go.RowKit
open Go.RowKit
open Go.RowKit
theorem wo (c:UInt8) (w:jqz) : Calls Tryz.prog 109 #[.int .u8 (c.toNat:Int)] w fun e w'=>e=.returned (.bool (fA c))/\w=w':=by
 have h45:c=45↔c.toNat=45:=⟨fun h=>by rw [h];rfl,fun h=>UInt8.toNat_inj.1 (by rw [h];rfl)⟩;have ZY:c=58↔c.toNat=58:=⟨fun h=>by rw [h];rfl,fun h=>UInt8.toNat_inj.1 (by rw [h];rfl)⟩;have HV:Hid (fA c=true↔(97<=c.toNat/\c.toNat<=122)\/(48<=c.toNat/\c.toNat<=57)\/c.toNat=45\/c.toNat=58):=by show _↔_;unfold fA Ck;simp only [Bool.or_eq_true,Bool.and_eq_true,decide_eq_true_eq,h45,ZY];omega
 have hc:=UInt8.toNat_lt c;generalize fA c=V at *;generalize c.toNat=n at *;clear h45 ZY;go_enter Tryz.func109,Tryz.ntmps109;go_wp2;all_goals
  go_ret;refine ⟨vP ?_,rfl⟩;rw [jo0,HV.out]
  (try simp only [beq_iff_eq,beq_eq_false_iff_ne,ne_eq] at *)
  (try simp)
  (try omega)
theorem mE (s:ByteArray) (w:jqz) (h:dG s=true) : Calls Tryz.prog 65 #[.string s] w fun e w'=>e=.returned (.bool true)/\w=w':=by
 unfold dG at h;simp only [Bool.and_eq_true,decide_eq_true_eq] at h;obtain ⟨⟨⟨hall,h1⟩,ZC⟩,hlow⟩:=h;have hg:=GL s 0 h1;obtain ⟨c,hc⟩:∃ c,s[0]=c:=⟨_,rfl⟩;rw [hc] at hg;have hl:Ck c=true:=by
  cases h:s.data.toList with
  | nil=>rw [h] at hg;simp at hg
  | cons a l=>rw [h] at hg hlow;simp at hg;rw [<- hg];exact hlow
 unfold Ck at hl;simp only [Bool.and_eq_true,decide_eq_true_eq] at hl;obtain ⟨l1,l2⟩:=hl;have HA:Hid (∀ (k:Nat) (hk:k<s.size),fA s[k]=true):=fun k hk=>by
  have h:=GL s k hk;exact List.all_eq_true.1 hall _ (jo8 h)
 clear hall hlow hg;go_enter Tryz.func65,Tryz.ntmps65;go_wp2
 go_loop [3] (fun vi=>∃ k:Nat,k<=s.size/\vi=.int .i64 k) (fun i=>s.size-(intOf i).toNat)
 case atStart=>exact ⟨0,jo7 _,rfl⟩
 case round=>
  obtain ⟨k,hk,rfl⟩:=hrel;by_cases hlt:k<s.size
  ·have IN:=hid (fun w=>wo s[k] w);have hp:=HA.out k hlt;rw [hp] at IN;have hgl:=UInt8.toNat_lt s[k];clear hp;go_wp2_with fail
   refine (IN.out _).mono ?_;rintro e w1 ⟨rfl,rfl⟩;go_wp2
   go_round
   case rel=>exact ⟨k+1,by omega,by go_num⟩
   case measure=>simp [intOf];omega
  ·have q1:decide ((97:Int)<=(c.toNat:Int))=true:=by simp;omega
   have q2:decide ((c.toNat:Int)<=(122:Int))=true:=by simp;omega
   have q3:decide ((s.size:Int)<=(60:Int))=true:=by simp;omega
   have q4:decide ((1:Int)<=(s.size:Int))=true:=by simp;omega
   go_wp2;all_goals
    go_ret;refine ⟨vP ?_,rfl⟩;simp
    (try omega)
theorem tV (s:ByteArray) (w:jqz) : Calls Tryz.prog 66 #[.string s] w fun e w'=>e=.returned (.bool (pU s))/\w=w':=by
 have hs:s.toList=s.data.toList:=Lib.toList_data s;have HV:Hid (pU s=(s.toList==[98,114]||s.toList==[104,114]||s.toList==[105,109,103]||s.toList==[108,105,110,107]||s.toList==[109,101,116,97])):=by
  have e:∀ l:List UInt8,(s.toList==l)=decide (s=⟨l.toArray⟩):=fun l=>by
   rw [jo0,beq_iff_eq,decide_eq_true_iff,hs];constructor
   ·intro h;cases s with
    | mk d=>cases d;simp at h;simp [h]
   ·intro h;rw [h]
  show _=_;rw [e,e,e,e,e];rfl
 clear hs;generalize pU s=V at *;go_enter Tryz.func66,Tryz.ntmps66;go_wp2;all_goals
  go_ret;refine ⟨vP ?_,rfl⟩;rw [HV.out]
  simp_all
theorem lC:∀ (a:List Pr) (seen:List ByteArray),rZ seen a=0->(∀ p∈a,dG p.key=true/\fJ p.val=true)/\(∀ p∈a,p.key ∉ seen)/\∀ (i j:Nat) (x y:Pr),j<i->a[i]?=some x->a[j]?=some y->y.key≠x.key
 | [],_,_=>⟨fun _ h=>(by cases h),fun _ h=>(by cases h),fun i j x y _ h=>by simp at h⟩
 | p::a,seen,h=>by
  rw [rZ] at h;split at h
  ·cases h
  rename_i h1
  split at h
  ·cases h
  rename_i h2
  split at h
  ·cases h
  rename_i h3
  obtain ⟨g1,g2,g3⟩:=lC a _ h;refine ⟨fun x hx=>?_,fun x hx=>?_,fun i j x y hji hi hj=>?_⟩
  ·rcases List.mem_cons.1 hx with rfl | hx
   ·exact ⟨by simpa using h1,by simpa using h2⟩
   ·exact g1 x hx
  ·rcases List.mem_cons.1 hx with rfl | hx
   ·exact fun e=>h3 ((qP _ _).2 e)
   ·exact fun e=>g2 x hx (List.mem_append_left _ e)
  ·cases i with
   | zero=>omega
   | succ i=>
    cases j with
    | zero=>
     simp at hi hj;subst hj;exact fun e=>g2 x (jo8 hi) (by rw [<- e];simp)
    | succ j=>exact g3 i j x y (by omega) (by simpa using hi) (by simpa using hj)
def AtRel (n:Nat) (w:jqz) (vi:jr1) (wr:jqz):Prop:=∃ k:Nat,k<=n/\vi=.int .i64 k/\Below w.heap.size w wr
def U7 (n:Nat) (w:jqz) (vi:jr1) (wr:jqz):Prop:=∃ k q:Nat,k<=n/\vi=.int .i64 k/\wr=w.drewN q
theorem EZ (a:List Pr) (v:jr1) (w:jqz) (hr:Rd (·<w.heap.size) w (bD a) [v]) (h:rZ [] a=0) (hl:a.length<=1000000000) (hv:∀ p∈a,p.val.size<=1000000000) : Calls Tryz.prog 67 #[v] w (bX (.int .i64 0) w):=by
 obtain ⟨aa,c,hvv,hs⟩:=Rd.aC hr;obtain ⟨n,hn⟩:∃ n,n=a.length:=⟨_,rfl⟩;obtain rfl:v=.slice aa n c:=by rw [hn];simpa using hvv
 have hc:n<=c:=by rw [hn];simpa using hs.le
 have hm:=hs.max;unfold maxLen at hm;have hn1:n<=1000000000:=by omega
 obtain ⟨h1,-,h3⟩:=lC a [] h;have H1:=hid h1;have H3:=hid h3;have HV:=hid hv;have HS:=hid hs;have HN:=hid hn;have R0:Hid (AtRel n w (.int .i64 0) w):=⟨0,jo7 _,rfl,jnk _ _⟩;clear hr h hl hv hvv hs hn h1 h3;go_enter Tryz.func67,Tryz.ntmps67;go_wp2
 go_loopw [3] (fun vi wr=>AtRel n w vi wr) (fun i _=>n-(intOf i).toNat)
 case atStart=>exact R0.out
 case round=>
  clear R0;obtain ⟨k,hk,rfl,hbel⟩:=hrel;have HB:=hid hbel;by_cases hlt:k<n
  ·obtain ⟨x,hx⟩:∃ x,a[k]?=some x:=⟨_,jnj (by have:=HN.out;omega)⟩;have hxm:x∈a:=jo8 hx;obtain ⟨b,off,rfl,-,hb,hc0,hc1⟩:=iW (HS.out.aV hbel) hx;have HX:=hid hx;have XF:Hid (∀ y,Below wr.heap.size wr y->y.cell? ⟨b,off+k*2,none⟩=some (.string x.key)/\y.cell? ⟨b,off+k*2+1,none⟩=some (.string x.val)):=fun y hy=>⟨(hy.cell (p:=⟨_,_,none⟩) hb).trans hc0,(hy.cell (p:=⟨_,_,none⟩) hb).trans hc1⟩
   have NC:=hid (mE x.key wr (H1.out x hxm).1);have VC:=hid (wu x.val wr (HV.out x hxm));rw [(H1.out x hxm).2] at VC;clear hx hxm hb hbel;go_wp2_with fail
   (with_reducible refine NC.out.mono ?_)
   rintro e w1 ⟨rfl,hw1⟩;rw [<- hw1];clear hw1 w1 NC;go_wp2_with fail
   (with_reducible refine VC.out.mono ?_)
   rintro e w2 ⟨rfl,b2⟩;have HB2:=hid (aU HB.out b2);obtain ⟨d0,d1⟩:=XF.out w2 b2;have R1:Hid (U7 k w2 (.int .i64 0) w2):=⟨0,0,jo7 _,rfl,rfl⟩;clear hc0 hc1 b2 VC;go_wp2
   go_loopw [4] (fun i wr=>U7 k w2 i wr) (fun i _=>k-(intOf i).toNat)
   case atStart=>exact R1.out
   case round=>
    clear R1;obtain ⟨j,q,hj,rfl,rfl⟩:=hrel;by_cases hlj:j<k
    ·obtain ⟨y,hy⟩:∃ y,a[j]?=some y:=⟨_,jnj (by have:=HN.out;omega)⟩;obtain ⟨b',off',e',-,-,f0,-⟩:=iW (HS.out.aV HB2.out) hy;obtain ⟨rfl,rfl⟩:b=b'/\off=off':=by simpa using e'
     have hne:=Cm (H3.out k j x y hlj HX.out hy);clear hy e';go_wp2_with fail
     go_quiet (fail)
     go_wp2;go_roundw;case rel=>exact ⟨j+1,_,by omega,by go_num,rfl⟩
     case measure=>simp [intOf];omega
    ·have HR:Hid (AtRel n w (.int .i64 ((k+1:Nat):Int)) (w2.drewN q)):=⟨k+1,by omega,rfl,gG HB2.out q⟩;clear hj;go_wp2;go_roundw;case rel=>exact HR.out
     case measure=>simp [intOf];omega
  ·clear hbel;go_wp2;go_ret;exact ⟨rfl,HB.out⟩
theorem qQ:∀ (l:List Nd) (p:Bool),Nd.iG p l=0->(∀ x∈l,x.kW=0)/\(∀ x,l[0]?=some x->¬ (p=true/\q01 x.nm=true))/\∀ (i:Nat) (x y:Nd),l[i]?=some x->l[i+1]?=some y->¬ (q01 x.nm=true/\q01 y.nm=true)
 | [],_,_=>⟨fun _ h=>(by cases h),fun x h=>by simp at h,fun i x y h=>by simp at h⟩
 | z::l,p,h=>by
  rw [gW] at h;obtain ⟨h1,h2,h3⟩:=h;obtain ⟨g1,g2,g3⟩:=qQ l _ h3;refine ⟨fun x hx=>?_,fun x hx=>?_,fun i x y hx hy=>?_⟩
  ·rcases List.mem_cons.1 hx with rfl | hx
   ·exact h2
   ·exact g1 x hx
  ·simp at hx;subst hx;exact h1
  ·cases i with
   | zero=>simp at hx;subst hx;exact g2 y (by simpa using hy)
   | succ i=>exact g3 i x y (by simpa using hx) (by simpa using hy)
mutual
def Nd.tz:Nd->Prop
 | .mk _ t a ks=>t.size<=1000000000/\(∀ p∈a,p.val.size<=1000000000)/\a.length<=1000000000/\Nd.U8 ks
def Nd.U8:List Nd->Prop
 | []=>True
 | x::l=>x.tz/\Nd.U8 l
end
theorem Nd.qR:∀ (l:List Nd),Nd.U8 l↔∀ x∈l,x.tz
 | []=>by rw [Nd.U8];simp
 | x::l=>by rw [Nd.U8,Nd.qR l];simp
theorem E8 (N:Nat):∀ (x:Nd) (va vk:jr1) (w:jqz),x.sz<=N->x.kW=0->x.tz->gF (·<w.heap.size) w x.at_ x.ks va vk -> Calls Tryz.prog 26 #[.agg #[.string x.nm,.string x.tx,va,vk]] w (bX (.int .i64 0) w):=by
 induction N using Nat.strongRecOn with
 | _ N ih=>
  intro x va vk w hN hck htz hA;obtain ⟨nm,tx,at_,ks⟩:=x;dsimp only [Nd.nm,Nd.tx,Nd.at_,Nd.ks] at hA ⊢;obtain ⟨a1,c1,h1,s1⟩:=Rd.aC hA.at_
  obtain ⟨a2,c2,h2,s2⟩:=Rd.aC hA.ks;obtain ⟨n1,hn1⟩:∃ n,n=at_.length:=⟨_,rfl⟩
  obtain ⟨n2,hn2⟩:∃ n,n=ks.length:=⟨_,rfl⟩;obtain rfl:va=.slice a1 n1 c1:=by rw [hn1];simpa using h1
  obtain rfl:vk=.slice a2 n2 c2:=by rw [hn2];simpa using h2
  have l2:=s2.le;rw [List.length_map,<- hn2] at l2;have m2:=s2.max;unfold maxLen at m2;rw [Nd.sz] at hN;rw [Nd.tz] at htz;obtain ⟨NH,JV,MW,JW⟩:=htz;rw [Nd.kW] at hck;have hks:=Nd.aZ ks;obtain ⟨S,hS⟩:∃ S,S=w.heap.size:=⟨_,rfl⟩;obtain ⟨W1,hW1⟩:∃ W,W=w.alloc (.cells #[.string nm,.string tx,.slice a1 n1 c1,.slice a2 n2 c2] 35):=⟨_,rfl⟩;have k0:CB 35 S [.string nm,.string tx,.slice a1 n1 c1,.slice a2 n2 c2] W1:=by rw [hW1,hS];exact CB.new _ _ w
  have bW:Below w.heap.size w W1:=by rw [hW1];exact (jnk _ _).alloc (jnq _) _
  have CL:Hid (∀ w':jqz,Below W1.heap.size W1 w'->w'.cell? ⟨S,0,none⟩=some (.string nm)/\w'.cell? ⟨S,1,none⟩=some (.string tx)/\w'.cell? ⟨S,2,none⟩=some (.slice a1 n1 c1)/\w'.cell? ⟨S,3,none⟩=some (.slice a2 n2 c2)):=fun w' hb=>⟨(k0.below hb).cell 0 _ rfl,(k0.below hb).cell 1 _ rfl,(k0.below hb).cell 2 _ rfl,(k0.below hb).cell 3 _ rfl⟩
  obtain ⟨e0,e1,e2,e3⟩:=CL.out W1 (jnk _ _);have EX:nm.toList.isEmpty=q01 nm:=by rw [Lib.toList_data,jo0,List.isEmpty_iff,q01,decide_eq_true_iff]
  have Z5:tx.toList.isEmpty=q01 tx:=by rw [Lib.toList_data,jo0,List.isEmpty_iff,q01,decide_eq_true_iff]
  have HA:=hid hA;have H2:=hid s2;have IH:=hid ih;have RX:=hid hks;have BW:=hid bW;have uZ:=hid hn2;have HN:=hid hN;have VC:=hid (wu tx W1 NH);by_cases hne:q01 nm=true
  ·rw [hne] at EX;rw [if_pos hne] at hck;split at hck
   ·cases hck
   rename_i g1
   split at hck
   ·cases hck
   rename_i g2
   have ha:n1=0:=by
    rw [hn1];cases at_ with
    | nil=>rfl
    | cons _ _=>exact absurd (.inl rfl) g1
   have hk:n2=0:=by
    rw [hn2];cases ks with
    | nil=>rfl
    | cons _ _=>exact absurd (.inr rfl) g1
   have ht:q01 tx=false:=by
    cases h3:q01 tx
    ·rfl
    ·exact absurd (.inl h3) g2
   have U9:fJ tx=true:=by
    cases h3:fJ tx
    ·exact absurd (.inr h3) g2
    ·rfl
   rw [ht] at Z5;rw [U9] at VC;clear hne hck g1 g2 hA h1 h2 s1 s2 ih hks k0 bW hn1 hn2 hN NH JV MW JW ht U9 uZ;subst ha hk;go_enter Tryz.func26,Tryz.ntmps26;go_upto_region 1 with (fail)
   rw [<- hW1,<- hS];clear hW1 hS;go_wp2_with fail
   (with_reducible refine VC.out.mono ?_)
   rintro e w2 ⟨rfl,b2⟩;have HF:=hid (BW.out.trans (b2.mono BW.out.size));clear b2;go_wp2;go_ret;exact ⟨rfl,HF.out⟩
  ·have hne:q01 nm=false:=by simpa using hne
   rw [hne] at EX;rw [if_neg (by rw [hne];simp)] at hck;split at hck
   ·cases hck
   rename_i g1
   split at hck
   ·cases hck
   rename_i g2
   split at hck
   ·rename_i g3;exact absurd hck g3
   rename_i g3
   have hnm:dG nm=true:=by simpa using g1
   have ht:q01 tx=true:=by
    cases h3:q01 tx
    ·exact absurd (.inl h3) g2
    ·rfl
   have hat:rZ [] at_=0:=by simpa using g3
   have hem:pU nm=true->n2=0:=fun h=>by
    rw [hn2];cases ks with
    | nil=>rfl
    | cons _ _=>exact absurd (.inr ⟨h,rfl⟩) g2
   obtain ⟨k1,-,k3⟩:=qQ ks _ hck;have htk:=(Nd.qR ks).1 JW;rw [ht] at Z5;have NC:=hid (mE nm W1 hnm);have EC:=hid (tV nm W1);have AC:=hid (EZ at_ (.slice a1 n1 c1) W1 (hA.at_.up bW) hat MW JV);have K1:=hid k1;have K3:=hid k3;have TK:=hid htk;clear hne hck g1 g2 g3 hA h1 h2 s1 s2 ih hks k0 bW hn1 hn2 hN NH JV MW JW ht hnm hat k1 k3 htk VC;go_enter Tryz.func26,Tryz.ntmps26;go_upto_region 1 with (fail)
   rw [<- hW1,<- hS];clear hW1 hS;go_wp2_with fail
   (with_reducible refine NC.out.mono ?_)
   rintro e w2 ⟨rfl,hw2⟩;rw [<- hw2];clear hw2 w2 NC;go_wp2_with fail
   (with_reducible refine EC.out.mono ?_)
   rintro e w2 ⟨rfl,hw2⟩;rw [<- hw2];clear hw2 w2 EC;have hgt:(pU nm=true/\decide (0<n2)=false)\/pU nm=false:=by
    cases h:pU nm
    ·exact .inr rfl
    ·exact .inl ⟨rfl,by have:=hem h;simp;omega⟩
   clear hem;rcases hgt with ⟨q1,q2⟩ | q1
   all_goals
    go_wp2_with fail
    (with_reducible refine AC.out.mono ?_)
    rintro e w3 ⟨rfl,b3⟩;have B3:=hid (BW.out.trans (b3.mono BW.out.size));have R0:Hid (AtRel n2 W1 (.int .i64 0) w3):=⟨0,jo7 _,rfl,b3⟩;clear b3 AC e0 e1 e2 e3 q1;go_wp2
    go_loopw [4] (fun vi wr=>AtRel n2 W1 vi wr) (fun i _=>n2-(intOf i).toNat)
    case atStart=>exact R0.out
    case round=>
     clear R0;obtain ⟨k,hk,rfl,hbel⟩:=hrel;obtain ⟨e0,e1,e2,e3⟩:=CL.out _ hbel;have HB:=hid hbel;by_cases hlt:k<n2
     ·obtain ⟨y,hy⟩:∃ y,ks[k]?=some y:=⟨_,jnj (by have:=uZ.out;omega)⟩;have hym:y∈ks:=jo8 hy;have Hu:=RX.out k y hy;have Va:=K1.out y hym;have Vb:=TK.out y hym;obtain ⟨yn,yt,ya,yk⟩:=y;obtain ⟨g1,o1,u1,u2,rfl,-,hg1,x0,x1,x2,x3,Cn⟩:=iX H2.out hy;obtain ⟨i1,i2,i3,rfl⟩:=Rd.au Cn.at_
      obtain ⟨i4,i5,i6,rfl⟩:=Rd.au Cn.ks;have Ea:=BW.out.trans (HB.out.mono BW.out.size);have y0:wr.cell? ⟨g1,o1+k*4,none⟩=some (.string yn):=(Ea.cell (p:=⟨_,_,none⟩) hg1).trans x0;have y1:wr.cell? ⟨g1,o1+k*4+1,none⟩=some (.string yt):=(Ea.cell (p:=⟨_,_,none⟩) hg1).trans x1;have y2:wr.cell? ⟨g1,o1+k*4+2,none⟩=some (.slice i1 i2 i3):=(Ea.cell (p:=⟨_,_,none⟩) hg1).trans x2;have y3:wr.cell? ⟨g1,o1+k*4+3,none⟩=some (.slice i4 i5 i6):=(Ea.cell (p:=⟨_,_,none⟩) hg1).trans x3;have IC:Hid (Calls Tryz.prog 26 #[.agg #[.string yn,.string yt,.slice i1 i2 i3,.slice i4 i5 i6]] wr (bX (.int .i64 0) wr)):=
       IH.out (Nd.mk yn yt ya yk).sz (by have:=HN.out;omega) (Nd.mk yn yt ya yk) _ _ wr (jnq _) Va Vb (Cn.keep (fun b (hb:b<w.heap.size) _=>⟨Nat.lt_of_lt_of_le hb Ea.size,Ea.block b hb⟩))
      have qy:yn.toList.isEmpty=q01 yn:=by rw [Lib.toList_data,jo0,List.isEmpty_iff,q01,decide_eq_true_iff]
      have hgo:(k=0)\/(k≠0/\q01 yn=false)\/(k≠0/\q01 yn=true/\∃ zn,wr.cell? ⟨g1,o1+(k-1)*4,none⟩=some (.string zn)/\zn.toList.isEmpty=false):=by
       by_cases hk0:k=0
       ·exact .inl hk0
       cases hye:q01 yn
       ·exact .inr (.inl ⟨hk0,rfl⟩)
       ·refine .inr (.inr ⟨hk0,rfl,?_⟩);obtain ⟨z,hz⟩:∃ z,ks[k-1]?=some z:=⟨_,jnj (by have:=uZ.out;omega)⟩;have h3:=K3.out (k-1) z (.mk yn yt ya yk) hz (by rw [Nat.sub_add_cancel (by omega)];exact hy);obtain ⟨zn,zt,za,zk⟩:=z;obtain ⟨g1',o1',v1,v2,e',-,hg1',z0,-⟩:=iX H2.out hz;obtain ⟨rfl,rfl⟩:g1=g1'/\o1=o1':=by simpa using e'
        refine ⟨zn,(Ea.cell (p:=⟨_,_,none⟩) hg1').trans z0,?_⟩;rw [Lib.toList_data];have h4:q01 zn=false:=by
         cases h:q01 zn
         ·rfl
         ·exact absurd ⟨h,hye⟩ h3
        unfold q01 at h4;simpa using h4
      clear hy hym Hu Va Vb x0 x1 x2 x3 Cn Ea hbel;have HR:Hid (∀ w5,Below W1.heap.size W1 w5->AtRel n2 W1 (.int .i64 ((k+1:Nat):Int)) w5):=fun w5 h=>⟨k+1,by omega,rfl,h⟩
      rcases hgo with h0 | ⟨h0,hye⟩ | ⟨h0,hye,zn,zc,zq⟩
      case' inl=>
       have h1:decide (0<k)=false:=by simp [h0]
       clear h0;go_wp2_with fail
      case' inr.inl=>
       have h1:0<k:=by omega
       rw [hye] at qy;clear hye h0;go_wp2_with fail
      case' inr.inr=>
       obtain ⟨k',rfl⟩:∃ k',k=k'+1:=⟨k-1,by omega⟩;rw [Nat.add_sub_cancel] at zc;rw [hye] at qy;clear hye h0;go_wp2_with fail
      all_goals
       (with_reducible refine IC.out.mono ?_)
       rintro e w5 ⟨rfl,b5⟩;have B5:=hid (aU HB.out b5);clear b5;go_wp2;go_roundw;case rel=>exact HR.out _ B5.out
       case measure=>simp [intOf];omega
     ·clear hbel;have HF:=hid (BW.out.trans (HB.out.mono BW.out.size));go_wp2;go_ret;exact ⟨rfl,HF.out⟩
end Go.Proofs.YtkfnkeflalcphaaGreatDoor

