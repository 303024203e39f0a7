/- Contract of html.inline, given that of html.line at the Kids. Contract of publisherref33.Same: at equal nodes it answers true. Contract of the function that markup.Values calls for each node (markup.Values$1): the values of a key, one behind the other. Contracts of markup.Values and html.Anchors. -/
import Derived.Test.YtkfnkeflalcphaaGreatDoorKHtA
import Derived.Test.YtkfnkeflalcphaaGreatDoorKPlUn
set_option maxHeartbeats 4000000
set_option maxRecDepth 100000
open Go.Lib (hid)
namespace Go.Proofs.YtkfnkeflalcphaaGreatDoor
open Go.RowKit.Below renaming refl->jj8,heap_setCell->jk2
open Nat renaming le_trans->jjj
open Go renaming World->jmj,Value->jmq
open Go.RowKit renaming Below->jmk
open Go.RowKit
set_option linter.unusedVariables false
set_option linter.unusedSimpArgs false
def DW (w:jmj) (ks:List aj) (vk:jmq):Prop:=∀ W:jmj,jmk w.heap.size w W->Calls Tryz.prog 78 #[vk] W (dn W (jZ ks))
def jI:List jmq:=[.string ⟨#[]⟩,.string ⟨#[]⟩,.slice none 0 0,.slice none 0 0]
def four (w:jmj) (p:Nat) (c0 c1 c2 c3:jmq):jmj:=(((w.setCell ⟨p,0,none⟩ c0).setCell ⟨p,1,none⟩ c1).setCell ⟨p,2,none⟩ c2).setCell ⟨p,3,none⟩ c3
theorem gQ (w:jmj) (p:Nat) (c0 c1 c2 c3:jmq) (b:Nat) (h:b≠p):(four w p c0 c1 c2 c3).heap[b]?=w.heap[b]?:=by unfold four;rw [jk2 _ ⟨p,3,none⟩ _ b h,jk2 _ ⟨p,2,none⟩ _ b h,jk2 _ ⟨p,1,none⟩ _ b h,jk2 _ ⟨p,0,none⟩ _ b h]
theorem JW {w:jmj} {p:Nat} {c0 c1 c2 c3:jmq} {b o:Nat} {v:jmq} (h:w.cell? ⟨b,o,none⟩=some v) (hb:b≠p):(four w p c0 c1 c2 c3).cell? ⟨b,o,none⟩=some v:=by rw [gY (gQ w p c0 c1 c2 c3 b hb)];exact h
theorem rZ (S:Nat) (w:jmj) (a b c d:jmq) (o:Nat) (v:jmq) (h:w.cell? ⟨S,o,none⟩=some v) : World.cell? ((((w.setCell ⟨S+1,0,none⟩ a).setCell ⟨S+1,1,none⟩ b).setCell ⟨S+1,2,none⟩ c).setCell ⟨S+1,3,none⟩ d) ⟨S,o,none⟩=some v:=JW h (by show S≠S+1;omega)
theorem dG {T:TypeId} {p:Nat} {cs:List jmq} {w:jmj} (h:CB T p cs w) (j:Nat) (u:jmq):CB T p (cs.set j u) (w.setCell ⟨p,j,none⟩ u):=by unfold CB at h ⊢;simp [World.setCell,Array.getElem?_modify,h]
theorem Iw {T:TypeId} {p:Nat} {a0 a1 a2 a3:jmq} {w:jmj} (h:CB T p [a0,a1,a2,a3] w) (c0 c1 c2 c3:jmq):CB T p [c0,c1,c2,c3] (four w p c0 c1 c2 c3):=
 dG (dG (dG (dG h 0 c0) 1 c1) 2 c2) 3 c3
theorem vv {B p:Nat} {a w:jmj} (h:jmk B a w) (hp:B<=p) (c0 c1 c2 c3:jmq):jmk B a (four w p c0 c1 c2 c3):=
 (((h.setCell (p:=⟨p,0,none⟩) hp c0).setCell (p:=⟨p,1,none⟩) hp c1).setCell (p:=⟨p,2,none⟩) hp c2).setCell (p:=⟨p,3,none⟩) hp c3
theorem qN (T:TypeId) (w:jmj) (xc:List jmq):∃ S W0,S=w.heap.size/\W0=(w.alloc (.cells xc.toArray T)).alloc (.cells jI.toArray 35)/\W0.heap.size=S+2/\CB T S xc W0/\CB 35 (S+1) jI W0/\jmk S w W0:=by
 refine ⟨_,_,rfl,rfl,by simp,?_,?_,((jj8 _ _).alloc (Nat.le_refl _) _).alloc (by simp) _⟩
 ·exact (Below.heap_alloc _ _ _ (by simp)).trans (CB.new _ _ w)
 ·have:=CB.new 35 jI (w.alloc (.cells xc.toArray T))
  rwa [World.size_alloc] at this
theorem YP {T:TypeId} {S:Nat} {W0:jmj} {x0 x1 x2 x3 x4 x5 x6 x7 x8 x9:jmq} (k0:CB T S [x0,x1,x2,x3,x4,x5,x6,x7,x8,x9] W0) : Hid (∀ w':jmj,jmk W0.heap.size W0 w'->w'.cell? ⟨S,1,none⟩=some x1/\w'.cell? ⟨S,2,none⟩=some x2/\w'.cell? ⟨S,3,none⟩=some x3/\w'.cell? ⟨S,4,none⟩=some x4/\w'.cell? ⟨S,5,none⟩=some x5/\w'.cell? ⟨S,6,none⟩=some x6/\w'.cell? ⟨S,9,none⟩=some x9):=
 fun w' hb=>⟨(k0.below hb).cell 1 _ rfl,(k0.below hb).cell 2 _ rfl,(k0.below hb).cell 3 _ rfl,(k0.below hb).cell 4 _ rfl,(k0.below hb).cell 5 _ rfl,(k0.below hb).cell 6 _ rfl,(k0.below hb).cell 9 _ rfl⟩
theorem YQ {T:TypeId} {S:Nat} {W0:jmj} {x0 x1 x2 x3 x4 x5 x6 x7 x8 x9 x10:jmq} (k0:CB T S [x0,x1,x2,x3,x4,x5,x6,x7,x8,x9,x10] W0) : Hid (∀ w':jmj,jmk W0.heap.size W0 w'->w'.cell? ⟨S,1,none⟩=some x1/\w'.cell? ⟨S,2,none⟩=some x2/\w'.cell? ⟨S,3,none⟩=some x3/\w'.cell? ⟨S,4,none⟩=some x4/\w'.cell? ⟨S,5,none⟩=some x5/\w'.cell? ⟨S,6,none⟩=some x6/\w'.cell? ⟨S,7,none⟩=some x7/\w'.cell? ⟨S,8,none⟩=some x8/\w'.cell? ⟨S,9,none⟩=some x9/\w'.cell? ⟨S,10,none⟩=some x10):=
 fun w' hb=>⟨(k0.below hb).cell 1 _ rfl,(k0.below hb).cell 2 _ rfl,(k0.below hb).cell 3 _ rfl,(k0.below hb).cell 4 _ rfl,(k0.below hb).cell 5 _ rfl,(k0.below hb).cell 6 _ rfl,(k0.below hb).cell 7 _ rfl,(k0.below hb).cell 8 _ rfl,(k0.below hb).cell 9 _ rfl,(k0.below hb).cell 10 _ rfl⟩
theorem tT.upH {S:Nat} {w W0:jmj} {at_:At} {ar:List ByteArray} {ci:List Ci} {ks:List aj} {vc vp va vi vk:jmq} (hS:S=w.heap.size) (hR:tT (·<w.heap.size) w at_ ar ci ks vc vp va vi vk) (b0:jmk S w W0):Hid (tT (·<S) W0 at_ ar ci ks vc vp va vi vk):=by subst hS;exact ⟨hR.at_.below b0,hR.args.below b0,hR.dF.below b0,hR.kids.below b0⟩
theorem ku.upH {S:Nat} {w W0:jmj} {at_:At} {li:List aj} {ks:List ah} {vc vp vl vk:jmq} (hS:S=w.heap.size) (hR:ku (·<w.heap.size) w at_ li ks vc vp vl vk) (b0:jmk S w W0):Hid (ku (·<S) W0 at_ li ks vc vp vl vk):=by subst hS;exact ⟨hR.at_.below b0,hR.line.below b0,hR.kids.below b0⟩
theorem gM {S:Nat} {w W0:jmj} {P:jmj->Prop} (hS:S=w.heap.size) (hl:∀ W,jmk w.heap.size w W->P W) (b0:jmk S w W0):Hid (∀ W,jmk W0.heap.size W0 W->P W):=
 fun W hW=>hl W (by rw [<- hS];exact b0.trans (hW.mono (by have:=b0.size;omega)))
theorem kK {P:jmj->Prop} {at_:At} {ar:List ByteArray} {ci:List Ci} {ks:List aj} {vc vp va vi vk:jmq} {w:jmj} (kv:jmq) (t d ti:ByteArray) (hR:tT (·<w.heap.size) w at_ ar ci ks vc vp va vi vk) (hl:∀ W,jmk w.heap.size w W->P W) : ∃ ac nc cc ap np cp aa na ca ai ni jU ak nk ck S W0,vc=.slice ac nc cc/\vp=.slice ap np cp/\va=.slice aa na ca/\vi=.slice ai ni jU/\vk=.slice ak nk ck/\Hid (S=w.heap.size) /\ Hid (W0=(w.alloc (.cells [kv,.string t,.string d,.string ti,.string at_.id,vc,vp,va,vi,vk].toArray 66)).alloc (.cells jI.toArray 35))/\W0.cell? ⟨S,0,none⟩=some kv /\ Hid (∀ w':jmj,jmk W0.heap.size W0 w'->w'.cell? ⟨S,1,none⟩=some (.string t)/\w'.cell? ⟨S,2,none⟩=some (.string d)/\w'.cell? ⟨S,3,none⟩=some (.string ti)/\w'.cell? ⟨S,4,none⟩=some (.string at_.id)/\w'.cell? ⟨S,5,none⟩=some vc/\w'.cell? ⟨S,6,none⟩=some vp/\w'.cell? ⟨S,9,none⟩=some vk) /\ Hid (∀ W,jmk W0.heap.size W0 W->P W)/\Hid (tT (·<S) W0 at_ ar ci ks vc vp va vi vk)/\Hid (W0.heap.size=S+2)/\Hid (jmk S w W0)/\Hid (CB 35 (S+1) jI W0):=by
 obtain ⟨ac,nc,cc,rfl⟩:=Rd.ay hR.at_.cls
 obtain ⟨ap,np,cp,rfl⟩:=Rd.ay hR.at_.aJ
 obtain ⟨aa,na,ca,rfl⟩:=Rd.ay hR.args;obtain ⟨ai,ni,jU,rfl⟩:=Rd.ay hR.dF;obtain ⟨ak,nk,ck,rfl⟩:=Rd.ay hR.kids;obtain ⟨S,W0,hS,hW0,z0,k0,k1,b0⟩:=qN 66 w [kv,.string t,.string d,.string ti,.string at_.id,.slice ac nc cc,.slice ap np cp,.slice aa na ca,.slice ai ni jU,.slice ak nk ck];exact ⟨ac,nc,cc,ap,np,cp,aa,na,ca,ai,ni,jU,ak,nk,ck,S,W0,rfl,rfl,rfl,rfl,rfl,hS,hW0,k0.cell 0 _ rfl,YP k0,gM hS hl b0,tT.upH hS hR b0,z0,b0,k1⟩
theorem kE {at_:At} {li:List aj} {ks:List ah} {vc vp vl vk:jmq} {w:jmj} (kv:jmq) (lv:Int) (i t d ti:ByteArray) (hR:ku (·<w.heap.size) w at_ li ks vc vp vl vk) : ∃ ac nc cc ap np cp al nl cl ak nk ck S W0,vc=.slice ac nc cc/\vp=.slice ap np cp/\vl=.slice al nl cl/\vk=.slice ak nk ck/\Hid (S=w.heap.size) /\ Hid (W0=(w.alloc (.cells [kv,.int .i64 lv,.string i,.string t,.string d,.string ti,.string at_.id,vc,vp,vl,vk].toArray 48)).alloc (.cells jI.toArray 35))/\W0.cell? ⟨S,0,none⟩=some kv /\ Hid (∀ w':jmj,jmk W0.heap.size W0 w'->w'.cell? ⟨S,1,none⟩=some (.int .i64 lv)/\w'.cell? ⟨S,2,none⟩=some (.string i)/\w'.cell? ⟨S,3,none⟩=some (.string t)/\w'.cell? ⟨S,4,none⟩=some (.string d)/\w'.cell? ⟨S,5,none⟩=some (.string ti)/\w'.cell? ⟨S,6,none⟩=some (.string at_.id)/\w'.cell? ⟨S,7,none⟩=some vc/\w'.cell? ⟨S,8,none⟩=some vp/\w'.cell? ⟨S,9,none⟩=some vl/\w'.cell? ⟨S,10,none⟩=some vk) /\ Hid (ku (·<S) W0 at_ li ks vc vp vl vk)/\Hid (W0.heap.size=S+2)/\Hid (jmk S w W0)/\Hid (CB 35 (S+1) jI W0):=by
 obtain ⟨ac,nc,cc,rfl⟩:=Rd.ay hR.at_.cls
 obtain ⟨ap,np,cp,rfl⟩:=Rd.ay hR.at_.aJ
 obtain ⟨al,nl,cl,rfl⟩:=Rd.ay hR.line;obtain ⟨ak,nk,ck,rfl⟩:=Rd.ay hR.kids;obtain ⟨S,W0,hS,hW0,z0,k0,k1,b0⟩:=qN 48 w [kv,.int .i64 lv,.string i,.string t,.string d,.string ti,.string at_.id,.slice ac nc cc,.slice ap np cp,.slice al nl cl,.slice ak nk ck];exact ⟨ac,nc,cc,ap,np,cp,al,nl,cl,ak,nk,ck,S,W0,rfl,rfl,rfl,rfl,hS,hW0,k0.cell 0 _ rfl,YQ k0,ku.upH hS hR b0,z0,b0,k1⟩
theorem nJ {T:TypeId} {p:Nat} {cs:List jmq} {w:jmj} (h:CB T p cs w) (j:Nat):w.frozen? ⟨p,j,none⟩=false:=by unfold CB at h;simp [World.frozen?,h]
theorem pJ {p:Nat} {w:jmj} (h:CB 35 p jI w):w.cell? ⟨p,0,none⟩=some (.string ⟨#[]⟩)/\w.cell? ⟨p,1,none⟩=some (.string ⟨#[]⟩)/\w.cell? ⟨p,2,none⟩=some (.slice none 0 0)/\w.cell? ⟨p,3,none⟩=some (.slice none 0 0)/\∀ j,w.frozen? ⟨p,j,none⟩=false:=
 ⟨h.cell 0 _ rfl,h.cell 1 _ rfl,h.cell 2 _ rfl,h.cell 3 _ rfl,nJ h⟩
theorem fA {S:Nat} {w W0 w3:jmj} (n t:ByteArray) (at_:List Pr) (ks:List Nd) {va vk:jmq} (hS:S=w.heap.size) (z0:W0.heap.size=S+2) (b0:jmk S w W0) (k1:CB 35 (S+1) jI W0) (b3:jmk W0.heap.size W0 w3) (hR:kU (W0.heap.size<=·) w3 at_ ks va vk) : CB 35 (S+1) [.string n,.string t,va,vk] (four w3 (S+1) (.string n) (.string t) va vk)/\rY w (.mk n t at_ ks) (.returned (.agg #[.string n,.string t,va,vk])) (four w3 (S+1) (.string n) (.string t) va vk):=by refine ⟨Iw (k1.below b3) _ _ _ _,va,vk,rfl,hR.keep (fun b hb hlt=>⟨by omega,gQ _ _ _ _ _ _ b (by omega)⟩),?_⟩;rw [<- hS];exact vv (b0.trans (b3.mono (by omega))) (by omega) _ _ _ _
theorem iq {S:Nat} {w W0 w3:jmj} (n t:ByteArray) (at_:List Pr) (ks:List Nd) {va vk:jmq} (hS:Hid (S=w.heap.size)) (z0:Hid (W0.heap.size=S+2)) (b0:Hid (jmk S w W0)) (k1:Hid (CB 35 (S+1) jI W0)) (b3:Hid (jmk W0.heap.size W0 w3)) (hR:kU (W0.heap.size<=·) w3 at_ ks va vk) : ∃ w9,w9=(((w3.setCell ⟨S+1,0,none⟩ (.string n)).setCell ⟨S+1,1,none⟩ (.string t)).setCell ⟨S+1,2,none⟩ va).setCell ⟨S+1,3,none⟩ vk /\ w9.cell? ⟨S+1,0,none⟩=some (.string n)/\w9.cell? ⟨S+1,1,none⟩=some (.string t)/\w9.cell? ⟨S+1,2,none⟩=some va/\w9.cell? ⟨S+1,3,none⟩=some vk /\ Hid (rY w (.mk n t at_ ks) (.returned (.agg #[.string n,.string t,va,vk])) w9) /\ w3.cell? ⟨S+1,0,none⟩=some (.string ⟨#[]⟩)/\w3.cell? ⟨S+1,1,none⟩=some (.string ⟨#[]⟩)/\w3.cell? ⟨S+1,2,none⟩=some (.slice none 0 0)/\w3.cell? ⟨S+1,3,none⟩=some (.slice none 0 0)/\∀ j,w3.frozen? ⟨S+1,j,none⟩=false:=by
 have hf:=fA n t at_ ks hS.out z0.out b0.out k1.out b3.out hR
 exact ⟨_,rfl,hf.1.cell 0 _ rfl,hf.1.cell 1 _ rfl,hf.1.cell 2 _ rfl,hf.1.cell 3 _ rfl,hf.2,pJ (k1.out.below b3.out)⟩
theorem pW (l:List ByteArray) (W:jmj) (hl:l.length<=maxLen):Rd (·<(W.alloc (.cells (l.map Value.string).toArray 9)).heap.size) (W.alloc (.cells (l.map Value.string).toArray 9)) (fq l) [.slice (some ⟨W.heap.size,0,none⟩) l.length l.length]:=
 Rd.MB (B:=W.heap.size) (e:=9) ⟨by simp,.inr ⟨W.heap.size,l.length,(l.map Value.string).toArray,rfl,Nat.le_refl _,heap_alloc_new W _,Nat.le_refl _,hl,by simp,by
  show List.take (l.length*1) (l.map Value.string)=_;rw [List.take_of_length_le (by simp)]⟩⟩ (fun g hg=>by
   have e1:W.heap.size=g:=by simpa [Value.ownBlock] using hg
   simp;omega)
theorem P9 (k v:ByteArray) (W:jmj):Calls Tryz.prog 41 #[.slice (some ⟨W.heap.size,0,none⟩) 2 2] (W.alloc (.cells #[.string k,.string v] 9)) (bJ (W.alloc (.cells #[.string k,.string v] 9)) [⟨k,v⟩]):=
 ji [⟨k,v⟩] _ _ (pW [k,v] W (by unfold maxLen;simp)) (by simp)
theorem vw (k v k' v':ByteArray) (W:jmj):Calls Tryz.prog 41 #[.slice (some ⟨W.heap.size,0,none⟩) 4 4] (W.alloc (.cells #[.string k,.string v,.string k',.string v'] 9)) (bJ (W.alloc (.cells #[.string k,.string v,.string k',.string v'] 9)) [⟨k,v⟩,⟨k',v'⟩]):=
 ji [⟨k,v⟩,⟨k',v'⟩] _ _ (pW [k,v,k',v'] W (by unfold maxLen;simp)) (by simp)
theorem nD (W:jmj) (o:Obj):jmk W.heap.size W (W.alloc o).drew:=((jj8 _ _).alloc (Nat.le_refl _) _).drew
theorem Bc (k v:ByteArray) (W:jmj):Hid (Calls Tryz.prog 41 #[.slice (some ⟨W.heap.size,0,none⟩) 2 2] (W.alloc (.cells #[.string k,.string v] 9)).drew (bJ (W.alloc (.cells #[.string k,.string v] 9)).drew [⟨k,v⟩]))/\Hid (jmk W.heap.size W (W.alloc (.cells #[.string k,.string v] 9)).drew):=
 ⟨P9 k v W.drew,nD W _⟩
theorem Qs (k v k' v':ByteArray) (W:jmj):Hid (Calls Tryz.prog 41 #[.slice (some ⟨W.heap.size,0,none⟩) 4 4] (W.alloc (.cells #[.string k,.string v,.string k',.string v'] 9)).drew (bJ (W.alloc (.cells #[.string k,.string v,.string k',.string v'] 9)).drew [⟨k,v⟩,⟨k',v'⟩]))/\Hid (jmk W.heap.size W (W.alloc (.cells #[.string k,.string v,.string k',.string v'] 9)).drew):=
 ⟨vw k v k' v' W.drew,nD W _⟩
theorem Qt (k v k' v':ByteArray) {B:Nat} {W0 W:jmj} (h:Hid (jmk B W0 W)) (hB:B<=W.heap.size):Hid (Calls Tryz.prog 41 #[.slice (some ⟨W.heap.size,0,none⟩) 4 4] (W.alloc (.cells #[.string k,.string v,.string k',.string v'] 9)) (bJ (W.alloc (.cells #[.string k,.string v,.string k',.string v'] 9)) [⟨k,v⟩,⟨k',v'⟩]))/\Hid (jmk B W0 (W.alloc (.cells #[.string k,.string v,.string k',.string v'] 9))):=
 ⟨vw k v k' v' W,h.out.alloc hB _⟩
theorem AJ {S:Nat} {W0 w':jmj} {a:At} {vc vp:jmq} (h:AtR (·<S) W0 a vc vp) (hb:jmk W0.heap.size W0 w') (hS:S<=W0.heap.size):AtR (·<w'.heap.size) w' a vc vp:=
 ⟨Rd.keep (fun b (hb1:b<S) _=>⟨by have:=hb.size;omega,hb.block b (by omega)⟩) _ _ h.cls,Rd.keep (fun b (hb1:b<S) _=>⟨by have:=hb.size;omega,hb.block b (by omega)⟩) _ _ h.aJ⟩
theorem Vo {S:Nat} {W0:jmj} {a:At} {vc vp:jmq} (hS:S<=W0.heap.size) (h:AtR (·<S) W0 a vc vp):AtR (·<W0.drew.heap.size) W0.drew a vc vp:=
 ⟨Rd.keep (w:=W0) (w':=W0.drew) (ok:=(·<S)) (fun b (hb:b<S) _=>⟨(by show b<W0.heap.size;omega),rfl⟩) _ _ h.cls,Rd.keep (w:=W0) (w':=W0.drew) (ok:=(·<S)) (fun b (hb:b<S) _=>⟨(by show b<W0.heap.size;omega),rfl⟩) _ _ h.aJ⟩
theorem aC.slice3 {T:TypeId} {k U:Nat} {ok:Nat->Prop} {w0 w:jmj} {ds:List D} {rows:List (List jmq)} {v:jmq} (h:aC T k ok U w0 ds rows v w):∃ a n c,v=.slice a n c:=by obtain ⟨a,c,e⟩:=h.slice;exact ⟨a,_,c,e⟩
theorem Bg {k:Int} {t d ti:ByteArray} {a:At} {ar:List ByteArray} {ci:List Ci} {ks:List aj} (h:(aj.mk k t d ti a ar ci ks).small):([]++a.cls).length<=100/\∀ c∈[]++a.cls,c.size<=1000:=by rw [aj.small] at h;obtain ⟨-,-,-,h,-⟩:=h;unfold At.short at h;rw [List.nil_append];exact ⟨by omega,fun c hc=>by have:=h.2.2.2.1 c hc;omega⟩
def vB (k:Int):Prop:=∀ (t d ti:ByteArray) (at_:At) (ar:List ByteArray) (ci:List Ci) (ks:List aj) (vc vp va vi vk:jmq) (w:jmj),tT (·<w.heap.size) w at_ ar ci ks vc vp va vi vk->(aj.mk k t d ti at_ ar ci ks).small->DW w ks vk ->
 Calls Tryz.prog 130 #[.agg #[.int .i64 k,.string t,.string d,.string ti,.string at_.id,vc,vp,va,vi,vk]] w (rY w (aj.mk k t d ti at_ ar ci ks).nd)
theorem Vp:vB 2:=by
 intro t d ti at_ ar ci ks vc vp va vi vk w hR hs hl
 have E:Hid ((aj.mk 2 t d ti at_ ar ci ks).nd=LX U6):=by show _=_;rw [aj.nd];rfl
 rw [E.out];obtain ⟨ac,nc,cc,ap,np,cp,aa,na,ca,ai,ni,jU,ak,nk,ck,S,W0,rfl,rfl,rfl,rfl,rfl,HS,HW0,e0,SX,lS,HR,Z0,B0,K1⟩:=kK (.int .i64 2) t d ti hR hl;have jH:=hid hs;have hst:t.size<=300:=by rw [aj.small] at hs;exact hs.1
 clear hR hs hl E;go_enter Tryz.func130,Tryz.ntmps130;go_upto_region 3 with (fail)
 rw [<- HS.out];have hk0:=HW0.out;simp only [jI] at hk0;rw [<- hk0];clear hk0;have BL:Hid (jmk W0.heap.size W0 W0):=jj8 _ _;have f1:=K1.out;obtain ⟨w9,hw8,r0,r1,r2,r3,HP,x0,x1,x2,x3,xf⟩:=iq ⟨#[]⟩ ⟨#[32]⟩ [] [] HS Z0 B0 K1 BL ⟨Rd.aF _ _ _,Rd.aF _ _ _⟩;go_wp2;rw [<- hw8];exact bodyPost_ret (v:=.agg #[.string ⟨#[]⟩,.string ⟨#[32]⟩,(.slice none 0 0),(.slice none 0 0)]) (by simp [results,Tryz.results130,go_sem,r0,r1,r2,r3]) rfl HP.out
theorem MC (k:Int) (t d ti:ByteArray) (at_:At) (ar:List ByteArray) (ci:List Ci) (ks:List aj) (vc vp va vi vk:jmq) (w:jmj) (hR:tT (·<w.heap.size) w at_ ar ci ks vc vp va vi vk) (hs:(aj.mk k t d ti at_ ar ci ks).small) (hl:DW w ks vk) (hk:k≠2/\k≠3/\k≠4/\k≠5/\k≠6/\k≠7/\k≠8/\k≠9/\k≠10/\k≠11/\k≠12/\k≠16) : Calls Tryz.prog 130 #[.agg #[.int .i64 k,.string t,.string d,.string ti,.string at_.id,vc,vp,va,vi,vk]] w (rY w (aj.mk k t d ti at_ ar ci ks).nd):=by
 have E:Hid ((aj.mk k t d ti at_ ar ci ks).nd=LX t):=by show _=_;rw [aj.nd];obtain ⟨h2,h3,h4,h5,h6,h7,h8,h9,h10,h11,h12,h16⟩:=hk;rw [if_neg h2,if_neg h3,if_neg h4,if_neg h5,if_neg h6,if_neg h7,if_neg h8,if_neg h9,if_neg h10,if_neg h11,if_neg h12,if_neg h16]
 rw [E.out];obtain ⟨ac,nc,cc,ap,np,cp,aa,na,ca,ai,ni,jU,ak,nk,ck,S,W0,rfl,rfl,rfl,rfl,rfl,HS,HW0,e0,SX,lS,HR,Z0,B0,K1⟩:=kK (.int .i64 k) t d ti hR hl;have jH:=hid hs;have hst:t.size<=300:=by rw [aj.small] at hs;exact hs.1
 have q2:(k==2)=false:=by rw [beq_eq_false_iff_ne];exact hk.1
 have q3:(k==3)=false:=by rw [beq_eq_false_iff_ne];exact hk.2.1
 have q4:(k==4)=false:=by rw [beq_eq_false_iff_ne];exact hk.2.2.1
 have q5:(k==5)=false:=by rw [beq_eq_false_iff_ne];exact hk.2.2.2.1
 have q6:(k==6)=false:=by rw [beq_eq_false_iff_ne];exact hk.2.2.2.2.1
 have q7:(k==7)=false:=by rw [beq_eq_false_iff_ne];exact hk.2.2.2.2.2.1
 have q8:(k==8)=false:=by rw [beq_eq_false_iff_ne];exact hk.2.2.2.2.2.2.1
 have q9:(k==9)=false:=by rw [beq_eq_false_iff_ne];exact hk.2.2.2.2.2.2.2.1
 have q10:(k==10)=false:=by rw [beq_eq_false_iff_ne];exact hk.2.2.2.2.2.2.2.2.1
 have q11:(k==11)=false:=by rw [beq_eq_false_iff_ne];exact hk.2.2.2.2.2.2.2.2.2.1
 have q12:(k==12)=false:=by rw [beq_eq_false_iff_ne];exact hk.2.2.2.2.2.2.2.2.2.2.1
 have q16:(k==16)=false:=by rw [beq_eq_false_iff_ne];exact hk.2.2.2.2.2.2.2.2.2.2.2
 clear hk;clear hR hs hl E;go_enter Tryz.func130,Tryz.ntmps130;go_upto_region 27 with (fail)
 rw [<- HS.out];have hk0:=HW0.out;simp only [jI] at hk0;rw [<- hk0];clear hk0;have BL:Hid (jmk W0.heap.size W0 W0):=jj8 _ _;have g1:=(SX.out W0 (jj8 _ _)).1;obtain ⟨w9,hw8,r0,r1,r2,r3,HP,x0,x1,x2,x3,xf⟩:=iq ⟨#[]⟩ t [] [] HS Z0 B0 K1 BL ⟨Rd.aF _ _ _,Rd.aF _ _ _⟩;go_wp2;rw [<- hw8];exact bodyPost_ret (v:=.agg #[.string ⟨#[]⟩,.string t,(.slice none 0 0),(.slice none 0 0)]) (by simp [results,Tryz.results130,go_sem,r0,r1,r2,r3]) rfl HP.out
theorem Vq:vB 3:=by
 intro t d ti at_ ar ci ks vc vp va vi vk w hR hs hl
 have E:Hid ((aj.mk 3 t d ti at_ ar ci ks).nd=aQ nBr [] []):=by show _=_;rw [aj.nd];rfl
 rw [E.out];obtain ⟨ac,nc,cc,ap,np,cp,aa,na,ca,ai,ni,jU,ak,nk,ck,S,W0,rfl,rfl,rfl,rfl,rfl,HS,HW0,e0,SX,lS,HR,Z0,B0,K1⟩:=kK (.int .i64 3) t d ti hR hl;have jH:=hid hs;have hst:t.size<=300:=by rw [aj.small] at hs;exact hs.1
 clear hR hs hl E;go_enter Tryz.func130,Tryz.ntmps130;go_upto_region 5 with (fail)
 rw [<- HS.out];have hk0:=HW0.out;simp only [jI] at hk0;rw [<- hk0];clear hk0;have EC:=hid (ko ⟨#[98,114]⟩ none none 0 0 0 0 W0);have B4:Hid (jmk W0.heap.size W0 W0):=jj8 _ _;go_wp2_with fail
 (with_reducible refine EC.out.mono ?_)
 rintro e w5 ⟨rfl,b5⟩;have BL:=hid (aR B4.out b5);clear b5;obtain ⟨w9,hw8,r0,r1,r2,r3,HP,x0,x1,x2,x3,xf⟩:=iq ⟨#[98,114]⟩ ⟨#[]⟩ [] [] HS Z0 B0 K1 BL ⟨Rd.aF _ _ _,Rd.aF _ _ _⟩;go_wp2;rw [<- hw8];exact bodyPost_ret (v:=.agg #[.string ⟨#[98,114]⟩,.string ⟨#[]⟩,(.slice none 0 0),(.slice none 0 0)]) (by simp [results,Tryz.results130,go_sem,r0,r1,r2,r3]) rfl HP.out
theorem Vr:vB 4:=by
 intro t d ti at_ ar ci ks vc vp va vi vk w hR hs hl
 have E:Hid ((aj.mk 4 t d ti at_ ar ci ks).nd=aQ iR [] (bT t)):=by show _=_;rw [aj.nd];rfl
 rw [E.out];obtain ⟨ac,nc,cc,ap,np,cp,aa,na,ca,ai,ni,jU,ak,nk,ck,S,W0,rfl,rfl,rfl,rfl,rfl,HS,HW0,e0,SX,lS,HR,Z0,B0,K1⟩:=kK (.int .i64 4) t d ti hR hl;have jH:=hid hs;have hst:t.size<=300:=by rw [aj.small] at hs;exact hs.1
 clear hR hs hl E;go_enter Tryz.func130,Tryz.ntmps130;go_upto_region 7 with (fail)
 rw [<- HS.out];have hk0:=HW0.out;simp only [jI] at hk0;rw [<- hk0];clear hk0;have DC:=hid (fM t W0);have g1:=(SX.out W0 (jj8 _ _)).1;go_wp2_with fail
 (with_reducible refine DC.out.mono ?_)
 rintro e w4 ⟨dU,v4,rfl,hrow4⟩;obtain ⟨a4,n4,c4,rfl⟩:=hrow4.slice3;have b4:=hrow4.aP;have B4:=hid (aR (jj8 W0.heap.size W0) b4);have gy:=hid (show Rd (W0.heap.size<=·) w4 (cZ (bT t)) [.slice a4 n4 c4] from hrow4.fu.weaken (fun b hb=>jjj ((jj8 W0.heap.size W0)).size hb));have EC:=hid (ko ⟨#[99,111,100,101]⟩ none a4 0 n4 0 c4 w4);clear b4 hrow4 DC g1;go_wp2_with fail
 (with_reducible refine EC.out.mono ?_)
 rintro e w5 ⟨rfl,b5⟩;have BL:=hid (aR B4.out b5);have HN:=hid (show kU (W0.heap.size<=·) w5 [] (bT t) (.slice none 0 0) (.slice a4 n4 c4) from ⟨Rd.aF _ _ _,gy.out.aZ b5⟩);clear b5 gy EC;obtain ⟨w9,hw8,r0,r1,r2,r3,HP,x0,x1,x2,x3,xf⟩:=iq ⟨#[99,111,100,101]⟩ ⟨#[]⟩ [] (bT t) HS Z0 B0 K1 BL HN.out;go_wp2;rw [<- hw8];exact bodyPost_ret (v:=.agg #[.string ⟨#[99,111,100,101]⟩,.string ⟨#[]⟩,(.slice none 0 0),(.slice a4 n4 c4)]) (by simp [results,Tryz.results130,go_sem,r0,r1,r2,r3]) rfl HP.out
theorem Vs:vB 6:=by
 intro t d ti at_ ar ci ks vc vp va vi vk w hR hs hl
 have E:Hid ((aj.mk 6 t d ti at_ ar ci ks).nd=aQ nEm [] (jZ ks)):=by show _=_;rw [aj.nd];rfl
 rw [E.out];obtain ⟨ac,nc,cc,ap,np,cp,aa,na,ca,ai,ni,jU,ak,nk,ck,S,W0,rfl,rfl,rfl,rfl,rfl,HS,HW0,e0,SX,lS,HR,Z0,B0,K1⟩:=kK (.int .i64 6) t d ti hR hl;have jH:=hid hs;have hst:t.size<=300:=by rw [aj.small] at hs;exact hs.1
 clear hR hs hl E;go_enter Tryz.func130,Tryz.ntmps130;go_upto_region 11 with (fail)
 rw [<- HS.out];have hk0:=HW0.out;simp only [jI] at hk0;rw [<- hk0];clear hk0;have LC:=hid (lS.out W0 (jj8 _ _));have g9:=(SX.out W0 (jj8 _ _)).2.2.2.2.2.2;go_wp2_with fail
 (with_reducible refine LC.out.mono ?_)
 rintro e w4 ⟨dU,v4,rfl,hrow4⟩;obtain ⟨a4,n4,c4,rfl⟩:=hrow4.slice3;have b4:=hrow4.aP;have B4:=hid b4;have gy:=hid (show Rd (W0.heap.size<=·) w4 (cZ (jZ ks)) [.slice a4 n4 c4] from hrow4.fu);have EC:=hid (ko ⟨#[101,109]⟩ none a4 0 n4 0 c4 w4);clear b4 hrow4 LC g9;go_wp2_with fail
 (with_reducible refine EC.out.mono ?_)
 rintro e w5 ⟨rfl,b5⟩;have BL:=hid (aR B4.out b5);have HN:=hid (show kU (W0.heap.size<=·) w5 [] (jZ ks) (.slice none 0 0) (.slice a4 n4 c4) from ⟨Rd.aF _ _ _,gy.out.aZ b5⟩);clear b5 gy EC;obtain ⟨w9,hw8,r0,r1,r2,r3,HP,x0,x1,x2,x3,xf⟩:=iq ⟨#[101,109]⟩ ⟨#[]⟩ [] (jZ ks) HS Z0 B0 K1 BL HN.out;go_wp2;rw [<- hw8];exact bodyPost_ret (v:=.agg #[.string ⟨#[101,109]⟩,.string ⟨#[]⟩,(.slice none 0 0),(.slice a4 n4 c4)]) (by simp [results,Tryz.results130,go_sem,r0,r1,r2,r3]) rfl HP.out
theorem Vt:vB 7:=by
 intro t d ti at_ ar ci ks vc vp va vi vk w hR hs hl
 have E:Hid ((aj.mk 7 t d ti at_ ar ci ks).nd=aQ Iy [] (jZ ks)):=by show _=_;rw [aj.nd];rfl
 rw [E.out];obtain ⟨ac,nc,cc,ap,np,cp,aa,na,ca,ai,ni,jU,ak,nk,ck,S,W0,rfl,rfl,rfl,rfl,rfl,HS,HW0,e0,SX,lS,HR,Z0,B0,K1⟩:=kK (.int .i64 7) t d ti hR hl;have jH:=hid hs;have hst:t.size<=300:=by rw [aj.small] at hs;exact hs.1
 clear hR hs hl E;go_enter Tryz.func130,Tryz.ntmps130;go_upto_region 13 with (fail)
 rw [<- HS.out];have hk0:=HW0.out;simp only [jI] at hk0;rw [<- hk0];clear hk0;have LC:=hid (lS.out W0 (jj8 _ _));have g9:=(SX.out W0 (jj8 _ _)).2.2.2.2.2.2;go_wp2_with fail
 (with_reducible refine LC.out.mono ?_)
 rintro e w4 ⟨dU,v4,rfl,hrow4⟩;obtain ⟨a4,n4,c4,rfl⟩:=hrow4.slice3;have b4:=hrow4.aP;have B4:=hid b4;have gy:=hid (show Rd (W0.heap.size<=·) w4 (cZ (jZ ks)) [.slice a4 n4 c4] from hrow4.fu);have EC:=hid (ko ⟨#[115,116,114,111,110,103]⟩ none a4 0 n4 0 c4 w4);clear b4 hrow4 LC g9;go_wp2_with fail
 (with_reducible refine EC.out.mono ?_)
 rintro e w5 ⟨rfl,b5⟩;have BL:=hid (aR B4.out b5);have HN:=hid (show kU (W0.heap.size<=·) w5 [] (jZ ks) (.slice none 0 0) (.slice a4 n4 c4) from ⟨Rd.aF _ _ _,gy.out.aZ b5⟩);clear b5 gy EC;obtain ⟨w9,hw8,r0,r1,r2,r3,HP,x0,x1,x2,x3,xf⟩:=iq ⟨#[115,116,114,111,110,103]⟩ ⟨#[]⟩ [] (jZ ks) HS Z0 B0 K1 BL HN.out;go_wp2;rw [<- hw8];exact bodyPost_ret (v:=.agg #[.string ⟨#[115,116,114,111,110,103]⟩,.string ⟨#[]⟩,(.slice none 0 0),(.slice a4 n4 c4)]) (by simp [results,Tryz.results130,go_sem,r0,r1,r2,r3]) rfl HP.out
theorem Vu:vB 8:=by
 intro t d ti at_ ar ci ks vc vp va vi vk w hR hs hl
 have E:Hid ((aj.mk 8 t d ti at_ ar ci ks).nd=aQ nS [] (jZ ks)):=by show _=_;rw [aj.nd];rfl
 rw [E.out];obtain ⟨ac,nc,cc,ap,np,cp,aa,na,ca,ai,ni,jU,ak,nk,ck,S,W0,rfl,rfl,rfl,rfl,rfl,HS,HW0,e0,SX,lS,HR,Z0,B0,K1⟩:=kK (.int .i64 8) t d ti hR hl;have jH:=hid hs;have hst:t.size<=300:=by rw [aj.small] at hs;exact hs.1
 clear hR hs hl E;go_enter Tryz.func130,Tryz.ntmps130;go_upto_region 15 with (fail)
 rw [<- HS.out];have hk0:=HW0.out;simp only [jI] at hk0;rw [<- hk0];clear hk0;have LC:=hid (lS.out W0 (jj8 _ _));have g9:=(SX.out W0 (jj8 _ _)).2.2.2.2.2.2;go_wp2_with fail
 (with_reducible refine LC.out.mono ?_)
 rintro e w4 ⟨dU,v4,rfl,hrow4⟩;obtain ⟨a4,n4,c4,rfl⟩:=hrow4.slice3;have b4:=hrow4.aP;have B4:=hid b4;have gy:=hid (show Rd (W0.heap.size<=·) w4 (cZ (jZ ks)) [.slice a4 n4 c4] from hrow4.fu);have EC:=hid (ko ⟨#[115]⟩ none a4 0 n4 0 c4 w4);clear b4 hrow4 LC g9;go_wp2_with fail
 (with_reducible refine EC.out.mono ?_)
 rintro e w5 ⟨rfl,b5⟩;have BL:=hid (aR B4.out b5);have HN:=hid (show kU (W0.heap.size<=·) w5 [] (jZ ks) (.slice none 0 0) (.slice a4 n4 c4) from ⟨Rd.aF _ _ _,gy.out.aZ b5⟩);clear b5 gy EC;obtain ⟨w9,hw8,r0,r1,r2,r3,HP,x0,x1,x2,x3,xf⟩:=iq ⟨#[115]⟩ ⟨#[]⟩ [] (jZ ks) HS Z0 B0 K1 BL HN.out;go_wp2;rw [<- hw8];exact bodyPost_ret (v:=.agg #[.string ⟨#[115]⟩,.string ⟨#[]⟩,(.slice none 0 0),(.slice a4 n4 c4)]) (by simp [results,Tryz.results130,go_sem,r0,r1,r2,r3]) rfl HP.out
theorem Vv:vB 5:=by
 intro t d ti at_ ar ci ks vc vp va vi vk w hR hs hl
 have E:Hid ((aj.mk 5 t d ti at_ ar ci ks).nd=aQ Iz [⟨iw,zu⟩] (bT t)):=by show _=_;rw [aj.nd];rfl
 rw [E.out];obtain ⟨ac,nc,cc,ap,np,cp,aa,na,ca,ai,ni,jU,ak,nk,ck,S,W0,rfl,rfl,rfl,rfl,rfl,HS,HW0,e0,SX,lS,HR,Z0,B0,K1⟩:=kK (.int .i64 5) t d ti hR hl;have jH:=hid hs;have hst:t.size<=300:=by rw [aj.small] at hs;exact hs.1
 clear hR hs hl E;go_enter Tryz.func130,Tryz.ntmps130;go_upto_region 9 with (fail)
 rw [<- HS.out];have hk0:=HW0.out;simp only [jI] at hk0;rw [<- hk0];clear hk0;obtain ⟨PC,lV⟩:=Bc ⟨#[99,108,97,115,115]⟩ ⟨#[109,97,116,104]⟩ W0;have SF:=hid (fun (w':jmj) (hb:jmk W0.heap.size W0 w')=>((SX.out w' hb).1:w'.cell? ⟨S,1,none⟩=some (.string t)));have S0:=SF.out _ (jj8 _ _).drew;have S1:=SF.out _ lV.out;have U0:Hid (∀ W:jmj,Calls Tryz.prog 53 #[.string t] W (dn W (bT t))):=fun W=>fM t W
 go_wp2_with fail
 go_region_held3 (fun w'=>w'.cell? ⟨S,1,none⟩=some (.string t))
  (with_reducible assumption)
  (first
   | (go_simp;go_at_call 41;(with_reducible refine PC.out.mono ?_);rintro e w2 ⟨bR,v2,rfl,hrow2⟩;obtain ⟨a2,c2,rfl,-,-⟩:=hrow2.cap (n:=1) rfl;have B2:=hid (lV.out.trans (hrow2.aP.mono lV.out.size));have uR:=hid (show Rd (W0.heap.size<=·) w2 (bS [⟨iw,zu⟩]) [.slice a2 1 c2] from hrow2.fu.weaken (fun b hb=>jjj lV.out.size hb));have S2:=SF.out w2 B2.out;have DC:=hid (U0.out w2))
   | (go_simp;go_at_call 53;(with_reducible refine DC.out.mono ?_);rintro e w4 ⟨dU,v4,rfl,hrow4⟩;obtain ⟨a4,n4,c4,rfl⟩:=hrow4.slice3;have b4:=hrow4.aP;have B4:=hid (aR B2.out b4);have gy:=hid (show Rd (W0.heap.size<=·) w4 (cZ (bT t)) [.slice a4 n4 c4] from hrow4.fu.weaken (fun b hb=>jjj (B2.out).size hb));have oI:=hid (uR.out.aZ b4);have S4:=SF.out w4 B4.out;have EC:=hid (ko ⟨#[115,112,97,110]⟩ a2 a4 1 n4 c2 c4 w4))
   | (go_simp;go_at_call 40;(with_reducible refine EC.out.mono ?_);rintro e w5 ⟨rfl,b5⟩;have BL:=hid (aR B4.out b5);obtain ⟨x0,x1,x2,x3,xf⟩:=pJ (K1.out.below BL.out);have S5:=SF.out w5 BL.out;have K6:=rZ S w5 (.string ⟨#[115,112,97,110]⟩) (.string ⟨#[]⟩) (.slice a2 1 c2) (.slice a4 n4 c4);have S6:=K6 _ _ (SF.out w5 BL.out);clear K6))
 all_goals
  have HN:=hid (show kU (W0.heap.size<=·) w5 [⟨iw,zu⟩] (bT t) (.slice a2 1 c2) (.slice a4 n4 c4) from ⟨oI.out.aZ b5,gy.out.aZ b5⟩);clear b5 gy EC oI hrow2 hrow4 b4 S0 S1 S2 S4 S5 S6 uR;obtain ⟨w9,bO⟩:∃ w9,w9=four w5 (S+1) (.string ⟨#[115,112,97,110]⟩) (.string ⟨#[]⟩) (.slice a2 1 c2) (.slice a4 n4 c4):=⟨_,rfl⟩;have hf:=fA ⟨#[115,112,97,110]⟩ ⟨#[]⟩ [⟨iw,zu⟩] (bT t) HS.out Z0.out B0.out K1.out BL.out HN.out;rw [<- bO] at hf;have HC:=hid hf.1;have HP:=hid hf.2;clear hf;have hw8:=bO;simp only [four] at hw8;clear bO;obtain ⟨x0,x1,x2,x3,xf⟩:=pJ (K1.out.below BL.out);go_wp2;rw [<- hw8];have r0:=HC.out.cell 0 _ rfl;have r1:=HC.out.cell 1 _ rfl;have r2:=HC.out.cell 2 _ rfl;have r3:=HC.out.cell 3 _ rfl;exact bodyPost_ret (v:=.agg #[.string ⟨#[115,112,97,110]⟩,.string ⟨#[]⟩,(.slice a2 1 c2),(.slice a4 n4 c4)]) (by simp [results,Tryz.results130,go_sem,r0,r1,r2,r3]) rfl HP.out
theorem Qu:vB 12:=by
 intro t d ti at_ ar ci ks vc vp va vi vk w hR hs hl
 have E:Hid ((aj.mk 12 t d ti at_ ar ci ks).nd=aQ nA [⟨iA,vC++t⟩,⟨iw,mJ⟩] (bT t)):=by show _=_;rw [aj.nd];rfl
 rw [E.out];obtain ⟨ac,nc,cc,ap,np,cp,aa,na,ca,ai,ni,jU,ak,nk,ck,S,W0,rfl,rfl,rfl,rfl,rfl,HS,HW0,e0,SX,lS,HR,Z0,B0,K1⟩:=kK (.int .i64 12) t d ti hR hl;have jH:=hid hs;have hst:t.size<=300:=by rw [aj.small] at hs;exact hs.1
 clear hR hs hl E;go_enter Tryz.func130,Tryz.ntmps130;go_upto_region 24 with (fail)
 rw [<- HS.out];have hk0:=HW0.out;simp only [jI] at hk0;rw [<- hk0];clear hk0;obtain ⟨PC,lV⟩:=Qs ⟨#[104,114,101,102]⟩ (⟨#[35,110,111,116,101,45]⟩++t) ⟨#[99,108,97,115,115]⟩ ⟨#[110,111,116,101,114,101,102]⟩ W0;have SF:=hid (fun (w':jmj) (hb:jmk W0.heap.size W0 w')=>((SX.out w' hb).1:w'.cell? ⟨S,1,none⟩=some (.string t)));have S0:=SF.out _ (jj8 _ _).drew;have S1:=SF.out _ lV.out;have U0:Hid (∀ W:jmj,Calls Tryz.prog 53 #[.string t] W (dn W (bT t))):=fun W=>fM t W
 have q5:(⟨#[35,110,111,116,101,45]⟩:ByteArray).size+t.size<=9223372036854775807:=by have:(⟨#[35,110,111,116,101,45]⟩:ByteArray).size=6:=rfl;omega
 have q6:6+t.size<=9223372036854775807:=by omega
 have hadd:∀ w:jmj,(Op.stringOp .add (⟨#[35,110,111,116,101,45]⟩:ByteArray) t).run Tryz.prog w=.ok (.string (⟨#[35,110,111,116,101,45]⟩++t)) w:=fun w=>run_string_add_sum w _ _ q5
 go_wp2_with fail
 go_region_held3 (fun w'=>w'.cell? ⟨S,1,none⟩=some (.string t))
  (with_reducible assumption)
  (first
   | (go_simp;go_at_call 41;(with_reducible refine PC.out.mono ?_);rintro e w2 ⟨bR,v2,rfl,hrow2⟩;obtain ⟨a2,c2,rfl,-,-⟩:=hrow2.cap (n:=2) rfl;have B2:=hid (lV.out.trans (hrow2.aP.mono lV.out.size));have uR:=hid (show Rd (W0.heap.size<=·) w2 (bS [⟨iA,vC++t⟩,⟨iw,mJ⟩]) [.slice a2 2 c2] from hrow2.fu.weaken (fun b hb=>jjj lV.out.size hb));have S2:=SF.out w2 B2.out;have DC:=hid (U0.out w2))
   | (go_simp;go_at_call 53;(with_reducible refine DC.out.mono ?_);rintro e w4 ⟨dU,v4,rfl,hrow4⟩;obtain ⟨a4,n4,c4,rfl⟩:=hrow4.slice3;have b4:=hrow4.aP;have B4:=hid (aR B2.out b4);have gy:=hid (show Rd (W0.heap.size<=·) w4 (cZ (bT t)) [.slice a4 n4 c4] from hrow4.fu.weaken (fun b hb=>jjj (B2.out).size hb));have oI:=hid (uR.out.aZ b4);have S4:=SF.out w4 B4.out;have EC:=hid (ko ⟨#[97]⟩ a2 a4 2 n4 c2 c4 w4))
   | (go_simp;go_at_call 40;(with_reducible refine EC.out.mono ?_);rintro e w5 ⟨rfl,b5⟩;have BL:=hid (aR B4.out b5);obtain ⟨x0,x1,x2,x3,xf⟩:=pJ (K1.out.below BL.out);have S5:=SF.out w5 BL.out;have K6:=rZ S w5 (.string ⟨#[97]⟩) (.string ⟨#[]⟩) (.slice a2 2 c2) (.slice a4 n4 c4);have S6:=K6 _ _ (SF.out w5 BL.out);clear K6))
 all_goals
  have HN:=hid (show kU (W0.heap.size<=·) w5 [⟨iA,vC++t⟩,⟨iw,mJ⟩] (bT t) (.slice a2 2 c2) (.slice a4 n4 c4) from ⟨oI.out.aZ b5,gy.out.aZ b5⟩);clear b5 gy EC oI hrow2 hrow4 b4 S0 S1 S2 S4 S5 S6 uR;obtain ⟨w9,bO⟩:∃ w9,w9=four w5 (S+1) (.string ⟨#[97]⟩) (.string ⟨#[]⟩) (.slice a2 2 c2) (.slice a4 n4 c4):=⟨_,rfl⟩;have hf:=fA ⟨#[97]⟩ ⟨#[]⟩ [⟨iA,vC++t⟩,⟨iw,mJ⟩] (bT t) HS.out Z0.out B0.out K1.out BL.out HN.out;rw [<- bO] at hf;have HC:=hid hf.1;have HP:=hid hf.2;clear hf;have hw8:=bO;simp only [four] at hw8;clear bO;obtain ⟨x0,x1,x2,x3,xf⟩:=pJ (K1.out.below BL.out);go_wp2;rw [<- hw8];have r0:=HC.out.cell 0 _ rfl;have r1:=HC.out.cell 1 _ rfl;have r2:=HC.out.cell 2 _ rfl;have r3:=HC.out.cell 3 _ rfl;exact bodyPost_ret (v:=.agg #[.string ⟨#[97]⟩,.string ⟨#[]⟩,(.slice a2 2 c2),(.slice a4 n4 c4)]) (by simp [results,Tryz.results130,go_sem,r0,r1,r2,r3]) rfl HP.out
theorem Qv:vB 16:=by
 intro t d ti at_ ar ci ks vc vp va vi vk w hR hs hl
 have E:Hid ((aj.mk 16 t d ti at_ ar ci ks).nd=aQ nA [⟨iA,d⟩] (bT d)):=by show _=_;rw [aj.nd];rfl
 rw [E.out];obtain ⟨ac,nc,cc,ap,np,cp,aa,na,ca,ai,ni,jU,ak,nk,ck,S,W0,rfl,rfl,rfl,rfl,rfl,HS,HW0,e0,SX,lS,HR,Z0,B0,K1⟩:=kK (.int .i64 16) t d ti hR hl;have jH:=hid hs;have hst:t.size<=300:=by rw [aj.small] at hs;exact hs.1
 clear hR hs hl E;go_enter Tryz.func130,Tryz.ntmps130;go_upto_region 26 with (fail)
 rw [<- HS.out];have hk0:=HW0.out;simp only [jI] at hk0;rw [<- hk0];clear hk0;obtain ⟨PC,lV⟩:=Bc ⟨#[104,114,101,102]⟩ d W0;have SF:=hid (fun (w':jmj) (hb:jmk W0.heap.size W0 w')=>((SX.out w' hb).2.1:w'.cell? ⟨S,2,none⟩=some (.string d)));have S0:=SF.out _ (jj8 _ _).drew;have S1:=SF.out _ lV.out;have U0:Hid (∀ W:jmj,Calls Tryz.prog 53 #[.string d] W (dn W (bT d))):=fun W=>fM d W
 go_wp2_with fail
 go_region_held3 (fun w'=>w'.cell? ⟨S,2,none⟩=some (.string d))
  (with_reducible assumption)
  (first
   | (go_simp;go_at_call 41;(with_reducible refine PC.out.mono ?_);rintro e w2 ⟨bR,v2,rfl,hrow2⟩;obtain ⟨a2,c2,rfl,-,-⟩:=hrow2.cap (n:=1) rfl;have B2:=hid (lV.out.trans (hrow2.aP.mono lV.out.size));have uR:=hid (show Rd (W0.heap.size<=·) w2 (bS [⟨iA,d⟩]) [.slice a2 1 c2] from hrow2.fu.weaken (fun b hb=>jjj lV.out.size hb));have S2:=SF.out w2 B2.out;have DC:=hid (U0.out w2))
   | (go_simp;go_at_call 53;(with_reducible refine DC.out.mono ?_);rintro e w4 ⟨dU,v4,rfl,hrow4⟩;obtain ⟨a4,n4,c4,rfl⟩:=hrow4.slice3;have b4:=hrow4.aP;have B4:=hid (aR B2.out b4);have gy:=hid (show Rd (W0.heap.size<=·) w4 (cZ (bT d)) [.slice a4 n4 c4] from hrow4.fu.weaken (fun b hb=>jjj (B2.out).size hb));have oI:=hid (uR.out.aZ b4);have S4:=SF.out w4 B4.out;have EC:=hid (ko ⟨#[97]⟩ a2 a4 1 n4 c2 c4 w4))
   | (go_simp;go_at_call 40;(with_reducible refine EC.out.mono ?_);rintro e w5 ⟨rfl,b5⟩;have BL:=hid (aR B4.out b5);obtain ⟨x0,x1,x2,x3,xf⟩:=pJ (K1.out.below BL.out);have S5:=SF.out w5 BL.out;have K6:=rZ S w5 (.string ⟨#[97]⟩) (.string ⟨#[]⟩) (.slice a2 1 c2) (.slice a4 n4 c4);have S6:=K6 _ _ (SF.out w5 BL.out);clear K6))
 all_goals
  have HN:=hid (show kU (W0.heap.size<=·) w5 [⟨iA,d⟩] (bT d) (.slice a2 1 c2) (.slice a4 n4 c4) from ⟨oI.out.aZ b5,gy.out.aZ b5⟩);clear b5 gy EC oI hrow2 hrow4 b4 S0 S1 S2 S4 S5 S6 uR;obtain ⟨w9,bO⟩:∃ w9,w9=four w5 (S+1) (.string ⟨#[97]⟩) (.string ⟨#[]⟩) (.slice a2 1 c2) (.slice a4 n4 c4):=⟨_,rfl⟩;have hf:=fA ⟨#[97]⟩ ⟨#[]⟩ [⟨iA,d⟩] (bT d) HS.out Z0.out B0.out K1.out BL.out HN.out;rw [<- bO] at hf;have HC:=hid hf.1;have HP:=hid hf.2;clear hf;have hw8:=bO;simp only [four] at hw8;clear bO;obtain ⟨x0,x1,x2,x3,xf⟩:=pJ (K1.out.below BL.out);go_wp2;rw [<- hw8];have r0:=HC.out.cell 0 _ rfl;have r1:=HC.out.cell 1 _ rfl;have r2:=HC.out.cell 2 _ rfl;have r3:=HC.out.cell 3 _ rfl;exact bodyPost_ret (v:=.agg #[.string ⟨#[97]⟩,.string ⟨#[]⟩,(.slice a2 1 c2),(.slice a4 n4 c4)]) (by simp [results,Tryz.results130,go_sem,r0,r1,r2,r3]) rfl HP.out
theorem Vw:vB 9:=by
 intro t d ti at_ ar ci ks vc vp va vi vk w hR hs hl
 have E:Hid ((aj.mk 9 t d ti at_ ar ci ks).nd=aQ nA (⟨iA,d⟩::jG dM ti) (jZ ks)):=by show _=_;rw [aj.nd];rfl
 rw [E.out];obtain ⟨ac,nc,cc,ap,np,cp,aa,na,ca,ai,ni,jU,ak,nk,ck,S,W0,rfl,rfl,rfl,rfl,rfl,HS,HW0,e0,SX,lS,HR,Z0,B0,K1⟩:=kK (.int .i64 9) t d ti hR hl;have jH:=hid hs;have hst:t.size<=300:=by rw [aj.small] at hs;exact hs.1
 clear hR hs hl E;go_enter Tryz.func130,Tryz.ntmps130;go_upto_region 17 with (fail)
 rw [<- HS.out];have hk0:=HW0.out;simp only [jI] at hk0;rw [<- hk0];clear hk0;obtain ⟨PC,lV⟩:=Bc ⟨#[104,114,101,102]⟩ d W0;have SF:=hid (fun (w':jmj) (hb:jmk W0.heap.size W0 w')=>(⟨(SX.out w' hb).2.1,(SX.out w' hb).2.2.1,(SX.out w' hb).2.2.2.2.2.2⟩:w'.cell? ⟨S,2,none⟩=some (.string d)/\w'.cell? ⟨S,3,none⟩=some (.string ti)/\w'.cell? ⟨S,9,none⟩=some (.slice ak nk ck)));have S0:=SF.out _ (jj8 _ _).drew;have S1:=SF.out _ lV.out;go_wp2_with fail
 go_region_held3 (fun w'=>w'.cell? ⟨S,2,none⟩=some (.string d)/\w'.cell? ⟨S,3,none⟩=some (.string ti)/\w'.cell? ⟨S,9,none⟩=some (.slice ak nk ck))
  (with_reducible assumption)
  (first
   | (go_simp;go_at_call 41;(with_reducible refine PC.out.mono ?_);rintro e w2 ⟨bR,v2,rfl,hrow2⟩;obtain ⟨a2,c2,rfl,-,-⟩:=hrow2.cap (n:=1) rfl;have B2:=hid (lV.out.trans (hrow2.aP.mono lV.out.size));have uR:=hid (show Rd (W0.heap.size<=·) w2 (bS [⟨iA,d⟩]) [.slice a2 1 c2] from hrow2.fu.weaken (fun b hb=>jjj lV.out.size hb));have S2:=SF.out w2 B2.out;have TC:=hid (uO [⟨iA,d⟩] ti _ bR _ _ w2 hrow2 (by simp)))
   | (go_simp;go_at_call 163;(with_reducible refine TC.out.mono ?_);rintro e w3 ⟨gD,v3,rfl,hrow3,hg3⟩;obtain ⟨a3,n3,c3,rfl⟩:=hrow3.slice3;have B3:=hid (lV.out.trans (hrow3.aP.mono lV.out.size));have AL:=hid (show Rd (W0.heap.size<=·) w3 (bS ([⟨iA,d⟩]++jG dM ti)) [.slice a3 n3 c3] from hrow3.fu.weaken (fun b hb=>jjj lV.out.size hb));have S3:=SF.out w3 B3.out;have LC:=hid (lS.out w3 B3.out))
   | (go_simp;go_at_call 78;(with_reducible refine LC.out.mono ?_);rintro e w4 ⟨dU,v4,rfl,hrow4⟩;obtain ⟨a4,n4,c4,rfl⟩:=hrow4.slice3;have b4:=hrow4.aP;have B4:=hid (aR B3.out b4);have gy:=hid (show Rd (W0.heap.size<=·) w4 (cZ (jZ ks)) [.slice a4 n4 c4] from hrow4.fu.weaken (fun b hb=>jjj B3.out.size hb));have oI:=hid (AL.out.aZ b4);have S4:=SF.out w4 B4.out;have EC:=hid (ko ⟨#[97]⟩ a3 a4 n3 n4 c3 c4 w4))
   | (go_simp;go_at_call 40;(with_reducible refine EC.out.mono ?_);rintro e w5 ⟨rfl,b5⟩;have BL:=hid (aR B4.out b5);obtain ⟨x0,x1,x2,x3,xf⟩:=pJ (K1.out.below BL.out);have S5:=SF.out w5 BL.out;have K6:=rZ S w5 (.string ⟨#[97]⟩) (.string ⟨#[]⟩) (.slice a3 n3 c3) (.slice a4 n4 c4);have S6:=And.imp (K6 _ _) (And.imp (K6 _ _) (K6 _ _)) (SF.out w5 BL.out);clear K6))
 all_goals
  have HN:=hid (show kU (W0.heap.size<=·) w5 ([⟨iA,d⟩]++jG dM ti) (jZ ks) (.slice a3 n3 c3) (.slice a4 n4 c4) from ⟨oI.out.aZ b5,gy.out.aZ b5⟩);clear b5 gy EC oI hrow2 hrow3 hrow4 hg3 b4 S0 S1 S2 S3 S4 S5 S6 uR AL;obtain ⟨w9,bO⟩:∃ w9,w9=four w5 (S+1) (.string ⟨#[97]⟩) (.string ⟨#[]⟩) (.slice a3 n3 c3) (.slice a4 n4 c4):=⟨_,rfl⟩;have hf:=fA ⟨#[97]⟩ ⟨#[]⟩ ([⟨iA,d⟩]++jG dM ti) (jZ ks) HS.out Z0.out B0.out K1.out BL.out HN.out;rw [<- bO] at hf;have HC:=hid hf.1;have HP:=hid hf.2;clear hf;have hw8:=bO;simp only [four] at hw8;clear bO;obtain ⟨x0,x1,x2,x3,xf⟩:=pJ (K1.out.below BL.out);go_wp2;rw [<- hw8];have r0:=HC.out.cell 0 _ rfl;have r1:=HC.out.cell 1 _ rfl;have r2:=HC.out.cell 2 _ rfl;have r3:=HC.out.cell 3 _ rfl;exact bodyPost_ret (v:=.agg #[.string ⟨#[97]⟩,.string ⟨#[]⟩,(.slice a3 n3 c3),(.slice a4 n4 c4)]) (by simp [results,Tryz.results130,go_sem,r0,r1,r2,r3]) rfl HP.out
theorem Qw:vB 11:=by
 intro t d ti at_ ar ci ks vc vp va vi vk w hR hs hl
 have E:Hid ((aj.mk 11 t d ti at_ ar ci ks).nd=aQ Iz (lC at_ []) (jZ ks)):=by show _=_;rw [aj.nd];rfl
 rw [E.out];obtain ⟨ac,nc,cc,ap,np,cp,aa,na,ca,ai,ni,jU,ak,nk,ck,S,W0,rfl,rfl,rfl,rfl,rfl,HS,HW0,e0,SX,lS,HR,Z0,B0,K1⟩:=kK (.int .i64 11) t d ti hR hl;have jH:=hid hs;have hst:t.size<=300:=by rw [aj.small] at hs;exact hs.1
 clear hR hs hl E;go_enter Tryz.func130,Tryz.ntmps130;go_upto_region 22 with (fail)
 rw [<- HS.out];have hk0:=HW0.out;simp only [jI] at hk0;rw [<- hk0];clear hk0;have AC:=hid (Yq at_ [] (.slice ac nc cc) (.slice ap np cp) (.slice none 0 0) W0.drew W0.drew nZ.nil (Vo (by have:=Z0.out;omega) HR.out.at_) (Bg jH.out).1 (Bg jH.out).2);have SF:=hid (fun (w':jmj) (hb:jmk W0.heap.size W0 w')=>(⟨(SX.out w' hb).2.2.2.1,(SX.out w' hb).2.2.2.2.1,(SX.out w' hb).2.2.2.2.2.1,(SX.out w' hb).2.2.2.2.2.2⟩:w'.cell? ⟨S,4,none⟩=some (.string at_.id)/\w'.cell? ⟨S,5,none⟩=some (.slice ac nc cc)/\w'.cell? ⟨S,6,none⟩=some (.slice ap np cp)/\w'.cell? ⟨S,9,none⟩=some (.slice ak nk ck)));have S0:=SF.out _ (jj8 _ _).drew;go_wp2_with fail
 go_region_held3 (fun w'=>w'.cell? ⟨S,4,none⟩=some (.string at_.id)/\w'.cell? ⟨S,5,none⟩=some (.slice ac nc cc)/\w'.cell? ⟨S,6,none⟩=some (.slice ap np cp)/\w'.cell? ⟨S,9,none⟩=some (.slice ak nk ck))
  (with_reducible assumption)
  (first
   | (go_simp;go_at_call 137;(with_reducible refine AC.out.mono ?_);rintro e w3 ⟨gD,v3,rfl,hrow3⟩;obtain ⟨a3,n3,c3,rfl⟩:=hrow3.slice3;have B3:Hid (jmk W0.heap.size W0 w3):=((jj8 W0.heap.size W0).drew).trans hrow3.aP;have AL:Hid (Rd (W0.heap.size<=·) w3 (bS (lC at_ [])) [.slice a3 n3 c3]):=hrow3.fu;have S3:=SF.out w3 B3.out;have LC:=hid (lS.out w3 B3.out))
   | (go_simp;go_at_call 78;(with_reducible refine LC.out.mono ?_);rintro e w4 ⟨dU,v4,rfl,hrow4⟩;obtain ⟨a4,n4,c4,rfl⟩:=hrow4.slice3;have b4:=hrow4.aP;have B4:=hid (aR B3.out b4);have gy:=hid (show Rd (W0.heap.size<=·) w4 (cZ (jZ ks)) [.slice a4 n4 c4] from hrow4.fu.weaken (fun b hb=>jjj B3.out.size hb));have oI:=hid (AL.out.aZ b4);have S4:=SF.out w4 B4.out;have EC:=hid (ko ⟨#[115,112,97,110]⟩ a3 a4 n3 n4 c3 c4 w4))
   | (go_simp;go_at_call 40;(with_reducible refine EC.out.mono ?_);rintro e w5 ⟨rfl,b5⟩;have BL:=hid (aR B4.out b5);obtain ⟨x0,x1,x2,x3,xf⟩:=pJ (K1.out.below BL.out);have S5:=SF.out w5 BL.out;have K6:=rZ S w5 (.string ⟨#[115,112,97,110]⟩) (.string ⟨#[]⟩) (.slice a3 n3 c3) (.slice a4 n4 c4);have S6:=And.imp (K6 _ _) (And.imp (K6 _ _) (And.imp (K6 _ _) (K6 _ _))) (SF.out w5 BL.out);clear K6))
 all_goals
  have HN:=hid (show kU (W0.heap.size<=·) w5 (lC at_ []) (jZ ks) (.slice a3 n3 c3) (.slice a4 n4 c4) from ⟨oI.out.aZ b5,gy.out.aZ b5⟩);clear b5 gy EC oI hrow3 hrow4 b4 S0 S3 S4 S5 S6 AL;obtain ⟨w9,bO⟩:∃ w9,w9=four w5 (S+1) (.string ⟨#[115,112,97,110]⟩) (.string ⟨#[]⟩) (.slice a3 n3 c3) (.slice a4 n4 c4):=⟨_,rfl⟩;have hf:=fA ⟨#[115,112,97,110]⟩ ⟨#[]⟩ (lC at_ []) (jZ ks) HS.out Z0.out B0.out K1.out BL.out HN.out;rw [<- bO] at hf;have HC:=hid hf.1;have HP:=hid hf.2;clear hf;have hw8:=bO;simp only [four] at hw8;clear bO;obtain ⟨x0,x1,x2,x3,xf⟩:=pJ (K1.out.below BL.out);go_wp2;rw [<- hw8];have r0:=HC.out.cell 0 _ rfl;have r1:=HC.out.cell 1 _ rfl;have r2:=HC.out.cell 2 _ rfl;have r3:=HC.out.cell 3 _ rfl;exact bodyPost_ret (v:=.agg #[.string ⟨#[115,112,97,110]⟩,.string ⟨#[]⟩,(.slice a3 n3 c3),(.slice a4 n4 c4)]) (by simp [results,Tryz.results130,go_sem,r0,r1,r2,r3]) rfl HP.out
theorem Qx (t d ti:ByteArray) (at_:At) (ar:List ByteArray) (ci:List Ci) (ks:List aj) (vc vp va vi vk:jmq) (w:jmj) (hR:tT (·<w.heap.size) w at_ ar ci ks vc vp va vi vk) (hs:(aj.mk (10:Int) t d ti at_ ar ci ks).small) (hl:DW w ks vk) (hz:aj.aV ks<=1000000) : Calls Tryz.prog 130 #[.agg #[.int .i64 10,.string t,.string d,.string ti,.string at_.id,vc,vp,va,vi,vk]] w (rY w (aj.mk (10:Int) t d ti at_ ar ci ks).nd):=by
 have E:Hid ((aj.mk 10 t d ti at_ ar ci ks).nd=aQ YR ([⟨DZ,d⟩,⟨D5,mK ks⟩]++jG dM ti++lC at_ []) []):=by show _=_;rw [aj.nd];rfl
 rw [E.out];obtain ⟨ac,nc,cc,ap,np,cp,aa,na,ca,ai,ni,jU,ak,nk,ck,S,W0,rfl,rfl,rfl,rfl,rfl,HS,HW0,e0,SX,lS,HR,Z0,B0,K1⟩:=kK (.int .i64 10) t d ti hR hl;have jH:=hid hs;have hst:t.size<=300:=by rw [aj.small] at hs;exact hs.1
 clear hR hs hl E;go_enter Tryz.func130,Tryz.ntmps130;go_upto_region 19 with (fail)
 rw [<- HS.out];have hk0:=HW0.out;simp only [jI] at hk0;rw [<- hk0];clear hk0;have hpl:(aj.aO ks).length<=1000000000:=by have h:=jH.out;rw [aj.small] at h;have:=aj.qO ks h.2.2.2.2.2.2.2.2;omega
 have PL:=hid (Fu ks (.slice ak nk ck) W0.drew (Rd.keep (w:=W0) (w':=W0.drew) (ok:=(·<S)) (fun b (hb:b<S) _=>⟨by have:=Z0.out;show b<W0.heap.size;omega,rfl⟩) _ _ HR.out.kids) hpl);have SF:=hid (fun (w':jmj) (hb:jmk W0.heap.size W0 w')=>(⟨(SX.out w' hb).2.1,(SX.out w' hb).2.2.1,(SX.out w' hb).2.2.2.2.2.2⟩:w'.cell? ⟨S,2,none⟩=some (.string d)/\w'.cell? ⟨S,3,none⟩=some (.string ti)/\w'.cell? ⟨S,9,none⟩=some (.slice ak nk ck)));have S0:=SF.out _ (jj8 _ _).drew;clear hpl;go_wp2_with fail
 go_region_held3 (fun w'=>w'.cell? ⟨S,2,none⟩=some (.string d)/\w'.cell? ⟨S,3,none⟩=some (.string ti)/\w'.cell? ⟨S,9,none⟩=some (.slice ak nk ck))
  (with_reducible assumption)
  (first
   | (go_simp;go_at_call 164;(with_reducible refine PL.out.mono ?_);rintro e w1 ⟨rfl,b1⟩;have B1:Hid (jmk W0.heap.size W0 w1):=((jj8 W0.heap.size W0).drew).trans b1;obtain ⟨PC,lV⟩:=Qt ⟨#[115,114,99]⟩ d ⟨#[97,108,116]⟩ ⟨(aj.aO ks).toArray⟩ B1 B1.out.size;have S1:=SF.out w1 B1.out;have S1a:=SF.out _ lV.out)
   | (go_simp;go_at_call 41;(with_reducible refine PC.out.mono ?_);rintro e w2 ⟨bR,v2,rfl,hrow2⟩;obtain ⟨a2,c2,rfl,-,-⟩:=hrow2.cap (n:=2) rfl;have B2:=hid (lV.out.trans (hrow2.aP.mono lV.out.size));have uR:=hid (show Rd (W0.heap.size<=·) w2 (bS [⟨DZ,d⟩,⟨D5,mK ks⟩]) [.slice a2 2 c2] from hrow2.fu.weaken (fun b hb=>jjj lV.out.size hb));have BWX:=lV;have S2:=SF.out w2 B2.out;have TC:=hid (uO [⟨DZ,d⟩,⟨D5,mK ks⟩] ti _ bR _ _ w2 hrow2 (by simp)))
   | (go_simp;go_at_call 163;(with_reducible refine TC.out.mono ?_);rintro e w3 ⟨gD,v3,rfl,hrow3,hg3⟩;have B3:=hid (lV.out.trans (hrow3.aP.mono lV.out.size));have S3:=SF.out w3 B3.out))
 all_goals
  obtain ⟨m3,Pw⟩:∃ m,m=(List.map Pr.d ([⟨DZ,d⟩,⟨D5,mK ks⟩]++jG dM ti)).length:=⟨_,rfl⟩;obtain ⟨a3,c3,rfl,-,-⟩:=hrow3.cap Pw.symm;have jc9:m3<=3:=by rw [Pw];unfold jG;split<;>simp
  have Xu:=hid Pw.symm;have U3:=hid hrow3;obtain ⟨-,-,-,g4,g5,g6,-⟩:=SX.out w3 B3.out;have AC:=hid (Yq at_ [] (.slice ac nc cc) (.slice ap np cp) (.slice none 0 0) w3 w3 nZ.nil (AJ HR.out.at_ B3.out (by have:=Z0.out;omega)) (Bg jH.out).1 (Bg jH.out).2);clear Pw hrow3 hrow2 hg3 b1 S0 S1 S1a S2 S3 PL PC TC uR lV B2;go_wp2_with fail
  (with_reducible refine AC.out.mono ?_)
  rintro e w4 ⟨dU,v4,rfl,hrow4⟩;obtain ⟨m4,Pj⟩:∃ m,m=(List.map Pr.d (lC at_ [])).length:=⟨_,rfl⟩;obtain ⟨a4,c4,rfl,-,-⟩:=hrow4.cap Pj.symm;have jhx:m4<=2:=by rw [Pj];unfold lC jG Qh;split<;>split<;>simp
  have HM4:=hid Pj.symm;have b4:=hrow4.aP;have U4:=hid (U3.out.below b4);have X4:=hid (show Rd (fun b=>False\/w3.heap.size<=b) w4 (.sl 2 (List.map Pr.d (lC at_ []))) [.slice a4 m4 c4] from hrow4.fu.weaken (fun b hb=>.inr hb));have B4:=hid (aR B3.out b4);have O1:=hid (fun (rs:List (List jmq)) (ok':Nat->Prop) h=>ME (lC at_ []) rs ok' w4 h);obtain ⟨iP,hiP,xV,xW,xX⟩:=info_parts qG;clear Pj hrow4 b4 g4 g5 g6 AC;go_wp2_with (at_builtin;refine sH (n:=m3) (m:=m4) rfl _ _ 24 rfl iP _ 32 Tryz.underlying24 hiP xV xW xX rfl (by decide) U4.out (fun _=>False.elim) (.slice a4 m4 c4) X4.out O1.out Xu.out HM4.out (by omega) (by decide) rfl rfl ?_)
  intro a5 c5 vD w5 bM hg5;have B5:=hid (BWX.out.trans (bM.aP.mono BWX.out.size));have AT5:Hid (Rd (W0.heap.size<=·) w5 (bS ([⟨DZ,d⟩,⟨D5,mK ks⟩]++jG dM ti++lC at_ [])) [.slice a5 (m3+m4) c5]):=by have h:=bM.fu.weaken (ok':=(W0.heap.size<=·)) (fun b hb=>jjj BWX.out.size hb);show Rd _ _ (.sl 2 (List.map Pr.d _)) _;rw [List.map_append];exact h
  have EC:=hid (ko ⟨#[105,109,103]⟩ a5 none (m3+m4) 0 c5 0 w5);clear bM hg5 U4 X4 O1 U3;go_wp2_with fail
  (with_reducible refine EC.out.mono ?_)
  rintro e w6 ⟨rfl,b6⟩;have BL:=hid (aR B5.out b6);have HN:=hid (show kU (W0.heap.size<=·) w6 ([⟨DZ,d⟩,⟨D5,mK ks⟩]++jG dM ti++lC at_ []) [] (.slice a5 (m3+m4) c5) (.slice none 0 0) from ⟨AT5.out.aZ b6,Rd.aF _ _ _⟩);clear b6 EC AT5;obtain ⟨w9,bO⟩:∃ w9,w9=four w6 (S+1) (.string ⟨#[105,109,103]⟩) (.string ⟨#[]⟩) (.slice a5 (m3+m4) c5) (.slice none 0 0):=⟨_,rfl⟩;have hf:=fA ⟨#[105,109,103]⟩ ⟨#[]⟩ ([⟨DZ,d⟩,⟨D5,mK ks⟩]++jG dM ti++lC at_ []) [] HS.out Z0.out B0.out K1.out BL.out HN.out;rw [<- bO] at hf;have HC:=hid hf.1;have HP:=hid hf.2;clear hf;have hw8:=bO;simp only [four] at hw8;clear bO;obtain ⟨x0,x1,x2,x3,xf⟩:=pJ (K1.out.below BL.out);go_wp2;rw [<- hw8];have r0:=HC.out.cell 0 _ rfl;have r1:=HC.out.cell 1 _ rfl;have r2:=HC.out.cell 2 _ rfl;have r3:=HC.out.cell 3 _ rfl;exact bodyPost_ret (v:=.agg #[.string ⟨#[105,109,103]⟩,.string ⟨#[]⟩,(.slice a5 (m3+m4) c5),(.slice none 0 0)]) (by simp [results,Tryz.results130,go_sem,r0,r1,r2,r3]) rfl HP.out
theorem F6 (k:Int) (t d ti:ByteArray) (at_:At) (ar:List ByteArray) (ci:List Ci) (ks:List aj) (vc vp va vi vk:jmq) (w:jmj) (hR:tT (·<w.heap.size) w at_ ar ci ks vc vp va vi vk) (hs:(aj.mk k t d ti at_ ar ci ks).small) (hl:DW w ks vk) (hz:aj.aV ks<=1000000) : Calls Tryz.prog 130 #[.agg #[.int .i64 k,.string t,.string d,.string ti,.string at_.id,vc,vp,va,vi,vk]] w (rY w (aj.mk k t d ti at_ ar ci ks).nd):=by
 by_cases h2:k=2
 ·subst h2;exact Vp t d ti at_ ar ci ks vc vp va vi vk w hR hs hl
 by_cases h3:k=3
 ·subst h3;exact Vq t d ti at_ ar ci ks vc vp va vi vk w hR hs hl
 by_cases h4:k=4
 ·subst h4;exact Vr t d ti at_ ar ci ks vc vp va vi vk w hR hs hl
 by_cases h5:k=5
 ·subst h5;exact Vv t d ti at_ ar ci ks vc vp va vi vk w hR hs hl
 by_cases h6:k=6
 ·subst h6;exact Vs t d ti at_ ar ci ks vc vp va vi vk w hR hs hl
 by_cases h7:k=7
 ·subst h7;exact Vt t d ti at_ ar ci ks vc vp va vi vk w hR hs hl
 by_cases h8:k=8
 ·subst h8;exact Vu t d ti at_ ar ci ks vc vp va vi vk w hR hs hl
 by_cases h9:k=9
 ·subst h9;exact Vw t d ti at_ ar ci ks vc vp va vi vk w hR hs hl
 by_cases h10:k=10
 ·subst h10;exact Qx t d ti at_ ar ci ks vc vp va vi vk w hR hs hl hz
 by_cases h11:k=11
 ·subst h11;exact Qw t d ti at_ ar ci ks vc vp va vi vk w hR hs hl
 by_cases h12:k=12
 ·subst h12;exact Qu t d ti at_ ar ci ks vc vp va vi vk w hR hs hl
 by_cases h16:k=16
 ·subst h16;exact Qv t d ti at_ ar ci ks vc vp va vi vk w hR hs hl
 exact MC k t d ti at_ ar ci ks vc vp va vi vk w hR hs hl ⟨h2,h3,h4,h5,h6,h7,h8,h9,h10,h11,h12,h16⟩
open Go.RowKit
open Go.RowKit
def fv (key:ByteArray) (a:List Pr):List ByteArray:=(a.filter fun p=>decide (p.key=key)).map (·.val)
theorem MF (key:ByteArray) (a b:List Pr):fv key (a++b)=fv key a++fv key b:=by unfold fv;simp
theorem Qf (key:ByteArray) (a:List Pr) (k:Nat) (p:Pr) (h:a[k]?=some p):fv key (a.take (k+1))=fv key (a.take k)++if p.key=key then [p.val] else []:=by rw [List.take_add_one,h,MF];unfold fv;by_cases hk:p.key=key<;>simp [hk]
theorem U1 (key:ByteArray) (a:List Pr) (k:Nat):(fv key (a.take k)).length<=(fv key a).length:=by
 have h:fv key a=fv key (a.take k)++fv key (a.drop k):=by rw [<- MF,List.take_append_drop]
 rw [h,List.length_append];omega
theorem FV (key:ByteArray) (l:List Nd) (k:Nat) (x:Nd) (h:l[k]?=some x):Nd.bU key (l.take (k+1))=Nd.bU key (l.take k)++x.vals key:=by rw [List.take_add_one,h,zw];show _++Nd.bU key [x]=_;rw [Nd.bU,Nd.bU,List.append_nil]
theorem zh (key:ByteArray) (l:List Nd) (k:Nat):(Nd.bU key (l.take k)).length<=(Nd.bU key l).length:=by
 have h:Nd.bU key l=Nd.bU key (l.take k)++Nd.bU key (l.drop k):=by rw [<- zw,List.take_append_drop]
 rw [h,List.length_append];omega
open Go.RowKit
def pQ (w:jmj) (l:List ByteArray) (e:Ending) (w':jmj):Prop:=
 ∃ v,e=.returned v/\w'.ownsRow w.heap.size 9 1 v l.length (l.map Value.string)/\jmk w.heap.size w w'
end Go.Proofs.YtkfnkeflalcphaaGreatDoor

