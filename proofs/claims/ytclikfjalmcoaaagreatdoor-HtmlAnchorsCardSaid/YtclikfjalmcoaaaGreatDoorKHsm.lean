/- Contract of html.inline, given that of html.line at the Kids. Contract of publisherref33.Same: at equal nodes it answers true. -/
import Derived.Test.YtclikfjalmcoaaaGreatDoorKHtA
set_option maxHeartbeats 4000000
set_option maxRecDepth 100000
open Go.Lib (hid)
namespace Go.Proofs.YtclikfjalmcoaaaGreatDoor
open Go.RowKit.Below renaming refl->je7,heap_setCell->jf1
open Nat renaming le_trans->je9
open Go renaming World->jh9,Value->jhk
open Go.RowKit renaming Below->jhj
open Go.RowKit
set_option linter.unusedVariables false
set_option linter.unusedSimpArgs false
def BD (w:jh9) (ks:List aj) (vk:jhk):Prop:=∀ W:jh9,jhj w.heap.size w W->Calls Tryz.prog 50 #[vk] W (bU W (iL ks))
def jy:List jhk:=[.string ⟨#[]⟩,.string ⟨#[]⟩,.slice none 0 0,.slice none 0 0]
def four (w:jh9) (p:Nat) (c0 c1 c2 c3:jhk):jh9:=(((w.setCell ⟨p,0,none⟩ c0).setCell ⟨p,1,none⟩ c1).setCell ⟨p,2,none⟩ c2).setCell ⟨p,3,none⟩ c3
theorem gq (w:jh9) (p:Nat) (c0 c1 c2 c3:jhk) (b:Nat) (h:b≠p):(four w p c0 c1 c2 c3).heap[b]?=w.heap[b]?:=by unfold four;rw [jf1 _ ⟨p,3,none⟩ _ b h,jf1 _ ⟨p,2,none⟩ _ b h,jf1 _ ⟨p,1,none⟩ _ b h,jf1 _ ⟨p,0,none⟩ _ b h]
theorem Hq {w:jh9} {p:Nat} {c0 c1 c2 c3:jhk} {b o:Nat} {v:jhk} (h:w.cell? ⟨b,o,none⟩=some v) (hb:b≠p):(four w p c0 c1 c2 c3).cell? ⟨b,o,none⟩=some v:=by rw [fH (gq w p c0 c1 c2 c3 b hb)];exact h
theorem qN (S:Nat) (w:jh9) (a b c d:jhk) (o:Nat) (v:jhk) (h:w.cell? ⟨S,o,none⟩=some v) : World.cell? ((((w.setCell ⟨S+1,0,none⟩ a).setCell ⟨S+1,1,none⟩ b).setCell ⟨S+1,2,none⟩ c).setCell ⟨S+1,3,none⟩ d) ⟨S,o,none⟩=some v:=Hq h (by show S≠S+1;omega)
theorem xD {T:TypeId} {p:Nat} {cs:List jhk} {w:jh9} (h:CB T p cs w) (j:Nat) (u:jhk):CB T p (cs.set j u) (w.setCell ⟨p,j,none⟩ u):=by unfold CB at h ⊢;simp [World.setCell,Array.getElem?_modify,h]
theorem FR {T:TypeId} {p:Nat} {a0 a1 a2 a3:jhk} {w:jh9} (h:CB T p [a0,a1,a2,a3] w) (c0 c1 c2 c3:jhk):CB T p [c0,c1,c2,c3] (four w p c0 c1 c2 c3):=
 xD (xD (xD (xD h 0 c0) 1 c1) 2 c2) 3 c3
theorem tO {B p:Nat} {a w:jh9} (h:jhj B a w) (hp:B<=p) (c0 c1 c2 c3:jhk):jhj B a (four w p c0 c1 c2 c3):=
 (((h.setCell (p:=⟨p,0,none⟩) hp c0).setCell (p:=⟨p,1,none⟩) hp c1).setCell (p:=⟨p,2,none⟩) hp c2).setCell (p:=⟨p,3,none⟩) hp c3
theorem tQ (T:TypeId) (w:jh9) (xc:List jhk):∃ S W0,S=w.heap.size/\W0=(w.alloc (.cells xc.toArray T)).alloc (.cells jy.toArray 43)/\W0.heap.size=S+2/\CB T S xc W0/\CB 43 (S+1) jy W0/\jhj S w W0:=by
 refine ⟨_,_,rfl,rfl,by simp,?_,?_,((je7 _ _).alloc (Nat.le_refl _) _).alloc (by simp) _⟩
 ·exact (Below.heap_alloc _ _ _ (by simp)).trans (CB.new _ _ w)
 ·have:=CB.new 43 jy (w.alloc (.cells xc.toArray T))
  rwa [World.size_alloc] at this
theorem UQ {T:TypeId} {S:Nat} {W0:jh9} {x0 x1 x2 x3 x4 x5 x6 x7 x8 x9:jhk} (k0:CB T S [x0,x1,x2,x3,x4,x5,x6,x7,x8,x9] W0) : Hid (∀ w':jh9,jhj W0.heap.size W0 w'->w'.cell? ⟨S,1,none⟩=some x1/\w'.cell? ⟨S,2,none⟩=some x2/\w'.cell? ⟨S,3,none⟩=some x3/\w'.cell? ⟨S,4,none⟩=some x4/\w'.cell? ⟨S,5,none⟩=some x5/\w'.cell? ⟨S,6,none⟩=some x6/\w'.cell? ⟨S,9,none⟩=some x9):=
 fun w' hb=>⟨(k0.below hb).cell 1 _ rfl,(k0.below hb).cell 2 _ rfl,(k0.below hb).cell 3 _ rfl,(k0.below hb).cell 4 _ rfl,(k0.below hb).cell 5 _ rfl,(k0.below hb).cell 6 _ rfl,(k0.below hb).cell 9 _ rfl⟩
theorem UR {T:TypeId} {S:Nat} {W0:jh9} {x0 x1 x2 x3 x4 x5 x6 x7 x8 x9 x10:jhk} (k0:CB T S [x0,x1,x2,x3,x4,x5,x6,x7,x8,x9,x10] W0) : Hid (∀ w':jh9,jhj W0.heap.size W0 w'->w'.cell? ⟨S,1,none⟩=some x1/\w'.cell? ⟨S,2,none⟩=some x2/\w'.cell? ⟨S,3,none⟩=some x3/\w'.cell? ⟨S,4,none⟩=some x4/\w'.cell? ⟨S,5,none⟩=some x5/\w'.cell? ⟨S,6,none⟩=some x6/\w'.cell? ⟨S,7,none⟩=some x7/\w'.cell? ⟨S,8,none⟩=some x8/\w'.cell? ⟨S,9,none⟩=some x9/\w'.cell? ⟨S,10,none⟩=some x10):=
 fun w' hb=>⟨(k0.below hb).cell 1 _ rfl,(k0.below hb).cell 2 _ rfl,(k0.below hb).cell 3 _ rfl,(k0.below hb).cell 4 _ rfl,(k0.below hb).cell 5 _ rfl,(k0.below hb).cell 6 _ rfl,(k0.below hb).cell 7 _ rfl,(k0.below hb).cell 8 _ rfl,(k0.below hb).cell 9 _ rfl,(k0.below hb).cell 10 _ rfl⟩
theorem tT.YR {S:Nat} {w W0:jh9} {at_:At} {ar:List ByteArray} {ci:List Ci} {ks:List aj} {vc vp va vi vk:jhk} (hS:S=w.heap.size) (hR:tT (·<w.heap.size) w at_ ar ci ks vc vp va vi vk) (b0:jhj S w W0):Hid (tT (·<S) W0 at_ ar ci ks vc vp va vi vk):=by subst hS;exact ⟨hR.at_.below b0,hR.args.below b0,hR.iq.below b0,hR.kids.below b0⟩
theorem jV.YR {S:Nat} {w W0:jh9} {at_:At} {li:List aj} {ks:List ah} {vc vp vl vk:jhk} (hS:S=w.heap.size) (hR:jV (·<w.heap.size) w at_ li ks vc vp vl vk) (b0:jhj S w W0):Hid (jV (·<S) W0 at_ li ks vc vp vl vk):=by subst hS;exact ⟨hR.at_.below b0,hR.line.below b0,hR.kids.below b0⟩
theorem fZ {S:Nat} {w W0:jh9} {P:jh9->Prop} (hS:S=w.heap.size) (hl:∀ W,jhj w.heap.size w W->P W) (b0:jhj S w W0):Hid (∀ W,jhj W0.heap.size W0 W->P W):=
 fun W hW=>hl W (by rw [<- hS];exact b0.trans (hW.mono (by have:=b0.size;omega)))
theorem jP {P:jh9->Prop} {at_:At} {ar:List ByteArray} {ci:List Ci} {ks:List aj} {vc vp va vi vk:jhk} {w:jh9} (kv:jhk) (t d ti:ByteArray) (hR:tT (·<w.heap.size) w at_ ar ci ks vc vp va vi vk) (hl:∀ W,jhj w.heap.size w W->P W) : ∃ ac nc cc ap np cp aa na ca ai ni rP ak nk ck S W0,vc=.slice ac nc cc/\vp=.slice ap np cp/\va=.slice aa na ca/\vi=.slice ai ni rP/\vk=.slice ak nk ck/\Hid (S=w.heap.size) /\ Hid (W0=(w.alloc (.cells [kv,.string t,.string d,.string ti,.string at_.id,vc,vp,va,vi,vk].toArray 51)).alloc (.cells jy.toArray 43))/\W0.cell? ⟨S,0,none⟩=some kv /\ Hid (∀ w':jh9,jhj W0.heap.size W0 w'->w'.cell? ⟨S,1,none⟩=some (.string t)/\w'.cell? ⟨S,2,none⟩=some (.string d)/\w'.cell? ⟨S,3,none⟩=some (.string ti)/\w'.cell? ⟨S,4,none⟩=some (.string at_.id)/\w'.cell? ⟨S,5,none⟩=some vc/\w'.cell? ⟨S,6,none⟩=some vp/\w'.cell? ⟨S,9,none⟩=some vk) /\ Hid (∀ W,jhj W0.heap.size W0 W->P W)/\Hid (tT (·<S) W0 at_ ar ci ks vc vp va vi vk)/\Hid (W0.heap.size=S+2)/\Hid (jhj S w W0)/\Hid (CB 43 (S+1) jy W0):=by
 obtain ⟨ac,nc,cc,rfl⟩:=Rd.au hR.at_.cls
 obtain ⟨ap,np,cp,rfl⟩:=Rd.au hR.at_.aP
 obtain ⟨aa,na,ca,rfl⟩:=Rd.au hR.args;obtain ⟨ai,ni,rP,rfl⟩:=Rd.au hR.iq;obtain ⟨ak,nk,ck,rfl⟩:=Rd.au hR.kids;obtain ⟨S,W0,hS,hW0,z0,k0,k1,b0⟩:=tQ 51 w [kv,.string t,.string d,.string ti,.string at_.id,.slice ac nc cc,.slice ap np cp,.slice aa na ca,.slice ai ni rP,.slice ak nk ck];exact ⟨ac,nc,cc,ap,np,cp,aa,na,ca,ai,ni,rP,ak,nk,ck,S,W0,rfl,rfl,rfl,rfl,rfl,hS,hW0,k0.cell 0 _ rfl,UQ k0,fZ hS hl b0,tT.YR hS hR b0,z0,b0,k1⟩
theorem jL {at_:At} {li:List aj} {ks:List ah} {vc vp vl vk:jhk} {w:jh9} (kv:jhk) (lv:Int) (i t d ti:ByteArray) (hR:jV (·<w.heap.size) w at_ li ks vc vp vl vk) : ∃ ac nc cc ap np cp al nl cl ak nk ck S W0,vc=.slice ac nc cc/\vp=.slice ap np cp/\vl=.slice al nl cl/\vk=.slice ak nk ck/\Hid (S=w.heap.size) /\ Hid (W0=(w.alloc (.cells [kv,.int .i64 lv,.string i,.string t,.string d,.string ti,.string at_.id,vc,vp,vl,vk].toArray 30)).alloc (.cells jy.toArray 43))/\W0.cell? ⟨S,0,none⟩=some kv /\ Hid (∀ w':jh9,jhj W0.heap.size W0 w'->w'.cell? ⟨S,1,none⟩=some (.int .i64 lv)/\w'.cell? ⟨S,2,none⟩=some (.string i)/\w'.cell? ⟨S,3,none⟩=some (.string t)/\w'.cell? ⟨S,4,none⟩=some (.string d)/\w'.cell? ⟨S,5,none⟩=some (.string ti)/\w'.cell? ⟨S,6,none⟩=some (.string at_.id)/\w'.cell? ⟨S,7,none⟩=some vc/\w'.cell? ⟨S,8,none⟩=some vp/\w'.cell? ⟨S,9,none⟩=some vl/\w'.cell? ⟨S,10,none⟩=some vk) /\ Hid (jV (·<S) W0 at_ li ks vc vp vl vk)/\Hid (W0.heap.size=S+2)/\Hid (jhj S w W0)/\Hid (CB 43 (S+1) jy W0):=by
 obtain ⟨ac,nc,cc,rfl⟩:=Rd.au hR.at_.cls
 obtain ⟨ap,np,cp,rfl⟩:=Rd.au hR.at_.aP
 obtain ⟨al,nl,cl,rfl⟩:=Rd.au hR.line;obtain ⟨ak,nk,ck,rfl⟩:=Rd.au hR.kids;obtain ⟨S,W0,hS,hW0,z0,k0,k1,b0⟩:=tQ 30 w [kv,.int .i64 lv,.string i,.string t,.string d,.string ti,.string at_.id,.slice ac nc cc,.slice ap np cp,.slice al nl cl,.slice ak nk ck];exact ⟨ac,nc,cc,ap,np,cp,al,nl,cl,ak,nk,ck,S,W0,rfl,rfl,rfl,rfl,hS,hW0,k0.cell 0 _ rfl,UR k0,jV.YR hS hR b0,z0,b0,k1⟩
theorem yM {T:TypeId} {p:Nat} {cs:List jhk} {w:jh9} (h:CB T p cs w) (j:Nat):w.frozen? ⟨p,j,none⟩=false:=by unfold CB at h;simp [World.frozen?,h]
theorem mJ {p:Nat} {w:jh9} (h:CB 43 p jy w):w.cell? ⟨p,0,none⟩=some (.string ⟨#[]⟩)/\w.cell? ⟨p,1,none⟩=some (.string ⟨#[]⟩)/\w.cell? ⟨p,2,none⟩=some (.slice none 0 0)/\w.cell? ⟨p,3,none⟩=some (.slice none 0 0)/\∀ j,w.frozen? ⟨p,j,none⟩=false:=
 ⟨h.cell 0 _ rfl,h.cell 1 _ rfl,h.cell 2 _ rfl,h.cell 3 _ rfl,yM h⟩
theorem fO {S:Nat} {w W0 w3:jh9} (n t:ByteArray) (at_:List Pr) (ks:List Nd) {va vk:jhk} (hS:S=w.heap.size) (z0:W0.heap.size=S+2) (b0:jhj S w W0) (k1:CB 43 (S+1) jy W0) (b3:jhj W0.heap.size W0 w3) (hR:jA (W0.heap.size<=·) w3 at_ ks va vk) : CB 43 (S+1) [.string n,.string t,va,vk] (four w3 (S+1) (.string n) (.string t) va vk)/\rQ w (.mk n t at_ ks) (.returned (.agg #[.string n,.string t,va,vk])) (four w3 (S+1) (.string n) (.string t) va vk):=by refine ⟨FR (k1.below b3) _ _ _ _,va,vk,rfl,hR.keep (fun b hb hlt=>⟨by omega,gq _ _ _ _ _ _ b (by omega)⟩),?_⟩;rw [<- hS];exact tO (b0.trans (b3.mono (by omega))) (by omega) _ _ _ _
theorem gJ {S:Nat} {w W0 w3:jh9} (n t:ByteArray) (at_:List Pr) (ks:List Nd) {va vk:jhk} (hS:Hid (S=w.heap.size)) (z0:Hid (W0.heap.size=S+2)) (b0:Hid (jhj S w W0)) (k1:Hid (CB 43 (S+1) jy W0)) (b3:Hid (jhj W0.heap.size W0 w3)) (hR:jA (W0.heap.size<=·) w3 at_ ks va vk) : ∃ w9,w9=(((w3.setCell ⟨S+1,0,none⟩ (.string n)).setCell ⟨S+1,1,none⟩ (.string t)).setCell ⟨S+1,2,none⟩ va).setCell ⟨S+1,3,none⟩ vk /\ w9.cell? ⟨S+1,0,none⟩=some (.string n)/\w9.cell? ⟨S+1,1,none⟩=some (.string t)/\w9.cell? ⟨S+1,2,none⟩=some va/\w9.cell? ⟨S+1,3,none⟩=some vk /\ Hid (rQ w (.mk n t at_ ks) (.returned (.agg #[.string n,.string t,va,vk])) w9) /\ w3.cell? ⟨S+1,0,none⟩=some (.string ⟨#[]⟩)/\w3.cell? ⟨S+1,1,none⟩=some (.string ⟨#[]⟩)/\w3.cell? ⟨S+1,2,none⟩=some (.slice none 0 0)/\w3.cell? ⟨S+1,3,none⟩=some (.slice none 0 0)/\∀ j,w3.frozen? ⟨S+1,j,none⟩=false:=by
 have hf:=fO n t at_ ks hS.out z0.out b0.out k1.out b3.out hR
 exact ⟨_,rfl,hf.1.cell 0 _ rfl,hf.1.cell 1 _ rfl,hf.1.cell 2 _ rfl,hf.1.cell 3 _ rfl,hf.2,mJ (k1.out.below b3.out)⟩
theorem oH (l:List ByteArray) (W:jh9) (hl:l.length<=maxLen):Rd (·<(W.alloc (.cells (l.map Value.string).toArray 9)).heap.size) (W.alloc (.cells (l.map Value.string).toArray 9)) (jk l) [.slice (some ⟨W.heap.size,0,none⟩) l.length l.length]:=
 Rd.JV (B:=W.heap.size) (e:=9) ⟨by simp,.inr ⟨W.heap.size,l.length,(l.map Value.string).toArray,rfl,Nat.le_refl _,heap_alloc_new W _,Nat.le_refl _,hl,by simp,by
  show List.take (l.length*1) (l.map Value.string)=_;rw [List.take_of_length_le (by simp)]⟩⟩ (fun g hg=>by
   have e1:W.heap.size=g:=by simpa [Value.ownBlock] using hg
   simp;omega)
theorem MX (k v:ByteArray) (W:jh9):Calls Tryz.prog 58 #[.slice (some ⟨W.heap.size,0,none⟩) 2 2] (W.alloc (.cells #[.string k,.string v] 9)) (bg (W.alloc (.cells #[.string k,.string v] 9)) [⟨k,v⟩]):=
 iT [⟨k,v⟩] _ _ (oH [k,v] W (by unfold maxLen;simp)) (by simp)
theorem tV (k v k' v':ByteArray) (W:jh9):Calls Tryz.prog 58 #[.slice (some ⟨W.heap.size,0,none⟩) 4 4] (W.alloc (.cells #[.string k,.string v,.string k',.string v'] 9)) (bg (W.alloc (.cells #[.string k,.string v,.string k',.string v'] 9)) [⟨k,v⟩,⟨k',v'⟩]):=
 iT [⟨k,v⟩,⟨k',v'⟩] _ _ (oH [k,v,k',v'] W (by unfold maxLen;simp)) (by simp)
theorem lX (W:jh9) (o:Obj):jhj W.heap.size W (W.alloc o).drew:=((je7 _ _).alloc (Nat.le_refl _) _).drew
theorem yN (k v:ByteArray) (W:jh9):Hid (Calls Tryz.prog 58 #[.slice (some ⟨W.heap.size,0,none⟩) 2 2] (W.alloc (.cells #[.string k,.string v] 9)).drew (bg (W.alloc (.cells #[.string k,.string v] 9)).drew [⟨k,v⟩]))/\Hid (jhj W.heap.size W (W.alloc (.cells #[.string k,.string v] 9)).drew):=
 ⟨MX k v W.drew,lX W _⟩
theorem M8 (k v k' v':ByteArray) (W:jh9):Hid (Calls Tryz.prog 58 #[.slice (some ⟨W.heap.size,0,none⟩) 4 4] (W.alloc (.cells #[.string k,.string v,.string k',.string v'] 9)).drew (bg (W.alloc (.cells #[.string k,.string v,.string k',.string v'] 9)).drew [⟨k,v⟩,⟨k',v'⟩]))/\Hid (jhj W.heap.size W (W.alloc (.cells #[.string k,.string v,.string k',.string v'] 9)).drew):=
 ⟨tV k v k' v' W.drew,lX W _⟩
theorem M9 (k v k' v':ByteArray) {B:Nat} {W0 W:jh9} (h:Hid (jhj B W0 W)) (hB:B<=W.heap.size):Hid (Calls Tryz.prog 58 #[.slice (some ⟨W.heap.size,0,none⟩) 4 4] (W.alloc (.cells #[.string k,.string v,.string k',.string v'] 9)) (bg (W.alloc (.cells #[.string k,.string v,.string k',.string v'] 9)) [⟨k,v⟩,⟨k',v'⟩]))/\Hid (jhj B W0 (W.alloc (.cells #[.string k,.string v,.string k',.string v'] 9))):=
 ⟨tV k v k' v' W,h.out.alloc hB _⟩
theorem yH {S:Nat} {W0 w':jh9} {a:At} {vc vp:jhk} (h:AtR (·<S) W0 a vc vp) (hb:jhj W0.heap.size W0 w') (hS:S<=W0.heap.size):AtR (·<w'.heap.size) w' a vc vp:=
 ⟨Rd.keep (fun b (hb1:b<S) _=>⟨by have:=hb.size;omega,hb.block b (by omega)⟩) _ _ h.cls,Rd.keep (fun b (hb1:b<S) _=>⟨by have:=hb.size;omega,hb.block b (by omega)⟩) _ _ h.aP⟩
theorem Q5 {S:Nat} {W0:jh9} {a:At} {vc vp:jhk} (hS:S<=W0.heap.size) (h:AtR (·<S) W0 a vc vp):AtR (·<W0.drew.heap.size) W0.drew a vc vp:=
 ⟨Rd.keep (w:=W0) (w':=W0.drew) (ok:=(·<S)) (fun b (hb:b<S) _=>⟨(by show b<W0.heap.size;omega),rfl⟩) _ _ h.cls,Rd.keep (w:=W0) (w':=W0.drew) (ok:=(·<S)) (fun b (hb:b<S) _=>⟨(by show b<W0.heap.size;omega),rfl⟩) _ _ h.aP⟩
theorem aI.slice3 {T:TypeId} {k U:Nat} {ok:Nat->Prop} {w0 w:jh9} {ds:List D} {rows:List (List jhk)} {v:jhk} (h:aI T k ok U w0 ds rows v w):∃ a n c,v=.slice a n c:=by obtain ⟨a,c,e⟩:=h.slice;exact ⟨a,_,c,e⟩
theorem yO {k:Int} {t d ti:ByteArray} {a:At} {ar:List ByteArray} {ci:List Ci} {ks:List aj} (h:(aj.mk k t d ti a ar ci ks).small):([]++a.cls).length<=100/\∀ c∈[]++a.cls,c.size<=1000:=by rw [aj.small] at h;obtain ⟨-,-,-,h,-⟩:=h;unfold At.short at h;rw [List.nil_append];exact ⟨by omega,fun c hc=>by have:=h.2.2.2.1 c hc;omega⟩
def tX (k:Int):Prop:=∀ (t d ti:ByteArray) (at_:At) (ar:List ByteArray) (ci:List Ci) (ks:List aj) (vc vp va vi vk:jhk) (w:jh9),tT (·<w.heap.size) w at_ ar ci ks vc vp va vi vk->(aj.mk k t d ti at_ ar ci ks).small->BD w ks vk ->
 Calls Tryz.prog 100 #[.agg #[.int .i64 k,.string t,.string d,.string ti,.string at_.id,vc,vp,va,vi,vk]] w (rQ w (aj.mk k t d ti at_ ar ci ks).nd)
theorem Q6:tX 2:=by
 intro t d ti at_ ar ci ks vc vp va vi vk w hR hs hl
 have E:Hid ((aj.mk 2 t d ti at_ ar ci ks).nd=yL Q7):=by show _=_;rw [aj.nd];rfl
 rw [E.out];obtain ⟨ac,nc,cc,ap,np,cp,aa,na,ca,ai,ni,rP,ak,nk,ck,S,W0,rfl,rfl,rfl,rfl,rfl,HS,HW0,e0,SX,kD,HR,Z0,B0,K1⟩:=jP (.int .i64 2) t d ti hR hl;have iR:=hid hs;have hst:t.size<=300:=by rw [aj.small] at hs;exact hs.1
 clear hR hs hl E;go_enter Tryz.func100,Tryz.ntmps100;go_upto_region 3 with (fail)
 rw [<- HS.out];have hk0:=HW0.out;simp only [jy] at hk0;rw [<- hk0];clear hk0;have BL:Hid (jhj W0.heap.size W0 W0):=je7 _ _;have f1:=K1.out;obtain ⟨w9,hw8,r0,r1,r2,r3,HP,x0,x1,x2,x3,xf⟩:=gJ ⟨#[]⟩ ⟨#[32]⟩ [] [] HS Z0 B0 K1 BL ⟨Rd.aB _ _ _,Rd.aB _ _ _⟩;go_wp2;rw [<- hw8];exact bodyPost_ret (v:=.agg #[.string ⟨#[]⟩,.string ⟨#[32]⟩,(.slice none 0 0),(.slice none 0 0)]) (by simp [results,Tryz.results100,go_sem,r0,r1,r2,r3]) rfl HP.out
theorem JW (k:Int) (t d ti:ByteArray) (at_:At) (ar:List ByteArray) (ci:List Ci) (ks:List aj) (vc vp va vi vk:jhk) (w:jh9) (hR:tT (·<w.heap.size) w at_ ar ci ks vc vp va vi vk) (hs:(aj.mk k t d ti at_ ar ci ks).small) (hl:BD w ks vk) (hk:k≠2/\k≠3/\k≠4/\k≠5/\k≠6/\k≠7/\k≠8/\k≠9/\k≠10/\k≠11/\k≠12/\k≠16) : Calls Tryz.prog 100 #[.agg #[.int .i64 k,.string t,.string d,.string ti,.string at_.id,vc,vp,va,vi,vk]] w (rQ w (aj.mk k t d ti at_ ar ci ks).nd):=by
 have E:Hid ((aj.mk k t d ti at_ ar ci ks).nd=yL t):=by show _=_;rw [aj.nd];obtain ⟨h2,h3,h4,h5,h6,h7,h8,h9,h10,h11,h12,h16⟩:=hk;rw [if_neg h2,if_neg h3,if_neg h4,if_neg h5,if_neg h6,if_neg h7,if_neg h8,if_neg h9,if_neg h10,if_neg h11,if_neg h12,if_neg h16]
 rw [E.out];obtain ⟨ac,nc,cc,ap,np,cp,aa,na,ca,ai,ni,rP,ak,nk,ck,S,W0,rfl,rfl,rfl,rfl,rfl,HS,HW0,e0,SX,kD,HR,Z0,B0,K1⟩:=jP (.int .i64 k) t d ti hR hl;have iR:=hid hs;have hst:t.size<=300:=by rw [aj.small] at hs;exact hs.1
 have q2:(k==2)=false:=by rw [beq_eq_false_iff_ne];exact hk.1
 have q3:(k==3)=false:=by rw [beq_eq_false_iff_ne];exact hk.2.1
 have q4:(k==4)=false:=by rw [beq_eq_false_iff_ne];exact hk.2.2.1
 have q5:(k==5)=false:=by rw [beq_eq_false_iff_ne];exact hk.2.2.2.1
 have q6:(k==6)=false:=by rw [beq_eq_false_iff_ne];exact hk.2.2.2.2.1
 have q7:(k==7)=false:=by rw [beq_eq_false_iff_ne];exact hk.2.2.2.2.2.1
 have q8:(k==8)=false:=by rw [beq_eq_false_iff_ne];exact hk.2.2.2.2.2.2.1
 have q9:(k==9)=false:=by rw [beq_eq_false_iff_ne];exact hk.2.2.2.2.2.2.2.1
 have q10:(k==10)=false:=by rw [beq_eq_false_iff_ne];exact hk.2.2.2.2.2.2.2.2.1
 have q11:(k==11)=false:=by rw [beq_eq_false_iff_ne];exact hk.2.2.2.2.2.2.2.2.2.1
 have q12:(k==12)=false:=by rw [beq_eq_false_iff_ne];exact hk.2.2.2.2.2.2.2.2.2.2.1
 have q16:(k==16)=false:=by rw [beq_eq_false_iff_ne];exact hk.2.2.2.2.2.2.2.2.2.2.2
 clear hk;clear hR hs hl E;go_enter Tryz.func100,Tryz.ntmps100;go_upto_region 27 with (fail)
 rw [<- HS.out];have hk0:=HW0.out;simp only [jy] at hk0;rw [<- hk0];clear hk0;have BL:Hid (jhj W0.heap.size W0 W0):=je7 _ _;have g1:=(SX.out W0 (je7 _ _)).1;obtain ⟨w9,hw8,r0,r1,r2,r3,HP,x0,x1,x2,x3,xf⟩:=gJ ⟨#[]⟩ t [] [] HS Z0 B0 K1 BL ⟨Rd.aB _ _ _,Rd.aB _ _ _⟩;go_wp2;rw [<- hw8];exact bodyPost_ret (v:=.agg #[.string ⟨#[]⟩,.string t,(.slice none 0 0),(.slice none 0 0)]) (by simp [results,Tryz.results100,go_sem,r0,r1,r2,r3]) rfl HP.out
theorem Q8:tX 3:=by
 intro t d ti at_ ar ci ks vc vp va vi vk w hR hs hl
 have E:Hid ((aj.mk 3 t d ti at_ ar ci ks).nd=aN nBr [] []):=by show _=_;rw [aj.nd];rfl
 rw [E.out];obtain ⟨ac,nc,cc,ap,np,cp,aa,na,ca,ai,ni,rP,ak,nk,ck,S,W0,rfl,rfl,rfl,rfl,rfl,HS,HW0,e0,SX,kD,HR,Z0,B0,K1⟩:=jP (.int .i64 3) t d ti hR hl;have iR:=hid hs;have hst:t.size<=300:=by rw [aj.small] at hs;exact hs.1
 clear hR hs hl E;go_enter Tryz.func100,Tryz.ntmps100;go_upto_region 5 with (fail)
 rw [<- HS.out];have hk0:=HW0.out;simp only [jy] at hk0;rw [<- hk0];clear hk0;have EC:=hid (iC ⟨#[98,114]⟩ none none 0 0 0 0 W0);have B4:Hid (jhj W0.heap.size W0 W0):=je7 _ _;go_wp2_with fail
 (with_reducible refine EC.out.mono ?_)
 rintro e w5 ⟨rfl,b5⟩;have BL:=hid (aU B4.out b5);clear b5;obtain ⟨w9,hw8,r0,r1,r2,r3,HP,x0,x1,x2,x3,xf⟩:=gJ ⟨#[98,114]⟩ ⟨#[]⟩ [] [] HS Z0 B0 K1 BL ⟨Rd.aB _ _ _,Rd.aB _ _ _⟩;go_wp2;rw [<- hw8];exact bodyPost_ret (v:=.agg #[.string ⟨#[98,114]⟩,.string ⟨#[]⟩,(.slice none 0 0),(.slice none 0 0)]) (by simp [results,Tryz.results100,go_sem,r0,r1,r2,r3]) rfl HP.out
theorem Q9:tX 4:=by
 intro t d ti at_ ar ci ks vc vp va vi vk w hR hs hl
 have E:Hid ((aj.mk 4 t d ti at_ ar ci ks).nd=aN gK [] (bG t)):=by show _=_;rw [aj.nd];rfl
 rw [E.out];obtain ⟨ac,nc,cc,ap,np,cp,aa,na,ca,ai,ni,rP,ak,nk,ck,S,W0,rfl,rfl,rfl,rfl,rfl,HS,HW0,e0,SX,kD,HR,Z0,B0,K1⟩:=jP (.int .i64 4) t d ti hR hl;have iR:=hid hs;have hst:t.size<=300:=by rw [aj.small] at hs;exact hs.1
 clear hR hs hl E;go_enter Tryz.func100,Tryz.ntmps100;go_upto_region 7 with (fail)
 rw [<- HS.out];have hk0:=HW0.out;simp only [jy] at hk0;rw [<- hk0];clear hk0;have DC:=hid (fu t W0);have g1:=(SX.out W0 (je7 _ _)).1;go_wp2_with fail
 (with_reducible refine DC.out.mono ?_)
 rintro e w4 ⟨dw,v4,rfl,hrow4⟩;obtain ⟨a4,n4,c4,rfl⟩:=hrow4.slice3;have b4:=hrow4.aJ;have B4:=hid (aU (je7 W0.heap.size W0) b4);have fI:=hid (show Rd (W0.heap.size<=·) w4 (bX (bG t)) [.slice a4 n4 c4] from hrow4.eO.weaken (fun b hb=>je9 ((je7 W0.heap.size W0)).size hb));have EC:=hid (iC ⟨#[99,111,100,101]⟩ none a4 0 n4 0 c4 w4);clear b4 hrow4 DC g1;go_wp2_with fail
 (with_reducible refine EC.out.mono ?_)
 rintro e w5 ⟨rfl,b5⟩;have BL:=hid (aU B4.out b5);have HN:=hid (show jA (W0.heap.size<=·) w5 [] (bG t) (.slice none 0 0) (.slice a4 n4 c4) from ⟨Rd.aB _ _ _,fI.out.aV b5⟩);clear b5 fI EC;obtain ⟨w9,hw8,r0,r1,r2,r3,HP,x0,x1,x2,x3,xf⟩:=gJ ⟨#[99,111,100,101]⟩ ⟨#[]⟩ [] (bG t) HS Z0 B0 K1 BL HN.out;go_wp2;rw [<- hw8];exact bodyPost_ret (v:=.agg #[.string ⟨#[99,111,100,101]⟩,.string ⟨#[]⟩,(.slice none 0 0),(.slice a4 n4 c4)]) (by simp [results,Tryz.results100,go_sem,r0,r1,r2,r3]) rfl HP.out
theorem Ra:tX 6:=by
 intro t d ti at_ ar ci ks vc vp va vi vk w hR hs hl
 have E:Hid ((aj.mk 6 t d ti at_ ar ci ks).nd=aN nEm [] (iL ks)):=by show _=_;rw [aj.nd];rfl
 rw [E.out];obtain ⟨ac,nc,cc,ap,np,cp,aa,na,ca,ai,ni,rP,ak,nk,ck,S,W0,rfl,rfl,rfl,rfl,rfl,HS,HW0,e0,SX,kD,HR,Z0,B0,K1⟩:=jP (.int .i64 6) t d ti hR hl;have iR:=hid hs;have hst:t.size<=300:=by rw [aj.small] at hs;exact hs.1
 clear hR hs hl E;go_enter Tryz.func100,Tryz.ntmps100;go_upto_region 11 with (fail)
 rw [<- HS.out];have hk0:=HW0.out;simp only [jy] at hk0;rw [<- hk0];clear hk0;have LC:=hid (kD.out W0 (je7 _ _));have g9:=(SX.out W0 (je7 _ _)).2.2.2.2.2.2;go_wp2_with fail
 (with_reducible refine LC.out.mono ?_)
 rintro e w4 ⟨dw,v4,rfl,hrow4⟩;obtain ⟨a4,n4,c4,rfl⟩:=hrow4.slice3;have b4:=hrow4.aJ;have B4:=hid b4;have fI:=hid (show Rd (W0.heap.size<=·) w4 (bX (iL ks)) [.slice a4 n4 c4] from hrow4.eO);have EC:=hid (iC ⟨#[101,109]⟩ none a4 0 n4 0 c4 w4);clear b4 hrow4 LC g9;go_wp2_with fail
 (with_reducible refine EC.out.mono ?_)
 rintro e w5 ⟨rfl,b5⟩;have BL:=hid (aU B4.out b5);have HN:=hid (show jA (W0.heap.size<=·) w5 [] (iL ks) (.slice none 0 0) (.slice a4 n4 c4) from ⟨Rd.aB _ _ _,fI.out.aV b5⟩);clear b5 fI EC;obtain ⟨w9,hw8,r0,r1,r2,r3,HP,x0,x1,x2,x3,xf⟩:=gJ ⟨#[101,109]⟩ ⟨#[]⟩ [] (iL ks) HS Z0 B0 K1 BL HN.out;go_wp2;rw [<- hw8];exact bodyPost_ret (v:=.agg #[.string ⟨#[101,109]⟩,.string ⟨#[]⟩,(.slice none 0 0),(.slice a4 n4 c4)]) (by simp [results,Tryz.results100,go_sem,r0,r1,r2,r3]) rfl HP.out
theorem Rb:tX 7:=by
 intro t d ti at_ ar ci ks vc vp va vi vk w hR hs hl
 have E:Hid ((aj.mk 7 t d ti at_ ar ci ks).nd=aN FU [] (iL ks)):=by show _=_;rw [aj.nd];rfl
 rw [E.out];obtain ⟨ac,nc,cc,ap,np,cp,aa,na,ca,ai,ni,rP,ak,nk,ck,S,W0,rfl,rfl,rfl,rfl,rfl,HS,HW0,e0,SX,kD,HR,Z0,B0,K1⟩:=jP (.int .i64 7) t d ti hR hl;have iR:=hid hs;have hst:t.size<=300:=by rw [aj.small] at hs;exact hs.1
 clear hR hs hl E;go_enter Tryz.func100,Tryz.ntmps100;go_upto_region 13 with (fail)
 rw [<- HS.out];have hk0:=HW0.out;simp only [jy] at hk0;rw [<- hk0];clear hk0;have LC:=hid (kD.out W0 (je7 _ _));have g9:=(SX.out W0 (je7 _ _)).2.2.2.2.2.2;go_wp2_with fail
 (with_reducible refine LC.out.mono ?_)
 rintro e w4 ⟨dw,v4,rfl,hrow4⟩;obtain ⟨a4,n4,c4,rfl⟩:=hrow4.slice3;have b4:=hrow4.aJ;have B4:=hid b4;have fI:=hid (show Rd (W0.heap.size<=·) w4 (bX (iL ks)) [.slice a4 n4 c4] from hrow4.eO);have EC:=hid (iC ⟨#[115,116,114,111,110,103]⟩ none a4 0 n4 0 c4 w4);clear b4 hrow4 LC g9;go_wp2_with fail
 (with_reducible refine EC.out.mono ?_)
 rintro e w5 ⟨rfl,b5⟩;have BL:=hid (aU B4.out b5);have HN:=hid (show jA (W0.heap.size<=·) w5 [] (iL ks) (.slice none 0 0) (.slice a4 n4 c4) from ⟨Rd.aB _ _ _,fI.out.aV b5⟩);clear b5 fI EC;obtain ⟨w9,hw8,r0,r1,r2,r3,HP,x0,x1,x2,x3,xf⟩:=gJ ⟨#[115,116,114,111,110,103]⟩ ⟨#[]⟩ [] (iL ks) HS Z0 B0 K1 BL HN.out;go_wp2;rw [<- hw8];exact bodyPost_ret (v:=.agg #[.string ⟨#[115,116,114,111,110,103]⟩,.string ⟨#[]⟩,(.slice none 0 0),(.slice a4 n4 c4)]) (by simp [results,Tryz.results100,go_sem,r0,r1,r2,r3]) rfl HP.out
theorem Rc:tX 8:=by
 intro t d ti at_ ar ci ks vc vp va vi vk w hR hs hl
 have E:Hid ((aj.mk 8 t d ti at_ ar ci ks).nd=aN nS [] (iL ks)):=by show _=_;rw [aj.nd];rfl
 rw [E.out];obtain ⟨ac,nc,cc,ap,np,cp,aa,na,ca,ai,ni,rP,ak,nk,ck,S,W0,rfl,rfl,rfl,rfl,rfl,HS,HW0,e0,SX,kD,HR,Z0,B0,K1⟩:=jP (.int .i64 8) t d ti hR hl;have iR:=hid hs;have hst:t.size<=300:=by rw [aj.small] at hs;exact hs.1
 clear hR hs hl E;go_enter Tryz.func100,Tryz.ntmps100;go_upto_region 15 with (fail)
 rw [<- HS.out];have hk0:=HW0.out;simp only [jy] at hk0;rw [<- hk0];clear hk0;have LC:=hid (kD.out W0 (je7 _ _));have g9:=(SX.out W0 (je7 _ _)).2.2.2.2.2.2;go_wp2_with fail
 (with_reducible refine LC.out.mono ?_)
 rintro e w4 ⟨dw,v4,rfl,hrow4⟩;obtain ⟨a4,n4,c4,rfl⟩:=hrow4.slice3;have b4:=hrow4.aJ;have B4:=hid b4;have fI:=hid (show Rd (W0.heap.size<=·) w4 (bX (iL ks)) [.slice a4 n4 c4] from hrow4.eO);have EC:=hid (iC ⟨#[115]⟩ none a4 0 n4 0 c4 w4);clear b4 hrow4 LC g9;go_wp2_with fail
 (with_reducible refine EC.out.mono ?_)
 rintro e w5 ⟨rfl,b5⟩;have BL:=hid (aU B4.out b5);have HN:=hid (show jA (W0.heap.size<=·) w5 [] (iL ks) (.slice none 0 0) (.slice a4 n4 c4) from ⟨Rd.aB _ _ _,fI.out.aV b5⟩);clear b5 fI EC;obtain ⟨w9,hw8,r0,r1,r2,r3,HP,x0,x1,x2,x3,xf⟩:=gJ ⟨#[115]⟩ ⟨#[]⟩ [] (iL ks) HS Z0 B0 K1 BL HN.out;go_wp2;rw [<- hw8];exact bodyPost_ret (v:=.agg #[.string ⟨#[115]⟩,.string ⟨#[]⟩,(.slice none 0 0),(.slice a4 n4 c4)]) (by simp [results,Tryz.results100,go_sem,r0,r1,r2,r3]) rfl HP.out
theorem Rf:tX 5:=by
 intro t d ti at_ ar ci ks vc vp va vi vk w hR hs hl
 have E:Hid ((aj.mk 5 t d ti at_ ar ci ks).nd=aN FV [⟨eP,qQ⟩] (bG t)):=by show _=_;rw [aj.nd];rfl
 rw [E.out];obtain ⟨ac,nc,cc,ap,np,cp,aa,na,ca,ai,ni,rP,ak,nk,ck,S,W0,rfl,rfl,rfl,rfl,rfl,HS,HW0,e0,SX,kD,HR,Z0,B0,K1⟩:=jP (.int .i64 5) t d ti hR hl;have iR:=hid hs;have hst:t.size<=300:=by rw [aj.small] at hs;exact hs.1
 clear hR hs hl E;go_enter Tryz.func100,Tryz.ntmps100;go_upto_region 9 with (fail)
 rw [<- HS.out];have hk0:=HW0.out;simp only [jy] at hk0;rw [<- hk0];clear hk0;obtain ⟨PC,kF⟩:=yN ⟨#[99,108,97,115,115]⟩ ⟨#[109,97,116,104]⟩ W0;have SF:=hid (fun (w':jh9) (hb:jhj W0.heap.size W0 w')=>((SX.out w' hb).1:w'.cell? ⟨S,1,none⟩=some (.string t)));have S0:=SF.out _ (je7 _ _).drew;have S1:=SF.out _ kF.out;have QV:Hid (∀ W:jh9,Calls Tryz.prog 68 #[.string t] W (bU W (bG t))):=fun W=>fu t W
 go_wp2_with fail
 go_region_held3 (fun w'=>w'.cell? ⟨S,1,none⟩=some (.string t))
  (with_reducible assumption)
  (first
   | (go_simp;go_at_call 58;(with_reducible refine PC.out.mono ?_);rintro e w2 ⟨aW,v2,rfl,hrow2⟩;obtain ⟨a2,c2,rfl,-,-⟩:=hrow2.cap (n:=1) rfl;have B2:=hid (kF.out.trans (hrow2.aJ.mono kF.out.size));have tF:=hid (show Rd (W0.heap.size<=·) w2 (bS [⟨eP,qQ⟩]) [.slice a2 1 c2] from hrow2.eO.weaken (fun b hb=>je9 kF.out.size hb));have S2:=SF.out w2 B2.out;have DC:=hid (QV.out w2))
   | (go_simp;go_at_call 68;(with_reducible refine DC.out.mono ?_);rintro e w4 ⟨dw,v4,rfl,hrow4⟩;obtain ⟨a4,n4,c4,rfl⟩:=hrow4.slice3;have b4:=hrow4.aJ;have B4:=hid (aU B2.out b4);have fI:=hid (show Rd (W0.heap.size<=·) w4 (bX (bG t)) [.slice a4 n4 c4] from hrow4.eO.weaken (fun b hb=>je9 (B2.out).size hb));have mV:=hid (tF.out.aV b4);have S4:=SF.out w4 B4.out;have EC:=hid (iC ⟨#[115,112,97,110]⟩ a2 a4 1 n4 c2 c4 w4))
   | (go_simp;go_at_call 57;(with_reducible refine EC.out.mono ?_);rintro e w5 ⟨rfl,b5⟩;have BL:=hid (aU B4.out b5);obtain ⟨x0,x1,x2,x3,xf⟩:=mJ (K1.out.below BL.out);have S5:=SF.out w5 BL.out;have K6:=qN S w5 (.string ⟨#[115,112,97,110]⟩) (.string ⟨#[]⟩) (.slice a2 1 c2) (.slice a4 n4 c4);have S6:=K6 _ _ (SF.out w5 BL.out);clear K6))
 all_goals
  have HN:=hid (show jA (W0.heap.size<=·) w5 [⟨eP,qQ⟩] (bG t) (.slice a2 1 c2) (.slice a4 n4 c4) from ⟨mV.out.aV b5,fI.out.aV b5⟩);clear b5 fI EC mV hrow2 hrow4 b4 S0 S1 S2 S4 S5 S6 tF;obtain ⟨w9,dG⟩:∃ w9,w9=four w5 (S+1) (.string ⟨#[115,112,97,110]⟩) (.string ⟨#[]⟩) (.slice a2 1 c2) (.slice a4 n4 c4):=⟨_,rfl⟩;have hf:=fO ⟨#[115,112,97,110]⟩ ⟨#[]⟩ [⟨eP,qQ⟩] (bG t) HS.out Z0.out B0.out K1.out BL.out HN.out;rw [<- dG] at hf;have HC:=hid hf.1;have HP:=hid hf.2;clear hf;have hw8:=dG;simp only [four] at hw8;clear dG;obtain ⟨x0,x1,x2,x3,xf⟩:=mJ (K1.out.below BL.out);go_wp2;rw [<- hw8];have r0:=HC.out.cell 0 _ rfl;have r1:=HC.out.cell 1 _ rfl;have r2:=HC.out.cell 2 _ rfl;have r3:=HC.out.cell 3 _ rfl;exact bodyPost_ret (v:=.agg #[.string ⟨#[115,112,97,110]⟩,.string ⟨#[]⟩,(.slice a2 1 c2),(.slice a4 n4 c4)]) (by simp [results,Tryz.results100,go_sem,r0,r1,r2,r3]) rfl HP.out
theorem Na:tX 12:=by
 intro t d ti at_ ar ci ks vc vp va vi vk w hR hs hl
 have E:Hid ((aj.mk 12 t d ti at_ ar ci ks).nd=aN nA [⟨gL,tY++t⟩,⟨eP,kZ⟩] (bG t)):=by show _=_;rw [aj.nd];rfl
 rw [E.out];obtain ⟨ac,nc,cc,ap,np,cp,aa,na,ca,ai,ni,rP,ak,nk,ck,S,W0,rfl,rfl,rfl,rfl,rfl,HS,HW0,e0,SX,kD,HR,Z0,B0,K1⟩:=jP (.int .i64 12) t d ti hR hl;have iR:=hid hs;have hst:t.size<=300:=by rw [aj.small] at hs;exact hs.1
 clear hR hs hl E;go_enter Tryz.func100,Tryz.ntmps100;go_upto_region 24 with (fail)
 rw [<- HS.out];have hk0:=HW0.out;simp only [jy] at hk0;rw [<- hk0];clear hk0;obtain ⟨PC,kF⟩:=M8 ⟨#[104,114,101,102]⟩ (⟨#[35,110,111,116,101,45]⟩++t) ⟨#[99,108,97,115,115]⟩ ⟨#[110,111,116,101,114,101,102]⟩ W0;have SF:=hid (fun (w':jh9) (hb:jhj W0.heap.size W0 w')=>((SX.out w' hb).1:w'.cell? ⟨S,1,none⟩=some (.string t)));have S0:=SF.out _ (je7 _ _).drew;have S1:=SF.out _ kF.out;have QV:Hid (∀ W:jh9,Calls Tryz.prog 68 #[.string t] W (bU W (bG t))):=fun W=>fu t W
 have q5:(⟨#[35,110,111,116,101,45]⟩:ByteArray).size+t.size<=9223372036854775807:=by have:(⟨#[35,110,111,116,101,45]⟩:ByteArray).size=6:=rfl;omega
 have q6:6+t.size<=9223372036854775807:=by omega
 have hadd:∀ w:jh9,(Op.stringOp .add (⟨#[35,110,111,116,101,45]⟩:ByteArray) t).run Tryz.prog w=.ok (.string (⟨#[35,110,111,116,101,45]⟩++t)) w:=fun w=>run_string_add_sum w _ _ q5
 go_wp2_with fail
 go_region_held3 (fun w'=>w'.cell? ⟨S,1,none⟩=some (.string t))
  (with_reducible assumption)
  (first
   | (go_simp;go_at_call 58;(with_reducible refine PC.out.mono ?_);rintro e w2 ⟨aW,v2,rfl,hrow2⟩;obtain ⟨a2,c2,rfl,-,-⟩:=hrow2.cap (n:=2) rfl;have B2:=hid (kF.out.trans (hrow2.aJ.mono kF.out.size));have tF:=hid (show Rd (W0.heap.size<=·) w2 (bS [⟨gL,tY++t⟩,⟨eP,kZ⟩]) [.slice a2 2 c2] from hrow2.eO.weaken (fun b hb=>je9 kF.out.size hb));have S2:=SF.out w2 B2.out;have DC:=hid (QV.out w2))
   | (go_simp;go_at_call 68;(with_reducible refine DC.out.mono ?_);rintro e w4 ⟨dw,v4,rfl,hrow4⟩;obtain ⟨a4,n4,c4,rfl⟩:=hrow4.slice3;have b4:=hrow4.aJ;have B4:=hid (aU B2.out b4);have fI:=hid (show Rd (W0.heap.size<=·) w4 (bX (bG t)) [.slice a4 n4 c4] from hrow4.eO.weaken (fun b hb=>je9 (B2.out).size hb));have mV:=hid (tF.out.aV b4);have S4:=SF.out w4 B4.out;have EC:=hid (iC ⟨#[97]⟩ a2 a4 2 n4 c2 c4 w4))
   | (go_simp;go_at_call 57;(with_reducible refine EC.out.mono ?_);rintro e w5 ⟨rfl,b5⟩;have BL:=hid (aU B4.out b5);obtain ⟨x0,x1,x2,x3,xf⟩:=mJ (K1.out.below BL.out);have S5:=SF.out w5 BL.out;have K6:=qN S w5 (.string ⟨#[97]⟩) (.string ⟨#[]⟩) (.slice a2 2 c2) (.slice a4 n4 c4);have S6:=K6 _ _ (SF.out w5 BL.out);clear K6))
 all_goals
  have HN:=hid (show jA (W0.heap.size<=·) w5 [⟨gL,tY++t⟩,⟨eP,kZ⟩] (bG t) (.slice a2 2 c2) (.slice a4 n4 c4) from ⟨mV.out.aV b5,fI.out.aV b5⟩);clear b5 fI EC mV hrow2 hrow4 b4 S0 S1 S2 S4 S5 S6 tF;obtain ⟨w9,dG⟩:∃ w9,w9=four w5 (S+1) (.string ⟨#[97]⟩) (.string ⟨#[]⟩) (.slice a2 2 c2) (.slice a4 n4 c4):=⟨_,rfl⟩;have hf:=fO ⟨#[97]⟩ ⟨#[]⟩ [⟨gL,tY++t⟩,⟨eP,kZ⟩] (bG t) HS.out Z0.out B0.out K1.out BL.out HN.out;rw [<- dG] at hf;have HC:=hid hf.1;have HP:=hid hf.2;clear hf;have hw8:=dG;simp only [four] at hw8;clear dG;obtain ⟨x0,x1,x2,x3,xf⟩:=mJ (K1.out.below BL.out);go_wp2;rw [<- hw8];have r0:=HC.out.cell 0 _ rfl;have r1:=HC.out.cell 1 _ rfl;have r2:=HC.out.cell 2 _ rfl;have r3:=HC.out.cell 3 _ rfl;exact bodyPost_ret (v:=.agg #[.string ⟨#[97]⟩,.string ⟨#[]⟩,(.slice a2 2 c2),(.slice a4 n4 c4)]) (by simp [results,Tryz.results100,go_sem,r0,r1,r2,r3]) rfl HP.out
theorem Nb:tX 16:=by
 intro t d ti at_ ar ci ks vc vp va vi vk w hR hs hl
 have E:Hid ((aj.mk 16 t d ti at_ ar ci ks).nd=aN nA [⟨gL,d⟩] (bG d)):=by show _=_;rw [aj.nd];rfl
 rw [E.out];obtain ⟨ac,nc,cc,ap,np,cp,aa,na,ca,ai,ni,rP,ak,nk,ck,S,W0,rfl,rfl,rfl,rfl,rfl,HS,HW0,e0,SX,kD,HR,Z0,B0,K1⟩:=jP (.int .i64 16) t d ti hR hl;have iR:=hid hs;have hst:t.size<=300:=by rw [aj.small] at hs;exact hs.1
 clear hR hs hl E;go_enter Tryz.func100,Tryz.ntmps100;go_upto_region 26 with (fail)
 rw [<- HS.out];have hk0:=HW0.out;simp only [jy] at hk0;rw [<- hk0];clear hk0;obtain ⟨PC,kF⟩:=yN ⟨#[104,114,101,102]⟩ d W0;have SF:=hid (fun (w':jh9) (hb:jhj W0.heap.size W0 w')=>((SX.out w' hb).2.1:w'.cell? ⟨S,2,none⟩=some (.string d)));have S0:=SF.out _ (je7 _ _).drew;have S1:=SF.out _ kF.out;have QV:Hid (∀ W:jh9,Calls Tryz.prog 68 #[.string d] W (bU W (bG d))):=fun W=>fu d W
 go_wp2_with fail
 go_region_held3 (fun w'=>w'.cell? ⟨S,2,none⟩=some (.string d))
  (with_reducible assumption)
  (first
   | (go_simp;go_at_call 58;(with_reducible refine PC.out.mono ?_);rintro e w2 ⟨aW,v2,rfl,hrow2⟩;obtain ⟨a2,c2,rfl,-,-⟩:=hrow2.cap (n:=1) rfl;have B2:=hid (kF.out.trans (hrow2.aJ.mono kF.out.size));have tF:=hid (show Rd (W0.heap.size<=·) w2 (bS [⟨gL,d⟩]) [.slice a2 1 c2] from hrow2.eO.weaken (fun b hb=>je9 kF.out.size hb));have S2:=SF.out w2 B2.out;have DC:=hid (QV.out w2))
   | (go_simp;go_at_call 68;(with_reducible refine DC.out.mono ?_);rintro e w4 ⟨dw,v4,rfl,hrow4⟩;obtain ⟨a4,n4,c4,rfl⟩:=hrow4.slice3;have b4:=hrow4.aJ;have B4:=hid (aU B2.out b4);have fI:=hid (show Rd (W0.heap.size<=·) w4 (bX (bG d)) [.slice a4 n4 c4] from hrow4.eO.weaken (fun b hb=>je9 (B2.out).size hb));have mV:=hid (tF.out.aV b4);have S4:=SF.out w4 B4.out;have EC:=hid (iC ⟨#[97]⟩ a2 a4 1 n4 c2 c4 w4))
   | (go_simp;go_at_call 57;(with_reducible refine EC.out.mono ?_);rintro e w5 ⟨rfl,b5⟩;have BL:=hid (aU B4.out b5);obtain ⟨x0,x1,x2,x3,xf⟩:=mJ (K1.out.below BL.out);have S5:=SF.out w5 BL.out;have K6:=qN S w5 (.string ⟨#[97]⟩) (.string ⟨#[]⟩) (.slice a2 1 c2) (.slice a4 n4 c4);have S6:=K6 _ _ (SF.out w5 BL.out);clear K6))
 all_goals
  have HN:=hid (show jA (W0.heap.size<=·) w5 [⟨gL,d⟩] (bG d) (.slice a2 1 c2) (.slice a4 n4 c4) from ⟨mV.out.aV b5,fI.out.aV b5⟩);clear b5 fI EC mV hrow2 hrow4 b4 S0 S1 S2 S4 S5 S6 tF;obtain ⟨w9,dG⟩:∃ w9,w9=four w5 (S+1) (.string ⟨#[97]⟩) (.string ⟨#[]⟩) (.slice a2 1 c2) (.slice a4 n4 c4):=⟨_,rfl⟩;have hf:=fO ⟨#[97]⟩ ⟨#[]⟩ [⟨gL,d⟩] (bG d) HS.out Z0.out B0.out K1.out BL.out HN.out;rw [<- dG] at hf;have HC:=hid hf.1;have HP:=hid hf.2;clear hf;have hw8:=dG;simp only [four] at hw8;clear dG;obtain ⟨x0,x1,x2,x3,xf⟩:=mJ (K1.out.below BL.out);go_wp2;rw [<- hw8];have r0:=HC.out.cell 0 _ rfl;have r1:=HC.out.cell 1 _ rfl;have r2:=HC.out.cell 2 _ rfl;have r3:=HC.out.cell 3 _ rfl;exact bodyPost_ret (v:=.agg #[.string ⟨#[97]⟩,.string ⟨#[]⟩,(.slice a2 1 c2),(.slice a4 n4 c4)]) (by simp [results,Tryz.results100,go_sem,r0,r1,r2,r3]) rfl HP.out
theorem Rh:tX 9:=by
 intro t d ti at_ ar ci ks vc vp va vi vk w hR hs hl
 have E:Hid ((aj.mk 9 t d ti at_ ar ci ks).nd=aN nA (⟨gL,d⟩::iD cZ ti) (iL ks)):=by show _=_;rw [aj.nd];rfl
 rw [E.out];obtain ⟨ac,nc,cc,ap,np,cp,aa,na,ca,ai,ni,rP,ak,nk,ck,S,W0,rfl,rfl,rfl,rfl,rfl,HS,HW0,e0,SX,kD,HR,Z0,B0,K1⟩:=jP (.int .i64 9) t d ti hR hl;have iR:=hid hs;have hst:t.size<=300:=by rw [aj.small] at hs;exact hs.1
 clear hR hs hl E;go_enter Tryz.func100,Tryz.ntmps100;go_upto_region 17 with (fail)
 rw [<- HS.out];have hk0:=HW0.out;simp only [jy] at hk0;rw [<- hk0];clear hk0;obtain ⟨PC,kF⟩:=yN ⟨#[104,114,101,102]⟩ d W0;have SF:=hid (fun (w':jh9) (hb:jhj W0.heap.size W0 w')=>(⟨(SX.out w' hb).2.1,(SX.out w' hb).2.2.1,(SX.out w' hb).2.2.2.2.2.2⟩:w'.cell? ⟨S,2,none⟩=some (.string d)/\w'.cell? ⟨S,3,none⟩=some (.string ti)/\w'.cell? ⟨S,9,none⟩=some (.slice ak nk ck)));have S0:=SF.out _ (je7 _ _).drew;have S1:=SF.out _ kF.out;go_wp2_with fail
 go_region_held3 (fun w'=>w'.cell? ⟨S,2,none⟩=some (.string d)/\w'.cell? ⟨S,3,none⟩=some (.string ti)/\w'.cell? ⟨S,9,none⟩=some (.slice ak nk ck))
  (with_reducible assumption)
  (first
   | (go_simp;go_at_call 58;(with_reducible refine PC.out.mono ?_);rintro e w2 ⟨aW,v2,rfl,hrow2⟩;obtain ⟨a2,c2,rfl,-,-⟩:=hrow2.cap (n:=1) rfl;have B2:=hid (kF.out.trans (hrow2.aJ.mono kF.out.size));have tF:=hid (show Rd (W0.heap.size<=·) w2 (bS [⟨gL,d⟩]) [.slice a2 1 c2] from hrow2.eO.weaken (fun b hb=>je9 kF.out.size hb));have S2:=SF.out w2 B2.out;have TC:=hid (tK [⟨gL,d⟩] ti _ aW _ _ w2 hrow2 (by simp)))
   | (go_simp;go_at_call 150;(with_reducible refine TC.out.mono ?_);rintro e w3 ⟨fM,v3,rfl,hrow3,hg3⟩;obtain ⟨a3,n3,c3,rfl⟩:=hrow3.slice3;have B3:=hid (kF.out.trans (hrow3.aJ.mono kF.out.size));have yJ:=hid (show Rd (W0.heap.size<=·) w3 (bS ([⟨gL,d⟩]++iD cZ ti)) [.slice a3 n3 c3] from hrow3.eO.weaken (fun b hb=>je9 kF.out.size hb));have S3:=SF.out w3 B3.out;have LC:=hid (kD.out w3 B3.out))
   | (go_simp;go_at_call 50;(with_reducible refine LC.out.mono ?_);rintro e w4 ⟨dw,v4,rfl,hrow4⟩;obtain ⟨a4,n4,c4,rfl⟩:=hrow4.slice3;have b4:=hrow4.aJ;have B4:=hid (aU B3.out b4);have fI:=hid (show Rd (W0.heap.size<=·) w4 (bX (iL ks)) [.slice a4 n4 c4] from hrow4.eO.weaken (fun b hb=>je9 B3.out.size hb));have mV:=hid (yJ.out.aV b4);have S4:=SF.out w4 B4.out;have EC:=hid (iC ⟨#[97]⟩ a3 a4 n3 n4 c3 c4 w4))
   | (go_simp;go_at_call 57;(with_reducible refine EC.out.mono ?_);rintro e w5 ⟨rfl,b5⟩;have BL:=hid (aU B4.out b5);obtain ⟨x0,x1,x2,x3,xf⟩:=mJ (K1.out.below BL.out);have S5:=SF.out w5 BL.out;have K6:=qN S w5 (.string ⟨#[97]⟩) (.string ⟨#[]⟩) (.slice a3 n3 c3) (.slice a4 n4 c4);have S6:=And.imp (K6 _ _) (And.imp (K6 _ _) (K6 _ _)) (SF.out w5 BL.out);clear K6))
 all_goals
  have HN:=hid (show jA (W0.heap.size<=·) w5 ([⟨gL,d⟩]++iD cZ ti) (iL ks) (.slice a3 n3 c3) (.slice a4 n4 c4) from ⟨mV.out.aV b5,fI.out.aV b5⟩);clear b5 fI EC mV hrow2 hrow3 hrow4 hg3 b4 S0 S1 S2 S3 S4 S5 S6 tF yJ;obtain ⟨w9,dG⟩:∃ w9,w9=four w5 (S+1) (.string ⟨#[97]⟩) (.string ⟨#[]⟩) (.slice a3 n3 c3) (.slice a4 n4 c4):=⟨_,rfl⟩;have hf:=fO ⟨#[97]⟩ ⟨#[]⟩ ([⟨gL,d⟩]++iD cZ ti) (iL ks) HS.out Z0.out B0.out K1.out BL.out HN.out;rw [<- dG] at hf;have HC:=hid hf.1;have HP:=hid hf.2;clear hf;have hw8:=dG;simp only [four] at hw8;clear dG;obtain ⟨x0,x1,x2,x3,xf⟩:=mJ (K1.out.below BL.out);go_wp2;rw [<- hw8];have r0:=HC.out.cell 0 _ rfl;have r1:=HC.out.cell 1 _ rfl;have r2:=HC.out.cell 2 _ rfl;have r3:=HC.out.cell 3 _ rfl;exact bodyPost_ret (v:=.agg #[.string ⟨#[97]⟩,.string ⟨#[]⟩,(.slice a3 n3 c3),(.slice a4 n4 c4)]) (by simp [results,Tryz.results100,go_sem,r0,r1,r2,r3]) rfl HP.out
theorem Nc:tX 11:=by
 intro t d ti at_ ar ci ks vc vp va vi vk w hR hs hl
 have E:Hid ((aj.mk 11 t d ti at_ ar ci ks).nd=aN FV (jB at_ []) (iL ks)):=by show _=_;rw [aj.nd];rfl
 rw [E.out];obtain ⟨ac,nc,cc,ap,np,cp,aa,na,ca,ai,ni,rP,ak,nk,ck,S,W0,rfl,rfl,rfl,rfl,rfl,HS,HW0,e0,SX,kD,HR,Z0,B0,K1⟩:=jP (.int .i64 11) t d ti hR hl;have iR:=hid hs;have hst:t.size<=300:=by rw [aj.small] at hs;exact hs.1
 clear hR hs hl E;go_enter Tryz.func100,Tryz.ntmps100;go_upto_region 22 with (fail)
 rw [<- HS.out];have hk0:=HW0.out;simp only [jy] at hk0;rw [<- hk0];clear hk0;have AC:=hid (Uw at_ [] (.slice ac nc cc) (.slice ap np cp) (.slice none 0 0) W0.drew W0.drew mI.nil (Q5 (by have:=Z0.out;omega) HR.out.at_) (yO iR.out).1 (yO iR.out).2);have SF:=hid (fun (w':jh9) (hb:jhj W0.heap.size W0 w')=>(⟨(SX.out w' hb).2.2.2.1,(SX.out w' hb).2.2.2.2.1,(SX.out w' hb).2.2.2.2.2.1,(SX.out w' hb).2.2.2.2.2.2⟩:w'.cell? ⟨S,4,none⟩=some (.string at_.id)/\w'.cell? ⟨S,5,none⟩=some (.slice ac nc cc)/\w'.cell? ⟨S,6,none⟩=some (.slice ap np cp)/\w'.cell? ⟨S,9,none⟩=some (.slice ak nk ck)));have S0:=SF.out _ (je7 _ _).drew;go_wp2_with fail
 go_region_held3 (fun w'=>w'.cell? ⟨S,4,none⟩=some (.string at_.id)/\w'.cell? ⟨S,5,none⟩=some (.slice ac nc cc)/\w'.cell? ⟨S,6,none⟩=some (.slice ap np cp)/\w'.cell? ⟨S,9,none⟩=some (.slice ak nk ck))
  (with_reducible assumption)
  (first
   | (go_simp;go_at_call 152;(with_reducible refine AC.out.mono ?_);rintro e w3 ⟨fM,v3,rfl,hrow3⟩;obtain ⟨a3,n3,c3,rfl⟩:=hrow3.slice3;have B3:Hid (jhj W0.heap.size W0 w3):=((je7 W0.heap.size W0).drew).trans hrow3.aJ;have yJ:Hid (Rd (W0.heap.size<=·) w3 (bS (jB at_ [])) [.slice a3 n3 c3]):=hrow3.eO;have S3:=SF.out w3 B3.out;have LC:=hid (kD.out w3 B3.out))
   | (go_simp;go_at_call 50;(with_reducible refine LC.out.mono ?_);rintro e w4 ⟨dw,v4,rfl,hrow4⟩;obtain ⟨a4,n4,c4,rfl⟩:=hrow4.slice3;have b4:=hrow4.aJ;have B4:=hid (aU B3.out b4);have fI:=hid (show Rd (W0.heap.size<=·) w4 (bX (iL ks)) [.slice a4 n4 c4] from hrow4.eO.weaken (fun b hb=>je9 B3.out.size hb));have mV:=hid (yJ.out.aV b4);have S4:=SF.out w4 B4.out;have EC:=hid (iC ⟨#[115,112,97,110]⟩ a3 a4 n3 n4 c3 c4 w4))
   | (go_simp;go_at_call 57;(with_reducible refine EC.out.mono ?_);rintro e w5 ⟨rfl,b5⟩;have BL:=hid (aU B4.out b5);obtain ⟨x0,x1,x2,x3,xf⟩:=mJ (K1.out.below BL.out);have S5:=SF.out w5 BL.out;have K6:=qN S w5 (.string ⟨#[115,112,97,110]⟩) (.string ⟨#[]⟩) (.slice a3 n3 c3) (.slice a4 n4 c4);have S6:=And.imp (K6 _ _) (And.imp (K6 _ _) (And.imp (K6 _ _) (K6 _ _))) (SF.out w5 BL.out);clear K6))
 all_goals
  have HN:=hid (show jA (W0.heap.size<=·) w5 (jB at_ []) (iL ks) (.slice a3 n3 c3) (.slice a4 n4 c4) from ⟨mV.out.aV b5,fI.out.aV b5⟩);clear b5 fI EC mV hrow3 hrow4 b4 S0 S3 S4 S5 S6 yJ;obtain ⟨w9,dG⟩:∃ w9,w9=four w5 (S+1) (.string ⟨#[115,112,97,110]⟩) (.string ⟨#[]⟩) (.slice a3 n3 c3) (.slice a4 n4 c4):=⟨_,rfl⟩;have hf:=fO ⟨#[115,112,97,110]⟩ ⟨#[]⟩ (jB at_ []) (iL ks) HS.out Z0.out B0.out K1.out BL.out HN.out;rw [<- dG] at hf;have HC:=hid hf.1;have HP:=hid hf.2;clear hf;have hw8:=dG;simp only [four] at hw8;clear dG;obtain ⟨x0,x1,x2,x3,xf⟩:=mJ (K1.out.below BL.out);go_wp2;rw [<- hw8];have r0:=HC.out.cell 0 _ rfl;have r1:=HC.out.cell 1 _ rfl;have r2:=HC.out.cell 2 _ rfl;have r3:=HC.out.cell 3 _ rfl;exact bodyPost_ret (v:=.agg #[.string ⟨#[115,112,97,110]⟩,.string ⟨#[]⟩,(.slice a3 n3 c3),(.slice a4 n4 c4)]) (by simp [results,Tryz.results100,go_sem,r0,r1,r2,r3]) rfl HP.out
theorem Nf (t d ti:ByteArray) (at_:At) (ar:List ByteArray) (ci:List Ci) (ks:List aj) (vc vp va vi vk:jhk) (w:jh9) (hR:tT (·<w.heap.size) w at_ ar ci ks vc vp va vi vk) (hs:(aj.mk (10:Int) t d ti at_ ar ci ks).small) (hl:BD w ks vk) (hz:aj.aS ks<=1000000) : Calls Tryz.prog 100 #[.agg #[.int .i64 10,.string t,.string d,.string ti,.string at_.id,vc,vp,va,vi,vk]] w (rQ w (aj.mk (10:Int) t d ti at_ ar ci ks).nd):=by
 have E:Hid ((aj.mk 10 t d ti at_ ar ci ks).nd=aN UU ([⟨BF,d⟩,⟨BG,lg ks⟩]++iD cZ ti++jB at_ []) []):=by show _=_;rw [aj.nd];rfl
 rw [E.out];obtain ⟨ac,nc,cc,ap,np,cp,aa,na,ca,ai,ni,rP,ak,nk,ck,S,W0,rfl,rfl,rfl,rfl,rfl,HS,HW0,e0,SX,kD,HR,Z0,B0,K1⟩:=jP (.int .i64 10) t d ti hR hl;have iR:=hid hs;have hst:t.size<=300:=by rw [aj.small] at hs;exact hs.1
 clear hR hs hl E;go_enter Tryz.func100,Tryz.ntmps100;go_upto_region 19 with (fail)
 rw [<- HS.out];have hk0:=HW0.out;simp only [jy] at hk0;rw [<- hk0];clear hk0;have hpl:(aj.aM ks).length<=1000000000:=by have h:=iR.out;rw [aj.small] at h;have:=aj.ql ks h.2.2.2.2.2.2.2.2;omega
 have PL:=hid (Dk ks (.slice ak nk ck) W0.drew (Rd.keep (w:=W0) (w':=W0.drew) (ok:=(·<S)) (fun b (hb:b<S) _=>⟨by have:=Z0.out;show b<W0.heap.size;omega,rfl⟩) _ _ HR.out.kids) hpl);have SF:=hid (fun (w':jh9) (hb:jhj W0.heap.size W0 w')=>(⟨(SX.out w' hb).2.1,(SX.out w' hb).2.2.1,(SX.out w' hb).2.2.2.2.2.2⟩:w'.cell? ⟨S,2,none⟩=some (.string d)/\w'.cell? ⟨S,3,none⟩=some (.string ti)/\w'.cell? ⟨S,9,none⟩=some (.slice ak nk ck)));have S0:=SF.out _ (je7 _ _).drew;clear hpl;go_wp2_with fail
 go_region_held3 (fun w'=>w'.cell? ⟨S,2,none⟩=some (.string d)/\w'.cell? ⟨S,3,none⟩=some (.string ti)/\w'.cell? ⟨S,9,none⟩=some (.slice ak nk ck))
  (with_reducible assumption)
  (first
   | (go_simp;go_at_call 151;(with_reducible refine PL.out.mono ?_);rintro e w1 ⟨rfl,b1⟩;have B1:Hid (jhj W0.heap.size W0 w1):=((je7 W0.heap.size W0).drew).trans b1;obtain ⟨PC,kF⟩:=M9 ⟨#[115,114,99]⟩ d ⟨#[97,108,116]⟩ ⟨(aj.aM ks).toArray⟩ B1 B1.out.size;have S1:=SF.out w1 B1.out;have S1a:=SF.out _ kF.out)
   | (go_simp;go_at_call 58;(with_reducible refine PC.out.mono ?_);rintro e w2 ⟨aW,v2,rfl,hrow2⟩;obtain ⟨a2,c2,rfl,-,-⟩:=hrow2.cap (n:=2) rfl;have B2:=hid (kF.out.trans (hrow2.aJ.mono kF.out.size));have tF:=hid (show Rd (W0.heap.size<=·) w2 (bS [⟨BF,d⟩,⟨BG,lg ks⟩]) [.slice a2 2 c2] from hrow2.eO.weaken (fun b hb=>je9 kF.out.size hb));have YS:=kF;have S2:=SF.out w2 B2.out;have TC:=hid (tK [⟨BF,d⟩,⟨BG,lg ks⟩] ti _ aW _ _ w2 hrow2 (by simp)))
   | (go_simp;go_at_call 150;(with_reducible refine TC.out.mono ?_);rintro e w3 ⟨fM,v3,rfl,hrow3,hg3⟩;have B3:=hid (kF.out.trans (hrow3.aJ.mono kF.out.size));have S3:=SF.out w3 B3.out))
 all_goals
  obtain ⟨m3,Ms⟩:∃ m,m=(List.map Pr.d ([⟨BF,d⟩,⟨BG,lg ks⟩]++iD cZ ti)).length:=⟨_,rfl⟩;obtain ⟨a3,c3,rfl,-,-⟩:=hrow3.cap Ms.symm;have YT:m3<=3:=by rw [Ms];unfold iD;split<;>simp
  have Tx:=hid Ms.symm;have U3:=hid hrow3;obtain ⟨-,-,-,g4,g5,g6,-⟩:=SX.out w3 B3.out;have AC:=hid (Uw at_ [] (.slice ac nc cc) (.slice ap np cp) (.slice none 0 0) w3 w3 mI.nil (yH HR.out.at_ B3.out (by have:=Z0.out;omega)) (yO iR.out).1 (yO iR.out).2);clear Ms hrow3 hrow2 hg3 b1 S0 S1 S1a S2 S3 PL PC TC tF kF B2;go_wp2_with fail
  (with_reducible refine AC.out.mono ?_)
  rintro e w4 ⟨dw,v4,rfl,hrow4⟩;obtain ⟨m4,OZ⟩:∃ m,m=(List.map Pr.d (jB at_ [])).length:=⟨_,rfl⟩;obtain ⟨a4,c4,rfl,-,-⟩:=hrow4.cap OZ.symm;have jcx:m4<=2:=by rw [OZ];unfold jB iD JX;split<;>split<;>simp
  have HM4:=hid OZ.symm;have b4:=hrow4.aJ;have U4:=hid (U3.out.below b4);have X4:=hid (show Rd (fun b=>False\/w3.heap.size<=b) w4 (.sl 2 (List.map Pr.d (jB at_ []))) [.slice a4 m4 c4] from hrow4.eO.weaken (fun b hb=>.inr hb));have B4:=hid (aU B3.out b4);have O1:=hid (fun (rs:List (List jhk)) (ok':Nat->Prop) h=>JY (jB at_ []) rs ok' w4 h);obtain ⟨iP,hiP,Br,Bt,Bu⟩:=info_parts pX;clear OZ hrow4 b4 g4 g5 g6 AC;go_wp2_with (at_builtin;refine A9 (n:=m3) (m:=m4) rfl _ _ 25 rfl iP _ 32 Tryz.underlying25 hiP Br Bt Bu rfl (by decide) U4.out (fun _=>False.elim) (.slice a4 m4 c4) X4.out O1.out Tx.out HM4.out (by omega) (by decide) rfl rfl ?_)
  intro a5 c5 qR w5 bR hg5;have B5:=hid (YS.out.trans (bR.aJ.mono YS.out.size));have AT5:Hid (Rd (W0.heap.size<=·) w5 (bS ([⟨BF,d⟩,⟨BG,lg ks⟩]++iD cZ ti++jB at_ [])) [.slice a5 (m3+m4) c5]):=by have h:=bR.eO.weaken (ok':=(W0.heap.size<=·)) (fun b hb=>je9 YS.out.size hb);show Rd _ _ (.sl 2 (List.map Pr.d _)) _;rw [List.map_append];exact h
  have EC:=hid (iC ⟨#[105,109,103]⟩ a5 none (m3+m4) 0 c5 0 w5);clear bR hg5 U4 X4 O1 U3;go_wp2_with fail
  (with_reducible refine EC.out.mono ?_)
  rintro e w6 ⟨rfl,b6⟩;have BL:=hid (aU B5.out b6);have HN:=hid (show jA (W0.heap.size<=·) w6 ([⟨BF,d⟩,⟨BG,lg ks⟩]++iD cZ ti++jB at_ []) [] (.slice a5 (m3+m4) c5) (.slice none 0 0) from ⟨AT5.out.aV b6,Rd.aB _ _ _⟩);clear b6 EC AT5;obtain ⟨w9,dG⟩:∃ w9,w9=four w6 (S+1) (.string ⟨#[105,109,103]⟩) (.string ⟨#[]⟩) (.slice a5 (m3+m4) c5) (.slice none 0 0):=⟨_,rfl⟩;have hf:=fO ⟨#[105,109,103]⟩ ⟨#[]⟩ ([⟨BF,d⟩,⟨BG,lg ks⟩]++iD cZ ti++jB at_ []) [] HS.out Z0.out B0.out K1.out BL.out HN.out;rw [<- dG] at hf;have HC:=hid hf.1;have HP:=hid hf.2;clear hf;have hw8:=dG;simp only [four] at hw8;clear dG;obtain ⟨x0,x1,x2,x3,xf⟩:=mJ (K1.out.below BL.out);go_wp2;rw [<- hw8];have r0:=HC.out.cell 0 _ rfl;have r1:=HC.out.cell 1 _ rfl;have r2:=HC.out.cell 2 _ rfl;have r3:=HC.out.cell 3 _ rfl;exact bodyPost_ret (v:=.agg #[.string ⟨#[105,109,103]⟩,.string ⟨#[]⟩,(.slice a5 (m3+m4) c5),(.slice none 0 0)]) (by simp [results,Tryz.results100,go_sem,r0,r1,r2,r3]) rfl HP.out
theorem D6 (k:Int) (t d ti:ByteArray) (at_:At) (ar:List ByteArray) (ci:List Ci) (ks:List aj) (vc vp va vi vk:jhk) (w:jh9) (hR:tT (·<w.heap.size) w at_ ar ci ks vc vp va vi vk) (hs:(aj.mk k t d ti at_ ar ci ks).small) (hl:BD w ks vk) (hz:aj.aS ks<=1000000) : Calls Tryz.prog 100 #[.agg #[.int .i64 k,.string t,.string d,.string ti,.string at_.id,vc,vp,va,vi,vk]] w (rQ w (aj.mk k t d ti at_ ar ci ks).nd):=by
 by_cases h2:k=2
 ·subst h2;exact Q6 t d ti at_ ar ci ks vc vp va vi vk w hR hs hl
 by_cases h3:k=3
 ·subst h3;exact Q8 t d ti at_ ar ci ks vc vp va vi vk w hR hs hl
 by_cases h4:k=4
 ·subst h4;exact Q9 t d ti at_ ar ci ks vc vp va vi vk w hR hs hl
 by_cases h5:k=5
 ·subst h5;exact Rf t d ti at_ ar ci ks vc vp va vi vk w hR hs hl
 by_cases h6:k=6
 ·subst h6;exact Ra t d ti at_ ar ci ks vc vp va vi vk w hR hs hl
 by_cases h7:k=7
 ·subst h7;exact Rb t d ti at_ ar ci ks vc vp va vi vk w hR hs hl
 by_cases h8:k=8
 ·subst h8;exact Rc t d ti at_ ar ci ks vc vp va vi vk w hR hs hl
 by_cases h9:k=9
 ·subst h9;exact Rh t d ti at_ ar ci ks vc vp va vi vk w hR hs hl
 by_cases h10:k=10
 ·subst h10;exact Nf t d ti at_ ar ci ks vc vp va vi vk w hR hs hl hz
 by_cases h11:k=11
 ·subst h11;exact Nc t d ti at_ ar ci ks vc vp va vi vk w hR hs hl
 by_cases h12:k=12
 ·subst h12;exact Na t d ti at_ ar ci ks vc vp va vi vk w hR hs hl
 by_cases h16:k=16
 ·subst h16;exact Nb t d ti at_ ar ci ks vc vp va vi vk w hR hs hl
 exact JW k t d ti at_ ar ci ks vc vp va vi vk w hR hs hl ⟨h2,h3,h4,h5,h6,h7,h8,h9,h10,h11,h12,h16⟩
open Go.RowKit
end Go.Proofs.YtclikfjalmcoaaaGreatDoor

