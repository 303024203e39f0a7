/- Contract of html.inline, given that of html.line at the Kids. Contract of publisherref33.Same: at equal nodes it answers true. Contract of the function that markup.Values calls for each node (markup.Values$1): the values of a key, one behind the other. Contracts of markup.Values and html.Anchors. -/
import Derived.Test.YtkfnkeflalcphaaGreatDoorKHtA
import Derived.Test.YtkfnkeflalcphaaGreatDoorKPlUn
set_option maxHeartbeats 4000000
set_option maxRecDepth 100000
open Go.Lib (hid)
namespace Go.Proofs.YtkfnkeflalcphaaGreatDoor
open Go.RowKit.Below renaming refl->jm0,heap_setCell->jm9
open Nat renaming le_trans->jm2
open Go renaming World->jp3,Value->jp5
open Go.RowKit renaming Below->jp4
open Go.RowKit
set_option linter.unusedVariables false
set_option linter.unusedSimpArgs false
def Ed (w:jp3) (ks:List aj) (vk:jp5):Prop:=∀ W:jp3,jp4 w.heap.size w W->Calls Tryz.prog 78 #[vk] W (dw W (kG ks))
def jN:List jp5:=[.string ⟨#[]⟩,.string ⟨#[]⟩,.slice none 0 0,.slice none 0 0]
def four (w:jp3) (p:Nat) (c0 c1 c2 c3:jp5):jp3:=(((w.setCell ⟨p,0,none⟩ c0).setCell ⟨p,1,none⟩ c1).setCell ⟨p,2,none⟩ c2).setCell ⟨p,3,none⟩ c3
theorem gW (w:jp3) (p:Nat) (c0 c1 c2 c3:jp5) (b:Nat) (h:b≠p):(four w p c0 c1 c2 c3).heap[b]?=w.heap[b]?:=by unfold four;rw [jm9 _ ⟨p,3,none⟩ _ b h,jm9 _ ⟨p,2,none⟩ _ b h,jm9 _ ⟨p,1,none⟩ _ b h,jm9 _ ⟨p,0,none⟩ _ b h]
theorem KH {w:jp3} {p:Nat} {c0 c1 c2 c3:jp5} {b o:Nat} {v:jp5} (h:w.cell? ⟨b,o,none⟩=some v) (hb:b≠p):(four w p c0 c1 c2 c3).cell? ⟨b,o,none⟩=some v:=by rw [iA (gW w p c0 c1 c2 c3 b hb)];exact h
theorem sJ (S:Nat) (w:jp3) (a b c d:jp5) (o:Nat) (v:jp5) (h:w.cell? ⟨S,o,none⟩=some v) : World.cell? ((((w.setCell ⟨S+1,0,none⟩ a).setCell ⟨S+1,1,none⟩ b).setCell ⟨S+1,2,none⟩ c).setCell ⟨S+1,3,none⟩ d) ⟨S,o,none⟩=some v:=KH h (by show S≠S+1;omega)
theorem dx {T:TypeId} {p:Nat} {cs:List jp5} {w:jp3} (h:CB T p cs w) (j:Nat) (u:jp5):CB T p (cs.set j u) (w.setCell ⟨p,j,none⟩ u):=by unfold CB at h ⊢;simp [World.setCell,Array.getElem?_modify,h]
theorem Jg {T:TypeId} {p:Nat} {a0 a1 a2 a3:jp5} {w:jp3} (h:CB T p [a0,a1,a2,a3] w) (c0 c1 c2 c3:jp5):CB T p [c0,c1,c2,c3] (four w p c0 c1 c2 c3):=
 dx (dx (dx (dx h 0 c0) 1 c1) 2 c2) 3 c3
theorem vU {B p:Nat} {a w:jp3} (h:jp4 B a w) (hp:B<=p) (c0 c1 c2 c3:jp5):jp4 B a (four w p c0 c1 c2 c3):=
 (((h.setCell (p:=⟨p,0,none⟩) hp c0).setCell (p:=⟨p,1,none⟩) hp c1).setCell (p:=⟨p,2,none⟩) hp c2).setCell (p:=⟨p,3,none⟩) hp c3
theorem rz (T:TypeId) (w:jp3) (xc:List jp5):∃ S W0,S=w.heap.size/\W0=(w.alloc (.cells xc.toArray T)).alloc (.cells jN.toArray 35)/\W0.heap.size=S+2/\CB T S xc W0/\CB 35 (S+1) jN W0/\jp4 S w W0:=by
 refine ⟨_,_,rfl,rfl,by simp,?_,?_,((jm0 _ _).alloc (Nat.le_refl _) _).alloc (by simp) _⟩
 ·exact (Below.heap_alloc _ _ _ (by simp)).trans (CB.new _ _ w)
 ·have:=CB.new 35 jN (w.alloc (.cells xc.toArray T))
  rwa [World.size_alloc] at this
theorem Zv {T:TypeId} {S:Nat} {W0:jp3} {x0 x1 x2 x3 x4 x5 x6 x7 x8 x9:jp5} (k0:CB T S [x0,x1,x2,x3,x4,x5,x6,x7,x8,x9] W0) : Hid (∀ w':jp3,jp4 W0.heap.size W0 w'->w'.cell? ⟨S,1,none⟩=some x1/\w'.cell? ⟨S,2,none⟩=some x2/\w'.cell? ⟨S,3,none⟩=some x3/\w'.cell? ⟨S,4,none⟩=some x4/\w'.cell? ⟨S,5,none⟩=some x5/\w'.cell? ⟨S,6,none⟩=some x6/\w'.cell? ⟨S,9,none⟩=some x9):=
 fun w' hb=>⟨(k0.below hb).cell 1 _ rfl,(k0.below hb).cell 2 _ rfl,(k0.below hb).cell 3 _ rfl,(k0.below hb).cell 4 _ rfl,(k0.below hb).cell 5 _ rfl,(k0.below hb).cell 6 _ rfl,(k0.below hb).cell 9 _ rfl⟩
theorem Zw {T:TypeId} {S:Nat} {W0:jp3} {x0 x1 x2 x3 x4 x5 x6 x7 x8 x9 x10:jp5} (k0:CB T S [x0,x1,x2,x3,x4,x5,x6,x7,x8,x9,x10] W0) : Hid (∀ w':jp3,jp4 W0.heap.size W0 w'->w'.cell? ⟨S,1,none⟩=some x1/\w'.cell? ⟨S,2,none⟩=some x2/\w'.cell? ⟨S,3,none⟩=some x3/\w'.cell? ⟨S,4,none⟩=some x4/\w'.cell? ⟨S,5,none⟩=some x5/\w'.cell? ⟨S,6,none⟩=some x6/\w'.cell? ⟨S,7,none⟩=some x7/\w'.cell? ⟨S,8,none⟩=some x8/\w'.cell? ⟨S,9,none⟩=some x9/\w'.cell? ⟨S,10,none⟩=some x10):=
 fun w' hb=>⟨(k0.below hb).cell 1 _ rfl,(k0.below hb).cell 2 _ rfl,(k0.below hb).cell 3 _ rfl,(k0.below hb).cell 4 _ rfl,(k0.below hb).cell 5 _ rfl,(k0.below hb).cell 6 _ rfl,(k0.below hb).cell 7 _ rfl,(k0.below hb).cell 8 _ rfl,(k0.below hb).cell 9 _ rfl,(k0.below hb).cell 10 _ rfl⟩
theorem uo.upH {S:Nat} {w W0:jp3} {at_:At} {ar:List ByteArray} {ci:List Ci} {ks:List aj} {vc vp va vi vk:jp5} (hS:S=w.heap.size) (hR:uo (·<w.heap.size) w at_ ar ci ks vc vp va vi vk) (b0:jp4 S w W0):Hid (uo (·<S) W0 at_ ar ci ks vc vp va vi vk):=by subst hS;exact ⟨hR.at_.below b0,hR.args.below b0,hR.dG.below b0,hR.kids.below b0⟩
theorem kN.upH {S:Nat} {w W0:jp3} {at_:At} {li:List aj} {ks:List ah} {vc vp vl vk:jp5} (hS:S=w.heap.size) (hR:kN (·<w.heap.size) w at_ li ks vc vp vl vk) (b0:jp4 S w W0):Hid (kN (·<S) W0 at_ li ks vc vp vl vk):=by subst hS;exact ⟨hR.at_.below b0,hR.line.below b0,hR.kids.below b0⟩
theorem gQ {S:Nat} {w W0:jp3} {P:jp3->Prop} (hS:S=w.heap.size) (hl:∀ W,jp4 w.heap.size w W->P W) (b0:jp4 S w W0):Hid (∀ W,jp4 W0.heap.size W0 W->P W):=
 fun W hW=>hl W (by rw [<- hS];exact b0.trans (hW.mono (by have:=b0.size;omega)))
theorem kT {P:jp3->Prop} {at_:At} {ar:List ByteArray} {ci:List Ci} {ks:List aj} {vc vp va vi vk:jp5} {w:jp3} (kv:jp5) (t d ti:ByteArray) (hR:uo (·<w.heap.size) w at_ ar ci ks vc vp va vi vk) (hl:∀ W,jp4 w.heap.size w W->P W) : ∃ ac nc cc ap np cp aa na ca ai ni j5 ak nk ck S W0,vc=.slice ac nc cc/\vp=.slice ap np cp/\va=.slice aa na ca/\vi=.slice ai ni j5/\vk=.slice ak nk ck/\Hid (S=w.heap.size) /\ Hid (W0=(w.alloc (.cells [kv,.string t,.string d,.string ti,.string at_.id,vc,vp,va,vi,vk].toArray 66)).alloc (.cells jN.toArray 35))/\W0.cell? ⟨S,0,none⟩=some kv /\ Hid (∀ w':jp3,jp4 W0.heap.size W0 w'->w'.cell? ⟨S,1,none⟩=some (.string t)/\w'.cell? ⟨S,2,none⟩=some (.string d)/\w'.cell? ⟨S,3,none⟩=some (.string ti)/\w'.cell? ⟨S,4,none⟩=some (.string at_.id)/\w'.cell? ⟨S,5,none⟩=some vc/\w'.cell? ⟨S,6,none⟩=some vp/\w'.cell? ⟨S,9,none⟩=some vk) /\ Hid (∀ W,jp4 W0.heap.size W0 W->P W)/\Hid (uo (·<S) W0 at_ ar ci ks vc vp va vi vk)/\Hid (W0.heap.size=S+2)/\Hid (jp4 S w W0)/\Hid (CB 35 (S+1) jN W0):=by
 obtain ⟨ac,nc,cc,rfl⟩:=Rd.au hR.at_.cls
 obtain ⟨ap,np,cp,rfl⟩:=Rd.au hR.at_.aJ
 obtain ⟨aa,na,ca,rfl⟩:=Rd.au hR.args;obtain ⟨ai,ni,j5,rfl⟩:=Rd.au hR.dG;obtain ⟨ak,nk,ck,rfl⟩:=Rd.au hR.kids;obtain ⟨S,W0,hS,hW0,z0,k0,k1,b0⟩:=rz 66 w [kv,.string t,.string d,.string ti,.string at_.id,.slice ac nc cc,.slice ap np cp,.slice aa na ca,.slice ai ni j5,.slice ak nk ck];exact ⟨ac,nc,cc,ap,np,cp,aa,na,ca,ai,ni,j5,ak,nk,ck,S,W0,rfl,rfl,rfl,rfl,rfl,hS,hW0,k0.cell 0 _ rfl,Zv k0,gQ hS hl b0,uo.upH hS hR b0,z0,b0,k1⟩
theorem kP {at_:At} {li:List aj} {ks:List ah} {vc vp vl vk:jp5} {w:jp3} (kv:jp5) (lv:Int) (i t d ti:ByteArray) (hR:kN (·<w.heap.size) w at_ li ks vc vp vl vk) : ∃ ac nc cc ap np cp al nl cl ak nk ck S W0,vc=.slice ac nc cc/\vp=.slice ap np cp/\vl=.slice al nl cl/\vk=.slice ak nk ck/\Hid (S=w.heap.size) /\ Hid (W0=(w.alloc (.cells [kv,.int .i64 lv,.string i,.string t,.string d,.string ti,.string at_.id,vc,vp,vl,vk].toArray 48)).alloc (.cells jN.toArray 35))/\W0.cell? ⟨S,0,none⟩=some kv /\ Hid (∀ w':jp3,jp4 W0.heap.size W0 w'->w'.cell? ⟨S,1,none⟩=some (.int .i64 lv)/\w'.cell? ⟨S,2,none⟩=some (.string i)/\w'.cell? ⟨S,3,none⟩=some (.string t)/\w'.cell? ⟨S,4,none⟩=some (.string d)/\w'.cell? ⟨S,5,none⟩=some (.string ti)/\w'.cell? ⟨S,6,none⟩=some (.string at_.id)/\w'.cell? ⟨S,7,none⟩=some vc/\w'.cell? ⟨S,8,none⟩=some vp/\w'.cell? ⟨S,9,none⟩=some vl/\w'.cell? ⟨S,10,none⟩=some vk) /\ Hid (kN (·<S) W0 at_ li ks vc vp vl vk)/\Hid (W0.heap.size=S+2)/\Hid (jp4 S w W0)/\Hid (CB 35 (S+1) jN W0):=by
 obtain ⟨ac,nc,cc,rfl⟩:=Rd.au hR.at_.cls
 obtain ⟨ap,np,cp,rfl⟩:=Rd.au hR.at_.aJ
 obtain ⟨al,nl,cl,rfl⟩:=Rd.au hR.line;obtain ⟨ak,nk,ck,rfl⟩:=Rd.au hR.kids;obtain ⟨S,W0,hS,hW0,z0,k0,k1,b0⟩:=rz 48 w [kv,.int .i64 lv,.string i,.string t,.string d,.string ti,.string at_.id,.slice ac nc cc,.slice ap np cp,.slice al nl cl,.slice ak nk ck];exact ⟨ac,nc,cc,ap,np,cp,al,nl,cl,ak,nk,ck,S,W0,rfl,rfl,rfl,rfl,hS,hW0,k0.cell 0 _ rfl,Zw k0,kN.upH hS hR b0,z0,b0,k1⟩
theorem mg {T:TypeId} {p:Nat} {cs:List jp5} {w:jp3} (h:CB T p cs w) (j:Nat):w.frozen? ⟨p,j,none⟩=false:=by unfold CB at h;simp [World.frozen?,h]
theorem pY {p:Nat} {w:jp3} (h:CB 35 p jN w):w.cell? ⟨p,0,none⟩=some (.string ⟨#[]⟩)/\w.cell? ⟨p,1,none⟩=some (.string ⟨#[]⟩)/\w.cell? ⟨p,2,none⟩=some (.slice none 0 0)/\w.cell? ⟨p,3,none⟩=some (.slice none 0 0)/\∀ j,w.frozen? ⟨p,j,none⟩=false:=
 ⟨h.cell 0 _ rfl,h.cell 1 _ rfl,h.cell 2 _ rfl,h.cell 3 _ rfl,mg h⟩
theorem fE {S:Nat} {w W0 w3:jp3} (n t:ByteArray) (at_:List Pr) (ks:List Nd) {va vk:jp5} (hS:S=w.heap.size) (z0:W0.heap.size=S+2) (b0:jp4 S w W0) (k1:CB 35 (S+1) jN W0) (b3:jp4 W0.heap.size W0 w3) (hR:kZ (W0.heap.size<=·) w3 at_ ks va vk) : CB 35 (S+1) [.string n,.string t,va,vk] (four w3 (S+1) (.string n) (.string t) va vk)/\sI w (.mk n t at_ ks) (.returned (.agg #[.string n,.string t,va,vk])) (four w3 (S+1) (.string n) (.string t) va vk):=by refine ⟨Jg (k1.below b3) _ _ _ _,va,vk,rfl,hR.keep (fun b hb hlt=>⟨by omega,gW _ _ _ _ _ _ b (by omega)⟩),?_⟩;rw [<- hS];exact vU (b0.trans (b3.mono (by omega))) (by omega) _ _ _ _
theorem iE {S:Nat} {w W0 w3:jp3} (n t:ByteArray) (at_:List Pr) (ks:List Nd) {va vk:jp5} (hS:Hid (S=w.heap.size)) (z0:Hid (W0.heap.size=S+2)) (b0:Hid (jp4 S w W0)) (k1:Hid (CB 35 (S+1) jN W0)) (b3:Hid (jp4 W0.heap.size W0 w3)) (hR:kZ (W0.heap.size<=·) w3 at_ ks va vk) : ∃ w9,w9=(((w3.setCell ⟨S+1,0,none⟩ (.string n)).setCell ⟨S+1,1,none⟩ (.string t)).setCell ⟨S+1,2,none⟩ va).setCell ⟨S+1,3,none⟩ vk /\ w9.cell? ⟨S+1,0,none⟩=some (.string n)/\w9.cell? ⟨S+1,1,none⟩=some (.string t)/\w9.cell? ⟨S+1,2,none⟩=some va/\w9.cell? ⟨S+1,3,none⟩=some vk /\ Hid (sI w (.mk n t at_ ks) (.returned (.agg #[.string n,.string t,va,vk])) w9) /\ w3.cell? ⟨S+1,0,none⟩=some (.string ⟨#[]⟩)/\w3.cell? ⟨S+1,1,none⟩=some (.string ⟨#[]⟩)/\w3.cell? ⟨S+1,2,none⟩=some (.slice none 0 0)/\w3.cell? ⟨S+1,3,none⟩=some (.slice none 0 0)/\∀ j,w3.frozen? ⟨S+1,j,none⟩=false:=by
 have hf:=fE n t at_ ks hS.out z0.out b0.out k1.out b3.out hR
 exact ⟨_,rfl,hf.1.cell 0 _ rfl,hf.1.cell 1 _ rfl,hf.1.cell 2 _ rfl,hf.1.cell 3 _ rfl,hf.2,pY (k1.out.below b3.out)⟩
theorem qo (l:List ByteArray) (W:jp3) (hl:l.length<=maxLen):Rd (·<(W.alloc (.cells (l.map Value.string).toArray 9)).heap.size) (W.alloc (.cells (l.map Value.string).toArray 9)) (dW l) [.slice (some ⟨W.heap.size,0,none⟩) l.length l.length]:=
 Rd.Nl (B:=W.heap.size) (e:=9) ⟨by simp,.inr ⟨W.heap.size,l.length,(l.map Value.string).toArray,rfl,Nat.le_refl _,heap_alloc_new W _,Nat.le_refl _,hl,by simp,by
  show List.take (l.length*1) (l.map Value.string)=_;rw [List.take_of_length_le (by simp)]⟩⟩ (fun g hg=>by
   have e1:W.heap.size=g:=by simpa [Value.ownBlock] using hg
   simp;omega)
theorem QE (k v:ByteArray) (W:jp3):Calls Tryz.prog 41 #[.slice (some ⟨W.heap.size,0,none⟩) 2 2] (W.alloc (.cells #[.string k,.string v] 9)) (bI (W.alloc (.cells #[.string k,.string v] 9)) [⟨k,v⟩]):=
 jq [⟨k,v⟩] _ _ (qo [k,v] W (by unfold maxLen;simp)) (by simp)
theorem vV (k v k' v':ByteArray) (W:jp3):Calls Tryz.prog 41 #[.slice (some ⟨W.heap.size,0,none⟩) 4 4] (W.alloc (.cells #[.string k,.string v,.string k',.string v'] 9)) (bI (W.alloc (.cells #[.string k,.string v,.string k',.string v'] 9)) [⟨k,v⟩,⟨k',v'⟩]):=
 jq [⟨k,v⟩,⟨k',v'⟩] _ _ (qo [k,v,k',v'] W (by unfold maxLen;simp)) (by simp)
theorem nG (W:jp3) (o:Obj):jp4 W.heap.size W (W.alloc o).drew:=((jm0 _ _).alloc (Nat.le_refl _) _).drew
theorem BG (k v:ByteArray) (W:jp3):Hid (Calls Tryz.prog 41 #[.slice (some ⟨W.heap.size,0,none⟩) 2 2] (W.alloc (.cells #[.string k,.string v] 9)).drew (bI (W.alloc (.cells #[.string k,.string v] 9)).drew [⟨k,v⟩]))/\Hid (jp4 W.heap.size W (W.alloc (.cells #[.string k,.string v] 9)).drew):=
 ⟨QE k v W.drew,nG W _⟩
theorem Ra (k v k' v':ByteArray) (W:jp3):Hid (Calls Tryz.prog 41 #[.slice (some ⟨W.heap.size,0,none⟩) 4 4] (W.alloc (.cells #[.string k,.string v,.string k',.string v'] 9)).drew (bI (W.alloc (.cells #[.string k,.string v,.string k',.string v'] 9)).drew [⟨k,v⟩,⟨k',v'⟩]))/\Hid (jp4 W.heap.size W (W.alloc (.cells #[.string k,.string v,.string k',.string v'] 9)).drew):=
 ⟨vV k v k' v' W.drew,nG W _⟩
theorem Rb (k v k' v':ByteArray) {B:Nat} {W0 W:jp3} (h:Hid (jp4 B W0 W)) (hB:B<=W.heap.size):Hid (Calls Tryz.prog 41 #[.slice (some ⟨W.heap.size,0,none⟩) 4 4] (W.alloc (.cells #[.string k,.string v,.string k',.string v'] 9)) (bI (W.alloc (.cells #[.string k,.string v,.string k',.string v'] 9)) [⟨k,v⟩,⟨k',v'⟩]))/\Hid (jp4 B W0 (W.alloc (.cells #[.string k,.string v,.string k',.string v'] 9))):=
 ⟨vV k v k' v' W,h.out.alloc hB _⟩
theorem Bc {S:Nat} {W0 w':jp3} {a:At} {vc vp:jp5} (h:AtR (·<S) W0 a vc vp) (hb:jp4 W0.heap.size W0 w') (hS:S<=W0.heap.size):AtR (·<w'.heap.size) w' a vc vp:=
 ⟨Rd.keep (fun b (hb1:b<S) _=>⟨by have:=hb.size;omega,hb.block b (by omega)⟩) _ _ h.cls,Rd.keep (fun b (hb1:b<S) _=>⟨by have:=hb.size;omega,hb.block b (by omega)⟩) _ _ h.aJ⟩
theorem V4 {S:Nat} {W0:jp3} {a:At} {vc vp:jp5} (hS:S<=W0.heap.size) (h:AtR (·<S) W0 a vc vp):AtR (·<W0.drew.heap.size) W0.drew a vc vp:=
 ⟨Rd.keep (w:=W0) (w':=W0.drew) (ok:=(·<S)) (fun b (hb:b<S) _=>⟨(by show b<W0.heap.size;omega),rfl⟩) _ _ h.cls,Rd.keep (w:=W0) (w':=W0.drew) (ok:=(·<S)) (fun b (hb:b<S) _=>⟨(by show b<W0.heap.size;omega),rfl⟩) _ _ h.aJ⟩
theorem ay.slice3 {T:TypeId} {k U:Nat} {ok:Nat->Prop} {w0 w:jp3} {ds:List D} {rows:List (List jp5)} {v:jp5} (h:ay T k ok U w0 ds rows v w):∃ a n c,v=.slice a n c:=by obtain ⟨a,c,e⟩:=h.slice;exact ⟨a,_,c,e⟩
theorem BI {k:Int} {t d ti:ByteArray} {a:At} {ar:List ByteArray} {ci:List Ci} {ks:List aj} (h:(aj.mk k t d ti a ar ci ks).small):([]++a.cls).length<=100/\∀ c∈[]++a.cls,c.size<=1000:=by rw [aj.small] at h;obtain ⟨-,-,-,h,-⟩:=h;unfold At.short at h;rw [List.nil_append];exact ⟨by omega,fun c hc=>by have:=h.2.2.2.1 c hc;omega⟩
def vW (k:Int):Prop:=∀ (t d ti:ByteArray) (at_:At) (ar:List ByteArray) (ci:List Ci) (ks:List aj) (vc vp va vi vk:jp5) (w:jp3),uo (·<w.heap.size) w at_ ar ci ks vc vp va vi vk->(aj.mk k t d ti at_ ar ci ks).small->Ed w ks vk ->
 Calls Tryz.prog 130 #[.agg #[.int .i64 k,.string t,.string d,.string ti,.string at_.id,vc,vp,va,vi,vk]] w (sI w (aj.mk k t d ti at_ ar ci ks).nd)
theorem V5:vW 2:=by
 intro t d ti at_ ar ci ks vc vp va vi vk w hR hs hl
 have E:Hid ((aj.mk 2 t d ti at_ ar ci ks).nd=MI VG):=by show _=_;rw [aj.nd];rfl
 rw [E.out];obtain ⟨ac,nc,cc,ap,np,cp,aa,na,ca,ai,ni,j5,ak,nk,ck,S,W0,rfl,rfl,rfl,rfl,rfl,HS,HW0,e0,SX,lV,HR,Z0,B0,K1⟩:=kT (.int .i64 2) t d ti hR hl;have jM:=hid hs;have hst:t.size<=300:=by rw [aj.small] at hs;exact hs.1
 clear hR hs hl E;go_enter Tryz.func130,Tryz.ntmps130;go_upto_region 3 with (fail)
 rw [<- HS.out];have hk0:=HW0.out;simp only [jN] at hk0;rw [<- hk0];clear hk0;have BL:Hid (jp4 W0.heap.size W0 W0):=jm0 _ _;have f1:=K1.out;obtain ⟨w9,hw8,r0,r1,r2,r3,HP,x0,x1,x2,x3,xf⟩:=iE ⟨#[]⟩ ⟨#[32]⟩ [] [] HS Z0 B0 K1 BL ⟨Rd.aD _ _ _,Rd.aD _ _ _⟩;go_wp2;rw [<- hw8];exact bodyPost_ret (v:=.agg #[.string ⟨#[]⟩,.string ⟨#[32]⟩,(.slice none 0 0),(.slice none 0 0)]) (by simp [results,Tryz.results130,go_sem,r0,r1,r2,r3]) rfl HP.out
theorem Nn (k:Int) (t d ti:ByteArray) (at_:At) (ar:List ByteArray) (ci:List Ci) (ks:List aj) (vc vp va vi vk:jp5) (w:jp3) (hR:uo (·<w.heap.size) w at_ ar ci ks vc vp va vi vk) (hs:(aj.mk k t d ti at_ ar ci ks).small) (hl:Ed w ks vk) (hk:k≠2/\k≠3/\k≠4/\k≠5/\k≠6/\k≠7/\k≠8/\k≠9/\k≠10/\k≠11/\k≠12/\k≠16) : Calls Tryz.prog 130 #[.agg #[.int .i64 k,.string t,.string d,.string ti,.string at_.id,vc,vp,va,vi,vk]] w (sI w (aj.mk k t d ti at_ ar ci ks).nd):=by
 have E:Hid ((aj.mk k t d ti at_ ar ci ks).nd=MI t):=by show _=_;rw [aj.nd];obtain ⟨h2,h3,h4,h5,h6,h7,h8,h9,h10,h11,h12,h16⟩:=hk;rw [if_neg h2,if_neg h3,if_neg h4,if_neg h5,if_neg h6,if_neg h7,if_neg h8,if_neg h9,if_neg h10,if_neg h11,if_neg h12,if_neg h16]
 rw [E.out];obtain ⟨ac,nc,cc,ap,np,cp,aa,na,ca,ai,ni,j5,ak,nk,ck,S,W0,rfl,rfl,rfl,rfl,rfl,HS,HW0,e0,SX,lV,HR,Z0,B0,K1⟩:=kT (.int .i64 k) t d ti hR hl;have jM:=hid hs;have hst:t.size<=300:=by rw [aj.small] at hs;exact hs.1
 have q2:(k==2)=false:=by rw [beq_eq_false_iff_ne];exact hk.1
 have q3:(k==3)=false:=by rw [beq_eq_false_iff_ne];exact hk.2.1
 have q4:(k==4)=false:=by rw [beq_eq_false_iff_ne];exact hk.2.2.1
 have q5:(k==5)=false:=by rw [beq_eq_false_iff_ne];exact hk.2.2.2.1
 have q6:(k==6)=false:=by rw [beq_eq_false_iff_ne];exact hk.2.2.2.2.1
 have q7:(k==7)=false:=by rw [beq_eq_false_iff_ne];exact hk.2.2.2.2.2.1
 have q8:(k==8)=false:=by rw [beq_eq_false_iff_ne];exact hk.2.2.2.2.2.2.1
 have q9:(k==9)=false:=by rw [beq_eq_false_iff_ne];exact hk.2.2.2.2.2.2.2.1
 have q10:(k==10)=false:=by rw [beq_eq_false_iff_ne];exact hk.2.2.2.2.2.2.2.2.1
 have q11:(k==11)=false:=by rw [beq_eq_false_iff_ne];exact hk.2.2.2.2.2.2.2.2.2.1
 have q12:(k==12)=false:=by rw [beq_eq_false_iff_ne];exact hk.2.2.2.2.2.2.2.2.2.2.1
 have q16:(k==16)=false:=by rw [beq_eq_false_iff_ne];exact hk.2.2.2.2.2.2.2.2.2.2.2
 clear hk;clear hR hs hl E;go_enter Tryz.func130,Tryz.ntmps130;go_upto_region 27 with (fail)
 rw [<- HS.out];have hk0:=HW0.out;simp only [jN] at hk0;rw [<- hk0];clear hk0;have BL:Hid (jp4 W0.heap.size W0 W0):=jm0 _ _;have g1:=(SX.out W0 (jm0 _ _)).1;obtain ⟨w9,hw8,r0,r1,r2,r3,HP,x0,x1,x2,x3,xf⟩:=iE ⟨#[]⟩ t [] [] HS Z0 B0 K1 BL ⟨Rd.aD _ _ _,Rd.aD _ _ _⟩;go_wp2;rw [<- hw8];exact bodyPost_ret (v:=.agg #[.string ⟨#[]⟩,.string t,(.slice none 0 0),(.slice none 0 0)]) (by simp [results,Tryz.results130,go_sem,r0,r1,r2,r3]) rfl HP.out
theorem V6:vW 3:=by
 intro t d ti at_ ar ci ks vc vp va vi vk w hR hs hl
 have E:Hid ((aj.mk 3 t d ti at_ ar ci ks).nd=aQ nBr [] []):=by show _=_;rw [aj.nd];rfl
 rw [E.out];obtain ⟨ac,nc,cc,ap,np,cp,aa,na,ca,ai,ni,j5,ak,nk,ck,S,W0,rfl,rfl,rfl,rfl,rfl,HS,HW0,e0,SX,lV,HR,Z0,B0,K1⟩:=kT (.int .i64 3) t d ti hR hl;have jM:=hid hs;have hst:t.size<=300:=by rw [aj.small] at hs;exact hs.1
 clear hR hs hl E;go_enter Tryz.func130,Tryz.ntmps130;go_upto_region 5 with (fail)
 rw [<- HS.out];have hk0:=HW0.out;simp only [jN] at hk0;rw [<- hk0];clear hk0;have EC:=hid (kM ⟨#[98,114]⟩ none none 0 0 0 0 W0);have B4:Hid (jp4 W0.heap.size W0 W0):=jm0 _ _;go_wp2_with fail
 (with_reducible refine EC.out.mono ?_)
 rintro e w5 ⟨rfl,b5⟩;have BL:=hid (aP B4.out b5);clear b5;obtain ⟨w9,hw8,r0,r1,r2,r3,HP,x0,x1,x2,x3,xf⟩:=iE ⟨#[98,114]⟩ ⟨#[]⟩ [] [] HS Z0 B0 K1 BL ⟨Rd.aD _ _ _,Rd.aD _ _ _⟩;go_wp2;rw [<- hw8];exact bodyPost_ret (v:=.agg #[.string ⟨#[98,114]⟩,.string ⟨#[]⟩,(.slice none 0 0),(.slice none 0 0)]) (by simp [results,Tryz.results130,go_sem,r0,r1,r2,r3]) rfl HP.out
theorem V7:vW 4:=by
 intro t d ti at_ ar ci ks vc vp va vi vk w hR hs hl
 have E:Hid ((aj.mk 4 t d ti at_ ar ci ks).nd=aQ iV [] (bS t)):=by show _=_;rw [aj.nd];rfl
 rw [E.out];obtain ⟨ac,nc,cc,ap,np,cp,aa,na,ca,ai,ni,j5,ak,nk,ck,S,W0,rfl,rfl,rfl,rfl,rfl,HS,HW0,e0,SX,lV,HR,Z0,B0,K1⟩:=kT (.int .i64 4) t d ti hR hl;have jM:=hid hs;have hst:t.size<=300:=by rw [aj.small] at hs;exact hs.1
 clear hR hs hl E;go_enter Tryz.func130,Tryz.ntmps130;go_upto_region 7 with (fail)
 rw [<- HS.out];have hk0:=HW0.out;simp only [jN] at hk0;rw [<- hk0];clear hk0;have DC:=hid (fQ t W0);have g1:=(SX.out W0 (jm0 _ _)).1;go_wp2_with fail
 (with_reducible refine DC.out.mono ?_)
 rintro e w4 ⟨dX,v4,rfl,hrow4⟩;obtain ⟨a4,n4,c4,rfl⟩:=hrow4.slice3;have b4:=hrow4.aI;have B4:=hid (aP (jm0 W0.heap.size W0) b4);have gF:=hid (show Rd (W0.heap.size<=·) w4 (cO (bS t)) [.slice a4 n4 c4] from hrow4.fD.weaken (fun b hb=>jm2 ((jm0 W0.heap.size W0)).size hb));have EC:=hid (kM ⟨#[99,111,100,101]⟩ none a4 0 n4 0 c4 w4);clear b4 hrow4 DC g1;go_wp2_with fail
 (with_reducible refine EC.out.mono ?_)
 rintro e w5 ⟨rfl,b5⟩;have BL:=hid (aP B4.out b5);have HN:=hid (show kZ (W0.heap.size<=·) w5 [] (bS t) (.slice none 0 0) (.slice a4 n4 c4) from ⟨Rd.aD _ _ _,gF.out.aY b5⟩);clear b5 gF EC;obtain ⟨w9,hw8,r0,r1,r2,r3,HP,x0,x1,x2,x3,xf⟩:=iE ⟨#[99,111,100,101]⟩ ⟨#[]⟩ [] (bS t) HS Z0 B0 K1 BL HN.out;go_wp2;rw [<- hw8];exact bodyPost_ret (v:=.agg #[.string ⟨#[99,111,100,101]⟩,.string ⟨#[]⟩,(.slice none 0 0),(.slice a4 n4 c4)]) (by simp [results,Tryz.results130,go_sem,r0,r1,r2,r3]) rfl HP.out
theorem V8:vW 6:=by
 intro t d ti at_ ar ci ks vc vp va vi vk w hR hs hl
 have E:Hid ((aj.mk 6 t d ti at_ ar ci ks).nd=aQ nEm [] (kG ks)):=by show _=_;rw [aj.nd];rfl
 rw [E.out];obtain ⟨ac,nc,cc,ap,np,cp,aa,na,ca,ai,ni,j5,ak,nk,ck,S,W0,rfl,rfl,rfl,rfl,rfl,HS,HW0,e0,SX,lV,HR,Z0,B0,K1⟩:=kT (.int .i64 6) t d ti hR hl;have jM:=hid hs;have hst:t.size<=300:=by rw [aj.small] at hs;exact hs.1
 clear hR hs hl E;go_enter Tryz.func130,Tryz.ntmps130;go_upto_region 11 with (fail)
 rw [<- HS.out];have hk0:=HW0.out;simp only [jN] at hk0;rw [<- hk0];clear hk0;have LC:=hid (lV.out W0 (jm0 _ _));have g9:=(SX.out W0 (jm0 _ _)).2.2.2.2.2.2;go_wp2_with fail
 (with_reducible refine LC.out.mono ?_)
 rintro e w4 ⟨dX,v4,rfl,hrow4⟩;obtain ⟨a4,n4,c4,rfl⟩:=hrow4.slice3;have b4:=hrow4.aI;have B4:=hid b4;have gF:=hid (show Rd (W0.heap.size<=·) w4 (cO (kG ks)) [.slice a4 n4 c4] from hrow4.fD);have EC:=hid (kM ⟨#[101,109]⟩ none a4 0 n4 0 c4 w4);clear b4 hrow4 LC g9;go_wp2_with fail
 (with_reducible refine EC.out.mono ?_)
 rintro e w5 ⟨rfl,b5⟩;have BL:=hid (aP B4.out b5);have HN:=hid (show kZ (W0.heap.size<=·) w5 [] (kG ks) (.slice none 0 0) (.slice a4 n4 c4) from ⟨Rd.aD _ _ _,gF.out.aY b5⟩);clear b5 gF EC;obtain ⟨w9,hw8,r0,r1,r2,r3,HP,x0,x1,x2,x3,xf⟩:=iE ⟨#[101,109]⟩ ⟨#[]⟩ [] (kG ks) HS Z0 B0 K1 BL HN.out;go_wp2;rw [<- hw8];exact bodyPost_ret (v:=.agg #[.string ⟨#[101,109]⟩,.string ⟨#[]⟩,(.slice none 0 0),(.slice a4 n4 c4)]) (by simp [results,Tryz.results130,go_sem,r0,r1,r2,r3]) rfl HP.out
theorem V9:vW 7:=by
 intro t d ti at_ ar ci ks vc vp va vi vk w hR hs hl
 have E:Hid ((aj.mk 7 t d ti at_ ar ci ks).nd=aQ Jh [] (kG ks)):=by show _=_;rw [aj.nd];rfl
 rw [E.out];obtain ⟨ac,nc,cc,ap,np,cp,aa,na,ca,ai,ni,j5,ak,nk,ck,S,W0,rfl,rfl,rfl,rfl,rfl,HS,HW0,e0,SX,lV,HR,Z0,B0,K1⟩:=kT (.int .i64 7) t d ti hR hl;have jM:=hid hs;have hst:t.size<=300:=by rw [aj.small] at hs;exact hs.1
 clear hR hs hl E;go_enter Tryz.func130,Tryz.ntmps130;go_upto_region 13 with (fail)
 rw [<- HS.out];have hk0:=HW0.out;simp only [jN] at hk0;rw [<- hk0];clear hk0;have LC:=hid (lV.out W0 (jm0 _ _));have g9:=(SX.out W0 (jm0 _ _)).2.2.2.2.2.2;go_wp2_with fail
 (with_reducible refine LC.out.mono ?_)
 rintro e w4 ⟨dX,v4,rfl,hrow4⟩;obtain ⟨a4,n4,c4,rfl⟩:=hrow4.slice3;have b4:=hrow4.aI;have B4:=hid b4;have gF:=hid (show Rd (W0.heap.size<=·) w4 (cO (kG ks)) [.slice a4 n4 c4] from hrow4.fD);have EC:=hid (kM ⟨#[115,116,114,111,110,103]⟩ none a4 0 n4 0 c4 w4);clear b4 hrow4 LC g9;go_wp2_with fail
 (with_reducible refine EC.out.mono ?_)
 rintro e w5 ⟨rfl,b5⟩;have BL:=hid (aP B4.out b5);have HN:=hid (show kZ (W0.heap.size<=·) w5 [] (kG ks) (.slice none 0 0) (.slice a4 n4 c4) from ⟨Rd.aD _ _ _,gF.out.aY b5⟩);clear b5 gF EC;obtain ⟨w9,hw8,r0,r1,r2,r3,HP,x0,x1,x2,x3,xf⟩:=iE ⟨#[115,116,114,111,110,103]⟩ ⟨#[]⟩ [] (kG ks) HS Z0 B0 K1 BL HN.out;go_wp2;rw [<- hw8];exact bodyPost_ret (v:=.agg #[.string ⟨#[115,116,114,111,110,103]⟩,.string ⟨#[]⟩,(.slice none 0 0),(.slice a4 n4 c4)]) (by simp [results,Tryz.results130,go_sem,r0,r1,r2,r3]) rfl HP.out
theorem Wd:vW 8:=by
 intro t d ti at_ ar ci ks vc vp va vi vk w hR hs hl
 have E:Hid ((aj.mk 8 t d ti at_ ar ci ks).nd=aQ nS [] (kG ks)):=by show _=_;rw [aj.nd];rfl
 rw [E.out];obtain ⟨ac,nc,cc,ap,np,cp,aa,na,ca,ai,ni,j5,ak,nk,ck,S,W0,rfl,rfl,rfl,rfl,rfl,HS,HW0,e0,SX,lV,HR,Z0,B0,K1⟩:=kT (.int .i64 8) t d ti hR hl;have jM:=hid hs;have hst:t.size<=300:=by rw [aj.small] at hs;exact hs.1
 clear hR hs hl E;go_enter Tryz.func130,Tryz.ntmps130;go_upto_region 15 with (fail)
 rw [<- HS.out];have hk0:=HW0.out;simp only [jN] at hk0;rw [<- hk0];clear hk0;have LC:=hid (lV.out W0 (jm0 _ _));have g9:=(SX.out W0 (jm0 _ _)).2.2.2.2.2.2;go_wp2_with fail
 (with_reducible refine LC.out.mono ?_)
 rintro e w4 ⟨dX,v4,rfl,hrow4⟩;obtain ⟨a4,n4,c4,rfl⟩:=hrow4.slice3;have b4:=hrow4.aI;have B4:=hid b4;have gF:=hid (show Rd (W0.heap.size<=·) w4 (cO (kG ks)) [.slice a4 n4 c4] from hrow4.fD);have EC:=hid (kM ⟨#[115]⟩ none a4 0 n4 0 c4 w4);clear b4 hrow4 LC g9;go_wp2_with fail
 (with_reducible refine EC.out.mono ?_)
 rintro e w5 ⟨rfl,b5⟩;have BL:=hid (aP B4.out b5);have HN:=hid (show kZ (W0.heap.size<=·) w5 [] (kG ks) (.slice none 0 0) (.slice a4 n4 c4) from ⟨Rd.aD _ _ _,gF.out.aY b5⟩);clear b5 gF EC;obtain ⟨w9,hw8,r0,r1,r2,r3,HP,x0,x1,x2,x3,xf⟩:=iE ⟨#[115]⟩ ⟨#[]⟩ [] (kG ks) HS Z0 B0 K1 BL HN.out;go_wp2;rw [<- hw8];exact bodyPost_ret (v:=.agg #[.string ⟨#[115]⟩,.string ⟨#[]⟩,(.slice none 0 0),(.slice a4 n4 c4)]) (by simp [results,Tryz.results130,go_sem,r0,r1,r2,r3]) rfl HP.out
theorem Wh:vW 5:=by
 intro t d ti at_ ar ci ks vc vp va vi vk w hR hs hl
 have E:Hid ((aj.mk 5 t d ti at_ ar ci ks).nd=aQ Ji [⟨iF,zM⟩] (bS t)):=by show _=_;rw [aj.nd];rfl
 rw [E.out];obtain ⟨ac,nc,cc,ap,np,cp,aa,na,ca,ai,ni,j5,ak,nk,ck,S,W0,rfl,rfl,rfl,rfl,rfl,HS,HW0,e0,SX,lV,HR,Z0,B0,K1⟩:=kT (.int .i64 5) t d ti hR hl;have jM:=hid hs;have hst:t.size<=300:=by rw [aj.small] at hs;exact hs.1
 clear hR hs hl E;go_enter Tryz.func130,Tryz.ntmps130;go_upto_region 9 with (fail)
 rw [<- HS.out];have hk0:=HW0.out;simp only [jN] at hk0;rw [<- hk0];clear hk0;obtain ⟨PC,lY⟩:=BG ⟨#[99,108,97,115,115]⟩ ⟨#[109,97,116,104]⟩ W0;have SF:=hid (fun (w':jp3) (hb:jp4 W0.heap.size W0 w')=>((SX.out w' hb).1:w'.cell? ⟨S,1,none⟩=some (.string t)));have S0:=SF.out _ (jm0 _ _).drew;have S1:=SF.out _ lY.out;have VE:Hid (∀ W:jp3,Calls Tryz.prog 53 #[.string t] W (dw W (bS t))):=fun W=>fQ t W
 go_wp2_with fail
 go_region_held3 (fun w'=>w'.cell? ⟨S,1,none⟩=some (.string t))
  (with_reducible assumption)
  (first
   | (go_simp;go_at_call 41;(with_reducible refine PC.out.mono ?_);rintro e w2 ⟨bR,v2,rfl,hrow2⟩;obtain ⟨a2,c2,rfl,-,-⟩:=hrow2.cap (n:=1) rfl;have B2:=hid (lY.out.trans (hrow2.aI.mono lY.out.size));have vF:=hid (show Rd (W0.heap.size<=·) w2 (bP [⟨iF,zM⟩]) [.slice a2 1 c2] from hrow2.fD.weaken (fun b hb=>jm2 lY.out.size hb));have S2:=SF.out w2 B2.out;have DC:=hid (VE.out w2))
   | (go_simp;go_at_call 53;(with_reducible refine DC.out.mono ?_);rintro e w4 ⟨dX,v4,rfl,hrow4⟩;obtain ⟨a4,n4,c4,rfl⟩:=hrow4.slice3;have b4:=hrow4.aI;have B4:=hid (aP B2.out b4);have gF:=hid (show Rd (W0.heap.size<=·) w4 (cO (bS t)) [.slice a4 n4 c4] from hrow4.fD.weaken (fun b hb=>jm2 (B2.out).size hb));have oO:=hid (vF.out.aY b4);have S4:=SF.out w4 B4.out;have EC:=hid (kM ⟨#[115,112,97,110]⟩ a2 a4 1 n4 c2 c4 w4))
   | (go_simp;go_at_call 40;(with_reducible refine EC.out.mono ?_);rintro e w5 ⟨rfl,b5⟩;have BL:=hid (aP B4.out b5);obtain ⟨x0,x1,x2,x3,xf⟩:=pY (K1.out.below BL.out);have S5:=SF.out w5 BL.out;have K6:=sJ S w5 (.string ⟨#[115,112,97,110]⟩) (.string ⟨#[]⟩) (.slice a2 1 c2) (.slice a4 n4 c4);have S6:=K6 _ _ (SF.out w5 BL.out);clear K6))
 all_goals
  have HN:=hid (show kZ (W0.heap.size<=·) w5 [⟨iF,zM⟩] (bS t) (.slice a2 1 c2) (.slice a4 n4 c4) from ⟨oO.out.aY b5,gF.out.aY b5⟩);clear b5 gF EC oO hrow2 hrow4 b4 S0 S1 S2 S4 S5 S6 vF;obtain ⟨w9,bM⟩:∃ w9,w9=four w5 (S+1) (.string ⟨#[115,112,97,110]⟩) (.string ⟨#[]⟩) (.slice a2 1 c2) (.slice a4 n4 c4):=⟨_,rfl⟩;have hf:=fE ⟨#[115,112,97,110]⟩ ⟨#[]⟩ [⟨iF,zM⟩] (bS t) HS.out Z0.out B0.out K1.out BL.out HN.out;rw [<- bM] at hf;have HC:=hid hf.1;have HP:=hid hf.2;clear hf;have hw8:=bM;simp only [four] at hw8;clear bM;obtain ⟨x0,x1,x2,x3,xf⟩:=pY (K1.out.below BL.out);go_wp2;rw [<- hw8];have r0:=HC.out.cell 0 _ rfl;have r1:=HC.out.cell 1 _ rfl;have r2:=HC.out.cell 2 _ rfl;have r3:=HC.out.cell 3 _ rfl;exact bodyPost_ret (v:=.agg #[.string ⟨#[115,112,97,110]⟩,.string ⟨#[]⟩,(.slice a2 1 c2),(.slice a4 n4 c4)]) (by simp [results,Tryz.results130,go_sem,r0,r1,r2,r3]) rfl HP.out
theorem Rc:vW 12:=by
 intro t d ti at_ ar ci ks vc vp va vi vk w hR hs hl
 have E:Hid ((aj.mk 12 t d ti at_ ar ci ks).nd=aQ nA [⟨iH,vX++t⟩,⟨iF,mP⟩] (bS t)):=by show _=_;rw [aj.nd];rfl
 rw [E.out];obtain ⟨ac,nc,cc,ap,np,cp,aa,na,ca,ai,ni,j5,ak,nk,ck,S,W0,rfl,rfl,rfl,rfl,rfl,HS,HW0,e0,SX,lV,HR,Z0,B0,K1⟩:=kT (.int .i64 12) t d ti hR hl;have jM:=hid hs;have hst:t.size<=300:=by rw [aj.small] at hs;exact hs.1
 clear hR hs hl E;go_enter Tryz.func130,Tryz.ntmps130;go_upto_region 24 with (fail)
 rw [<- HS.out];have hk0:=HW0.out;simp only [jN] at hk0;rw [<- hk0];clear hk0;obtain ⟨PC,lY⟩:=Ra ⟨#[104,114,101,102]⟩ (⟨#[35,110,111,116,101,45]⟩++t) ⟨#[99,108,97,115,115]⟩ ⟨#[110,111,116,101,114,101,102]⟩ W0;have SF:=hid (fun (w':jp3) (hb:jp4 W0.heap.size W0 w')=>((SX.out w' hb).1:w'.cell? ⟨S,1,none⟩=some (.string t)));have S0:=SF.out _ (jm0 _ _).drew;have S1:=SF.out _ lY.out;have VE:Hid (∀ W:jp3,Calls Tryz.prog 53 #[.string t] W (dw W (bS t))):=fun W=>fQ t W
 have q5:(⟨#[35,110,111,116,101,45]⟩:ByteArray).size+t.size<=9223372036854775807:=by have:(⟨#[35,110,111,116,101,45]⟩:ByteArray).size=6:=rfl;omega
 have q6:6+t.size<=9223372036854775807:=by omega
 have hadd:∀ w:jp3,(Op.stringOp .add (⟨#[35,110,111,116,101,45]⟩:ByteArray) t).run Tryz.prog w=.ok (.string (⟨#[35,110,111,116,101,45]⟩++t)) w:=fun w=>run_string_add_sum w _ _ q5
 go_wp2_with fail
 go_region_held3 (fun w'=>w'.cell? ⟨S,1,none⟩=some (.string t))
  (with_reducible assumption)
  (first
   | (go_simp;go_at_call 41;(with_reducible refine PC.out.mono ?_);rintro e w2 ⟨bR,v2,rfl,hrow2⟩;obtain ⟨a2,c2,rfl,-,-⟩:=hrow2.cap (n:=2) rfl;have B2:=hid (lY.out.trans (hrow2.aI.mono lY.out.size));have vF:=hid (show Rd (W0.heap.size<=·) w2 (bP [⟨iH,vX++t⟩,⟨iF,mP⟩]) [.slice a2 2 c2] from hrow2.fD.weaken (fun b hb=>jm2 lY.out.size hb));have S2:=SF.out w2 B2.out;have DC:=hid (VE.out w2))
   | (go_simp;go_at_call 53;(with_reducible refine DC.out.mono ?_);rintro e w4 ⟨dX,v4,rfl,hrow4⟩;obtain ⟨a4,n4,c4,rfl⟩:=hrow4.slice3;have b4:=hrow4.aI;have B4:=hid (aP B2.out b4);have gF:=hid (show Rd (W0.heap.size<=·) w4 (cO (bS t)) [.slice a4 n4 c4] from hrow4.fD.weaken (fun b hb=>jm2 (B2.out).size hb));have oO:=hid (vF.out.aY b4);have S4:=SF.out w4 B4.out;have EC:=hid (kM ⟨#[97]⟩ a2 a4 2 n4 c2 c4 w4))
   | (go_simp;go_at_call 40;(with_reducible refine EC.out.mono ?_);rintro e w5 ⟨rfl,b5⟩;have BL:=hid (aP B4.out b5);obtain ⟨x0,x1,x2,x3,xf⟩:=pY (K1.out.below BL.out);have S5:=SF.out w5 BL.out;have K6:=sJ S w5 (.string ⟨#[97]⟩) (.string ⟨#[]⟩) (.slice a2 2 c2) (.slice a4 n4 c4);have S6:=K6 _ _ (SF.out w5 BL.out);clear K6))
 all_goals
  have HN:=hid (show kZ (W0.heap.size<=·) w5 [⟨iH,vX++t⟩,⟨iF,mP⟩] (bS t) (.slice a2 2 c2) (.slice a4 n4 c4) from ⟨oO.out.aY b5,gF.out.aY b5⟩);clear b5 gF EC oO hrow2 hrow4 b4 S0 S1 S2 S4 S5 S6 vF;obtain ⟨w9,bM⟩:∃ w9,w9=four w5 (S+1) (.string ⟨#[97]⟩) (.string ⟨#[]⟩) (.slice a2 2 c2) (.slice a4 n4 c4):=⟨_,rfl⟩;have hf:=fE ⟨#[97]⟩ ⟨#[]⟩ [⟨iH,vX++t⟩,⟨iF,mP⟩] (bS t) HS.out Z0.out B0.out K1.out BL.out HN.out;rw [<- bM] at hf;have HC:=hid hf.1;have HP:=hid hf.2;clear hf;have hw8:=bM;simp only [four] at hw8;clear bM;obtain ⟨x0,x1,x2,x3,xf⟩:=pY (K1.out.below BL.out);go_wp2;rw [<- hw8];have r0:=HC.out.cell 0 _ rfl;have r1:=HC.out.cell 1 _ rfl;have r2:=HC.out.cell 2 _ rfl;have r3:=HC.out.cell 3 _ rfl;exact bodyPost_ret (v:=.agg #[.string ⟨#[97]⟩,.string ⟨#[]⟩,(.slice a2 2 c2),(.slice a4 n4 c4)]) (by simp [results,Tryz.results130,go_sem,r0,r1,r2,r3]) rfl HP.out
theorem Rf:vW 16:=by
 intro t d ti at_ ar ci ks vc vp va vi vk w hR hs hl
 have E:Hid ((aj.mk 16 t d ti at_ ar ci ks).nd=aQ nA [⟨iH,d⟩] (bS d)):=by show _=_;rw [aj.nd];rfl
 rw [E.out];obtain ⟨ac,nc,cc,ap,np,cp,aa,na,ca,ai,ni,j5,ak,nk,ck,S,W0,rfl,rfl,rfl,rfl,rfl,HS,HW0,e0,SX,lV,HR,Z0,B0,K1⟩:=kT (.int .i64 16) t d ti hR hl;have jM:=hid hs;have hst:t.size<=300:=by rw [aj.small] at hs;exact hs.1
 clear hR hs hl E;go_enter Tryz.func130,Tryz.ntmps130;go_upto_region 26 with (fail)
 rw [<- HS.out];have hk0:=HW0.out;simp only [jN] at hk0;rw [<- hk0];clear hk0;obtain ⟨PC,lY⟩:=BG ⟨#[104,114,101,102]⟩ d W0;have SF:=hid (fun (w':jp3) (hb:jp4 W0.heap.size W0 w')=>((SX.out w' hb).2.1:w'.cell? ⟨S,2,none⟩=some (.string d)));have S0:=SF.out _ (jm0 _ _).drew;have S1:=SF.out _ lY.out;have VE:Hid (∀ W:jp3,Calls Tryz.prog 53 #[.string d] W (dw W (bS d))):=fun W=>fQ d W
 go_wp2_with fail
 go_region_held3 (fun w'=>w'.cell? ⟨S,2,none⟩=some (.string d))
  (with_reducible assumption)
  (first
   | (go_simp;go_at_call 41;(with_reducible refine PC.out.mono ?_);rintro e w2 ⟨bR,v2,rfl,hrow2⟩;obtain ⟨a2,c2,rfl,-,-⟩:=hrow2.cap (n:=1) rfl;have B2:=hid (lY.out.trans (hrow2.aI.mono lY.out.size));have vF:=hid (show Rd (W0.heap.size<=·) w2 (bP [⟨iH,d⟩]) [.slice a2 1 c2] from hrow2.fD.weaken (fun b hb=>jm2 lY.out.size hb));have S2:=SF.out w2 B2.out;have DC:=hid (VE.out w2))
   | (go_simp;go_at_call 53;(with_reducible refine DC.out.mono ?_);rintro e w4 ⟨dX,v4,rfl,hrow4⟩;obtain ⟨a4,n4,c4,rfl⟩:=hrow4.slice3;have b4:=hrow4.aI;have B4:=hid (aP B2.out b4);have gF:=hid (show Rd (W0.heap.size<=·) w4 (cO (bS d)) [.slice a4 n4 c4] from hrow4.fD.weaken (fun b hb=>jm2 (B2.out).size hb));have oO:=hid (vF.out.aY b4);have S4:=SF.out w4 B4.out;have EC:=hid (kM ⟨#[97]⟩ a2 a4 1 n4 c2 c4 w4))
   | (go_simp;go_at_call 40;(with_reducible refine EC.out.mono ?_);rintro e w5 ⟨rfl,b5⟩;have BL:=hid (aP B4.out b5);obtain ⟨x0,x1,x2,x3,xf⟩:=pY (K1.out.below BL.out);have S5:=SF.out w5 BL.out;have K6:=sJ S w5 (.string ⟨#[97]⟩) (.string ⟨#[]⟩) (.slice a2 1 c2) (.slice a4 n4 c4);have S6:=K6 _ _ (SF.out w5 BL.out);clear K6))
 all_goals
  have HN:=hid (show kZ (W0.heap.size<=·) w5 [⟨iH,d⟩] (bS d) (.slice a2 1 c2) (.slice a4 n4 c4) from ⟨oO.out.aY b5,gF.out.aY b5⟩);clear b5 gF EC oO hrow2 hrow4 b4 S0 S1 S2 S4 S5 S6 vF;obtain ⟨w9,bM⟩:∃ w9,w9=four w5 (S+1) (.string ⟨#[97]⟩) (.string ⟨#[]⟩) (.slice a2 1 c2) (.slice a4 n4 c4):=⟨_,rfl⟩;have hf:=fE ⟨#[97]⟩ ⟨#[]⟩ [⟨iH,d⟩] (bS d) HS.out Z0.out B0.out K1.out BL.out HN.out;rw [<- bM] at hf;have HC:=hid hf.1;have HP:=hid hf.2;clear hf;have hw8:=bM;simp only [four] at hw8;clear bM;obtain ⟨x0,x1,x2,x3,xf⟩:=pY (K1.out.below BL.out);go_wp2;rw [<- hw8];have r0:=HC.out.cell 0 _ rfl;have r1:=HC.out.cell 1 _ rfl;have r2:=HC.out.cell 2 _ rfl;have r3:=HC.out.cell 3 _ rfl;exact bodyPost_ret (v:=.agg #[.string ⟨#[97]⟩,.string ⟨#[]⟩,(.slice a2 1 c2),(.slice a4 n4 c4)]) (by simp [results,Tryz.results130,go_sem,r0,r1,r2,r3]) rfl HP.out
theorem Wi:vW 9:=by
 intro t d ti at_ ar ci ks vc vp va vi vk w hR hs hl
 have E:Hid ((aj.mk 9 t d ti at_ ar ci ks).nd=aQ nA (⟨iH,d⟩::jL dQ ti) (kG ks)):=by show _=_;rw [aj.nd];rfl
 rw [E.out];obtain ⟨ac,nc,cc,ap,np,cp,aa,na,ca,ai,ni,j5,ak,nk,ck,S,W0,rfl,rfl,rfl,rfl,rfl,HS,HW0,e0,SX,lV,HR,Z0,B0,K1⟩:=kT (.int .i64 9) t d ti hR hl;have jM:=hid hs;have hst:t.size<=300:=by rw [aj.small] at hs;exact hs.1
 clear hR hs hl E;go_enter Tryz.func130,Tryz.ntmps130;go_upto_region 17 with (fail)
 rw [<- HS.out];have hk0:=HW0.out;simp only [jN] at hk0;rw [<- hk0];clear hk0;obtain ⟨PC,lY⟩:=BG ⟨#[104,114,101,102]⟩ d W0;have SF:=hid (fun (w':jp3) (hb:jp4 W0.heap.size W0 w')=>(⟨(SX.out w' hb).2.1,(SX.out w' hb).2.2.1,(SX.out w' hb).2.2.2.2.2.2⟩:w'.cell? ⟨S,2,none⟩=some (.string d)/\w'.cell? ⟨S,3,none⟩=some (.string ti)/\w'.cell? ⟨S,9,none⟩=some (.slice ak nk ck)));have S0:=SF.out _ (jm0 _ _).drew;have S1:=SF.out _ lY.out;go_wp2_with fail
 go_region_held3 (fun w'=>w'.cell? ⟨S,2,none⟩=some (.string d)/\w'.cell? ⟨S,3,none⟩=some (.string ti)/\w'.cell? ⟨S,9,none⟩=some (.slice ak nk ck))
  (with_reducible assumption)
  (first
   | (go_simp;go_at_call 41;(with_reducible refine PC.out.mono ?_);rintro e w2 ⟨bR,v2,rfl,hrow2⟩;obtain ⟨a2,c2,rfl,-,-⟩:=hrow2.cap (n:=1) rfl;have B2:=hid (lY.out.trans (hrow2.aI.mono lY.out.size));have vF:=hid (show Rd (W0.heap.size<=·) w2 (bP [⟨iH,d⟩]) [.slice a2 1 c2] from hrow2.fD.weaken (fun b hb=>jm2 lY.out.size hb));have S2:=SF.out w2 B2.out;have TC:=hid (vB [⟨iH,d⟩] ti _ bR _ _ w2 hrow2 (by simp)))
   | (go_simp;go_at_call 163;(with_reducible refine TC.out.mono ?_);rintro e w3 ⟨dM,v3,rfl,hrow3,hg3⟩;obtain ⟨a3,n3,c3,rfl⟩:=hrow3.slice3;have B3:=hid (lY.out.trans (hrow3.aI.mono lY.out.size));have Bg:=hid (show Rd (W0.heap.size<=·) w3 (bP ([⟨iH,d⟩]++jL dQ ti)) [.slice a3 n3 c3] from hrow3.fD.weaken (fun b hb=>jm2 lY.out.size hb));have S3:=SF.out w3 B3.out;have LC:=hid (lV.out w3 B3.out))
   | (go_simp;go_at_call 78;(with_reducible refine LC.out.mono ?_);rintro e w4 ⟨dX,v4,rfl,hrow4⟩;obtain ⟨a4,n4,c4,rfl⟩:=hrow4.slice3;have b4:=hrow4.aI;have B4:=hid (aP B3.out b4);have gF:=hid (show Rd (W0.heap.size<=·) w4 (cO (kG ks)) [.slice a4 n4 c4] from hrow4.fD.weaken (fun b hb=>jm2 B3.out.size hb));have oO:=hid (Bg.out.aY b4);have S4:=SF.out w4 B4.out;have EC:=hid (kM ⟨#[97]⟩ a3 a4 n3 n4 c3 c4 w4))
   | (go_simp;go_at_call 40;(with_reducible refine EC.out.mono ?_);rintro e w5 ⟨rfl,b5⟩;have BL:=hid (aP B4.out b5);obtain ⟨x0,x1,x2,x3,xf⟩:=pY (K1.out.below BL.out);have S5:=SF.out w5 BL.out;have K6:=sJ S w5 (.string ⟨#[97]⟩) (.string ⟨#[]⟩) (.slice a3 n3 c3) (.slice a4 n4 c4);have S6:=And.imp (K6 _ _) (And.imp (K6 _ _) (K6 _ _)) (SF.out w5 BL.out);clear K6))
 all_goals
  have HN:=hid (show kZ (W0.heap.size<=·) w5 ([⟨iH,d⟩]++jL dQ ti) (kG ks) (.slice a3 n3 c3) (.slice a4 n4 c4) from ⟨oO.out.aY b5,gF.out.aY b5⟩);clear b5 gF EC oO hrow2 hrow3 hrow4 hg3 b4 S0 S1 S2 S3 S4 S5 S6 vF Bg;obtain ⟨w9,bM⟩:∃ w9,w9=four w5 (S+1) (.string ⟨#[97]⟩) (.string ⟨#[]⟩) (.slice a3 n3 c3) (.slice a4 n4 c4):=⟨_,rfl⟩;have hf:=fE ⟨#[97]⟩ ⟨#[]⟩ ([⟨iH,d⟩]++jL dQ ti) (kG ks) HS.out Z0.out B0.out K1.out BL.out HN.out;rw [<- bM] at hf;have HC:=hid hf.1;have HP:=hid hf.2;clear hf;have hw8:=bM;simp only [four] at hw8;clear bM;obtain ⟨x0,x1,x2,x3,xf⟩:=pY (K1.out.below BL.out);go_wp2;rw [<- hw8];have r0:=HC.out.cell 0 _ rfl;have r1:=HC.out.cell 1 _ rfl;have r2:=HC.out.cell 2 _ rfl;have r3:=HC.out.cell 3 _ rfl;exact bodyPost_ret (v:=.agg #[.string ⟨#[97]⟩,.string ⟨#[]⟩,(.slice a3 n3 c3),(.slice a4 n4 c4)]) (by simp [results,Tryz.results130,go_sem,r0,r1,r2,r3]) rfl HP.out
theorem Rh:vW 11:=by
 intro t d ti at_ ar ci ks vc vp va vi vk w hR hs hl
 have E:Hid ((aj.mk 11 t d ti at_ ar ci ks).nd=aQ Ji (lG at_ []) (kG ks)):=by show _=_;rw [aj.nd];rfl
 rw [E.out];obtain ⟨ac,nc,cc,ap,np,cp,aa,na,ca,ai,ni,j5,ak,nk,ck,S,W0,rfl,rfl,rfl,rfl,rfl,HS,HW0,e0,SX,lV,HR,Z0,B0,K1⟩:=kT (.int .i64 11) t d ti hR hl;have jM:=hid hs;have hst:t.size<=300:=by rw [aj.small] at hs;exact hs.1
 clear hR hs hl E;go_enter Tryz.func130,Tryz.ntmps130;go_upto_region 22 with (fail)
 rw [<- HS.out];have hk0:=HW0.out;simp only [jN] at hk0;rw [<- hk0];clear hk0;have AC:=hid (Y1 at_ [] (.slice ac nc cc) (.slice ap np cp) (.slice none 0 0) W0.drew W0.drew oq.nil (V4 (by have:=Z0.out;omega) HR.out.at_) (BI jM.out).1 (BI jM.out).2);have SF:=hid (fun (w':jp3) (hb:jp4 W0.heap.size W0 w')=>(⟨(SX.out w' hb).2.2.2.1,(SX.out w' hb).2.2.2.2.1,(SX.out w' hb).2.2.2.2.2.1,(SX.out w' hb).2.2.2.2.2.2⟩:w'.cell? ⟨S,4,none⟩=some (.string at_.id)/\w'.cell? ⟨S,5,none⟩=some (.slice ac nc cc)/\w'.cell? ⟨S,6,none⟩=some (.slice ap np cp)/\w'.cell? ⟨S,9,none⟩=some (.slice ak nk ck)));have S0:=SF.out _ (jm0 _ _).drew;go_wp2_with fail
 go_region_held3 (fun w'=>w'.cell? ⟨S,4,none⟩=some (.string at_.id)/\w'.cell? ⟨S,5,none⟩=some (.slice ac nc cc)/\w'.cell? ⟨S,6,none⟩=some (.slice ap np cp)/\w'.cell? ⟨S,9,none⟩=some (.slice ak nk ck))
  (with_reducible assumption)
  (first
   | (go_simp;go_at_call 137;(with_reducible refine AC.out.mono ?_);rintro e w3 ⟨dM,v3,rfl,hrow3⟩;obtain ⟨a3,n3,c3,rfl⟩:=hrow3.slice3;have B3:Hid (jp4 W0.heap.size W0 w3):=((jm0 W0.heap.size W0).drew).trans hrow3.aI;have Bg:Hid (Rd (W0.heap.size<=·) w3 (bP (lG at_ [])) [.slice a3 n3 c3]):=hrow3.fD;have S3:=SF.out w3 B3.out;have LC:=hid (lV.out w3 B3.out))
   | (go_simp;go_at_call 78;(with_reducible refine LC.out.mono ?_);rintro e w4 ⟨dX,v4,rfl,hrow4⟩;obtain ⟨a4,n4,c4,rfl⟩:=hrow4.slice3;have b4:=hrow4.aI;have B4:=hid (aP B3.out b4);have gF:=hid (show Rd (W0.heap.size<=·) w4 (cO (kG ks)) [.slice a4 n4 c4] from hrow4.fD.weaken (fun b hb=>jm2 B3.out.size hb));have oO:=hid (Bg.out.aY b4);have S4:=SF.out w4 B4.out;have EC:=hid (kM ⟨#[115,112,97,110]⟩ a3 a4 n3 n4 c3 c4 w4))
   | (go_simp;go_at_call 40;(with_reducible refine EC.out.mono ?_);rintro e w5 ⟨rfl,b5⟩;have BL:=hid (aP B4.out b5);obtain ⟨x0,x1,x2,x3,xf⟩:=pY (K1.out.below BL.out);have S5:=SF.out w5 BL.out;have K6:=sJ S w5 (.string ⟨#[115,112,97,110]⟩) (.string ⟨#[]⟩) (.slice a3 n3 c3) (.slice a4 n4 c4);have S6:=And.imp (K6 _ _) (And.imp (K6 _ _) (And.imp (K6 _ _) (K6 _ _))) (SF.out w5 BL.out);clear K6))
 all_goals
  have HN:=hid (show kZ (W0.heap.size<=·) w5 (lG at_ []) (kG ks) (.slice a3 n3 c3) (.slice a4 n4 c4) from ⟨oO.out.aY b5,gF.out.aY b5⟩);clear b5 gF EC oO hrow3 hrow4 b4 S0 S3 S4 S5 S6 Bg;obtain ⟨w9,bM⟩:∃ w9,w9=four w5 (S+1) (.string ⟨#[115,112,97,110]⟩) (.string ⟨#[]⟩) (.slice a3 n3 c3) (.slice a4 n4 c4):=⟨_,rfl⟩;have hf:=fE ⟨#[115,112,97,110]⟩ ⟨#[]⟩ (lG at_ []) (kG ks) HS.out Z0.out B0.out K1.out BL.out HN.out;rw [<- bM] at hf;have HC:=hid hf.1;have HP:=hid hf.2;clear hf;have hw8:=bM;simp only [four] at hw8;clear bM;obtain ⟨x0,x1,x2,x3,xf⟩:=pY (K1.out.below BL.out);go_wp2;rw [<- hw8];have r0:=HC.out.cell 0 _ rfl;have r1:=HC.out.cell 1 _ rfl;have r2:=HC.out.cell 2 _ rfl;have r3:=HC.out.cell 3 _ rfl;exact bodyPost_ret (v:=.agg #[.string ⟨#[115,112,97,110]⟩,.string ⟨#[]⟩,(.slice a3 n3 c3),(.slice a4 n4 c4)]) (by simp [results,Tryz.results130,go_sem,r0,r1,r2,r3]) rfl HP.out
theorem Ri (t d ti:ByteArray) (at_:At) (ar:List ByteArray) (ci:List Ci) (ks:List aj) (vc vp va vi vk:jp5) (w:jp3) (hR:uo (·<w.heap.size) w at_ ar ci ks vc vp va vi vk) (hs:(aj.mk (10:Int) t d ti at_ ar ci ks).small) (hl:Ed w ks vk) (hz:aj.aR ks<=1000000) : Calls Tryz.prog 130 #[.agg #[.int .i64 10,.string t,.string d,.string ti,.string at_.id,vc,vp,va,vi,vk]] w (sI w (aj.mk (10:Int) t d ti at_ ar ci ks).nd):=by
 have E:Hid ((aj.mk 10 t d ti at_ ar ci ks).nd=aQ Zx ([⟨Eh,d⟩,⟨Ei,mQ ks⟩]++jL dQ ti++lG at_ []) []):=by show _=_;rw [aj.nd];rfl
 rw [E.out];obtain ⟨ac,nc,cc,ap,np,cp,aa,na,ca,ai,ni,j5,ak,nk,ck,S,W0,rfl,rfl,rfl,rfl,rfl,HS,HW0,e0,SX,lV,HR,Z0,B0,K1⟩:=kT (.int .i64 10) t d ti hR hl;have jM:=hid hs;have hst:t.size<=300:=by rw [aj.small] at hs;exact hs.1
 clear hR hs hl E;go_enter Tryz.func130,Tryz.ntmps130;go_upto_region 19 with (fail)
 rw [<- HS.out];have hk0:=HW0.out;simp only [jN] at hk0;rw [<- hk0];clear hk0;have hpl:(aj.aO ks).length<=1000000000:=by have h:=jM.out;rw [aj.small] at h;have:=aj.rG ks h.2.2.2.2.2.2.2.2;omega
 have PL:=hid (FR ks (.slice ak nk ck) W0.drew (Rd.keep (w:=W0) (w':=W0.drew) (ok:=(·<S)) (fun b (hb:b<S) _=>⟨by have:=Z0.out;show b<W0.heap.size;omega,rfl⟩) _ _ HR.out.kids) hpl);have SF:=hid (fun (w':jp3) (hb:jp4 W0.heap.size W0 w')=>(⟨(SX.out w' hb).2.1,(SX.out w' hb).2.2.1,(SX.out w' hb).2.2.2.2.2.2⟩:w'.cell? ⟨S,2,none⟩=some (.string d)/\w'.cell? ⟨S,3,none⟩=some (.string ti)/\w'.cell? ⟨S,9,none⟩=some (.slice ak nk ck)));have S0:=SF.out _ (jm0 _ _).drew;clear hpl;go_wp2_with fail
 go_region_held3 (fun w'=>w'.cell? ⟨S,2,none⟩=some (.string d)/\w'.cell? ⟨S,3,none⟩=some (.string ti)/\w'.cell? ⟨S,9,none⟩=some (.slice ak nk ck))
  (with_reducible assumption)
  (first
   | (go_simp;go_at_call 164;(with_reducible refine PL.out.mono ?_);rintro e w1 ⟨rfl,b1⟩;have B1:Hid (jp4 W0.heap.size W0 w1):=((jm0 W0.heap.size W0).drew).trans b1;obtain ⟨PC,lY⟩:=Rb ⟨#[115,114,99]⟩ d ⟨#[97,108,116]⟩ ⟨(aj.aO ks).toArray⟩ B1 B1.out.size;have S1:=SF.out w1 B1.out;have S1a:=SF.out _ lY.out)
   | (go_simp;go_at_call 41;(with_reducible refine PC.out.mono ?_);rintro e w2 ⟨bR,v2,rfl,hrow2⟩;obtain ⟨a2,c2,rfl,-,-⟩:=hrow2.cap (n:=2) rfl;have B2:=hid (lY.out.trans (hrow2.aI.mono lY.out.size));have vF:=hid (show Rd (W0.heap.size<=·) w2 (bP [⟨Eh,d⟩,⟨Ei,mQ ks⟩]) [.slice a2 2 c2] from hrow2.fD.weaken (fun b hb=>jm2 lY.out.size hb));have BWX:=lY;have S2:=SF.out w2 B2.out;have TC:=hid (vB [⟨Eh,d⟩,⟨Ei,mQ ks⟩] ti _ bR _ _ w2 hrow2 (by simp)))
   | (go_simp;go_at_call 163;(with_reducible refine TC.out.mono ?_);rintro e w3 ⟨dM,v3,rfl,hrow3,hg3⟩;have B3:=hid (lY.out.trans (hrow3.aI.mono lY.out.size));have S3:=SF.out w3 B3.out))
 all_goals
  obtain ⟨m3,PV⟩:∃ m,m=(List.map Pr.d ([⟨Eh,d⟩,⟨Ei,mQ ks⟩]++jL dQ ti)).length:=⟨_,rfl⟩;obtain ⟨a3,c3,rfl,-,-⟩:=hrow3.cap PV.symm;have jf2:m3<=3:=by rw [PV];unfold jL;split<;>simp
  have Yf:=hid PV.symm;have U3:=hid hrow3;obtain ⟨-,-,-,g4,g5,g6,-⟩:=SX.out w3 B3.out;have AC:=hid (Y1 at_ [] (.slice ac nc cc) (.slice ap np cp) (.slice none 0 0) w3 w3 oq.nil (Bc HR.out.at_ B3.out (by have:=Z0.out;omega)) (BI jM.out).1 (BI jM.out).2);clear PV hrow3 hrow2 hg3 b1 S0 S1 S1a S2 S3 PL PC TC vF lY B2;go_wp2_with fail
  (with_reducible refine AC.out.mono ?_)
  rintro e w4 ⟨dX,v4,rfl,hrow4⟩;obtain ⟨m4,P5⟩:∃ m,m=(List.map Pr.d (lG at_ [])).length:=⟨_,rfl⟩;obtain ⟨a4,c4,rfl,-,-⟩:=hrow4.cap P5.symm;have jkj:m4<=2:=by rw [P5];unfold lG jL QN;split<;>split<;>simp
  have HM4:=hid P5.symm;have b4:=hrow4.aI;have U4:=hid (U3.out.below b4);have X4:=hid (show Rd (fun b=>False\/w3.heap.size<=b) w4 (.sl 2 (List.map Pr.d (lG at_ []))) [.slice a4 m4 c4] from hrow4.fD.weaken (fun b hb=>.inr hb));have B4:=hid (aP B3.out b4);have O1:=hid (fun (rs:List (List jp5)) (ok':Nat->Prop) h=>Np (lG at_ []) rs ok' w4 h);obtain ⟨iP,hiP,yw,yx,yA⟩:=info_parts qP;clear P5 hrow4 b4 g4 g5 g6 AC;go_wp2_with (at_builtin;refine Ej (n:=m3) (m:=m4) rfl _ _ 24 rfl iP _ 32 Tryz.underlying24 hiP yw yx yA rfl (by decide) U4.out (fun _=>False.elim) (.slice a4 m4 c4) X4.out O1.out Yf.out HM4.out (by omega) (by decide) rfl rfl ?_)
  intro a5 c5 vY w5 bK hg5;have B5:=hid (BWX.out.trans (bK.aI.mono BWX.out.size));have AT5:Hid (Rd (W0.heap.size<=·) w5 (bP ([⟨Eh,d⟩,⟨Ei,mQ ks⟩]++jL dQ ti++lG at_ [])) [.slice a5 (m3+m4) c5]):=by have h:=bK.fD.weaken (ok':=(W0.heap.size<=·)) (fun b hb=>jm2 BWX.out.size hb);show Rd _ _ (.sl 2 (List.map Pr.d _)) _;rw [List.map_append];exact h
  have EC:=hid (kM ⟨#[105,109,103]⟩ a5 none (m3+m4) 0 c5 0 w5);clear bK hg5 U4 X4 O1 U3;go_wp2_with fail
  (with_reducible refine EC.out.mono ?_)
  rintro e w6 ⟨rfl,b6⟩;have BL:=hid (aP B5.out b6);have HN:=hid (show kZ (W0.heap.size<=·) w6 ([⟨Eh,d⟩,⟨Ei,mQ ks⟩]++jL dQ ti++lG at_ []) [] (.slice a5 (m3+m4) c5) (.slice none 0 0) from ⟨AT5.out.aY b6,Rd.aD _ _ _⟩);clear b6 EC AT5;obtain ⟨w9,bM⟩:∃ w9,w9=four w6 (S+1) (.string ⟨#[105,109,103]⟩) (.string ⟨#[]⟩) (.slice a5 (m3+m4) c5) (.slice none 0 0):=⟨_,rfl⟩;have hf:=fE ⟨#[105,109,103]⟩ ⟨#[]⟩ ([⟨Eh,d⟩,⟨Ei,mQ ks⟩]++jL dQ ti++lG at_ []) [] HS.out Z0.out B0.out K1.out BL.out HN.out;rw [<- bM] at hf;have HC:=hid hf.1;have HP:=hid hf.2;clear hf;have hw8:=bM;simp only [four] at hw8;clear bM;obtain ⟨x0,x1,x2,x3,xf⟩:=pY (K1.out.below BL.out);go_wp2;rw [<- hw8];have r0:=HC.out.cell 0 _ rfl;have r1:=HC.out.cell 1 _ rfl;have r2:=HC.out.cell 2 _ rfl;have r3:=HC.out.cell 3 _ rfl;exact bodyPost_ret (v:=.agg #[.string ⟨#[105,109,103]⟩,.string ⟨#[]⟩,(.slice a5 (m3+m4) c5),(.slice none 0 0)]) (by simp [results,Tryz.results130,go_sem,r0,r1,r2,r3]) rfl HP.out
theorem Gn (k:Int) (t d ti:ByteArray) (at_:At) (ar:List ByteArray) (ci:List Ci) (ks:List aj) (vc vp va vi vk:jp5) (w:jp3) (hR:uo (·<w.heap.size) w at_ ar ci ks vc vp va vi vk) (hs:(aj.mk k t d ti at_ ar ci ks).small) (hl:Ed w ks vk) (hz:aj.aR ks<=1000000) : Calls Tryz.prog 130 #[.agg #[.int .i64 k,.string t,.string d,.string ti,.string at_.id,vc,vp,va,vi,vk]] w (sI w (aj.mk k t d ti at_ ar ci ks).nd):=by
 by_cases h2:k=2
 ·subst h2;exact V5 t d ti at_ ar ci ks vc vp va vi vk w hR hs hl
 by_cases h3:k=3
 ·subst h3;exact V6 t d ti at_ ar ci ks vc vp va vi vk w hR hs hl
 by_cases h4:k=4
 ·subst h4;exact V7 t d ti at_ ar ci ks vc vp va vi vk w hR hs hl
 by_cases h5:k=5
 ·subst h5;exact Wh t d ti at_ ar ci ks vc vp va vi vk w hR hs hl
 by_cases h6:k=6
 ·subst h6;exact V8 t d ti at_ ar ci ks vc vp va vi vk w hR hs hl
 by_cases h7:k=7
 ·subst h7;exact V9 t d ti at_ ar ci ks vc vp va vi vk w hR hs hl
 by_cases h8:k=8
 ·subst h8;exact Wd t d ti at_ ar ci ks vc vp va vi vk w hR hs hl
 by_cases h9:k=9
 ·subst h9;exact Wi t d ti at_ ar ci ks vc vp va vi vk w hR hs hl
 by_cases h10:k=10
 ·subst h10;exact Ri t d ti at_ ar ci ks vc vp va vi vk w hR hs hl hz
 by_cases h11:k=11
 ·subst h11;exact Rh t d ti at_ ar ci ks vc vp va vi vk w hR hs hl
 by_cases h12:k=12
 ·subst h12;exact Rc t d ti at_ ar ci ks vc vp va vi vk w hR hs hl
 by_cases h16:k=16
 ·subst h16;exact Rf t d ti at_ ar ci ks vc vp va vi vk w hR hs hl
 exact Nn k t d ti at_ ar ci ks vc vp va vi vk w hR hs hl ⟨h2,h3,h4,h5,h6,h7,h8,h9,h10,h11,h12,h16⟩
open Go.RowKit
open Go.RowKit
def fv (key:ByteArray) (a:List Pr):List ByteArray:=(a.filter fun p=>decide (p.key=key)).map (·.val)
theorem Nq (key:ByteArray) (a b:List Pr):fv key (a++b)=fv key a++fv key b:=by unfold fv;simp
theorem QK (key:ByteArray) (a:List Pr) (k:Nat) (p:Pr) (h:a[k]?=some p):fv key (a.take (k+1))=fv key (a.take k)++if p.key=key then [p.val] else []:=by rw [List.take_add_one,h,Nq];unfold fv;by_cases hk:p.key=key<;>simp [hk]
theorem VF (key:ByteArray) (a:List Pr) (k:Nat):(fv key (a.take k)).length<=(fv key a).length:=by
 have h:fv key a=fv key (a.take k)++fv key (a.drop k):=by rw [<- Nq,List.take_append_drop]
 rw [h,List.length_append];omega
theorem Gf (key:ByteArray) (l:List Nd) (k:Nat) (x:Nd) (h:l[k]?=some x):Nd.bT key (l.take (k+1))=Nd.bT key (l.take k)++x.vals key:=by rw [List.take_add_one,h,zO];show _++Nd.bT key [x]=_;rw [Nd.bT,Nd.bT,List.append_nil]
theorem zC (key:ByteArray) (l:List Nd) (k:Nat):(Nd.bT key (l.take k)).length<=(Nd.bT key l).length:=by
 have h:Nd.bT key l=Nd.bT key (l.take k)++Nd.bT key (l.drop k):=by rw [<- zO,List.take_append_drop]
 rw [h,List.length_append];omega
open Go.RowKit
def qg (w:jp3) (l:List ByteArray) (e:Ending) (w':jp3):Prop:=
 ∃ v,e=.returned v/\w'.ownsRow w.heap.size 9 1 v l.length (l.map Value.string)/\jp4 w.heap.size w w'
end Go.Proofs.YtkfnkeflalcphaaGreatDoor

