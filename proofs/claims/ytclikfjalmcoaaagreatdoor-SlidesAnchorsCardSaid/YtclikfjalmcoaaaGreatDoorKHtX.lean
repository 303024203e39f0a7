/- Contract of html.inline, given that of html.line at the Kids. Contract of publisherref33.Same: at equal nodes it answers true. Contract of the function that markup.Values calls for each node (markup.Values$1): the values of a key, one behind the other. Contracts of markup.Values and html.Anchors. -/
import Derived.Test.YtclikfjalmcoaaaGreatDoorKHtA
set_option maxHeartbeats 4000000
set_option maxRecDepth 100000
open Go.Lib (hid)
namespace Go.Proofs.YtclikfjalmcoaaaGreatDoor
open Go.RowKit.Below renaming refl->ji7,heap_setCell->jj1
open Nat renaming le_trans->ji9
open Go renaming World->jl9,Value->jlk
open Go.RowKit renaming Below->jlj
open Go.RowKit
set_option linter.unusedVariables false
set_option linter.unusedSimpArgs false
def DW (w:jl9) (ks:List aj) (vk:jlk):Prop:=∀ W:jl9,jlj w.heap.size w W->Calls Tryz.prog 50 #[vk] W (dn W (jC ks))
def jI:List jlk:=[.string ⟨#[]⟩,.string ⟨#[]⟩,.slice none 0 0,.slice none 0 0]
def four (w:jl9) (p:Nat) (c0 c1 c2 c3:jlk):jl9:=(((w.setCell ⟨p,0,none⟩ c0).setCell ⟨p,1,none⟩ c1).setCell ⟨p,2,none⟩ c2).setCell ⟨p,3,none⟩ c3
theorem gU (w:jl9) (p:Nat) (c0 c1 c2 c3:jlk) (b:Nat) (h:b≠p):(four w p c0 c1 c2 c3).heap[b]?=w.heap[b]?:=by unfold four;rw [jj1 _ ⟨p,3,none⟩ _ b h,jj1 _ ⟨p,2,none⟩ _ b h,jj1 _ ⟨p,1,none⟩ _ b h,jj1 _ ⟨p,0,none⟩ _ b h]
theorem J3 {w:jl9} {p:Nat} {c0 c1 c2 c3:jlk} {b o:Nat} {v:jlk} (h:w.cell? ⟨b,o,none⟩=some v) (hb:b≠p):(four w p c0 c1 c2 c3).cell? ⟨b,o,none⟩=some v:=by rw [kS (gU w p c0 c1 c2 c3 b hb)];exact h
theorem su (S:Nat) (w:jl9) (a b c d:jlk) (o:Nat) (v:jlk) (h:w.cell? ⟨S,o,none⟩=some v) : World.cell? ((((w.setCell ⟨S+1,0,none⟩ a).setCell ⟨S+1,1,none⟩ b).setCell ⟨S+1,2,none⟩ c).setCell ⟨S+1,3,none⟩ d) ⟨S,o,none⟩=some v:=J3 h (by show S≠S+1;omega)
theorem dF {T:TypeId} {p:Nat} {cs:List jlk} {w:jl9} (h:CB T p cs w) (j:Nat) (u:jlk):CB T p (cs.set j u) (w.setCell ⟨p,j,none⟩ u):=by unfold CB at h ⊢;simp [World.setCell,Array.getElem?_modify,h]
theorem IJ {T:TypeId} {p:Nat} {a0 a1 a2 a3:jlk} {w:jl9} (h:CB T p [a0,a1,a2,a3] w) (c0 c1 c2 c3:jlk):CB T p [c0,c1,c2,c3] (four w p c0 c1 c2 c3):=
 dF (dF (dF (dF h 0 c0) 1 c1) 2 c2) 3 c3
theorem vL {B p:Nat} {a w:jl9} (h:jlj B a w) (hp:B<=p) (c0 c1 c2 c3:jlk):jlj B a (four w p c0 c1 c2 c3):=
 (((h.setCell (p:=⟨p,0,none⟩) hp c0).setCell (p:=⟨p,1,none⟩) hp c1).setCell (p:=⟨p,2,none⟩) hp c2).setCell (p:=⟨p,3,none⟩) hp c3
theorem qN (T:TypeId) (w:jl9) (xc:List jlk):∃ S W0,S=w.heap.size/\W0=(w.alloc (.cells xc.toArray T)).alloc (.cells jI.toArray 43)/\W0.heap.size=S+2/\CB T S xc W0/\CB 43 (S+1) jI W0/\jlj S w W0:=by
 refine ⟨_,_,rfl,rfl,by simp,?_,?_,((ji7 _ _).alloc (Nat.le_refl _) _).alloc (by simp) _⟩
 ·exact (Below.heap_alloc _ _ _ (by simp)).trans (CB.new _ _ w)
 ·have:=CB.new 43 jI (w.alloc (.cells xc.toArray T))
  rwa [World.size_alloc] at this
theorem YH {T:TypeId} {S:Nat} {W0:jl9} {x0 x1 x2 x3 x4 x5 x6 x7 x8 x9:jlk} (k0:CB T S [x0,x1,x2,x3,x4,x5,x6,x7,x8,x9] W0) : Hid (∀ w':jl9,jlj W0.heap.size W0 w'->w'.cell? ⟨S,1,none⟩=some x1/\w'.cell? ⟨S,2,none⟩=some x2/\w'.cell? ⟨S,3,none⟩=some x3/\w'.cell? ⟨S,4,none⟩=some x4/\w'.cell? ⟨S,5,none⟩=some x5/\w'.cell? ⟨S,6,none⟩=some x6/\w'.cell? ⟨S,9,none⟩=some x9):=
 fun w' hb=>⟨(k0.below hb).cell 1 _ rfl,(k0.below hb).cell 2 _ rfl,(k0.below hb).cell 3 _ rfl,(k0.below hb).cell 4 _ rfl,(k0.below hb).cell 5 _ rfl,(k0.below hb).cell 6 _ rfl,(k0.below hb).cell 9 _ rfl⟩
theorem YI {T:TypeId} {S:Nat} {W0:jl9} {x0 x1 x2 x3 x4 x5 x6 x7 x8 x9 x10:jlk} (k0:CB T S [x0,x1,x2,x3,x4,x5,x6,x7,x8,x9,x10] W0) : Hid (∀ w':jl9,jlj W0.heap.size W0 w'->w'.cell? ⟨S,1,none⟩=some x1/\w'.cell? ⟨S,2,none⟩=some x2/\w'.cell? ⟨S,3,none⟩=some x3/\w'.cell? ⟨S,4,none⟩=some x4/\w'.cell? ⟨S,5,none⟩=some x5/\w'.cell? ⟨S,6,none⟩=some x6/\w'.cell? ⟨S,7,none⟩=some x7/\w'.cell? ⟨S,8,none⟩=some x8/\w'.cell? ⟨S,9,none⟩=some x9/\w'.cell? ⟨S,10,none⟩=some x10):=
 fun w' hb=>⟨(k0.below hb).cell 1 _ rfl,(k0.below hb).cell 2 _ rfl,(k0.below hb).cell 3 _ rfl,(k0.below hb).cell 4 _ rfl,(k0.below hb).cell 5 _ rfl,(k0.below hb).cell 6 _ rfl,(k0.below hb).cell 7 _ rfl,(k0.below hb).cell 8 _ rfl,(k0.below hb).cell 9 _ rfl,(k0.below hb).cell 10 _ rfl⟩
theorem tX.upH {S:Nat} {w W0:jl9} {at_:At} {ar:List ByteArray} {ci:List Ci} {ks:List aj} {vc vp va vi vk:jlk} (hS:S=w.heap.size) (hR:tX (·<w.heap.size) w at_ ar ci ks vc vp va vi vk) (b0:jlj S w W0):Hid (tX (·<S) W0 at_ ar ci ks vc vp va vi vk):=by subst hS;exact ⟨hR.at_.below b0,hR.args.below b0,hR.dL.below b0,hR.kids.below b0⟩
theorem j6.upH {S:Nat} {w W0:jl9} {at_:At} {li:List aj} {ks:List ah} {vc vp vl vk:jlk} (hS:S=w.heap.size) (hR:j6 (·<w.heap.size) w at_ li ks vc vp vl vk) (b0:jlj S w W0):Hid (j6 (·<S) W0 at_ li ks vc vp vl vk):=by subst hS;exact ⟨hR.at_.below b0,hR.line.below b0,hR.kids.below b0⟩
theorem gP {S:Nat} {w W0:jl9} {P:jl9->Prop} (hS:S=w.heap.size) (hl:∀ W,jlj w.heap.size w W->P W) (b0:jlj S w W0):Hid (∀ W,jlj W0.heap.size W0 W->P W):=
 fun W hW=>hl W (by rw [<- hS];exact b0.trans (hW.mono (by have:=b0.size;omega)))
theorem kG {P:jl9->Prop} {at_:At} {ar:List ByteArray} {ci:List Ci} {ks:List aj} {vc vp va vi vk:jlk} {w:jl9} (kv:jlk) (t d ti:ByteArray) (hR:tX (·<w.heap.size) w at_ ar ci ks vc vp va vi vk) (hl:∀ W,jlj w.heap.size w W->P W) : ∃ ac nc cc ap np cp aa na ca ai ni sj ak nk ck S W0,vc=.slice ac nc cc/\vp=.slice ap np cp/\va=.slice aa na ca/\vi=.slice ai ni sj/\vk=.slice ak nk ck/\Hid (S=w.heap.size) /\ Hid (W0=(w.alloc (.cells [kv,.string t,.string d,.string ti,.string at_.id,vc,vp,va,vi,vk].toArray 51)).alloc (.cells jI.toArray 43))/\W0.cell? ⟨S,0,none⟩=some kv /\ Hid (∀ w':jl9,jlj W0.heap.size W0 w'->w'.cell? ⟨S,1,none⟩=some (.string t)/\w'.cell? ⟨S,2,none⟩=some (.string d)/\w'.cell? ⟨S,3,none⟩=some (.string ti)/\w'.cell? ⟨S,4,none⟩=some (.string at_.id)/\w'.cell? ⟨S,5,none⟩=some vc/\w'.cell? ⟨S,6,none⟩=some vp/\w'.cell? ⟨S,9,none⟩=some vk) /\ Hid (∀ W,jlj W0.heap.size W0 W->P W)/\Hid (tX (·<S) W0 at_ ar ci ks vc vp va vi vk)/\Hid (W0.heap.size=S+2)/\Hid (jlj S w W0)/\Hid (CB 43 (S+1) jI W0):=by
 obtain ⟨ac,nc,cc,rfl⟩:=Rd.au hR.at_.cls
 obtain ⟨ap,np,cp,rfl⟩:=Rd.au hR.at_.aR
 obtain ⟨aa,na,ca,rfl⟩:=Rd.au hR.args;obtain ⟨ai,ni,sj,rfl⟩:=Rd.au hR.dL;obtain ⟨ak,nk,ck,rfl⟩:=Rd.au hR.kids;obtain ⟨S,W0,hS,hW0,z0,k0,k1,b0⟩:=qN 51 w [kv,.string t,.string d,.string ti,.string at_.id,.slice ac nc cc,.slice ap np cp,.slice aa na ca,.slice ai ni sj,.slice ak nk ck];exact ⟨ac,nc,cc,ap,np,cp,aa,na,ca,ai,ni,sj,ak,nk,ck,S,W0,rfl,rfl,rfl,rfl,rfl,hS,hW0,k0.cell 0 _ rfl,YH k0,gP hS hl b0,tX.upH hS hR b0,z0,b0,k1⟩
theorem kg {at_:At} {li:List aj} {ks:List ah} {vc vp vl vk:jlk} {w:jl9} (kv:jlk) (lv:Int) (i t d ti:ByteArray) (hR:j6 (·<w.heap.size) w at_ li ks vc vp vl vk) : ∃ ac nc cc ap np cp al nl cl ak nk ck S W0,vc=.slice ac nc cc/\vp=.slice ap np cp/\vl=.slice al nl cl/\vk=.slice ak nk ck/\Hid (S=w.heap.size) /\ Hid (W0=(w.alloc (.cells [kv,.int .i64 lv,.string i,.string t,.string d,.string ti,.string at_.id,vc,vp,vl,vk].toArray 30)).alloc (.cells jI.toArray 43))/\W0.cell? ⟨S,0,none⟩=some kv /\ Hid (∀ w':jl9,jlj W0.heap.size W0 w'->w'.cell? ⟨S,1,none⟩=some (.int .i64 lv)/\w'.cell? ⟨S,2,none⟩=some (.string i)/\w'.cell? ⟨S,3,none⟩=some (.string t)/\w'.cell? ⟨S,4,none⟩=some (.string d)/\w'.cell? ⟨S,5,none⟩=some (.string ti)/\w'.cell? ⟨S,6,none⟩=some (.string at_.id)/\w'.cell? ⟨S,7,none⟩=some vc/\w'.cell? ⟨S,8,none⟩=some vp/\w'.cell? ⟨S,9,none⟩=some vl/\w'.cell? ⟨S,10,none⟩=some vk) /\ Hid (j6 (·<S) W0 at_ li ks vc vp vl vk)/\Hid (W0.heap.size=S+2)/\Hid (jlj S w W0)/\Hid (CB 43 (S+1) jI W0):=by
 obtain ⟨ac,nc,cc,rfl⟩:=Rd.au hR.at_.cls
 obtain ⟨ap,np,cp,rfl⟩:=Rd.au hR.at_.aR
 obtain ⟨al,nl,cl,rfl⟩:=Rd.au hR.line;obtain ⟨ak,nk,ck,rfl⟩:=Rd.au hR.kids;obtain ⟨S,W0,hS,hW0,z0,k0,k1,b0⟩:=qN 30 w [kv,.int .i64 lv,.string i,.string t,.string d,.string ti,.string at_.id,.slice ac nc cc,.slice ap np cp,.slice al nl cl,.slice ak nk ck];exact ⟨ac,nc,cc,ap,np,cp,al,nl,cl,ak,nk,ck,S,W0,rfl,rfl,rfl,rfl,hS,hW0,k0.cell 0 _ rfl,YI k0,j6.upH hS hR b0,z0,b0,k1⟩
theorem nD {T:TypeId} {p:Nat} {cs:List jlk} {w:jl9} (h:CB T p cs w) (j:Nat):w.frozen? ⟨p,j,none⟩=false:=by unfold CB at h;simp [World.frozen?,h]
theorem mZ {p:Nat} {w:jl9} (h:CB 43 p jI w):w.cell? ⟨p,0,none⟩=some (.string ⟨#[]⟩)/\w.cell? ⟨p,1,none⟩=some (.string ⟨#[]⟩)/\w.cell? ⟨p,2,none⟩=some (.slice none 0 0)/\w.cell? ⟨p,3,none⟩=some (.slice none 0 0)/\∀ j,w.frozen? ⟨p,j,none⟩=false:=
 ⟨h.cell 0 _ rfl,h.cell 1 _ rfl,h.cell 2 _ rfl,h.cell 3 _ rfl,nD h⟩
theorem fB {S:Nat} {w W0 w3:jl9} (n t:ByteArray) (at_:List Pr) (ks:List Nd) {va vk:jlk} (hS:S=w.heap.size) (z0:W0.heap.size=S+2) (b0:jlj S w W0) (k1:CB 43 (S+1) jI W0) (b3:jlj W0.heap.size W0 w3) (hR:jT (W0.heap.size<=·) w3 at_ ks va vk) : CB 43 (S+1) [.string n,.string t,va,vk] (four w3 (S+1) (.string n) (.string t) va vk)/\rZ w (.mk n t at_ ks) (.returned (.agg #[.string n,.string t,va,vk])) (four w3 (S+1) (.string n) (.string t) va vk):=by refine ⟨IJ (k1.below b3) _ _ _ _,va,vk,rfl,hR.keep (fun b hb hlt=>⟨by omega,gU _ _ _ _ _ _ b (by omega)⟩),?_⟩;rw [<- hS];exact vL (b0.trans (b3.mono (by omega))) (by omega) _ _ _ _
theorem iC {S:Nat} {w W0 w3:jl9} (n t:ByteArray) (at_:List Pr) (ks:List Nd) {va vk:jlk} (hS:Hid (S=w.heap.size)) (z0:Hid (W0.heap.size=S+2)) (b0:Hid (jlj S w W0)) (k1:Hid (CB 43 (S+1) jI W0)) (b3:Hid (jlj W0.heap.size W0 w3)) (hR:jT (W0.heap.size<=·) w3 at_ ks va vk) : ∃ w9,w9=(((w3.setCell ⟨S+1,0,none⟩ (.string n)).setCell ⟨S+1,1,none⟩ (.string t)).setCell ⟨S+1,2,none⟩ va).setCell ⟨S+1,3,none⟩ vk /\ w9.cell? ⟨S+1,0,none⟩=some (.string n)/\w9.cell? ⟨S+1,1,none⟩=some (.string t)/\w9.cell? ⟨S+1,2,none⟩=some va/\w9.cell? ⟨S+1,3,none⟩=some vk /\ Hid (rZ w (.mk n t at_ ks) (.returned (.agg #[.string n,.string t,va,vk])) w9) /\ w3.cell? ⟨S+1,0,none⟩=some (.string ⟨#[]⟩)/\w3.cell? ⟨S+1,1,none⟩=some (.string ⟨#[]⟩)/\w3.cell? ⟨S+1,2,none⟩=some (.slice none 0 0)/\w3.cell? ⟨S+1,3,none⟩=some (.slice none 0 0)/\∀ j,w3.frozen? ⟨S+1,j,none⟩=false:=by
 have hf:=fB n t at_ ks hS.out z0.out b0.out k1.out b3.out hR
 exact ⟨_,rfl,hf.1.cell 0 _ rfl,hf.1.cell 1 _ rfl,hf.1.cell 2 _ rfl,hf.1.cell 3 _ rfl,hf.2,mZ (k1.out.below b3.out)⟩
theorem pU (l:List ByteArray) (W:jl9) (hl:l.length<=maxLen):Rd (·<(W.alloc (.cells (l.map Value.string).toArray 9)).heap.size) (W.alloc (.cells (l.map Value.string).toArray 9)) (gF l) [.slice (some ⟨W.heap.size,0,none⟩) l.length l.length]:=
 Rd.ME (B:=W.heap.size) (e:=9) ⟨by simp,.inr ⟨W.heap.size,l.length,(l.map Value.string).toArray,rfl,Nat.le_refl _,heap_alloc_new W _,Nat.le_refl _,hl,by simp,by
  show List.take (l.length*1) (l.map Value.string)=_;rw [List.take_of_length_le (by simp)]⟩⟩ (fun g hg=>by
   have e1:W.heap.size=g:=by simpa [Value.ownBlock] using hg
   simp;omega)
theorem P6 (k v:ByteArray) (W:jl9):Calls Tryz.prog 58 #[.slice (some ⟨W.heap.size,0,none⟩) 2 2] (W.alloc (.cells #[.string k,.string v] 9)) (bO (W.alloc (.cells #[.string k,.string v] 9)) [⟨k,v⟩]):=
 jh [⟨k,v⟩] _ _ (pU [k,v] W (by unfold maxLen;simp)) (by simp)
theorem vM (k v k' v':ByteArray) (W:jl9):Calls Tryz.prog 58 #[.slice (some ⟨W.heap.size,0,none⟩) 4 4] (W.alloc (.cells #[.string k,.string v,.string k',.string v'] 9)) (bO (W.alloc (.cells #[.string k,.string v,.string k',.string v'] 9)) [⟨k,v⟩,⟨k',v'⟩]):=
 jh [⟨k,v⟩,⟨k',v'⟩] _ _ (pU [k,v,k',v'] W (by unfold maxLen;simp)) (by simp)
theorem ng (W:jl9) (o:Obj):jlj W.heap.size W (W.alloc o).drew:=((ji7 _ _).alloc (Nat.le_refl _) _).drew
theorem Bg (k v:ByteArray) (W:jl9):Hid (Calls Tryz.prog 58 #[.slice (some ⟨W.heap.size,0,none⟩) 2 2] (W.alloc (.cells #[.string k,.string v] 9)).drew (bO (W.alloc (.cells #[.string k,.string v] 9)).drew [⟨k,v⟩]))/\Hid (jlj W.heap.size W (W.alloc (.cells #[.string k,.string v] 9)).drew):=
 ⟨P6 k v W.drew,ng W _⟩
theorem Qp (k v k' v':ByteArray) (W:jl9):Hid (Calls Tryz.prog 58 #[.slice (some ⟨W.heap.size,0,none⟩) 4 4] (W.alloc (.cells #[.string k,.string v,.string k',.string v'] 9)).drew (bO (W.alloc (.cells #[.string k,.string v,.string k',.string v'] 9)).drew [⟨k,v⟩,⟨k',v'⟩]))/\Hid (jlj W.heap.size W (W.alloc (.cells #[.string k,.string v,.string k',.string v'] 9)).drew):=
 ⟨vM k v k' v' W.drew,ng W _⟩
theorem Qq (k v k' v':ByteArray) {B:Nat} {W0 W:jl9} (h:Hid (jlj B W0 W)) (hB:B<=W.heap.size):Hid (Calls Tryz.prog 58 #[.slice (some ⟨W.heap.size,0,none⟩) 4 4] (W.alloc (.cells #[.string k,.string v,.string k',.string v'] 9)) (bO (W.alloc (.cells #[.string k,.string v,.string k',.string v'] 9)) [⟨k,v⟩,⟨k',v'⟩]))/\Hid (jlj B W0 (W.alloc (.cells #[.string k,.string v,.string k',.string v'] 9))):=
 ⟨vM k v k' v' W,h.out.alloc hB _⟩
theorem AJ {S:Nat} {W0 w':jl9} {a:At} {vc vp:jlk} (h:AtR (·<S) W0 a vc vp) (hb:jlj W0.heap.size W0 w') (hS:S<=W0.heap.size):AtR (·<w'.heap.size) w' a vc vp:=
 ⟨Rd.keep (fun b (hb1:b<S) _=>⟨by have:=hb.size;omega,hb.block b (by omega)⟩) _ _ h.cls,Rd.keep (fun b (hb1:b<S) _=>⟨by have:=hb.size;omega,hb.block b (by omega)⟩) _ _ h.aR⟩
theorem Vn {S:Nat} {W0:jl9} {a:At} {vc vp:jlk} (hS:S<=W0.heap.size) (h:AtR (·<S) W0 a vc vp):AtR (·<W0.drew.heap.size) W0.drew a vc vp:=
 ⟨Rd.keep (w:=W0) (w':=W0.drew) (ok:=(·<S)) (fun b (hb:b<S) _=>⟨(by show b<W0.heap.size;omega),rfl⟩) _ _ h.cls,Rd.keep (w:=W0) (w':=W0.drew) (ok:=(·<S)) (fun b (hb:b<S) _=>⟨(by show b<W0.heap.size;omega),rfl⟩) _ _ h.aR⟩
theorem ay.slice3 {T:TypeId} {k U:Nat} {ok:Nat->Prop} {w0 w:jl9} {ds:List D} {rows:List (List jlk)} {v:jlk} (h:ay T k ok U w0 ds rows v w):∃ a n c,v=.slice a n c:=by obtain ⟨a,c,e⟩:=h.slice;exact ⟨a,_,c,e⟩
theorem Bj {k:Int} {t d ti:ByteArray} {a:At} {ar:List ByteArray} {ci:List Ci} {ks:List aj} (h:(aj.mk k t d ti a ar ci ks).small):([]++a.cls).length<=100/\∀ c∈[]++a.cls,c.size<=1000:=by rw [aj.small] at h;obtain ⟨-,-,-,h,-⟩:=h;unfold At.short at h;rw [List.nil_append];exact ⟨by omega,fun c hc=>by have:=h.2.2.2.1 c hc;omega⟩
def vO (k:Int):Prop:=∀ (t d ti:ByteArray) (at_:At) (ar:List ByteArray) (ci:List Ci) (ks:List aj) (vc vp va vi vk:jlk) (w:jl9),tX (·<w.heap.size) w at_ ar ci ks vc vp va vi vk->(aj.mk k t d ti at_ ar ci ks).small->DW w ks vk ->
 Calls Tryz.prog 100 #[.agg #[.int .i64 k,.string t,.string d,.string ti,.string at_.id,vc,vp,va,vi,vk]] w (rZ w (aj.mk k t d ti at_ ar ci ks).nd)
theorem Vo:vO 2:=by
 intro t d ti at_ ar ci ks vc vp va vi vk w hR hs hl
 have E:Hid ((aj.mk 2 t d ti at_ ar ci ks).nd=JU U1):=by show _=_;rw [aj.nd];rfl
 rw [E.out];obtain ⟨ac,nc,cc,ap,np,cp,aa,na,ca,ai,ni,sj,ak,nk,ck,S,W0,rfl,rfl,rfl,rfl,rfl,HS,HW0,e0,SX,lJ,HR,Z0,B0,K1⟩:=kG (.int .i64 2) t d ti hR hl;have jH:=hid hs;have hst:t.size<=300:=by rw [aj.small] at hs;exact hs.1
 clear hR hs hl E;go_enter Tryz.func100,Tryz.ntmps100;go_upto_region 3 with (fail)
 rw [<- HS.out];have hk0:=HW0.out;simp only [jI] at hk0;rw [<- hk0];clear hk0;have BL:Hid (jlj W0.heap.size W0 W0):=ji7 _ _;have f1:=K1.out;obtain ⟨w9,hw8,r0,r1,r2,r3,HP,x0,x1,x2,x3,xf⟩:=iC ⟨#[]⟩ ⟨#[32]⟩ [] [] HS Z0 B0 K1 BL ⟨Rd.aF _ _ _,Rd.aF _ _ _⟩;go_wp2;rw [<- hw8];exact bodyPost_ret (v:=.agg #[.string ⟨#[]⟩,.string ⟨#[32]⟩,(.slice none 0 0),(.slice none 0 0)]) (by simp [results,Tryz.results100,go_sem,r0,r1,r2,r3]) rfl HP.out
theorem MF (k:Int) (t d ti:ByteArray) (at_:At) (ar:List ByteArray) (ci:List Ci) (ks:List aj) (vc vp va vi vk:jlk) (w:jl9) (hR:tX (·<w.heap.size) w at_ ar ci ks vc vp va vi vk) (hs:(aj.mk k t d ti at_ ar ci ks).small) (hl:DW w ks vk) (hk:k≠2/\k≠3/\k≠4/\k≠5/\k≠6/\k≠7/\k≠8/\k≠9/\k≠10/\k≠11/\k≠12/\k≠16) : Calls Tryz.prog 100 #[.agg #[.int .i64 k,.string t,.string d,.string ti,.string at_.id,vc,vp,va,vi,vk]] w (rZ w (aj.mk k t d ti at_ ar ci ks).nd):=by
 have E:Hid ((aj.mk k t d ti at_ ar ci ks).nd=JU t):=by show _=_;rw [aj.nd];obtain ⟨h2,h3,h4,h5,h6,h7,h8,h9,h10,h11,h12,h16⟩:=hk;rw [if_neg h2,if_neg h3,if_neg h4,if_neg h5,if_neg h6,if_neg h7,if_neg h8,if_neg h9,if_neg h10,if_neg h11,if_neg h12,if_neg h16]
 rw [E.out];obtain ⟨ac,nc,cc,ap,np,cp,aa,na,ca,ai,ni,sj,ak,nk,ck,S,W0,rfl,rfl,rfl,rfl,rfl,HS,HW0,e0,SX,lJ,HR,Z0,B0,K1⟩:=kG (.int .i64 k) t d ti hR hl;have jH:=hid hs;have hst:t.size<=300:=by rw [aj.small] at hs;exact hs.1
 have q2:(k==2)=false:=by rw [beq_eq_false_iff_ne];exact hk.1
 have q3:(k==3)=false:=by rw [beq_eq_false_iff_ne];exact hk.2.1
 have q4:(k==4)=false:=by rw [beq_eq_false_iff_ne];exact hk.2.2.1
 have q5:(k==5)=false:=by rw [beq_eq_false_iff_ne];exact hk.2.2.2.1
 have q6:(k==6)=false:=by rw [beq_eq_false_iff_ne];exact hk.2.2.2.2.1
 have q7:(k==7)=false:=by rw [beq_eq_false_iff_ne];exact hk.2.2.2.2.2.1
 have q8:(k==8)=false:=by rw [beq_eq_false_iff_ne];exact hk.2.2.2.2.2.2.1
 have q9:(k==9)=false:=by rw [beq_eq_false_iff_ne];exact hk.2.2.2.2.2.2.2.1
 have q10:(k==10)=false:=by rw [beq_eq_false_iff_ne];exact hk.2.2.2.2.2.2.2.2.1
 have q11:(k==11)=false:=by rw [beq_eq_false_iff_ne];exact hk.2.2.2.2.2.2.2.2.2.1
 have q12:(k==12)=false:=by rw [beq_eq_false_iff_ne];exact hk.2.2.2.2.2.2.2.2.2.2.1
 have q16:(k==16)=false:=by rw [beq_eq_false_iff_ne];exact hk.2.2.2.2.2.2.2.2.2.2.2
 clear hk;clear hR hs hl E;go_enter Tryz.func100,Tryz.ntmps100;go_upto_region 27 with (fail)
 rw [<- HS.out];have hk0:=HW0.out;simp only [jI] at hk0;rw [<- hk0];clear hk0;have BL:Hid (jlj W0.heap.size W0 W0):=ji7 _ _;have g1:=(SX.out W0 (ji7 _ _)).1;obtain ⟨w9,hw8,r0,r1,r2,r3,HP,x0,x1,x2,x3,xf⟩:=iC ⟨#[]⟩ t [] [] HS Z0 B0 K1 BL ⟨Rd.aF _ _ _,Rd.aF _ _ _⟩;go_wp2;rw [<- hw8];exact bodyPost_ret (v:=.agg #[.string ⟨#[]⟩,.string t,(.slice none 0 0),(.slice none 0 0)]) (by simp [results,Tryz.results100,go_sem,r0,r1,r2,r3]) rfl HP.out
theorem Vp:vO 3:=by
 intro t d ti at_ ar ci ks vc vp va vi vk w hR hs hl
 have E:Hid ((aj.mk 3 t d ti at_ ar ci ks).nd=aV nBr [] []):=by show _=_;rw [aj.nd];rfl
 rw [E.out];obtain ⟨ac,nc,cc,ap,np,cp,aa,na,ca,ai,ni,sj,ak,nk,ck,S,W0,rfl,rfl,rfl,rfl,rfl,HS,HW0,e0,SX,lJ,HR,Z0,B0,K1⟩:=kG (.int .i64 3) t d ti hR hl;have jH:=hid hs;have hst:t.size<=300:=by rw [aj.small] at hs;exact hs.1
 clear hR hs hl E;go_enter Tryz.func100,Tryz.ntmps100;go_upto_region 5 with (fail)
 rw [<- HS.out];have hk0:=HW0.out;simp only [jI] at hk0;rw [<- hk0];clear hk0;have EC:=hid (iT ⟨#[98,114]⟩ none none 0 0 0 0 W0);have B4:Hid (jlj W0.heap.size W0 W0):=ji7 _ _;go_wp2_with fail
 (with_reducible refine EC.out.mono ?_)
 rintro e w5 ⟨rfl,b5⟩;have BL:=hid (aZ B4.out b5);clear b5;obtain ⟨w9,hw8,r0,r1,r2,r3,HP,x0,x1,x2,x3,xf⟩:=iC ⟨#[98,114]⟩ ⟨#[]⟩ [] [] HS Z0 B0 K1 BL ⟨Rd.aF _ _ _,Rd.aF _ _ _⟩;go_wp2;rw [<- hw8];exact bodyPost_ret (v:=.agg #[.string ⟨#[98,114]⟩,.string ⟨#[]⟩,(.slice none 0 0),(.slice none 0 0)]) (by simp [results,Tryz.results100,go_sem,r0,r1,r2,r3]) rfl HP.out
theorem Vq:vO 4:=by
 intro t d ti at_ ar ci ks vc vp va vi vk w hR hs hl
 have E:Hid ((aj.mk 4 t d ti at_ ar ci ks).nd=aV iD [] (bP t)):=by show _=_;rw [aj.nd];rfl
 rw [E.out];obtain ⟨ac,nc,cc,ap,np,cp,aa,na,ca,ai,ni,sj,ak,nk,ck,S,W0,rfl,rfl,rfl,rfl,rfl,HS,HW0,e0,SX,lJ,HR,Z0,B0,K1⟩:=kG (.int .i64 4) t d ti hR hl;have jH:=hid hs;have hst:t.size<=300:=by rw [aj.small] at hs;exact hs.1
 clear hR hs hl E;go_enter Tryz.func100,Tryz.ntmps100;go_upto_region 7 with (fail)
 rw [<- HS.out];have hk0:=HW0.out;simp only [jI] at hk0;rw [<- hk0];clear hk0;have DC:=hid (fP t W0);have g1:=(SX.out W0 (ji7 _ _)).1;go_wp2_with fail
 (with_reducible refine DC.out.mono ?_)
 rintro e w4 ⟨dW,v4,rfl,hrow4⟩;obtain ⟨a4,n4,c4,rfl⟩:=hrow4.slice3;have b4:=hrow4.aT;have B4:=hid (aZ (ji7 W0.heap.size W0) b4);have gy:=hid (show Rd (W0.heap.size<=·) w4 (cZ (bP t)) [.slice a4 n4 c4] from hrow4.fA.weaken (fun b hb=>ji9 ((ji7 W0.heap.size W0)).size hb));have EC:=hid (iT ⟨#[99,111,100,101]⟩ none a4 0 n4 0 c4 w4);clear b4 hrow4 DC g1;go_wp2_with fail
 (with_reducible refine EC.out.mono ?_)
 rintro e w5 ⟨rfl,b5⟩;have BL:=hid (aZ B4.out b5);have HN:=hid (show jT (W0.heap.size<=·) w5 [] (bP t) (.slice none 0 0) (.slice a4 n4 c4) from ⟨Rd.aF _ _ _,gy.out.bq b5⟩);clear b5 gy EC;obtain ⟨w9,hw8,r0,r1,r2,r3,HP,x0,x1,x2,x3,xf⟩:=iC ⟨#[99,111,100,101]⟩ ⟨#[]⟩ [] (bP t) HS Z0 B0 K1 BL HN.out;go_wp2;rw [<- hw8];exact bodyPost_ret (v:=.agg #[.string ⟨#[99,111,100,101]⟩,.string ⟨#[]⟩,(.slice none 0 0),(.slice a4 n4 c4)]) (by simp [results,Tryz.results100,go_sem,r0,r1,r2,r3]) rfl HP.out
theorem Vr:vO 6:=by
 intro t d ti at_ ar ci ks vc vp va vi vk w hR hs hl
 have E:Hid ((aj.mk 6 t d ti at_ ar ci ks).nd=aV nEm [] (jC ks)):=by show _=_;rw [aj.nd];rfl
 rw [E.out];obtain ⟨ac,nc,cc,ap,np,cp,aa,na,ca,ai,ni,sj,ak,nk,ck,S,W0,rfl,rfl,rfl,rfl,rfl,HS,HW0,e0,SX,lJ,HR,Z0,B0,K1⟩:=kG (.int .i64 6) t d ti hR hl;have jH:=hid hs;have hst:t.size<=300:=by rw [aj.small] at hs;exact hs.1
 clear hR hs hl E;go_enter Tryz.func100,Tryz.ntmps100;go_upto_region 11 with (fail)
 rw [<- HS.out];have hk0:=HW0.out;simp only [jI] at hk0;rw [<- hk0];clear hk0;have LC:=hid (lJ.out W0 (ji7 _ _));have g9:=(SX.out W0 (ji7 _ _)).2.2.2.2.2.2;go_wp2_with fail
 (with_reducible refine LC.out.mono ?_)
 rintro e w4 ⟨dW,v4,rfl,hrow4⟩;obtain ⟨a4,n4,c4,rfl⟩:=hrow4.slice3;have b4:=hrow4.aT;have B4:=hid b4;have gy:=hid (show Rd (W0.heap.size<=·) w4 (cZ (jC ks)) [.slice a4 n4 c4] from hrow4.fA);have EC:=hid (iT ⟨#[101,109]⟩ none a4 0 n4 0 c4 w4);clear b4 hrow4 LC g9;go_wp2_with fail
 (with_reducible refine EC.out.mono ?_)
 rintro e w5 ⟨rfl,b5⟩;have BL:=hid (aZ B4.out b5);have HN:=hid (show jT (W0.heap.size<=·) w5 [] (jC ks) (.slice none 0 0) (.slice a4 n4 c4) from ⟨Rd.aF _ _ _,gy.out.bq b5⟩);clear b5 gy EC;obtain ⟨w9,hw8,r0,r1,r2,r3,HP,x0,x1,x2,x3,xf⟩:=iC ⟨#[101,109]⟩ ⟨#[]⟩ [] (jC ks) HS Z0 B0 K1 BL HN.out;go_wp2;rw [<- hw8];exact bodyPost_ret (v:=.agg #[.string ⟨#[101,109]⟩,.string ⟨#[]⟩,(.slice none 0 0),(.slice a4 n4 c4)]) (by simp [results,Tryz.results100,go_sem,r0,r1,r2,r3]) rfl HP.out
theorem Vs:vO 7:=by
 intro t d ti at_ ar ci ks vc vp va vi vk w hR hs hl
 have E:Hid ((aj.mk 7 t d ti at_ ar ci ks).nd=aV IQ [] (jC ks)):=by show _=_;rw [aj.nd];rfl
 rw [E.out];obtain ⟨ac,nc,cc,ap,np,cp,aa,na,ca,ai,ni,sj,ak,nk,ck,S,W0,rfl,rfl,rfl,rfl,rfl,HS,HW0,e0,SX,lJ,HR,Z0,B0,K1⟩:=kG (.int .i64 7) t d ti hR hl;have jH:=hid hs;have hst:t.size<=300:=by rw [aj.small] at hs;exact hs.1
 clear hR hs hl E;go_enter Tryz.func100,Tryz.ntmps100;go_upto_region 13 with (fail)
 rw [<- HS.out];have hk0:=HW0.out;simp only [jI] at hk0;rw [<- hk0];clear hk0;have LC:=hid (lJ.out W0 (ji7 _ _));have g9:=(SX.out W0 (ji7 _ _)).2.2.2.2.2.2;go_wp2_with fail
 (with_reducible refine LC.out.mono ?_)
 rintro e w4 ⟨dW,v4,rfl,hrow4⟩;obtain ⟨a4,n4,c4,rfl⟩:=hrow4.slice3;have b4:=hrow4.aT;have B4:=hid b4;have gy:=hid (show Rd (W0.heap.size<=·) w4 (cZ (jC ks)) [.slice a4 n4 c4] from hrow4.fA);have EC:=hid (iT ⟨#[115,116,114,111,110,103]⟩ none a4 0 n4 0 c4 w4);clear b4 hrow4 LC g9;go_wp2_with fail
 (with_reducible refine EC.out.mono ?_)
 rintro e w5 ⟨rfl,b5⟩;have BL:=hid (aZ B4.out b5);have HN:=hid (show jT (W0.heap.size<=·) w5 [] (jC ks) (.slice none 0 0) (.slice a4 n4 c4) from ⟨Rd.aF _ _ _,gy.out.bq b5⟩);clear b5 gy EC;obtain ⟨w9,hw8,r0,r1,r2,r3,HP,x0,x1,x2,x3,xf⟩:=iC ⟨#[115,116,114,111,110,103]⟩ ⟨#[]⟩ [] (jC ks) HS Z0 B0 K1 BL HN.out;go_wp2;rw [<- hw8];exact bodyPost_ret (v:=.agg #[.string ⟨#[115,116,114,111,110,103]⟩,.string ⟨#[]⟩,(.slice none 0 0),(.slice a4 n4 c4)]) (by simp [results,Tryz.results100,go_sem,r0,r1,r2,r3]) rfl HP.out
theorem Vt:vO 8:=by
 intro t d ti at_ ar ci ks vc vp va vi vk w hR hs hl
 have E:Hid ((aj.mk 8 t d ti at_ ar ci ks).nd=aV nS [] (jC ks)):=by show _=_;rw [aj.nd];rfl
 rw [E.out];obtain ⟨ac,nc,cc,ap,np,cp,aa,na,ca,ai,ni,sj,ak,nk,ck,S,W0,rfl,rfl,rfl,rfl,rfl,HS,HW0,e0,SX,lJ,HR,Z0,B0,K1⟩:=kG (.int .i64 8) t d ti hR hl;have jH:=hid hs;have hst:t.size<=300:=by rw [aj.small] at hs;exact hs.1
 clear hR hs hl E;go_enter Tryz.func100,Tryz.ntmps100;go_upto_region 15 with (fail)
 rw [<- HS.out];have hk0:=HW0.out;simp only [jI] at hk0;rw [<- hk0];clear hk0;have LC:=hid (lJ.out W0 (ji7 _ _));have g9:=(SX.out W0 (ji7 _ _)).2.2.2.2.2.2;go_wp2_with fail
 (with_reducible refine LC.out.mono ?_)
 rintro e w4 ⟨dW,v4,rfl,hrow4⟩;obtain ⟨a4,n4,c4,rfl⟩:=hrow4.slice3;have b4:=hrow4.aT;have B4:=hid b4;have gy:=hid (show Rd (W0.heap.size<=·) w4 (cZ (jC ks)) [.slice a4 n4 c4] from hrow4.fA);have EC:=hid (iT ⟨#[115]⟩ none a4 0 n4 0 c4 w4);clear b4 hrow4 LC g9;go_wp2_with fail
 (with_reducible refine EC.out.mono ?_)
 rintro e w5 ⟨rfl,b5⟩;have BL:=hid (aZ B4.out b5);have HN:=hid (show jT (W0.heap.size<=·) w5 [] (jC ks) (.slice none 0 0) (.slice a4 n4 c4) from ⟨Rd.aF _ _ _,gy.out.bq b5⟩);clear b5 gy EC;obtain ⟨w9,hw8,r0,r1,r2,r3,HP,x0,x1,x2,x3,xf⟩:=iC ⟨#[115]⟩ ⟨#[]⟩ [] (jC ks) HS Z0 B0 K1 BL HN.out;go_wp2;rw [<- hw8];exact bodyPost_ret (v:=.agg #[.string ⟨#[115]⟩,.string ⟨#[]⟩,(.slice none 0 0),(.slice a4 n4 c4)]) (by simp [results,Tryz.results100,go_sem,r0,r1,r2,r3]) rfl HP.out
theorem Vu:vO 5:=by
 intro t d ti at_ ar ci ks vc vp va vi vk w hR hs hl
 have E:Hid ((aj.mk 5 t d ti at_ ar ci ks).nd=aV IU [⟨fJ,vP⟩] (bP t)):=by show _=_;rw [aj.nd];rfl
 rw [E.out];obtain ⟨ac,nc,cc,ap,np,cp,aa,na,ca,ai,ni,sj,ak,nk,ck,S,W0,rfl,rfl,rfl,rfl,rfl,HS,HW0,e0,SX,lJ,HR,Z0,B0,K1⟩:=kG (.int .i64 5) t d ti hR hl;have jH:=hid hs;have hst:t.size<=300:=by rw [aj.small] at hs;exact hs.1
 clear hR hs hl E;go_enter Tryz.func100,Tryz.ntmps100;go_upto_region 9 with (fail)
 rw [<- HS.out];have hk0:=HW0.out;simp only [jI] at hk0;rw [<- hk0];clear hk0;obtain ⟨PC,lM⟩:=Bg ⟨#[99,108,97,115,115]⟩ ⟨#[109,97,116,104]⟩ W0;have SF:=hid (fun (w':jl9) (hb:jlj W0.heap.size W0 w')=>((SX.out w' hb).1:w'.cell? ⟨S,1,none⟩=some (.string t)));have S0:=SF.out _ (ji7 _ _).drew;have S1:=SF.out _ lM.out;have UZ:Hid (∀ W:jl9,Calls Tryz.prog 68 #[.string t] W (dn W (bP t))):=fun W=>fP t W
 go_wp2_with fail
 go_region_held3 (fun w'=>w'.cell? ⟨S,1,none⟩=some (.string t))
  (with_reducible assumption)
  (first
   | (go_simp;go_at_call 58;(with_reducible refine PC.out.mono ?_);rintro e w2 ⟨bV,v2,rfl,hrow2⟩;obtain ⟨a2,c2,rfl,-,-⟩:=hrow2.cap (n:=1) rfl;have B2:=hid (lM.out.trans (hrow2.aT.mono lM.out.size));have uY:=hid (show Rd (W0.heap.size<=·) w2 (bX [⟨fJ,vP⟩]) [.slice a2 1 c2] from hrow2.fA.weaken (fun b hb=>ji9 lM.out.size hb));have S2:=SF.out w2 B2.out;have DC:=hid (UZ.out w2))
   | (go_simp;go_at_call 68;(with_reducible refine DC.out.mono ?_);rintro e w4 ⟨dW,v4,rfl,hrow4⟩;obtain ⟨a4,n4,c4,rfl⟩:=hrow4.slice3;have b4:=hrow4.aT;have B4:=hid (aZ B2.out b4);have gy:=hid (show Rd (W0.heap.size<=·) w4 (cZ (bP t)) [.slice a4 n4 c4] from hrow4.fA.weaken (fun b hb=>ji9 (B2.out).size hb));have oG:=hid (uY.out.bq b4);have S4:=SF.out w4 B4.out;have EC:=hid (iT ⟨#[115,112,97,110]⟩ a2 a4 1 n4 c2 c4 w4))
   | (go_simp;go_at_call 57;(with_reducible refine EC.out.mono ?_);rintro e w5 ⟨rfl,b5⟩;have BL:=hid (aZ B4.out b5);obtain ⟨x0,x1,x2,x3,xf⟩:=mZ (K1.out.below BL.out);have S5:=SF.out w5 BL.out;have K6:=su S w5 (.string ⟨#[115,112,97,110]⟩) (.string ⟨#[]⟩) (.slice a2 1 c2) (.slice a4 n4 c4);have S6:=K6 _ _ (SF.out w5 BL.out);clear K6))
 all_goals
  have HN:=hid (show jT (W0.heap.size<=·) w5 [⟨fJ,vP⟩] (bP t) (.slice a2 1 c2) (.slice a4 n4 c4) from ⟨oG.out.bq b5,gy.out.bq b5⟩);clear b5 gy EC oG hrow2 hrow4 b4 S0 S1 S2 S4 S5 S6 uY;obtain ⟨w9,bT⟩:∃ w9,w9=four w5 (S+1) (.string ⟨#[115,112,97,110]⟩) (.string ⟨#[]⟩) (.slice a2 1 c2) (.slice a4 n4 c4):=⟨_,rfl⟩;have hf:=fB ⟨#[115,112,97,110]⟩ ⟨#[]⟩ [⟨fJ,vP⟩] (bP t) HS.out Z0.out B0.out K1.out BL.out HN.out;rw [<- bT] at hf;have HC:=hid hf.1;have HP:=hid hf.2;clear hf;have hw8:=bT;simp only [four] at hw8;clear bT;obtain ⟨x0,x1,x2,x3,xf⟩:=mZ (K1.out.below BL.out);go_wp2;rw [<- hw8];have r0:=HC.out.cell 0 _ rfl;have r1:=HC.out.cell 1 _ rfl;have r2:=HC.out.cell 2 _ rfl;have r3:=HC.out.cell 3 _ rfl;exact bodyPost_ret (v:=.agg #[.string ⟨#[115,112,97,110]⟩,.string ⟨#[]⟩,(.slice a2 1 c2),(.slice a4 n4 c4)]) (by simp [results,Tryz.results100,go_sem,r0,r1,r2,r3]) rfl HP.out
theorem Qr:vO 12:=by
 intro t d ti at_ ar ci ks vc vp va vi vk w hR hs hl
 have E:Hid ((aj.mk 12 t d ti at_ ar ci ks).nd=aV nA [⟨iE,vQ++t⟩,⟨fJ,mG⟩] (bP t)):=by show _=_;rw [aj.nd];rfl
 rw [E.out];obtain ⟨ac,nc,cc,ap,np,cp,aa,na,ca,ai,ni,sj,ak,nk,ck,S,W0,rfl,rfl,rfl,rfl,rfl,HS,HW0,e0,SX,lJ,HR,Z0,B0,K1⟩:=kG (.int .i64 12) t d ti hR hl;have jH:=hid hs;have hst:t.size<=300:=by rw [aj.small] at hs;exact hs.1
 clear hR hs hl E;go_enter Tryz.func100,Tryz.ntmps100;go_upto_region 24 with (fail)
 rw [<- HS.out];have hk0:=HW0.out;simp only [jI] at hk0;rw [<- hk0];clear hk0;obtain ⟨PC,lM⟩:=Qp ⟨#[104,114,101,102]⟩ (⟨#[35,110,111,116,101,45]⟩++t) ⟨#[99,108,97,115,115]⟩ ⟨#[110,111,116,101,114,101,102]⟩ W0;have SF:=hid (fun (w':jl9) (hb:jlj W0.heap.size W0 w')=>((SX.out w' hb).1:w'.cell? ⟨S,1,none⟩=some (.string t)));have S0:=SF.out _ (ji7 _ _).drew;have S1:=SF.out _ lM.out;have UZ:Hid (∀ W:jl9,Calls Tryz.prog 68 #[.string t] W (dn W (bP t))):=fun W=>fP t W
 have q5:(⟨#[35,110,111,116,101,45]⟩:ByteArray).size+t.size<=9223372036854775807:=by have:(⟨#[35,110,111,116,101,45]⟩:ByteArray).size=6:=rfl;omega
 have q6:6+t.size<=9223372036854775807:=by omega
 have hadd:∀ w:jl9,(Op.stringOp .add (⟨#[35,110,111,116,101,45]⟩:ByteArray) t).run Tryz.prog w=.ok (.string (⟨#[35,110,111,116,101,45]⟩++t)) w:=fun w=>run_string_add_sum w _ _ q5
 go_wp2_with fail
 go_region_held3 (fun w'=>w'.cell? ⟨S,1,none⟩=some (.string t))
  (with_reducible assumption)
  (first
   | (go_simp;go_at_call 58;(with_reducible refine PC.out.mono ?_);rintro e w2 ⟨bV,v2,rfl,hrow2⟩;obtain ⟨a2,c2,rfl,-,-⟩:=hrow2.cap (n:=2) rfl;have B2:=hid (lM.out.trans (hrow2.aT.mono lM.out.size));have uY:=hid (show Rd (W0.heap.size<=·) w2 (bX [⟨iE,vQ++t⟩,⟨fJ,mG⟩]) [.slice a2 2 c2] from hrow2.fA.weaken (fun b hb=>ji9 lM.out.size hb));have S2:=SF.out w2 B2.out;have DC:=hid (UZ.out w2))
   | (go_simp;go_at_call 68;(with_reducible refine DC.out.mono ?_);rintro e w4 ⟨dW,v4,rfl,hrow4⟩;obtain ⟨a4,n4,c4,rfl⟩:=hrow4.slice3;have b4:=hrow4.aT;have B4:=hid (aZ B2.out b4);have gy:=hid (show Rd (W0.heap.size<=·) w4 (cZ (bP t)) [.slice a4 n4 c4] from hrow4.fA.weaken (fun b hb=>ji9 (B2.out).size hb));have oG:=hid (uY.out.bq b4);have S4:=SF.out w4 B4.out;have EC:=hid (iT ⟨#[97]⟩ a2 a4 2 n4 c2 c4 w4))
   | (go_simp;go_at_call 57;(with_reducible refine EC.out.mono ?_);rintro e w5 ⟨rfl,b5⟩;have BL:=hid (aZ B4.out b5);obtain ⟨x0,x1,x2,x3,xf⟩:=mZ (K1.out.below BL.out);have S5:=SF.out w5 BL.out;have K6:=su S w5 (.string ⟨#[97]⟩) (.string ⟨#[]⟩) (.slice a2 2 c2) (.slice a4 n4 c4);have S6:=K6 _ _ (SF.out w5 BL.out);clear K6))
 all_goals
  have HN:=hid (show jT (W0.heap.size<=·) w5 [⟨iE,vQ++t⟩,⟨fJ,mG⟩] (bP t) (.slice a2 2 c2) (.slice a4 n4 c4) from ⟨oG.out.bq b5,gy.out.bq b5⟩);clear b5 gy EC oG hrow2 hrow4 b4 S0 S1 S2 S4 S5 S6 uY;obtain ⟨w9,bT⟩:∃ w9,w9=four w5 (S+1) (.string ⟨#[97]⟩) (.string ⟨#[]⟩) (.slice a2 2 c2) (.slice a4 n4 c4):=⟨_,rfl⟩;have hf:=fB ⟨#[97]⟩ ⟨#[]⟩ [⟨iE,vQ++t⟩,⟨fJ,mG⟩] (bP t) HS.out Z0.out B0.out K1.out BL.out HN.out;rw [<- bT] at hf;have HC:=hid hf.1;have HP:=hid hf.2;clear hf;have hw8:=bT;simp only [four] at hw8;clear bT;obtain ⟨x0,x1,x2,x3,xf⟩:=mZ (K1.out.below BL.out);go_wp2;rw [<- hw8];have r0:=HC.out.cell 0 _ rfl;have r1:=HC.out.cell 1 _ rfl;have r2:=HC.out.cell 2 _ rfl;have r3:=HC.out.cell 3 _ rfl;exact bodyPost_ret (v:=.agg #[.string ⟨#[97]⟩,.string ⟨#[]⟩,(.slice a2 2 c2),(.slice a4 n4 c4)]) (by simp [results,Tryz.results100,go_sem,r0,r1,r2,r3]) rfl HP.out
theorem Qs:vO 16:=by
 intro t d ti at_ ar ci ks vc vp va vi vk w hR hs hl
 have E:Hid ((aj.mk 16 t d ti at_ ar ci ks).nd=aV nA [⟨iE,d⟩] (bP d)):=by show _=_;rw [aj.nd];rfl
 rw [E.out];obtain ⟨ac,nc,cc,ap,np,cp,aa,na,ca,ai,ni,sj,ak,nk,ck,S,W0,rfl,rfl,rfl,rfl,rfl,HS,HW0,e0,SX,lJ,HR,Z0,B0,K1⟩:=kG (.int .i64 16) t d ti hR hl;have jH:=hid hs;have hst:t.size<=300:=by rw [aj.small] at hs;exact hs.1
 clear hR hs hl E;go_enter Tryz.func100,Tryz.ntmps100;go_upto_region 26 with (fail)
 rw [<- HS.out];have hk0:=HW0.out;simp only [jI] at hk0;rw [<- hk0];clear hk0;obtain ⟨PC,lM⟩:=Bg ⟨#[104,114,101,102]⟩ d W0;have SF:=hid (fun (w':jl9) (hb:jlj W0.heap.size W0 w')=>((SX.out w' hb).2.1:w'.cell? ⟨S,2,none⟩=some (.string d)));have S0:=SF.out _ (ji7 _ _).drew;have S1:=SF.out _ lM.out;have UZ:Hid (∀ W:jl9,Calls Tryz.prog 68 #[.string d] W (dn W (bP d))):=fun W=>fP d W
 go_wp2_with fail
 go_region_held3 (fun w'=>w'.cell? ⟨S,2,none⟩=some (.string d))
  (with_reducible assumption)
  (first
   | (go_simp;go_at_call 58;(with_reducible refine PC.out.mono ?_);rintro e w2 ⟨bV,v2,rfl,hrow2⟩;obtain ⟨a2,c2,rfl,-,-⟩:=hrow2.cap (n:=1) rfl;have B2:=hid (lM.out.trans (hrow2.aT.mono lM.out.size));have uY:=hid (show Rd (W0.heap.size<=·) w2 (bX [⟨iE,d⟩]) [.slice a2 1 c2] from hrow2.fA.weaken (fun b hb=>ji9 lM.out.size hb));have S2:=SF.out w2 B2.out;have DC:=hid (UZ.out w2))
   | (go_simp;go_at_call 68;(with_reducible refine DC.out.mono ?_);rintro e w4 ⟨dW,v4,rfl,hrow4⟩;obtain ⟨a4,n4,c4,rfl⟩:=hrow4.slice3;have b4:=hrow4.aT;have B4:=hid (aZ B2.out b4);have gy:=hid (show Rd (W0.heap.size<=·) w4 (cZ (bP d)) [.slice a4 n4 c4] from hrow4.fA.weaken (fun b hb=>ji9 (B2.out).size hb));have oG:=hid (uY.out.bq b4);have S4:=SF.out w4 B4.out;have EC:=hid (iT ⟨#[97]⟩ a2 a4 1 n4 c2 c4 w4))
   | (go_simp;go_at_call 57;(with_reducible refine EC.out.mono ?_);rintro e w5 ⟨rfl,b5⟩;have BL:=hid (aZ B4.out b5);obtain ⟨x0,x1,x2,x3,xf⟩:=mZ (K1.out.below BL.out);have S5:=SF.out w5 BL.out;have K6:=su S w5 (.string ⟨#[97]⟩) (.string ⟨#[]⟩) (.slice a2 1 c2) (.slice a4 n4 c4);have S6:=K6 _ _ (SF.out w5 BL.out);clear K6))
 all_goals
  have HN:=hid (show jT (W0.heap.size<=·) w5 [⟨iE,d⟩] (bP d) (.slice a2 1 c2) (.slice a4 n4 c4) from ⟨oG.out.bq b5,gy.out.bq b5⟩);clear b5 gy EC oG hrow2 hrow4 b4 S0 S1 S2 S4 S5 S6 uY;obtain ⟨w9,bT⟩:∃ w9,w9=four w5 (S+1) (.string ⟨#[97]⟩) (.string ⟨#[]⟩) (.slice a2 1 c2) (.slice a4 n4 c4):=⟨_,rfl⟩;have hf:=fB ⟨#[97]⟩ ⟨#[]⟩ [⟨iE,d⟩] (bP d) HS.out Z0.out B0.out K1.out BL.out HN.out;rw [<- bT] at hf;have HC:=hid hf.1;have HP:=hid hf.2;clear hf;have hw8:=bT;simp only [four] at hw8;clear bT;obtain ⟨x0,x1,x2,x3,xf⟩:=mZ (K1.out.below BL.out);go_wp2;rw [<- hw8];have r0:=HC.out.cell 0 _ rfl;have r1:=HC.out.cell 1 _ rfl;have r2:=HC.out.cell 2 _ rfl;have r3:=HC.out.cell 3 _ rfl;exact bodyPost_ret (v:=.agg #[.string ⟨#[97]⟩,.string ⟨#[]⟩,(.slice a2 1 c2),(.slice a4 n4 c4)]) (by simp [results,Tryz.results100,go_sem,r0,r1,r2,r3]) rfl HP.out
theorem Vv:vO 9:=by
 intro t d ti at_ ar ci ks vc vp va vi vk w hR hs hl
 have E:Hid ((aj.mk 9 t d ti at_ ar ci ks).nd=aV nA (⟨iE,d⟩::iZ dH ti) (jC ks)):=by show _=_;rw [aj.nd];rfl
 rw [E.out];obtain ⟨ac,nc,cc,ap,np,cp,aa,na,ca,ai,ni,sj,ak,nk,ck,S,W0,rfl,rfl,rfl,rfl,rfl,HS,HW0,e0,SX,lJ,HR,Z0,B0,K1⟩:=kG (.int .i64 9) t d ti hR hl;have jH:=hid hs;have hst:t.size<=300:=by rw [aj.small] at hs;exact hs.1
 clear hR hs hl E;go_enter Tryz.func100,Tryz.ntmps100;go_upto_region 17 with (fail)
 rw [<- HS.out];have hk0:=HW0.out;simp only [jI] at hk0;rw [<- hk0];clear hk0;obtain ⟨PC,lM⟩:=Bg ⟨#[104,114,101,102]⟩ d W0;have SF:=hid (fun (w':jl9) (hb:jlj W0.heap.size W0 w')=>(⟨(SX.out w' hb).2.1,(SX.out w' hb).2.2.1,(SX.out w' hb).2.2.2.2.2.2⟩:w'.cell? ⟨S,2,none⟩=some (.string d)/\w'.cell? ⟨S,3,none⟩=some (.string ti)/\w'.cell? ⟨S,9,none⟩=some (.slice ak nk ck)));have S0:=SF.out _ (ji7 _ _).drew;have S1:=SF.out _ lM.out;go_wp2_with fail
 go_region_held3 (fun w'=>w'.cell? ⟨S,2,none⟩=some (.string d)/\w'.cell? ⟨S,3,none⟩=some (.string ti)/\w'.cell? ⟨S,9,none⟩=some (.slice ak nk ck))
  (with_reducible assumption)
  (first
   | (go_simp;go_at_call 58;(with_reducible refine PC.out.mono ?_);rintro e w2 ⟨bV,v2,rfl,hrow2⟩;obtain ⟨a2,c2,rfl,-,-⟩:=hrow2.cap (n:=1) rfl;have B2:=hid (lM.out.trans (hrow2.aT.mono lM.out.size));have uY:=hid (show Rd (W0.heap.size<=·) w2 (bX [⟨iE,d⟩]) [.slice a2 1 c2] from hrow2.fA.weaken (fun b hb=>ji9 lM.out.size hb));have S2:=SF.out w2 B2.out;have TC:=hid (uV [⟨iE,d⟩] ti _ bV _ _ w2 hrow2 (by simp)))
   | (go_simp;go_at_call 150;(with_reducible refine TC.out.mono ?_);rintro e w3 ⟨gG,v3,rfl,hrow3,hg3⟩;obtain ⟨a3,n3,c3,rfl⟩:=hrow3.slice3;have B3:=hid (lM.out.trans (hrow3.aT.mono lM.out.size));have AL:=hid (show Rd (W0.heap.size<=·) w3 (bX ([⟨iE,d⟩]++iZ dH ti)) [.slice a3 n3 c3] from hrow3.fA.weaken (fun b hb=>ji9 lM.out.size hb));have S3:=SF.out w3 B3.out;have LC:=hid (lJ.out w3 B3.out))
   | (go_simp;go_at_call 50;(with_reducible refine LC.out.mono ?_);rintro e w4 ⟨dW,v4,rfl,hrow4⟩;obtain ⟨a4,n4,c4,rfl⟩:=hrow4.slice3;have b4:=hrow4.aT;have B4:=hid (aZ B3.out b4);have gy:=hid (show Rd (W0.heap.size<=·) w4 (cZ (jC ks)) [.slice a4 n4 c4] from hrow4.fA.weaken (fun b hb=>ji9 B3.out.size hb));have oG:=hid (AL.out.bq b4);have S4:=SF.out w4 B4.out;have EC:=hid (iT ⟨#[97]⟩ a3 a4 n3 n4 c3 c4 w4))
   | (go_simp;go_at_call 57;(with_reducible refine EC.out.mono ?_);rintro e w5 ⟨rfl,b5⟩;have BL:=hid (aZ B4.out b5);obtain ⟨x0,x1,x2,x3,xf⟩:=mZ (K1.out.below BL.out);have S5:=SF.out w5 BL.out;have K6:=su S w5 (.string ⟨#[97]⟩) (.string ⟨#[]⟩) (.slice a3 n3 c3) (.slice a4 n4 c4);have S6:=And.imp (K6 _ _) (And.imp (K6 _ _) (K6 _ _)) (SF.out w5 BL.out);clear K6))
 all_goals
  have HN:=hid (show jT (W0.heap.size<=·) w5 ([⟨iE,d⟩]++iZ dH ti) (jC ks) (.slice a3 n3 c3) (.slice a4 n4 c4) from ⟨oG.out.bq b5,gy.out.bq b5⟩);clear b5 gy EC oG hrow2 hrow3 hrow4 hg3 b4 S0 S1 S2 S3 S4 S5 S6 uY AL;obtain ⟨w9,bT⟩:∃ w9,w9=four w5 (S+1) (.string ⟨#[97]⟩) (.string ⟨#[]⟩) (.slice a3 n3 c3) (.slice a4 n4 c4):=⟨_,rfl⟩;have hf:=fB ⟨#[97]⟩ ⟨#[]⟩ ([⟨iE,d⟩]++iZ dH ti) (jC ks) HS.out Z0.out B0.out K1.out BL.out HN.out;rw [<- bT] at hf;have HC:=hid hf.1;have HP:=hid hf.2;clear hf;have hw8:=bT;simp only [four] at hw8;clear bT;obtain ⟨x0,x1,x2,x3,xf⟩:=mZ (K1.out.below BL.out);go_wp2;rw [<- hw8];have r0:=HC.out.cell 0 _ rfl;have r1:=HC.out.cell 1 _ rfl;have r2:=HC.out.cell 2 _ rfl;have r3:=HC.out.cell 3 _ rfl;exact bodyPost_ret (v:=.agg #[.string ⟨#[97]⟩,.string ⟨#[]⟩,(.slice a3 n3 c3),(.slice a4 n4 c4)]) (by simp [results,Tryz.results100,go_sem,r0,r1,r2,r3]) rfl HP.out
theorem Qt:vO 11:=by
 intro t d ti at_ ar ci ks vc vp va vi vk w hR hs hl
 have E:Hid ((aj.mk 11 t d ti at_ ar ci ks).nd=aV IU (q0z at_ []) (jC ks)):=by show _=_;rw [aj.nd];rfl
 rw [E.out];obtain ⟨ac,nc,cc,ap,np,cp,aa,na,ca,ai,ni,sj,ak,nk,ck,S,W0,rfl,rfl,rfl,rfl,rfl,HS,HW0,e0,SX,lJ,HR,Z0,B0,K1⟩:=kG (.int .i64 11) t d ti hR hl;have jH:=hid hs;have hst:t.size<=300:=by rw [aj.small] at hs;exact hs.1
 clear hR hs hl E;go_enter Tryz.func100,Tryz.ntmps100;go_upto_region 22 with (fail)
 rw [<- HS.out];have hk0:=HW0.out;simp only [jI] at hk0;rw [<- hk0];clear hk0;have AC:=hid (Yi at_ [] (.slice ac nc cc) (.slice ap np cp) (.slice none 0 0) W0.drew W0.drew nZ.nil (Vn (by have:=Z0.out;omega) HR.out.at_) (Bj jH.out).1 (Bj jH.out).2);have SF:=hid (fun (w':jl9) (hb:jlj W0.heap.size W0 w')=>(⟨(SX.out w' hb).2.2.2.1,(SX.out w' hb).2.2.2.2.1,(SX.out w' hb).2.2.2.2.2.1,(SX.out w' hb).2.2.2.2.2.2⟩:w'.cell? ⟨S,4,none⟩=some (.string at_.id)/\w'.cell? ⟨S,5,none⟩=some (.slice ac nc cc)/\w'.cell? ⟨S,6,none⟩=some (.slice ap np cp)/\w'.cell? ⟨S,9,none⟩=some (.slice ak nk ck)));have S0:=SF.out _ (ji7 _ _).drew;go_wp2_with fail
 go_region_held3 (fun w'=>w'.cell? ⟨S,4,none⟩=some (.string at_.id)/\w'.cell? ⟨S,5,none⟩=some (.slice ac nc cc)/\w'.cell? ⟨S,6,none⟩=some (.slice ap np cp)/\w'.cell? ⟨S,9,none⟩=some (.slice ak nk ck))
  (with_reducible assumption)
  (first
   | (go_simp;go_at_call 152;(with_reducible refine AC.out.mono ?_);rintro e w3 ⟨gG,v3,rfl,hrow3⟩;obtain ⟨a3,n3,c3,rfl⟩:=hrow3.slice3;have B3:Hid (jlj W0.heap.size W0 w3):=((ji7 W0.heap.size W0).drew).trans hrow3.aT;have AL:Hid (Rd (W0.heap.size<=·) w3 (bX (q0z at_ [])) [.slice a3 n3 c3]):=hrow3.fA;have S3:=SF.out w3 B3.out;have LC:=hid (lJ.out w3 B3.out))
   | (go_simp;go_at_call 50;(with_reducible refine LC.out.mono ?_);rintro e w4 ⟨dW,v4,rfl,hrow4⟩;obtain ⟨a4,n4,c4,rfl⟩:=hrow4.slice3;have b4:=hrow4.aT;have B4:=hid (aZ B3.out b4);have gy:=hid (show Rd (W0.heap.size<=·) w4 (cZ (jC ks)) [.slice a4 n4 c4] from hrow4.fA.weaken (fun b hb=>ji9 B3.out.size hb));have oG:=hid (AL.out.bq b4);have S4:=SF.out w4 B4.out;have EC:=hid (iT ⟨#[115,112,97,110]⟩ a3 a4 n3 n4 c3 c4 w4))
   | (go_simp;go_at_call 57;(with_reducible refine EC.out.mono ?_);rintro e w5 ⟨rfl,b5⟩;have BL:=hid (aZ B4.out b5);obtain ⟨x0,x1,x2,x3,xf⟩:=mZ (K1.out.below BL.out);have S5:=SF.out w5 BL.out;have K6:=su S w5 (.string ⟨#[115,112,97,110]⟩) (.string ⟨#[]⟩) (.slice a3 n3 c3) (.slice a4 n4 c4);have S6:=And.imp (K6 _ _) (And.imp (K6 _ _) (And.imp (K6 _ _) (K6 _ _))) (SF.out w5 BL.out);clear K6))
 all_goals
  have HN:=hid (show jT (W0.heap.size<=·) w5 (q0z at_ []) (jC ks) (.slice a3 n3 c3) (.slice a4 n4 c4) from ⟨oG.out.bq b5,gy.out.bq b5⟩);clear b5 gy EC oG hrow3 hrow4 b4 S0 S3 S4 S5 S6 AL;obtain ⟨w9,bT⟩:∃ w9,w9=four w5 (S+1) (.string ⟨#[115,112,97,110]⟩) (.string ⟨#[]⟩) (.slice a3 n3 c3) (.slice a4 n4 c4):=⟨_,rfl⟩;have hf:=fB ⟨#[115,112,97,110]⟩ ⟨#[]⟩ (q0z at_ []) (jC ks) HS.out Z0.out B0.out K1.out BL.out HN.out;rw [<- bT] at hf;have HC:=hid hf.1;have HP:=hid hf.2;clear hf;have hw8:=bT;simp only [four] at hw8;clear bT;obtain ⟨x0,x1,x2,x3,xf⟩:=mZ (K1.out.below BL.out);go_wp2;rw [<- hw8];have r0:=HC.out.cell 0 _ rfl;have r1:=HC.out.cell 1 _ rfl;have r2:=HC.out.cell 2 _ rfl;have r3:=HC.out.cell 3 _ rfl;exact bodyPost_ret (v:=.agg #[.string ⟨#[115,112,97,110]⟩,.string ⟨#[]⟩,(.slice a3 n3 c3),(.slice a4 n4 c4)]) (by simp [results,Tryz.results100,go_sem,r0,r1,r2,r3]) rfl HP.out
theorem Qu (t d ti:ByteArray) (at_:At) (ar:List ByteArray) (ci:List Ci) (ks:List aj) (vc vp va vi vk:jlk) (w:jl9) (hR:tX (·<w.heap.size) w at_ ar ci ks vc vp va vi vk) (hs:(aj.mk (10:Int) t d ti at_ ar ci ks).small) (hl:DW w ks vk) (hz:aj.aY ks<=1000000) : Calls Tryz.prog 100 #[.agg #[.int .i64 10,.string t,.string d,.string ti,.string at_.id,vc,vp,va,vi,vk]] w (rZ w (aj.mk (10:Int) t d ti at_ ar ci ks).nd):=by
 have E:Hid ((aj.mk 10 t d ti at_ ar ci ks).nd=aV YJ ([⟨DZ,d⟩,⟨D5,mH ks⟩]++iZ dH ti++q0z at_ []) []):=by show _=_;rw [aj.nd];rfl
 rw [E.out];obtain ⟨ac,nc,cc,ap,np,cp,aa,na,ca,ai,ni,sj,ak,nk,ck,S,W0,rfl,rfl,rfl,rfl,rfl,HS,HW0,e0,SX,lJ,HR,Z0,B0,K1⟩:=kG (.int .i64 10) t d ti hR hl;have jH:=hid hs;have hst:t.size<=300:=by rw [aj.small] at hs;exact hs.1
 clear hR hs hl E;go_enter Tryz.func100,Tryz.ntmps100;go_upto_region 19 with (fail)
 rw [<- HS.out];have hk0:=HW0.out;simp only [jI] at hk0;rw [<- hk0];clear hk0;have hpl:(aj.aU ks).length<=1000000000:=by have h:=jH.out;rw [aj.small] at h;have:=aj.qO ks h.2.2.2.2.2.2.2.2;omega
 have PL:=hid (Fw ks (.slice ak nk ck) W0.drew (Rd.keep (w:=W0) (w':=W0.drew) (ok:=(·<S)) (fun b (hb:b<S) _=>⟨by have:=Z0.out;show b<W0.heap.size;omega,rfl⟩) _ _ HR.out.kids) hpl);have SF:=hid (fun (w':jl9) (hb:jlj W0.heap.size W0 w')=>(⟨(SX.out w' hb).2.1,(SX.out w' hb).2.2.1,(SX.out w' hb).2.2.2.2.2.2⟩:w'.cell? ⟨S,2,none⟩=some (.string d)/\w'.cell? ⟨S,3,none⟩=some (.string ti)/\w'.cell? ⟨S,9,none⟩=some (.slice ak nk ck)));have S0:=SF.out _ (ji7 _ _).drew;clear hpl;go_wp2_with fail
 go_region_held3 (fun w'=>w'.cell? ⟨S,2,none⟩=some (.string d)/\w'.cell? ⟨S,3,none⟩=some (.string ti)/\w'.cell? ⟨S,9,none⟩=some (.slice ak nk ck))
  (with_reducible assumption)
  (first
   | (go_simp;go_at_call 151;(with_reducible refine PL.out.mono ?_);rintro e w1 ⟨rfl,b1⟩;have B1:Hid (jlj W0.heap.size W0 w1):=((ji7 W0.heap.size W0).drew).trans b1;obtain ⟨PC,lM⟩:=Qq ⟨#[115,114,99]⟩ d ⟨#[97,108,116]⟩ ⟨(aj.aU ks).toArray⟩ B1 B1.out.size;have S1:=SF.out w1 B1.out;have S1a:=SF.out _ lM.out)
   | (go_simp;go_at_call 58;(with_reducible refine PC.out.mono ?_);rintro e w2 ⟨bV,v2,rfl,hrow2⟩;obtain ⟨a2,c2,rfl,-,-⟩:=hrow2.cap (n:=2) rfl;have B2:=hid (lM.out.trans (hrow2.aT.mono lM.out.size));have uY:=hid (show Rd (W0.heap.size<=·) w2 (bX [⟨DZ,d⟩,⟨D5,mH ks⟩]) [.slice a2 2 c2] from hrow2.fA.weaken (fun b hb=>ji9 lM.out.size hb));have BWX:=lM;have S2:=SF.out w2 B2.out;have TC:=hid (uV [⟨DZ,d⟩,⟨D5,mH ks⟩] ti _ bV _ _ w2 hrow2 (by simp)))
   | (go_simp;go_at_call 150;(with_reducible refine TC.out.mono ?_);rintro e w3 ⟨gG,v3,rfl,hrow3,hg3⟩;have B3:=hid (lM.out.trans (hrow3.aT.mono lM.out.size));have S3:=SF.out w3 B3.out))
 all_goals
  obtain ⟨m3,Pp⟩:∃ m,m=(List.map Pr.d ([⟨DZ,d⟩,⟨D5,mH ks⟩]++iZ dH ti)).length:=⟨_,rfl⟩;obtain ⟨a3,c3,rfl,-,-⟩:=hrow3.cap Pp.symm;have jbz:m3<=3:=by rw [Pp];unfold iZ;split<;>simp
  have Xk:=hid Pp.symm;have U3:=hid hrow3;obtain ⟨-,-,-,g4,g5,g6,-⟩:=SX.out w3 B3.out;have AC:=hid (Yi at_ [] (.slice ac nc cc) (.slice ap np cp) (.slice none 0 0) w3 w3 nZ.nil (AJ HR.out.at_ B3.out (by have:=Z0.out;omega)) (Bj jH.out).1 (Bj jH.out).2);clear Pp hrow3 hrow2 hg3 b1 S0 S1 S1a S2 S3 PL PC TC uY lM B2;go_wp2_with fail
  (with_reducible refine AC.out.mono ?_)
  rintro e w4 ⟨dW,v4,rfl,hrow4⟩;obtain ⟨m4,Pg⟩:∃ m,m=(List.map Pr.d (q0z at_ [])).length:=⟨_,rfl⟩;obtain ⟨a4,c4,rfl,-,-⟩:=hrow4.cap Pg.symm;have jh1:m4<=2:=by rw [Pg];unfold q0z iZ Mq;split<;>split<;>simp
  have HM4:=hid Pg.symm;have b4:=hrow4.aT;have U4:=hid (U3.out.below b4);have X4:=hid (show Rd (fun b=>False\/w3.heap.size<=b) w4 (.sl 2 (List.map Pr.d (q0z at_ []))) [.slice a4 m4 c4] from hrow4.fA.weaken (fun b hb=>.inr hb));have B4:=hid (aZ B3.out b4);have O1:=hid (fun (rs:List (List jlk)) (ok':Nat->Prop) h=>MG (q0z at_ []) rs ok' w4 h);obtain ⟨iP,hiP,yx,yA,yD⟩:=info_parts qF;clear Pg hrow4 b4 g4 g5 g6 AC;go_wp2_with (at_builtin;refine D6 (n:=m3) (m:=m4) rfl _ _ 25 rfl iP _ 32 Tryz.underlying25 hiP yx yA yD rfl (by decide) U4.out (fun _=>False.elim) (.slice a4 m4 c4) X4.out O1.out Xk.out HM4.out (by omega) (by decide) rfl rfl ?_)
  intro a5 c5 vR w5 bS hg5;have B5:=hid (BWX.out.trans (bS.aT.mono BWX.out.size));have AT5:Hid (Rd (W0.heap.size<=·) w5 (bX ([⟨DZ,d⟩,⟨D5,mH ks⟩]++iZ dH ti++q0z at_ [])) [.slice a5 (m3+m4) c5]):=by have h:=bS.fA.weaken (ok':=(W0.heap.size<=·)) (fun b hb=>ji9 BWX.out.size hb);show Rd _ _ (.sl 2 (List.map Pr.d _)) _;rw [List.map_append];exact h
  have EC:=hid (iT ⟨#[105,109,103]⟩ a5 none (m3+m4) 0 c5 0 w5);clear bS hg5 U4 X4 O1 U3;go_wp2_with fail
  (with_reducible refine EC.out.mono ?_)
  rintro e w6 ⟨rfl,b6⟩;have BL:=hid (aZ B5.out b6);have HN:=hid (show jT (W0.heap.size<=·) w6 ([⟨DZ,d⟩,⟨D5,mH ks⟩]++iZ dH ti++q0z at_ []) [] (.slice a5 (m3+m4) c5) (.slice none 0 0) from ⟨AT5.out.bq b6,Rd.aF _ _ _⟩);clear b6 EC AT5;obtain ⟨w9,bT⟩:∃ w9,w9=four w6 (S+1) (.string ⟨#[105,109,103]⟩) (.string ⟨#[]⟩) (.slice a5 (m3+m4) c5) (.slice none 0 0):=⟨_,rfl⟩;have hf:=fB ⟨#[105,109,103]⟩ ⟨#[]⟩ ([⟨DZ,d⟩,⟨D5,mH ks⟩]++iZ dH ti++q0z at_ []) [] HS.out Z0.out B0.out K1.out BL.out HN.out;rw [<- bT] at hf;have HC:=hid hf.1;have HP:=hid hf.2;clear hf;have hw8:=bT;simp only [four] at hw8;clear bT;obtain ⟨x0,x1,x2,x3,xf⟩:=mZ (K1.out.below BL.out);go_wp2;rw [<- hw8];have r0:=HC.out.cell 0 _ rfl;have r1:=HC.out.cell 1 _ rfl;have r2:=HC.out.cell 2 _ rfl;have r3:=HC.out.cell 3 _ rfl;exact bodyPost_ret (v:=.agg #[.string ⟨#[105,109,103]⟩,.string ⟨#[]⟩,(.slice a5 (m3+m4) c5),(.slice none 0 0)]) (by simp [results,Tryz.results100,go_sem,r0,r1,r2,r3]) rfl HP.out
theorem F7 (k:Int) (t d ti:ByteArray) (at_:At) (ar:List ByteArray) (ci:List Ci) (ks:List aj) (vc vp va vi vk:jlk) (w:jl9) (hR:tX (·<w.heap.size) w at_ ar ci ks vc vp va vi vk) (hs:(aj.mk k t d ti at_ ar ci ks).small) (hl:DW w ks vk) (hz:aj.aY ks<=1000000) : Calls Tryz.prog 100 #[.agg #[.int .i64 k,.string t,.string d,.string ti,.string at_.id,vc,vp,va,vi,vk]] w (rZ w (aj.mk k t d ti at_ ar ci ks).nd):=by
 by_cases h2:k=2
 ·subst h2;exact Vo t d ti at_ ar ci ks vc vp va vi vk w hR hs hl
 by_cases h3:k=3
 ·subst h3;exact Vp t d ti at_ ar ci ks vc vp va vi vk w hR hs hl
 by_cases h4:k=4
 ·subst h4;exact Vq t d ti at_ ar ci ks vc vp va vi vk w hR hs hl
 by_cases h5:k=5
 ·subst h5;exact Vu t d ti at_ ar ci ks vc vp va vi vk w hR hs hl
 by_cases h6:k=6
 ·subst h6;exact Vr t d ti at_ ar ci ks vc vp va vi vk w hR hs hl
 by_cases h7:k=7
 ·subst h7;exact Vs t d ti at_ ar ci ks vc vp va vi vk w hR hs hl
 by_cases h8:k=8
 ·subst h8;exact Vt t d ti at_ ar ci ks vc vp va vi vk w hR hs hl
 by_cases h9:k=9
 ·subst h9;exact Vv t d ti at_ ar ci ks vc vp va vi vk w hR hs hl
 by_cases h10:k=10
 ·subst h10;exact Qu t d ti at_ ar ci ks vc vp va vi vk w hR hs hl hz
 by_cases h11:k=11
 ·subst h11;exact Qt t d ti at_ ar ci ks vc vp va vi vk w hR hs hl
 by_cases h12:k=12
 ·subst h12;exact Qr t d ti at_ ar ci ks vc vp va vi vk w hR hs hl
 by_cases h16:k=16
 ·subst h16;exact Qs t d ti at_ ar ci ks vc vp va vi vk w hR hs hl
 exact MF k t d ti at_ ar ci ks vc vp va vi vk w hR hs hl ⟨h2,h3,h4,h5,h6,h7,h8,h9,h10,h11,h12,h16⟩
open Go.RowKit
open Go.RowKit
def fv (key:ByteArray) (a:List Pr):List ByteArray:=(a.filter fun p=>decide (p.key=key)).map (·.val)
theorem MH (key:ByteArray) (a b:List Pr):fv key (a++b)=fv key a++fv key b:=by unfold fv;simp
theorem Qc (key:ByteArray) (a:List Pr) (k:Nat) (p:Pr) (h:a[k]?=some p):fv key (a.take (k+1))=fv key (a.take k)++if p.key=key then [p.val] else []:=by rw [List.take_add_one,h,MH];unfold fv;by_cases hk:p.key=key<;>simp [hk]
theorem U0 (key:ByteArray) (a:List Pr) (k:Nat):(fv key (a.take k)).length<=(fv key a).length:=by
 have h:fv key a=fv key (a.take k)++fv key (a.drop k):=by rw [<- MH,List.take_append_drop]
 rw [h,List.length_append];omega
theorem FW (key:ByteArray) (l:List Nd) (k:Nat) (x:Nd) (h:l[k]?=some x):Nd.aH key (l.take (k+1))=Nd.aH key (l.take k)++x.vals key:=by rw [List.take_add_one,h,J4];show _++Nd.aH key [x]=_;rw [Nd.aH,Nd.aH,List.append_nil]
theorem zw (key:ByteArray) (l:List Nd) (k:Nat):(Nd.aH key (l.take k)).length<=(Nd.aH key l).length:=by
 have h:Nd.aH key l=Nd.aH key (l.take k)++Nd.aH key (l.drop k):=by rw [<- J4,List.take_append_drop]
 rw [h,List.length_append];omega
open Go.RowKit
def kE (w:jl9) (l:List ByteArray) (e:Ending) (w':jl9):Prop:=
 ∃ v,e=.returned v/\w'.ownsRow w.heap.size 9 1 v l.length (l.map Value.string)/\jlj w.heap.size w w'
end Go.Proofs.YtclikfjalmcoaaaGreatDoor

