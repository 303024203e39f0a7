/- Contract of html.inline, given that of html.line at the Kids. Contract of publisherref33.Same: at equal nodes it answers true. -/
import Derived.Test.YtkfnkeflalcphaaGreatDoorKHtA
set_option maxHeartbeats 8000000
set_option maxRecDepth 100000
open Go.Lib (hid)
namespace Go.Proofs.YtkfnkeflalcphaaGreatDoor
open Go.RowKit.Below renaming refl->jnk,heap_setCell->jo5
open Nat renaming le_refl->jnq,le_trans->jnx
open Go renaming World->jqz,Value->jr1
open Go.RowKit renaming Below->jr0
open Go.RowKit
set_option linter.unusedVariables false
set_option linter.unusedSimpArgs false
def Fb (w:jqz) (ks:List aj) (vk:jr1):Prop:=∀ W:jqz,jr0 w.heap.size w W->Calls Tryz.prog 78 #[vk] W (cO W (iY ks))
def fP:List jr1:=[.string ⟨#[]⟩,.string ⟨#[]⟩,.slice none 0 0,.slice none 0 0]
def dY (w:jqz) (p:Nat) (c0 c1 c2 c3:jr1):jqz:=(((w.setCell ⟨p,0,none⟩ c0).setCell ⟨p,1,none⟩ c1).setCell ⟨p,2,none⟩ c2).setCell ⟨p,3,none⟩ c3
theorem NK (w:jqz) (p:Nat) (c0 c1 c2 c3:jr1) (b:Nat) (h:b≠p):(dY w p c0 c1 c2 c3).heap[b]?=w.heap[b]?:=by unfold dY;rw [jo5 _ ⟨p,3,none⟩ _ b h,jo5 _ ⟨p,2,none⟩ _ b h,jo5 _ ⟨p,1,none⟩ _ b h,jo5 _ ⟨p,0,none⟩ _ b h]
theorem Ls {w:jqz} {p:Nat} {c0 c1 c2 c3:jr1} {b o:Nat} {v:jr1} (h:w.cell? ⟨b,o,none⟩=some v) (hb:b≠p):(dY w p c0 c1 c2 c3).cell? ⟨b,o,none⟩=some v:=by rw [jG (NK w p c0 c1 c2 c3 b hb)];exact h
theorem tX (S:Nat) (w:jqz) (a b c d:jr1) (o:Nat) (v:jr1) (h:w.cell? ⟨S,o,none⟩=some v) : World.cell? ((((w.setCell ⟨S+1,0,none⟩ a).setCell ⟨S+1,1,none⟩ b).setCell ⟨S+1,2,none⟩ c).setCell ⟨S+1,3,none⟩ d) ⟨S,o,none⟩=some v:=Ls h (by show S≠S+1;omega)
theorem nO {T:TypeId} {p:Nat} {cs:List jr1} {w:jqz} (h:CB T p cs w) (j:Nat) (u:jr1):CB T p (cs.set j u) (w.setCell ⟨p,j,none⟩ u):=by unfold CB at h ⊢;simp [World.setCell,Array.getElem?_modify,h]
theorem jo {T:TypeId} {p:Nat} {a0 a1 a2 a3:jr1} {w:jqz} (h:CB T p [a0,a1,a2,a3] w) (c0 c1 c2 c3:jr1):CB T p [c0,c1,c2,c3] (dY w p c0 c1 c2 c3):=
 nO (nO (nO (nO h 0 c0) 1 c1) 2 c2) 3 c3
theorem mF {B p:Nat} {a w:jqz} (h:jr0 B a w) (hp:B<=p) (c0 c1 c2 c3:jr1):jr0 B a (dY w p c0 c1 c2 c3):=
 (((h.setCell (p:=⟨p,0,none⟩) hp c0).setCell (p:=⟨p,1,none⟩) hp c1).setCell (p:=⟨p,2,none⟩) hp c2).setCell (p:=⟨p,3,none⟩) hp c3
theorem wG (T:TypeId) (w:jqz) (xc:List jr1):∃ S W0,S=w.heap.size/\W0=(w.alloc (.cells xc.toArray T)).alloc (.cells fP.toArray 35)/\W0.heap.size=S+2/\CB T S xc W0/\CB 35 (S+1) fP W0/\jr0 S w W0:=by
 refine ⟨_,_,rfl,rfl,by simp,?_,?_,((jnk _ _).alloc (jnq _) _).alloc (by simp) _⟩
 ·exact (Below.heap_alloc _ _ _ (by simp)).trans (CB.new _ _ w)
 ·have:=CB.new 35 fP (w.alloc (.cells xc.toArray T))
  rwa [World.size_alloc] at this
theorem Z6 {T:TypeId} {S:Nat} {W0:jqz} {x0 x1 x2 x3 x4 x5 x6 x7 x8 x9:jr1} (k0:CB T S [x0,x1,x2,x3,x4,x5,x6,x7,x8,x9] W0) : Hid (∀ w':jqz,jr0 W0.heap.size W0 w'->w'.cell? ⟨S,1,none⟩=some x1/\w'.cell? ⟨S,2,none⟩=some x2/\w'.cell? ⟨S,3,none⟩=some x3/\w'.cell? ⟨S,4,none⟩=some x4/\w'.cell? ⟨S,5,none⟩=some x5/\w'.cell? ⟨S,6,none⟩=some x6/\w'.cell? ⟨S,9,none⟩=some x9):=
 fun w' hb=>⟨(k0.below hb).cell 1 _ rfl,(k0.below hb).cell 2 _ rfl,(k0.below hb).cell 3 _ rfl,(k0.below hb).cell 4 _ rfl,(k0.below hb).cell 5 _ rfl,(k0.below hb).cell 6 _ rfl,(k0.below hb).cell 9 _ rfl⟩
theorem Z7 {T:TypeId} {S:Nat} {W0:jqz} {x0 x1 x2 x3 x4 x5 x6 x7 x8 x9 x10:jr1} (k0:CB T S [x0,x1,x2,x3,x4,x5,x6,x7,x8,x9,x10] W0) : Hid (∀ w':jqz,jr0 W0.heap.size W0 w'->w'.cell? ⟨S,1,none⟩=some x1/\w'.cell? ⟨S,2,none⟩=some x2/\w'.cell? ⟨S,3,none⟩=some x3/\w'.cell? ⟨S,4,none⟩=some x4/\w'.cell? ⟨S,5,none⟩=some x5/\w'.cell? ⟨S,6,none⟩=some x6/\w'.cell? ⟨S,7,none⟩=some x7/\w'.cell? ⟨S,8,none⟩=some x8/\w'.cell? ⟨S,9,none⟩=some x9/\w'.cell? ⟨S,10,none⟩=some x10):=
 fun w' hb=>⟨(k0.below hb).cell 1 _ rfl,(k0.below hb).cell 2 _ rfl,(k0.below hb).cell 3 _ rfl,(k0.below hb).cell 4 _ rfl,(k0.below hb).cell 5 _ rfl,(k0.below hb).cell 6 _ rfl,(k0.below hb).cell 7 _ rfl,(k0.below hb).cell 8 _ rfl,(k0.below hb).cell 9 _ rfl,(k0.below hb).cell 10 _ rfl⟩
theorem wI.upH {S:Nat} {w W0:jqz} {at_:At} {ar:List ByteArray} {ci:List Ci} {ks:List aj} {vc vp va vi vk:jr1} (hS:S=w.heap.size) (hR:wI (·<w.heap.size) w at_ ar ci ks vc vp va vi vk) (b0:jr0 S w W0):Hid (wI (·<S) W0 at_ ar ci ks vc vp va vi vk):=by subst hS;exact ⟨hR.at_.below b0,hR.args.below b0,hR.jh.below b0,hR.kids.below b0⟩
theorem mg.upH {S:Nat} {w W0:jqz} {at_:At} {li:List aj} {ks:List ah} {vc vp vl vk:jr1} (hS:S=w.heap.size) (hR:mg (·<w.heap.size) w at_ li ks vc vp vl vk) (b0:jr0 S w W0):Hid (mg (·<S) W0 at_ li ks vc vp vl vk):=by subst hS;exact ⟨hR.at_.below b0,hR.line.below b0,hR.kids.below b0⟩
theorem gX {S:Nat} {w W0:jqz} {P:jqz->Prop} (hS:S=w.heap.size) (hl:∀ W,jr0 w.heap.size w W->P W) (b0:jr0 S w W0):Hid (∀ W,jr0 W0.heap.size W0 W->P W):=
 fun W hW=>hl W (by rw [<- hS];exact b0.trans (hW.mono (by have:=b0.size;omega)))
theorem lF {P:jqz->Prop} {at_:At} {ar:List ByteArray} {ci:List Ci} {ks:List aj} {vc vp va vi vk:jr1} {w:jqz} (kv:jr1) (t d ti:ByteArray) (hR:wI (·<w.heap.size) w at_ ar ci ks vc vp va vi vk) (hl:∀ W,jr0 w.heap.size w W->P W) : ∃ ac nc cc ap np cp aa na ca ai ni uP ak nk ck S W0,vc=.slice ac nc cc/\vp=.slice ap np cp/\va=.slice aa na ca/\vi=.slice ai ni uP/\vk=.slice ak nk ck/\Hid (S=w.heap.size) /\ Hid (W0=(w.alloc (.cells [kv,.string t,.string d,.string ti,.string at_.id,vc,vp,va,vi,vk].toArray 66)).alloc (.cells fP.toArray 35))/\W0.cell? ⟨S,0,none⟩=some kv /\ Hid (∀ w':jqz,jr0 W0.heap.size W0 w'->w'.cell? ⟨S,1,none⟩=some (.string t)/\w'.cell? ⟨S,2,none⟩=some (.string d)/\w'.cell? ⟨S,3,none⟩=some (.string ti)/\w'.cell? ⟨S,4,none⟩=some (.string at_.id)/\w'.cell? ⟨S,5,none⟩=some vc/\w'.cell? ⟨S,6,none⟩=some vp/\w'.cell? ⟨S,9,none⟩=some vk) /\ Hid (∀ W,jr0 W0.heap.size W0 W->P W)/\Hid (wI (·<S) W0 at_ ar ci ks vc vp va vi vk)/\Hid (W0.heap.size=S+2)/\Hid (jr0 S w W0)/\Hid (CB 35 (S+1) fP W0):=by
 obtain ⟨ac,nc,cc,rfl⟩:=Rd.au hR.at_.cls
 obtain ⟨ap,np,cp,rfl⟩:=Rd.au hR.at_.aP
 obtain ⟨aa,na,ca,rfl⟩:=Rd.au hR.args;obtain ⟨ai,ni,uP,rfl⟩:=Rd.au hR.jh;obtain ⟨ak,nk,ck,rfl⟩:=Rd.au hR.kids;obtain ⟨S,W0,hS,hW0,z0,k0,k1,b0⟩:=wG 66 w [kv,.string t,.string d,.string ti,.string at_.id,.slice ac nc cc,.slice ap np cp,.slice aa na ca,.slice ai ni uP,.slice ak nk ck];exact ⟨ac,nc,cc,ap,np,cp,aa,na,ca,ai,ni,uP,ak,nk,ck,S,W0,rfl,rfl,rfl,rfl,rfl,hS,hW0,k0.cell 0 _ rfl,Z6 k0,gX hS hl b0,wI.upH hS hR b0,z0,b0,k1⟩
theorem lG {at_:At} {li:List aj} {ks:List ah} {vc vp vl vk:jr1} {w:jqz} (kv:jr1) (lv:Int) (i t d ti:ByteArray) (hR:mg (·<w.heap.size) w at_ li ks vc vp vl vk) : ∃ ac nc cc ap np cp al nl cl ak nk ck S W0,vc=.slice ac nc cc/\vp=.slice ap np cp/\vl=.slice al nl cl/\vk=.slice ak nk ck/\Hid (S=w.heap.size) /\ Hid (W0=(w.alloc (.cells [kv,.int .i64 lv,.string i,.string t,.string d,.string ti,.string at_.id,vc,vp,vl,vk].toArray 48)).alloc (.cells fP.toArray 35))/\W0.cell? ⟨S,0,none⟩=some kv /\ Hid (∀ w':jqz,jr0 W0.heap.size W0 w'->w'.cell? ⟨S,1,none⟩=some (.int .i64 lv)/\w'.cell? ⟨S,2,none⟩=some (.string i)/\w'.cell? ⟨S,3,none⟩=some (.string t)/\w'.cell? ⟨S,4,none⟩=some (.string d)/\w'.cell? ⟨S,5,none⟩=some (.string ti)/\w'.cell? ⟨S,6,none⟩=some (.string at_.id)/\w'.cell? ⟨S,7,none⟩=some vc/\w'.cell? ⟨S,8,none⟩=some vp/\w'.cell? ⟨S,9,none⟩=some vl/\w'.cell? ⟨S,10,none⟩=some vk) /\ Hid (mg (·<S) W0 at_ li ks vc vp vl vk)/\Hid (W0.heap.size=S+2)/\Hid (jr0 S w W0)/\Hid (CB 35 (S+1) fP W0):=by
 obtain ⟨ac,nc,cc,rfl⟩:=Rd.au hR.at_.cls
 obtain ⟨ap,np,cp,rfl⟩:=Rd.au hR.at_.aP
 obtain ⟨al,nl,cl,rfl⟩:=Rd.au hR.line;obtain ⟨ak,nk,ck,rfl⟩:=Rd.au hR.kids;obtain ⟨S,W0,hS,hW0,z0,k0,k1,b0⟩:=wG 48 w [kv,.int .i64 lv,.string i,.string t,.string d,.string ti,.string at_.id,.slice ac nc cc,.slice ap np cp,.slice al nl cl,.slice ak nk ck];exact ⟨ac,nc,cc,ap,np,cp,al,nl,cl,ak,nk,ck,S,W0,rfl,rfl,rfl,rfl,hS,hW0,k0.cell 0 _ rfl,Z7 k0,mg.upH hS hR b0,z0,b0,k1⟩
theorem kS {T:TypeId} {p:Nat} {cs:List jr1} {w:jqz} (h:CB T p cs w) (j:Nat):w.frozen? ⟨p,j,none⟩=false:=by unfold CB at h;simp [World.frozen?,h]
theorem oC {p:Nat} {w:jqz} (h:CB 35 p fP w):w.cell? ⟨p,0,none⟩=some (.string ⟨#[]⟩)/\w.cell? ⟨p,1,none⟩=some (.string ⟨#[]⟩)/\w.cell? ⟨p,2,none⟩=some (.slice none 0 0)/\w.cell? ⟨p,3,none⟩=some (.slice none 0 0)/\∀ j,w.frozen? ⟨p,j,none⟩=false:=
 ⟨h.cell 0 _ rfl,h.cell 1 _ rfl,h.cell 2 _ rfl,h.cell 3 _ rfl,kS h⟩
theorem gK {S:Nat} {w W0 w3:jqz} (n t:ByteArray) (at_:List Pr) (ks:List Nd) {va vk:jr1} (hS:S=w.heap.size) (z0:W0.heap.size=S+2) (b0:jr0 S w W0) (k1:CB 35 (S+1) fP W0) (b3:jr0 W0.heap.size W0 w3) (hR:gF (W0.heap.size<=·) w3 at_ ks va vk) : CB 35 (S+1) [.string n,.string t,va,vk] (dY w3 (S+1) (.string n) (.string t) va vk)/\uR w (.mk n t at_ ks) (.returned (.agg #[.string n,.string t,va,vk])) (dY w3 (S+1) (.string n) (.string t) va vk):=by refine ⟨jo (k1.below b3) _ _ _ _,va,vk,rfl,hR.keep (fun b hb hlt=>⟨by omega,NK _ _ _ _ _ _ b (by omega)⟩),?_⟩;rw [<- hS];exact mF (b0.trans (b3.mono (by omega))) (by omega) _ _ _ _
theorem iK {S:Nat} {w W0 w3:jqz} (n t:ByteArray) (at_:List Pr) (ks:List Nd) {va vk:jr1} (hS:Hid (S=w.heap.size)) (z0:Hid (W0.heap.size=S+2)) (b0:Hid (jr0 S w W0)) (k1:Hid (CB 35 (S+1) fP W0)) (b3:Hid (jr0 W0.heap.size W0 w3)) (hR:gF (W0.heap.size<=·) w3 at_ ks va vk) : ∃ w9,w9=(((w3.setCell ⟨S+1,0,none⟩ (.string n)).setCell ⟨S+1,1,none⟩ (.string t)).setCell ⟨S+1,2,none⟩ va).setCell ⟨S+1,3,none⟩ vk /\ w9.cell? ⟨S+1,0,none⟩=some (.string n)/\w9.cell? ⟨S+1,1,none⟩=some (.string t)/\w9.cell? ⟨S+1,2,none⟩=some va/\w9.cell? ⟨S+1,3,none⟩=some vk /\ Hid (uR w (.mk n t at_ ks) (.returned (.agg #[.string n,.string t,va,vk])) w9) /\ w3.cell? ⟨S+1,0,none⟩=some (.string ⟨#[]⟩)/\w3.cell? ⟨S+1,1,none⟩=some (.string ⟨#[]⟩)/\w3.cell? ⟨S+1,2,none⟩=some (.slice none 0 0)/\w3.cell? ⟨S+1,3,none⟩=some (.slice none 0 0)/\∀ j,w3.frozen? ⟨S+1,j,none⟩=false:=by
 have hf:=gK n t at_ ks hS.out z0.out b0.out k1.out b3.out hR
 exact ⟨_,rfl,hf.1.cell 0 _ rfl,hf.1.cell 1 _ rfl,hf.1.cell 2 _ rfl,hf.1.cell 3 _ rfl,hf.2,oC (k1.out.below b3.out)⟩
theorem qW (l:List ByteArray) (W:jqz) (hl:l.length<=maxLen):Rd (·<(W.alloc (.cells (l.map Value.string).toArray 9)).heap.size) (W.alloc (.cells (l.map Value.string).toArray 9)) (kD l) [.slice (some ⟨W.heap.size,0,none⟩) l.length l.length]:=
 Rd.NP (B:=W.heap.size) (e:=9) ⟨by simp,.inr ⟨W.heap.size,l.length,(l.map Value.string).toArray,rfl,jnq _,heap_alloc_new W _,jnq _,hl,by simp,by
  show List.take (l.length*1) (l.map Value.string)=_;rw [List.take_of_length_le (by simp)]⟩⟩ (fun g hg=>by
   have e1:W.heap.size=g:=by simpa [Value.ownBlock] using hg
   simp;omega)
theorem RZ (k v:ByteArray) (W:jqz):Calls Tryz.prog 41 #[.slice (some ⟨W.heap.size,0,none⟩) 2 2] (W.alloc (.cells #[.string k,.string v] 9)) (bI (W.alloc (.cells #[.string k,.string v] 9)) [⟨k,v⟩]):=
 jM [⟨k,v⟩] _ _ (qW [k,v] W (by unfold maxLen;simp)) (by simp)
theorem wJ (k v k' v':ByteArray) (W:jqz):Calls Tryz.prog 41 #[.slice (some ⟨W.heap.size,0,none⟩) 4 4] (W.alloc (.cells #[.string k,.string v,.string k',.string v'] 9)) (bI (W.alloc (.cells #[.string k,.string v,.string k',.string v'] 9)) [⟨k,v⟩,⟨k',v'⟩]):=
 jM [⟨k,v⟩,⟨k',v'⟩] _ _ (qW [k,v,k',v'] W (by unfold maxLen;simp)) (by simp)
theorem oD (W:jqz) (o:Obj):jr0 W.heap.size W (W.alloc o).drew:=((jnk _ _).alloc (jnq _) _).drew
theorem Co (k v:ByteArray) (W:jqz):Hid (Calls Tryz.prog 41 #[.slice (some ⟨W.heap.size,0,none⟩) 2 2] (W.alloc (.cells #[.string k,.string v] 9)).drew (bI (W.alloc (.cells #[.string k,.string v] 9)).drew [⟨k,v⟩]))/\Hid (jr0 W.heap.size W (W.alloc (.cells #[.string k,.string v] 9)).drew):=
 ⟨RZ k v W.drew,oD W _⟩
theorem R5 (k v k' v':ByteArray) (W:jqz):Hid (Calls Tryz.prog 41 #[.slice (some ⟨W.heap.size,0,none⟩) 4 4] (W.alloc (.cells #[.string k,.string v,.string k',.string v'] 9)).drew (bI (W.alloc (.cells #[.string k,.string v,.string k',.string v'] 9)).drew [⟨k,v⟩,⟨k',v'⟩]))/\Hid (jr0 W.heap.size W (W.alloc (.cells #[.string k,.string v,.string k',.string v'] 9)).drew):=
 ⟨wJ k v k' v' W.drew,oD W _⟩
theorem Sb (k v k' v':ByteArray) {B:Nat} {W0 W:jqz} (h:Hid (jr0 B W0 W)) (hB:B<=W.heap.size):Hid (Calls Tryz.prog 41 #[.slice (some ⟨W.heap.size,0,none⟩) 4 4] (W.alloc (.cells #[.string k,.string v,.string k',.string v'] 9)) (bI (W.alloc (.cells #[.string k,.string v,.string k',.string v'] 9)) [⟨k,v⟩,⟨k',v'⟩]))/\Hid (jr0 B W0 (W.alloc (.cells #[.string k,.string v,.string k',.string v'] 9))):=
 ⟨wJ k v k' v' W,h.out.alloc hB _⟩
theorem Cq {S:Nat} {W0 w':jqz} {a:At} {vc vp:jr1} (h:AtR (·<S) W0 a vc vp) (hb:jr0 W0.heap.size W0 w') (hS:S<=W0.heap.size):AtR (·<w'.heap.size) w' a vc vp:=
 ⟨Rd.keep (fun b (hb1:b<S) _=>⟨by have:=hb.size;omega,hb.block b (by omega)⟩) _ _ h.cls,Rd.keep (fun b (hb1:b<S) _=>⟨by have:=hb.size;omega,hb.block b (by omega)⟩) _ _ h.aP⟩
theorem WU {S:Nat} {W0:jqz} {a:At} {vc vp:jr1} (hS:S<=W0.heap.size) (h:AtR (·<S) W0 a vc vp):AtR (·<W0.drew.heap.size) W0.drew a vc vp:=
 ⟨Rd.keep (w:=W0) (w':=W0.drew) (ok:=(·<S)) (fun b (hb:b<S) _=>⟨(by show b<W0.heap.size;omega),rfl⟩) _ _ h.cls,Rd.keep (w:=W0) (w':=W0.drew) (ok:=(·<S)) (fun b (hb:b<S) _=>⟨(by show b<W0.heap.size;omega),rfl⟩) _ _ h.aP⟩
theorem aH.slice3 {T:TypeId} {k U:Nat} {ok:Nat->Prop} {w0 w:jqz} {ds:List D} {rows:List (List jr1)} {v:jr1} (h:aH T k ok U w0 ds rows v w):∃ a n c,v=.slice a n c:=by obtain ⟨a,c,e⟩:=h.slice;exact ⟨a,_,c,e⟩
theorem Cr {k:Int} {t d ti:ByteArray} {a:At} {ar:List ByteArray} {ci:List Ci} {ks:List aj} (h:(aj.mk k t d ti a ar ci ks).small):([]++a.cls).length<=100/\∀ c∈[]++a.cls,c.size<=1000:=by rw [aj.small] at h;obtain ⟨-,-,-,h,-⟩:=h;unfold At.short at h;rw [List.nil_append];exact ⟨by omega,fun c hc=>by have:=h.2.2.2.1 c hc;omega⟩
def wK (k:Int):Prop:=∀ (t d ti:ByteArray) (at_:At) (ar:List ByteArray) (ci:List Ci) (ks:List aj) (vc vp va vi vk:jr1) (w:jqz),wI (·<w.heap.size) w at_ ar ci ks vc vp va vi vk->(aj.mk k t d ti at_ ar ci ks).small->Fb w ks vk ->
 Calls Tryz.prog 130 #[.agg #[.int .i64 k,.string t,.string d,.string ti,.string at_.id,vc,vp,va,vi,vk]] w (uR w (aj.mk k t d ti at_ ar ci ks).nd)
theorem WV:wK 2:=by
 intro t d ti at_ ar ci ks vc vp va vi vk w hR hs hl
 have E:Hid ((aj.mk 2 t d ti at_ ar ci ks).nd=uS MX):=by show _=_;rw [aj.nd];rfl
 rw [E.out];obtain ⟨ac,nc,cc,ap,np,cp,aa,na,ca,ai,ni,uP,ak,nk,ck,S,W0,rfl,rfl,rfl,rfl,rfl,HS,HW0,e0,SX,mX,HR,Z0,B0,K1⟩:=lF (.int .i64 2) t d ti hR hl;have jO:=hid hs;have hst:t.size<=300:=by rw [aj.small] at hs;exact hs.1
 clear hR hs hl E;go_enter Tryz.func130,Tryz.ntmps130;go_upto_region 3 with (fail)
 rw [<- HS.out];have hk0:=HW0.out;simp only [fP] at hk0;rw [<- hk0];clear hk0;have BL:Hid (jr0 W0.heap.size W0 W0):=jnk _ _;have f1:=K1.out;obtain ⟨w9,hw8,r0,r1,r2,r3,HP,x0,x1,x2,x3,xf⟩:=iK ⟨#[]⟩ ⟨#[32]⟩ [] [] HS Z0 B0 K1 BL ⟨Rd.aD _ _ _,Rd.aD _ _ _⟩;go_wp2;rw [<- hw8];exact bodyPost_ret (v:=.agg #[.string ⟨#[]⟩,.string ⟨#[32]⟩,(.slice none 0 0),(.slice none 0 0)]) (by simp [results,Tryz.results130,go_sem,r0,r1,r2,r3]) rfl HP.out
theorem NR (k:Int) (t d ti:ByteArray) (at_:At) (ar:List ByteArray) (ci:List Ci) (ks:List aj) (vc vp va vi vk:jr1) (w:jqz) (hR:wI (·<w.heap.size) w at_ ar ci ks vc vp va vi vk) (hs:(aj.mk k t d ti at_ ar ci ks).small) (hl:Fb w ks vk) (hk:k≠2/\k≠3/\k≠4/\k≠5/\k≠6/\k≠7/\k≠8/\k≠9/\k≠10/\k≠11/\k≠12/\k≠16) : Calls Tryz.prog 130 #[.agg #[.int .i64 k,.string t,.string d,.string ti,.string at_.id,vc,vp,va,vi,vk]] w (uR w (aj.mk k t d ti at_ ar ci ks).nd):=by
 have E:Hid ((aj.mk k t d ti at_ ar ci ks).nd=uS t):=by show _=_;rw [aj.nd];obtain ⟨h2,h3,h4,h5,h6,h7,h8,h9,h10,h11,h12,h16⟩:=hk;rw [if_neg h2,if_neg h3,if_neg h4,if_neg h5,if_neg h6,if_neg h7,if_neg h8,if_neg h9,if_neg h10,if_neg h11,if_neg h12,if_neg h16]
 rw [E.out];obtain ⟨ac,nc,cc,ap,np,cp,aa,na,ca,ai,ni,uP,ak,nk,ck,S,W0,rfl,rfl,rfl,rfl,rfl,HS,HW0,e0,SX,mX,HR,Z0,B0,K1⟩:=lF (.int .i64 k) t d ti hR hl;have jO:=hid hs;have hst:t.size<=300:=by rw [aj.small] at hs;exact hs.1
 have q2:(k==2)=false:=by rw [beq_eq_false_iff_ne];exact hk.1
 have q3:(k==3)=false:=by rw [beq_eq_false_iff_ne];exact hk.2.1
 have q4:(k==4)=false:=by rw [beq_eq_false_iff_ne];exact hk.2.2.1
 have q5:(k==5)=false:=by rw [beq_eq_false_iff_ne];exact hk.2.2.2.1
 have q6:(k==6)=false:=by rw [beq_eq_false_iff_ne];exact hk.2.2.2.2.1
 have q7:(k==7)=false:=by rw [beq_eq_false_iff_ne];exact hk.2.2.2.2.2.1
 have q8:(k==8)=false:=by rw [beq_eq_false_iff_ne];exact hk.2.2.2.2.2.2.1
 have q9:(k==9)=false:=by rw [beq_eq_false_iff_ne];exact hk.2.2.2.2.2.2.2.1
 have q10:(k==10)=false:=by rw [beq_eq_false_iff_ne];exact hk.2.2.2.2.2.2.2.2.1
 have q11:(k==11)=false:=by rw [beq_eq_false_iff_ne];exact hk.2.2.2.2.2.2.2.2.2.1
 have q12:(k==12)=false:=by rw [beq_eq_false_iff_ne];exact hk.2.2.2.2.2.2.2.2.2.2.1
 have q16:(k==16)=false:=by rw [beq_eq_false_iff_ne];exact hk.2.2.2.2.2.2.2.2.2.2.2
 clear hk;clear hR hs hl E;go_enter Tryz.func130,Tryz.ntmps130;go_upto_region 27 with (fail)
 rw [<- HS.out];have hk0:=HW0.out;simp only [fP] at hk0;rw [<- hk0];clear hk0;have BL:Hid (jr0 W0.heap.size W0 W0):=jnk _ _;have g1:=(SX.out W0 (jnk _ _)).1;obtain ⟨w9,hw8,r0,r1,r2,r3,HP,x0,x1,x2,x3,xf⟩:=iK ⟨#[]⟩ t [] [] HS Z0 B0 K1 BL ⟨Rd.aD _ _ _,Rd.aD _ _ _⟩;go_wp2;rw [<- hw8];exact bodyPost_ret (v:=.agg #[.string ⟨#[]⟩,.string t,(.slice none 0 0),(.slice none 0 0)]) (by simp [results,Tryz.results130,go_sem,r0,r1,r2,r3]) rfl HP.out
theorem WW:wK 3:=by
 intro t d ti at_ ar ci ks vc vp va vi vk w hR hs hl
 have E:Hid ((aj.mk 3 t d ti at_ ar ci ks).nd=aO nBr [] []):=by show _=_;rw [aj.nd];rfl
 rw [E.out];obtain ⟨ac,nc,cc,ap,np,cp,aa,na,ca,ai,ni,uP,ak,nk,ck,S,W0,rfl,rfl,rfl,rfl,rfl,HS,HW0,e0,SX,mX,HR,Z0,B0,K1⟩:=lF (.int .i64 3) t d ti hR hl;have jO:=hid hs;have hst:t.size<=300:=by rw [aj.small] at hs;exact hs.1
 clear hR hs hl E;go_enter Tryz.func130,Tryz.ntmps130;go_upto_region 5 with (fail)
 rw [<- HS.out];have hk0:=HW0.out;simp only [fP] at hk0;rw [<- hk0];clear hk0;have EC:=hid (lD ⟨#[98,114]⟩ none none 0 0 0 0 W0);have B4:Hid (jr0 W0.heap.size W0 W0):=jnk _ _;go_wp2_with fail
 (with_reducible refine EC.out.mono ?_)
 rintro e w5 ⟨rfl,b5⟩;have BL:=hid (aU B4.out b5);clear b5;obtain ⟨w9,hw8,r0,r1,r2,r3,HP,x0,x1,x2,x3,xf⟩:=iK ⟨#[98,114]⟩ ⟨#[]⟩ [] [] HS Z0 B0 K1 BL ⟨Rd.aD _ _ _,Rd.aD _ _ _⟩;go_wp2;rw [<- hw8];exact bodyPost_ret (v:=.agg #[.string ⟨#[98,114]⟩,.string ⟨#[]⟩,(.slice none 0 0),(.slice none 0 0)]) (by simp [results,Tryz.results130,go_sem,r0,r1,r2,r3]) rfl HP.out
theorem WX:wK 4:=by
 intro t d ti at_ ar ci ks vc vp va vi vk w hR hs hl
 have E:Hid ((aj.mk 4 t d ti at_ ar ci ks).nd=aO ji [] (bM t)):=by show _=_;rw [aj.nd];rfl
 rw [E.out];obtain ⟨ac,nc,cc,ap,np,cp,aa,na,ca,ai,ni,uP,ak,nk,ck,S,W0,rfl,rfl,rfl,rfl,rfl,HS,HW0,e0,SX,mX,HR,Z0,B0,K1⟩:=lF (.int .i64 4) t d ti hR hl;have jO:=hid hs;have hst:t.size<=300:=by rw [aj.small] at hs;exact hs.1
 clear hR hs hl E;go_enter Tryz.func130,Tryz.ntmps130;go_upto_region 7 with (fail)
 rw [<- HS.out];have hk0:=HW0.out;simp only [fP] at hk0;rw [<- hk0];clear hk0;have DC:=hid (fO t W0);have g1:=(SX.out W0 (jnk _ _)).1;go_wp2_with fail
 (with_reducible refine DC.out.mono ?_)
 rintro e w4 ⟨dJ,v4,rfl,hrow4⟩;obtain ⟨a4,n4,c4,rfl⟩:=hrow4.slice3;have b4:=hrow4.aN;have B4:=hid (aU (jnk W0.heap.size W0) b4);have gH:=hid (show Rd (W0.heap.size<=·) w4 (dh (bM t)) [.slice a4 n4 c4] from hrow4.eP.weaken (fun b hb=>jnx ((jnk W0.heap.size W0)).size hb));have EC:=hid (lD ⟨#[99,111,100,101]⟩ none a4 0 n4 0 c4 w4);clear b4 hrow4 DC g1;go_wp2_with fail
 (with_reducible refine EC.out.mono ?_)
 rintro e w5 ⟨rfl,b5⟩;have BL:=hid (aU B4.out b5);have HN:=hid (show gF (W0.heap.size<=·) w5 [] (bM t) (.slice none 0 0) (.slice a4 n4 c4) from ⟨Rd.aD _ _ _,gH.out.aV b5⟩);clear b5 gH EC;obtain ⟨w9,hw8,r0,r1,r2,r3,HP,x0,x1,x2,x3,xf⟩:=iK ⟨#[99,111,100,101]⟩ ⟨#[]⟩ [] (bM t) HS Z0 B0 K1 BL HN.out;go_wp2;rw [<- hw8];exact bodyPost_ret (v:=.agg #[.string ⟨#[99,111,100,101]⟩,.string ⟨#[]⟩,(.slice none 0 0),(.slice a4 n4 c4)]) (by simp [results,Tryz.results130,go_sem,r0,r1,r2,r3]) rfl HP.out
theorem WY:wK 6:=by
 intro t d ti at_ ar ci ks vc vp va vi vk w hR hs hl
 have E:Hid ((aj.mk 6 t d ti at_ ar ci ks).nd=aO nEm [] (iY ks)):=by show _=_;rw [aj.nd];rfl
 rw [E.out];obtain ⟨ac,nc,cc,ap,np,cp,aa,na,ca,ai,ni,uP,ak,nk,ck,S,W0,rfl,rfl,rfl,rfl,rfl,HS,HW0,e0,SX,mX,HR,Z0,B0,K1⟩:=lF (.int .i64 6) t d ti hR hl;have jO:=hid hs;have hst:t.size<=300:=by rw [aj.small] at hs;exact hs.1
 clear hR hs hl E;go_enter Tryz.func130,Tryz.ntmps130;go_upto_region 11 with (fail)
 rw [<- HS.out];have hk0:=HW0.out;simp only [fP] at hk0;rw [<- hk0];clear hk0;have LC:=hid (mX.out W0 (jnk _ _));have g9:=(SX.out W0 (jnk _ _)).2.2.2.2.2.2;go_wp2_with fail
 (with_reducible refine LC.out.mono ?_)
 rintro e w4 ⟨dJ,v4,rfl,hrow4⟩;obtain ⟨a4,n4,c4,rfl⟩:=hrow4.slice3;have b4:=hrow4.aN;have B4:=hid b4;have gH:=hid (show Rd (W0.heap.size<=·) w4 (dh (iY ks)) [.slice a4 n4 c4] from hrow4.eP);have EC:=hid (lD ⟨#[101,109]⟩ none a4 0 n4 0 c4 w4);clear b4 hrow4 LC g9;go_wp2_with fail
 (with_reducible refine EC.out.mono ?_)
 rintro e w5 ⟨rfl,b5⟩;have BL:=hid (aU B4.out b5);have HN:=hid (show gF (W0.heap.size<=·) w5 [] (iY ks) (.slice none 0 0) (.slice a4 n4 c4) from ⟨Rd.aD _ _ _,gH.out.aV b5⟩);clear b5 gH EC;obtain ⟨w9,hw8,r0,r1,r2,r3,HP,x0,x1,x2,x3,xf⟩:=iK ⟨#[101,109]⟩ ⟨#[]⟩ [] (iY ks) HS Z0 B0 K1 BL HN.out;go_wp2;rw [<- hw8];exact bodyPost_ret (v:=.agg #[.string ⟨#[101,109]⟩,.string ⟨#[]⟩,(.slice none 0 0),(.slice a4 n4 c4)]) (by simp [results,Tryz.results130,go_sem,r0,r1,r2,r3]) rfl HP.out
theorem WZ:wK 7:=by
 intro t d ti at_ ar ci ks vc vp va vi vk w hR hs hl
 have E:Hid ((aj.mk 7 t d ti at_ ar ci ks).nd=aO JX [] (iY ks)):=by show _=_;rw [aj.nd];rfl
 rw [E.out];obtain ⟨ac,nc,cc,ap,np,cp,aa,na,ca,ai,ni,uP,ak,nk,ck,S,W0,rfl,rfl,rfl,rfl,rfl,HS,HW0,e0,SX,mX,HR,Z0,B0,K1⟩:=lF (.int .i64 7) t d ti hR hl;have jO:=hid hs;have hst:t.size<=300:=by rw [aj.small] at hs;exact hs.1
 clear hR hs hl E;go_enter Tryz.func130,Tryz.ntmps130;go_upto_region 13 with (fail)
 rw [<- HS.out];have hk0:=HW0.out;simp only [fP] at hk0;rw [<- hk0];clear hk0;have LC:=hid (mX.out W0 (jnk _ _));have g9:=(SX.out W0 (jnk _ _)).2.2.2.2.2.2;go_wp2_with fail
 (with_reducible refine LC.out.mono ?_)
 rintro e w4 ⟨dJ,v4,rfl,hrow4⟩;obtain ⟨a4,n4,c4,rfl⟩:=hrow4.slice3;have b4:=hrow4.aN;have B4:=hid b4;have gH:=hid (show Rd (W0.heap.size<=·) w4 (dh (iY ks)) [.slice a4 n4 c4] from hrow4.eP);have EC:=hid (lD ⟨#[115,116,114,111,110,103]⟩ none a4 0 n4 0 c4 w4);clear b4 hrow4 LC g9;go_wp2_with fail
 (with_reducible refine EC.out.mono ?_)
 rintro e w5 ⟨rfl,b5⟩;have BL:=hid (aU B4.out b5);have HN:=hid (show gF (W0.heap.size<=·) w5 [] (iY ks) (.slice none 0 0) (.slice a4 n4 c4) from ⟨Rd.aD _ _ _,gH.out.aV b5⟩);clear b5 gH EC;obtain ⟨w9,hw8,r0,r1,r2,r3,HP,x0,x1,x2,x3,xf⟩:=iK ⟨#[115,116,114,111,110,103]⟩ ⟨#[]⟩ [] (iY ks) HS Z0 B0 K1 BL HN.out;go_wp2;rw [<- hw8];exact bodyPost_ret (v:=.agg #[.string ⟨#[115,116,114,111,110,103]⟩,.string ⟨#[]⟩,(.slice none 0 0),(.slice a4 n4 c4)]) (by simp [results,Tryz.results130,go_sem,r0,r1,r2,r3]) rfl HP.out
theorem W9:wK 8:=by
 intro t d ti at_ ar ci ks vc vp va vi vk w hR hs hl
 have E:Hid ((aj.mk 8 t d ti at_ ar ci ks).nd=aO nS [] (iY ks)):=by show _=_;rw [aj.nd];rfl
 rw [E.out];obtain ⟨ac,nc,cc,ap,np,cp,aa,na,ca,ai,ni,uP,ak,nk,ck,S,W0,rfl,rfl,rfl,rfl,rfl,HS,HW0,e0,SX,mX,HR,Z0,B0,K1⟩:=lF (.int .i64 8) t d ti hR hl;have jO:=hid hs;have hst:t.size<=300:=by rw [aj.small] at hs;exact hs.1
 clear hR hs hl E;go_enter Tryz.func130,Tryz.ntmps130;go_upto_region 15 with (fail)
 rw [<- HS.out];have hk0:=HW0.out;simp only [fP] at hk0;rw [<- hk0];clear hk0;have LC:=hid (mX.out W0 (jnk _ _));have g9:=(SX.out W0 (jnk _ _)).2.2.2.2.2.2;go_wp2_with fail
 (with_reducible refine LC.out.mono ?_)
 rintro e w4 ⟨dJ,v4,rfl,hrow4⟩;obtain ⟨a4,n4,c4,rfl⟩:=hrow4.slice3;have b4:=hrow4.aN;have B4:=hid b4;have gH:=hid (show Rd (W0.heap.size<=·) w4 (dh (iY ks)) [.slice a4 n4 c4] from hrow4.eP);have EC:=hid (lD ⟨#[115]⟩ none a4 0 n4 0 c4 w4);clear b4 hrow4 LC g9;go_wp2_with fail
 (with_reducible refine EC.out.mono ?_)
 rintro e w5 ⟨rfl,b5⟩;have BL:=hid (aU B4.out b5);have HN:=hid (show gF (W0.heap.size<=·) w5 [] (iY ks) (.slice none 0 0) (.slice a4 n4 c4) from ⟨Rd.aD _ _ _,gH.out.aV b5⟩);clear b5 gH EC;obtain ⟨w9,hw8,r0,r1,r2,r3,HP,x0,x1,x2,x3,xf⟩:=iK ⟨#[115]⟩ ⟨#[]⟩ [] (iY ks) HS Z0 B0 K1 BL HN.out;go_wp2;rw [<- hw8];exact bodyPost_ret (v:=.agg #[.string ⟨#[115]⟩,.string ⟨#[]⟩,(.slice none 0 0),(.slice a4 n4 c4)]) (by simp [results,Tryz.results130,go_sem,r0,r1,r2,r3]) rfl HP.out
theorem Xa:wK 5:=by
 intro t d ti at_ ar ci ks vc vp va vi vk w hR hs hl
 have E:Hid ((aj.mk 5 t d ti at_ ar ci ks).nd=aO JY [⟨eX,pG⟩] (bM t)):=by show _=_;rw [aj.nd];rfl
 rw [E.out];obtain ⟨ac,nc,cc,ap,np,cp,aa,na,ca,ai,ni,uP,ak,nk,ck,S,W0,rfl,rfl,rfl,rfl,rfl,HS,HW0,e0,SX,mX,HR,Z0,B0,K1⟩:=lF (.int .i64 5) t d ti hR hl;have jO:=hid hs;have hst:t.size<=300:=by rw [aj.small] at hs;exact hs.1
 clear hR hs hl E;go_enter Tryz.func130,Tryz.ntmps130;go_upto_region 9 with (fail)
 rw [<- HS.out];have hk0:=HW0.out;simp only [fP] at hk0;rw [<- hk0];clear hk0;obtain ⟨PC,ng⟩:=Co ⟨#[99,108,97,115,115]⟩ ⟨#[109,97,116,104]⟩ W0;have SF:=hid (fun (w':jqz) (hb:jr0 W0.heap.size W0 w')=>((SX.out w' hb).1:w'.cell? ⟨S,1,none⟩=some (.string t)));have S0:=SF.out _ (jnk _ _).drew;have S1:=SF.out _ ng.out;have Xb:Hid (∀ W:jqz,Calls Tryz.prog 53 #[.string t] W (cO W (bM t))):=fun W=>fO t W
 go_wp2_with fail
 go_region_held3 (fun w'=>w'.cell? ⟨S,1,none⟩=some (.string t))
  (with_reducible assumption)
  (first
   | (go_simp;go_at_call 41;(with_reducible refine PC.out.mono ?_);rintro e w2 ⟨bE,v2,rfl,hrow2⟩;obtain ⟨a2,c2,rfl,-,-⟩:=hrow2.cap (n:=1) rfl;have B2:=hid (ng.out.trans (hrow2.aN.mono ng.out.size));have wM:=hid (show Rd (W0.heap.size<=·) w2 (bD [⟨eX,pG⟩]) [.slice a2 1 c2] from hrow2.eP.weaken (fun b hb=>jnx ng.out.size hb));have S2:=SF.out w2 B2.out;have DC:=hid (Xb.out w2))
   | (go_simp;go_at_call 53;(with_reducible refine DC.out.mono ?_);rintro e w4 ⟨dJ,v4,rfl,hrow4⟩;obtain ⟨a4,n4,c4,rfl⟩:=hrow4.slice3;have b4:=hrow4.aN;have B4:=hid (aU B2.out b4);have gH:=hid (show Rd (W0.heap.size<=·) w4 (dh (bM t)) [.slice a4 n4 c4] from hrow4.eP.weaken (fun b hb=>jnx (B2.out).size hb));have pW:=hid (wM.out.aV b4);have S4:=SF.out w4 B4.out;have EC:=hid (lD ⟨#[115,112,97,110]⟩ a2 a4 1 n4 c2 c4 w4))
   | (go_simp;go_at_call 40;(with_reducible refine EC.out.mono ?_);rintro e w5 ⟨rfl,b5⟩;have BL:=hid (aU B4.out b5);obtain ⟨x0,x1,x2,x3,xf⟩:=oC (K1.out.below BL.out);have S5:=SF.out w5 BL.out;have K6:=tX S w5 (.string ⟨#[115,112,97,110]⟩) (.string ⟨#[]⟩) (.slice a2 1 c2) (.slice a4 n4 c4);have S6:=K6 _ _ (SF.out w5 BL.out);clear K6))
 all_goals
  have HN:=hid (show gF (W0.heap.size<=·) w5 [⟨eX,pG⟩] (bM t) (.slice a2 1 c2) (.slice a4 n4 c4) from ⟨pW.out.aV b5,gH.out.aV b5⟩);clear b5 gH EC pW hrow2 hrow4 b4 S0 S1 S2 S4 S5 S6 wM;obtain ⟨w9,dU⟩:∃ w9,w9=dY w5 (S+1) (.string ⟨#[115,112,97,110]⟩) (.string ⟨#[]⟩) (.slice a2 1 c2) (.slice a4 n4 c4):=⟨_,rfl⟩;have hf:=gK ⟨#[115,112,97,110]⟩ ⟨#[]⟩ [⟨eX,pG⟩] (bM t) HS.out Z0.out B0.out K1.out BL.out HN.out;rw [<- dU] at hf;have HC:=hid hf.1;have HP:=hid hf.2;clear hf;have hw8:=dU;simp only [dY] at hw8;clear dU;obtain ⟨x0,x1,x2,x3,xf⟩:=oC (K1.out.below BL.out);go_wp2;rw [<- hw8];have r0:=HC.out.cell 0 _ rfl;have r1:=HC.out.cell 1 _ rfl;have r2:=HC.out.cell 2 _ rfl;have r3:=HC.out.cell 3 _ rfl;exact bodyPost_ret (v:=.agg #[.string ⟨#[115,112,97,110]⟩,.string ⟨#[]⟩,(.slice a2 1 c2),(.slice a4 n4 c4)]) (by simp [results,Tryz.results130,go_sem,r0,r1,r2,r3]) rfl HP.out
theorem Sc:wK 12:=by
 intro t d ti at_ ar ci ks vc vp va vi vk w hR hs hl
 have E:Hid ((aj.mk 12 t d ti at_ ar ci ks).nd=aO nA [⟨fB,pX++t⟩,⟨eX,lH⟩] (bM t)):=by show _=_;rw [aj.nd];rfl
 rw [E.out];obtain ⟨ac,nc,cc,ap,np,cp,aa,na,ca,ai,ni,uP,ak,nk,ck,S,W0,rfl,rfl,rfl,rfl,rfl,HS,HW0,e0,SX,mX,HR,Z0,B0,K1⟩:=lF (.int .i64 12) t d ti hR hl;have jO:=hid hs;have hst:t.size<=300:=by rw [aj.small] at hs;exact hs.1
 clear hR hs hl E;go_enter Tryz.func130,Tryz.ntmps130;go_upto_region 24 with (fail)
 rw [<- HS.out];have hk0:=HW0.out;simp only [fP] at hk0;rw [<- hk0];clear hk0;obtain ⟨PC,ng⟩:=R5 ⟨#[104,114,101,102]⟩ (⟨#[35,110,111,116,101,45]⟩++t) ⟨#[99,108,97,115,115]⟩ ⟨#[110,111,116,101,114,101,102]⟩ W0;have SF:=hid (fun (w':jqz) (hb:jr0 W0.heap.size W0 w')=>((SX.out w' hb).1:w'.cell? ⟨S,1,none⟩=some (.string t)));have S0:=SF.out _ (jnk _ _).drew;have S1:=SF.out _ ng.out;have Xb:Hid (∀ W:jqz,Calls Tryz.prog 53 #[.string t] W (cO W (bM t))):=fun W=>fO t W
 have q5:(⟨#[35,110,111,116,101,45]⟩:ByteArray).size+t.size<=9223372036854775807:=by have:(⟨#[35,110,111,116,101,45]⟩:ByteArray).size=6:=rfl;omega
 have q6:6+t.size<=9223372036854775807:=by omega
 have hadd:∀ w:jqz,(Op.stringOp .add (⟨#[35,110,111,116,101,45]⟩:ByteArray) t).run Tryz.prog w=.ok (.string (⟨#[35,110,111,116,101,45]⟩++t)) w:=fun w=>run_string_add_sum w _ _ q5
 go_wp2_with fail
 go_region_held3 (fun w'=>w'.cell? ⟨S,1,none⟩=some (.string t))
  (with_reducible assumption)
  (first
   | (go_simp;go_at_call 41;(with_reducible refine PC.out.mono ?_);rintro e w2 ⟨bE,v2,rfl,hrow2⟩;obtain ⟨a2,c2,rfl,-,-⟩:=hrow2.cap (n:=2) rfl;have B2:=hid (ng.out.trans (hrow2.aN.mono ng.out.size));have wM:=hid (show Rd (W0.heap.size<=·) w2 (bD [⟨fB,pX++t⟩,⟨eX,lH⟩]) [.slice a2 2 c2] from hrow2.eP.weaken (fun b hb=>jnx ng.out.size hb));have S2:=SF.out w2 B2.out;have DC:=hid (Xb.out w2))
   | (go_simp;go_at_call 53;(with_reducible refine DC.out.mono ?_);rintro e w4 ⟨dJ,v4,rfl,hrow4⟩;obtain ⟨a4,n4,c4,rfl⟩:=hrow4.slice3;have b4:=hrow4.aN;have B4:=hid (aU B2.out b4);have gH:=hid (show Rd (W0.heap.size<=·) w4 (dh (bM t)) [.slice a4 n4 c4] from hrow4.eP.weaken (fun b hb=>jnx (B2.out).size hb));have pW:=hid (wM.out.aV b4);have S4:=SF.out w4 B4.out;have EC:=hid (lD ⟨#[97]⟩ a2 a4 2 n4 c2 c4 w4))
   | (go_simp;go_at_call 40;(with_reducible refine EC.out.mono ?_);rintro e w5 ⟨rfl,b5⟩;have BL:=hid (aU B4.out b5);obtain ⟨x0,x1,x2,x3,xf⟩:=oC (K1.out.below BL.out);have S5:=SF.out w5 BL.out;have K6:=tX S w5 (.string ⟨#[97]⟩) (.string ⟨#[]⟩) (.slice a2 2 c2) (.slice a4 n4 c4);have S6:=K6 _ _ (SF.out w5 BL.out);clear K6))
 all_goals
  have HN:=hid (show gF (W0.heap.size<=·) w5 [⟨fB,pX++t⟩,⟨eX,lH⟩] (bM t) (.slice a2 2 c2) (.slice a4 n4 c4) from ⟨pW.out.aV b5,gH.out.aV b5⟩);clear b5 gH EC pW hrow2 hrow4 b4 S0 S1 S2 S4 S5 S6 wM;obtain ⟨w9,dU⟩:∃ w9,w9=dY w5 (S+1) (.string ⟨#[97]⟩) (.string ⟨#[]⟩) (.slice a2 2 c2) (.slice a4 n4 c4):=⟨_,rfl⟩;have hf:=gK ⟨#[97]⟩ ⟨#[]⟩ [⟨fB,pX++t⟩,⟨eX,lH⟩] (bM t) HS.out Z0.out B0.out K1.out BL.out HN.out;rw [<- dU] at hf;have HC:=hid hf.1;have HP:=hid hf.2;clear hf;have hw8:=dU;simp only [dY] at hw8;clear dU;obtain ⟨x0,x1,x2,x3,xf⟩:=oC (K1.out.below BL.out);go_wp2;rw [<- hw8];have r0:=HC.out.cell 0 _ rfl;have r1:=HC.out.cell 1 _ rfl;have r2:=HC.out.cell 2 _ rfl;have r3:=HC.out.cell 3 _ rfl;exact bodyPost_ret (v:=.agg #[.string ⟨#[97]⟩,.string ⟨#[]⟩,(.slice a2 2 c2),(.slice a4 n4 c4)]) (by simp [results,Tryz.results130,go_sem,r0,r1,r2,r3]) rfl HP.out
theorem Sd:wK 16:=by
 intro t d ti at_ ar ci ks vc vp va vi vk w hR hs hl
 have E:Hid ((aj.mk 16 t d ti at_ ar ci ks).nd=aO nA [⟨fB,d⟩] (bM d)):=by show _=_;rw [aj.nd];rfl
 rw [E.out];obtain ⟨ac,nc,cc,ap,np,cp,aa,na,ca,ai,ni,uP,ak,nk,ck,S,W0,rfl,rfl,rfl,rfl,rfl,HS,HW0,e0,SX,mX,HR,Z0,B0,K1⟩:=lF (.int .i64 16) t d ti hR hl;have jO:=hid hs;have hst:t.size<=300:=by rw [aj.small] at hs;exact hs.1
 clear hR hs hl E;go_enter Tryz.func130,Tryz.ntmps130;go_upto_region 26 with (fail)
 rw [<- HS.out];have hk0:=HW0.out;simp only [fP] at hk0;rw [<- hk0];clear hk0;obtain ⟨PC,ng⟩:=Co ⟨#[104,114,101,102]⟩ d W0;have SF:=hid (fun (w':jqz) (hb:jr0 W0.heap.size W0 w')=>((SX.out w' hb).2.1:w'.cell? ⟨S,2,none⟩=some (.string d)));have S0:=SF.out _ (jnk _ _).drew;have S1:=SF.out _ ng.out;have Xb:Hid (∀ W:jqz,Calls Tryz.prog 53 #[.string d] W (cO W (bM d))):=fun W=>fO d W
 go_wp2_with fail
 go_region_held3 (fun w'=>w'.cell? ⟨S,2,none⟩=some (.string d))
  (with_reducible assumption)
  (first
   | (go_simp;go_at_call 41;(with_reducible refine PC.out.mono ?_);rintro e w2 ⟨bE,v2,rfl,hrow2⟩;obtain ⟨a2,c2,rfl,-,-⟩:=hrow2.cap (n:=1) rfl;have B2:=hid (ng.out.trans (hrow2.aN.mono ng.out.size));have wM:=hid (show Rd (W0.heap.size<=·) w2 (bD [⟨fB,d⟩]) [.slice a2 1 c2] from hrow2.eP.weaken (fun b hb=>jnx ng.out.size hb));have S2:=SF.out w2 B2.out;have DC:=hid (Xb.out w2))
   | (go_simp;go_at_call 53;(with_reducible refine DC.out.mono ?_);rintro e w4 ⟨dJ,v4,rfl,hrow4⟩;obtain ⟨a4,n4,c4,rfl⟩:=hrow4.slice3;have b4:=hrow4.aN;have B4:=hid (aU B2.out b4);have gH:=hid (show Rd (W0.heap.size<=·) w4 (dh (bM d)) [.slice a4 n4 c4] from hrow4.eP.weaken (fun b hb=>jnx (B2.out).size hb));have pW:=hid (wM.out.aV b4);have S4:=SF.out w4 B4.out;have EC:=hid (lD ⟨#[97]⟩ a2 a4 1 n4 c2 c4 w4))
   | (go_simp;go_at_call 40;(with_reducible refine EC.out.mono ?_);rintro e w5 ⟨rfl,b5⟩;have BL:=hid (aU B4.out b5);obtain ⟨x0,x1,x2,x3,xf⟩:=oC (K1.out.below BL.out);have S5:=SF.out w5 BL.out;have K6:=tX S w5 (.string ⟨#[97]⟩) (.string ⟨#[]⟩) (.slice a2 1 c2) (.slice a4 n4 c4);have S6:=K6 _ _ (SF.out w5 BL.out);clear K6))
 all_goals
  have HN:=hid (show gF (W0.heap.size<=·) w5 [⟨fB,d⟩] (bM d) (.slice a2 1 c2) (.slice a4 n4 c4) from ⟨pW.out.aV b5,gH.out.aV b5⟩);clear b5 gH EC pW hrow2 hrow4 b4 S0 S1 S2 S4 S5 S6 wM;obtain ⟨w9,dU⟩:∃ w9,w9=dY w5 (S+1) (.string ⟨#[97]⟩) (.string ⟨#[]⟩) (.slice a2 1 c2) (.slice a4 n4 c4):=⟨_,rfl⟩;have hf:=gK ⟨#[97]⟩ ⟨#[]⟩ [⟨fB,d⟩] (bM d) HS.out Z0.out B0.out K1.out BL.out HN.out;rw [<- dU] at hf;have HC:=hid hf.1;have HP:=hid hf.2;clear hf;have hw8:=dU;simp only [dY] at hw8;clear dU;obtain ⟨x0,x1,x2,x3,xf⟩:=oC (K1.out.below BL.out);go_wp2;rw [<- hw8];have r0:=HC.out.cell 0 _ rfl;have r1:=HC.out.cell 1 _ rfl;have r2:=HC.out.cell 2 _ rfl;have r3:=HC.out.cell 3 _ rfl;exact bodyPost_ret (v:=.agg #[.string ⟨#[97]⟩,.string ⟨#[]⟩,(.slice a2 1 c2),(.slice a4 n4 c4)]) (by simp [results,Tryz.results130,go_sem,r0,r1,r2,r3]) rfl HP.out
theorem Xc:wK 9:=by
 intro t d ti at_ ar ci ks vc vp va vi vk w hR hs hl
 have E:Hid ((aj.mk 9 t d ti at_ ar ci ks).nd=aO nA (⟨fB,d⟩::iJ Eb ti) (iY ks)):=by show _=_;rw [aj.nd];rfl
 rw [E.out];obtain ⟨ac,nc,cc,ap,np,cp,aa,na,ca,ai,ni,uP,ak,nk,ck,S,W0,rfl,rfl,rfl,rfl,rfl,HS,HW0,e0,SX,mX,HR,Z0,B0,K1⟩:=lF (.int .i64 9) t d ti hR hl;have jO:=hid hs;have hst:t.size<=300:=by rw [aj.small] at hs;exact hs.1
 clear hR hs hl E;go_enter Tryz.func130,Tryz.ntmps130;go_upto_region 17 with (fail)
 rw [<- HS.out];have hk0:=HW0.out;simp only [fP] at hk0;rw [<- hk0];clear hk0;obtain ⟨PC,ng⟩:=Co ⟨#[104,114,101,102]⟩ d W0;have SF:=hid (fun (w':jqz) (hb:jr0 W0.heap.size W0 w')=>(⟨(SX.out w' hb).2.1,(SX.out w' hb).2.2.1,(SX.out w' hb).2.2.2.2.2.2⟩:w'.cell? ⟨S,2,none⟩=some (.string d)/\w'.cell? ⟨S,3,none⟩=some (.string ti)/\w'.cell? ⟨S,9,none⟩=some (.slice ak nk ck)));have S0:=SF.out _ (jnk _ _).drew;have S1:=SF.out _ ng.out;go_wp2_with fail
 go_region_held3 (fun w'=>w'.cell? ⟨S,2,none⟩=some (.string d)/\w'.cell? ⟨S,3,none⟩=some (.string ti)/\w'.cell? ⟨S,9,none⟩=some (.slice ak nk ck))
  (with_reducible assumption)
  (first
   | (go_simp;go_at_call 41;(with_reducible refine PC.out.mono ?_);rintro e w2 ⟨bE,v2,rfl,hrow2⟩;obtain ⟨a2,c2,rfl,-,-⟩:=hrow2.cap (n:=1) rfl;have B2:=hid (ng.out.trans (hrow2.aN.mono ng.out.size));have wM:=hid (show Rd (W0.heap.size<=·) w2 (bD [⟨fB,d⟩]) [.slice a2 1 c2] from hrow2.eP.weaken (fun b hb=>jnx ng.out.size hb));have S2:=SF.out w2 B2.out;have TC:=hid (wF [⟨fB,d⟩] ti _ bE _ _ w2 hrow2 (by simp)))
   | (go_simp;go_at_call 163;(with_reducible refine TC.out.mono ?_);rintro e w3 ⟨gL,v3,rfl,hrow3,hg3⟩;obtain ⟨a3,n3,c3,rfl⟩:=hrow3.slice3;have B3:=hid (ng.out.trans (hrow3.aN.mono ng.out.size));have Ct:=hid (show Rd (W0.heap.size<=·) w3 (bD ([⟨fB,d⟩]++iJ Eb ti)) [.slice a3 n3 c3] from hrow3.eP.weaken (fun b hb=>jnx ng.out.size hb));have S3:=SF.out w3 B3.out;have LC:=hid (mX.out w3 B3.out))
   | (go_simp;go_at_call 78;(with_reducible refine LC.out.mono ?_);rintro e w4 ⟨dJ,v4,rfl,hrow4⟩;obtain ⟨a4,n4,c4,rfl⟩:=hrow4.slice3;have b4:=hrow4.aN;have B4:=hid (aU B3.out b4);have gH:=hid (show Rd (W0.heap.size<=·) w4 (dh (iY ks)) [.slice a4 n4 c4] from hrow4.eP.weaken (fun b hb=>jnx B3.out.size hb));have pW:=hid (Ct.out.aV b4);have S4:=SF.out w4 B4.out;have EC:=hid (lD ⟨#[97]⟩ a3 a4 n3 n4 c3 c4 w4))
   | (go_simp;go_at_call 40;(with_reducible refine EC.out.mono ?_);rintro e w5 ⟨rfl,b5⟩;have BL:=hid (aU B4.out b5);obtain ⟨x0,x1,x2,x3,xf⟩:=oC (K1.out.below BL.out);have S5:=SF.out w5 BL.out;have K6:=tX S w5 (.string ⟨#[97]⟩) (.string ⟨#[]⟩) (.slice a3 n3 c3) (.slice a4 n4 c4);have S6:=And.imp (K6 _ _) (And.imp (K6 _ _) (K6 _ _)) (SF.out w5 BL.out);clear K6))
 all_goals
  have HN:=hid (show gF (W0.heap.size<=·) w5 ([⟨fB,d⟩]++iJ Eb ti) (iY ks) (.slice a3 n3 c3) (.slice a4 n4 c4) from ⟨pW.out.aV b5,gH.out.aV b5⟩);clear b5 gH EC pW hrow2 hrow3 hrow4 hg3 b4 S0 S1 S2 S3 S4 S5 S6 wM Ct;obtain ⟨w9,dU⟩:∃ w9,w9=dY w5 (S+1) (.string ⟨#[97]⟩) (.string ⟨#[]⟩) (.slice a3 n3 c3) (.slice a4 n4 c4):=⟨_,rfl⟩;have hf:=gK ⟨#[97]⟩ ⟨#[]⟩ ([⟨fB,d⟩]++iJ Eb ti) (iY ks) HS.out Z0.out B0.out K1.out BL.out HN.out;rw [<- dU] at hf;have HC:=hid hf.1;have HP:=hid hf.2;clear hf;have hw8:=dU;simp only [dY] at hw8;clear dU;obtain ⟨x0,x1,x2,x3,xf⟩:=oC (K1.out.below BL.out);go_wp2;rw [<- hw8];have r0:=HC.out.cell 0 _ rfl;have r1:=HC.out.cell 1 _ rfl;have r2:=HC.out.cell 2 _ rfl;have r3:=HC.out.cell 3 _ rfl;exact bodyPost_ret (v:=.agg #[.string ⟨#[97]⟩,.string ⟨#[]⟩,(.slice a3 n3 c3),(.slice a4 n4 c4)]) (by simp [results,Tryz.results130,go_sem,r0,r1,r2,r3]) rfl HP.out
theorem Sg:wK 11:=by
 intro t d ti at_ ar ci ks vc vp va vi vk w hR hs hl
 have E:Hid ((aj.mk 11 t d ti at_ ar ci ks).nd=aO JY (q0z at_ []) (iY ks)):=by show _=_;rw [aj.nd];rfl
 rw [E.out];obtain ⟨ac,nc,cc,ap,np,cp,aa,na,ca,ai,ni,uP,ak,nk,ck,S,W0,rfl,rfl,rfl,rfl,rfl,HS,HW0,e0,SX,mX,HR,Z0,B0,K1⟩:=lF (.int .i64 11) t d ti hR hl;have jO:=hid hs;have hst:t.size<=300:=by rw [aj.small] at hs;exact hs.1
 clear hR hs hl E;go_enter Tryz.func130,Tryz.ntmps130;go_upto_region 22 with (fail)
 rw [<- HS.out];have hk0:=HW0.out;simp only [fP] at hk0;rw [<- hk0];clear hk0;have AC:=hid (q1z at_ [] (.slice ac nc cc) (.slice ap np cp) (.slice none 0 0) W0.drew W0.drew pI.nil (WU (by have:=Z0.out;omega) HR.out.at_) (Cr jO.out).1 (Cr jO.out).2);have SF:=hid (fun (w':jqz) (hb:jr0 W0.heap.size W0 w')=>(⟨(SX.out w' hb).2.2.2.1,(SX.out w' hb).2.2.2.2.1,(SX.out w' hb).2.2.2.2.2.1,(SX.out w' hb).2.2.2.2.2.2⟩:w'.cell? ⟨S,4,none⟩=some (.string at_.id)/\w'.cell? ⟨S,5,none⟩=some (.slice ac nc cc)/\w'.cell? ⟨S,6,none⟩=some (.slice ap np cp)/\w'.cell? ⟨S,9,none⟩=some (.slice ak nk ck)));have S0:=SF.out _ (jnk _ _).drew;go_wp2_with fail
 go_region_held3 (fun w'=>w'.cell? ⟨S,4,none⟩=some (.string at_.id)/\w'.cell? ⟨S,5,none⟩=some (.slice ac nc cc)/\w'.cell? ⟨S,6,none⟩=some (.slice ap np cp)/\w'.cell? ⟨S,9,none⟩=some (.slice ak nk ck))
  (with_reducible assumption)
  (first
   | (go_simp;go_at_call 137;(with_reducible refine AC.out.mono ?_);rintro e w3 ⟨gL,v3,rfl,hrow3⟩;obtain ⟨a3,n3,c3,rfl⟩:=hrow3.slice3;have B3:Hid (jr0 W0.heap.size W0 w3):=((jnk W0.heap.size W0).drew).trans hrow3.aN;have Ct:Hid (Rd (W0.heap.size<=·) w3 (bD (q0z at_ [])) [.slice a3 n3 c3]):=hrow3.eP;have S3:=SF.out w3 B3.out;have LC:=hid (mX.out w3 B3.out))
   | (go_simp;go_at_call 78;(with_reducible refine LC.out.mono ?_);rintro e w4 ⟨dJ,v4,rfl,hrow4⟩;obtain ⟨a4,n4,c4,rfl⟩:=hrow4.slice3;have b4:=hrow4.aN;have B4:=hid (aU B3.out b4);have gH:=hid (show Rd (W0.heap.size<=·) w4 (dh (iY ks)) [.slice a4 n4 c4] from hrow4.eP.weaken (fun b hb=>jnx B3.out.size hb));have pW:=hid (Ct.out.aV b4);have S4:=SF.out w4 B4.out;have EC:=hid (lD ⟨#[115,112,97,110]⟩ a3 a4 n3 n4 c3 c4 w4))
   | (go_simp;go_at_call 40;(with_reducible refine EC.out.mono ?_);rintro e w5 ⟨rfl,b5⟩;have BL:=hid (aU B4.out b5);obtain ⟨x0,x1,x2,x3,xf⟩:=oC (K1.out.below BL.out);have S5:=SF.out w5 BL.out;have K6:=tX S w5 (.string ⟨#[115,112,97,110]⟩) (.string ⟨#[]⟩) (.slice a3 n3 c3) (.slice a4 n4 c4);have S6:=And.imp (K6 _ _) (And.imp (K6 _ _) (And.imp (K6 _ _) (K6 _ _))) (SF.out w5 BL.out);clear K6))
 all_goals
  have HN:=hid (show gF (W0.heap.size<=·) w5 (q0z at_ []) (iY ks) (.slice a3 n3 c3) (.slice a4 n4 c4) from ⟨pW.out.aV b5,gH.out.aV b5⟩);clear b5 gH EC pW hrow3 hrow4 b4 S0 S3 S4 S5 S6 Ct;obtain ⟨w9,dU⟩:∃ w9,w9=dY w5 (S+1) (.string ⟨#[115,112,97,110]⟩) (.string ⟨#[]⟩) (.slice a3 n3 c3) (.slice a4 n4 c4):=⟨_,rfl⟩;have hf:=gK ⟨#[115,112,97,110]⟩ ⟨#[]⟩ (q0z at_ []) (iY ks) HS.out Z0.out B0.out K1.out BL.out HN.out;rw [<- dU] at hf;have HC:=hid hf.1;have HP:=hid hf.2;clear hf;have hw8:=dU;simp only [dY] at hw8;clear dU;obtain ⟨x0,x1,x2,x3,xf⟩:=oC (K1.out.below BL.out);go_wp2;rw [<- hw8];have r0:=HC.out.cell 0 _ rfl;have r1:=HC.out.cell 1 _ rfl;have r2:=HC.out.cell 2 _ rfl;have r3:=HC.out.cell 3 _ rfl;exact bodyPost_ret (v:=.agg #[.string ⟨#[115,112,97,110]⟩,.string ⟨#[]⟩,(.slice a3 n3 c3),(.slice a4 n4 c4)]) (by simp [results,Tryz.results130,go_sem,r0,r1,r2,r3]) rfl HP.out
theorem Si (t d ti:ByteArray) (at_:At) (ar:List ByteArray) (ci:List Ci) (ks:List aj) (vc vp va vi vk:jr1) (w:jqz) (hR:wI (·<w.heap.size) w at_ ar ci ks vc vp va vi vk) (hs:(aj.mk (10:Int) t d ti at_ ar ci ks).small) (hl:Fb w ks vk) (hz:aj.aW ks<=1000000) : Calls Tryz.prog 130 #[.agg #[.int .i64 10,.string t,.string d,.string ti,.string at_.id,vc,vp,va,vi,vk]] w (uR w (aj.mk (10:Int) t d ti at_ ar ci ks).nd):=by
 have E:Hid ((aj.mk 10 t d ti at_ ar ci ks).nd=aO Sj ([⟨zM,d⟩,⟨zO,mG ks⟩]++iJ Eb ti++q0z at_ []) []):=by show _=_;rw [aj.nd];rfl
 rw [E.out];obtain ⟨ac,nc,cc,ap,np,cp,aa,na,ca,ai,ni,uP,ak,nk,ck,S,W0,rfl,rfl,rfl,rfl,rfl,HS,HW0,e0,SX,mX,HR,Z0,B0,K1⟩:=lF (.int .i64 10) t d ti hR hl;have jO:=hid hs;have hst:t.size<=300:=by rw [aj.small] at hs;exact hs.1
 clear hR hs hl E;go_enter Tryz.func130,Tryz.ntmps130;go_upto_region 19 with (fail)
 rw [<- HS.out];have hk0:=HW0.out;simp only [fP] at hk0;rw [<- hk0];clear hk0;have hpl:(aj.aJ ks).length<=1000000000:=by have h:=jO.out;rw [aj.small] at h;have:=aj.oF ks h.2.2.2.2.2.2.2.2;omega
 have PL:=hid (G5 ks (.slice ak nk ck) W0.drew (Rd.keep (w:=W0) (w':=W0.drew) (ok:=(·<S)) (fun b (hb:b<S) _=>⟨by have:=Z0.out;show b<W0.heap.size;omega,rfl⟩) _ _ HR.out.kids) hpl);have SF:=hid (fun (w':jqz) (hb:jr0 W0.heap.size W0 w')=>(⟨(SX.out w' hb).2.1,(SX.out w' hb).2.2.1,(SX.out w' hb).2.2.2.2.2.2⟩:w'.cell? ⟨S,2,none⟩=some (.string d)/\w'.cell? ⟨S,3,none⟩=some (.string ti)/\w'.cell? ⟨S,9,none⟩=some (.slice ak nk ck)));have S0:=SF.out _ (jnk _ _).drew;clear hpl;go_wp2_with fail
 go_region_held3 (fun w'=>w'.cell? ⟨S,2,none⟩=some (.string d)/\w'.cell? ⟨S,3,none⟩=some (.string ti)/\w'.cell? ⟨S,9,none⟩=some (.slice ak nk ck))
  (with_reducible assumption)
  (first
   | (go_simp;go_at_call 164;(with_reducible refine PL.out.mono ?_);rintro e w1 ⟨rfl,b1⟩;have B1:Hid (jr0 W0.heap.size W0 w1):=((jnk W0.heap.size W0).drew).trans b1;obtain ⟨PC,ng⟩:=Sb ⟨#[115,114,99]⟩ d ⟨#[97,108,116]⟩ ⟨(aj.aJ ks).toArray⟩ B1 B1.out.size;have S1:=SF.out w1 B1.out;have S1a:=SF.out _ ng.out)
   | (go_simp;go_at_call 41;(with_reducible refine PC.out.mono ?_);rintro e w2 ⟨bE,v2,rfl,hrow2⟩;obtain ⟨a2,c2,rfl,-,-⟩:=hrow2.cap (n:=2) rfl;have B2:=hid (ng.out.trans (hrow2.aN.mono ng.out.size));have wM:=hid (show Rd (W0.heap.size<=·) w2 (bD [⟨zM,d⟩,⟨zO,mG ks⟩]) [.slice a2 2 c2] from hrow2.eP.weaken (fun b hb=>jnx ng.out.size hb));have BWX:=ng;have S2:=SF.out w2 B2.out;have TC:=hid (wF [⟨zM,d⟩,⟨zO,mG ks⟩] ti _ bE _ _ w2 hrow2 (by simp)))
   | (go_simp;go_at_call 163;(with_reducible refine TC.out.mono ?_);rintro e w3 ⟨gL,v3,rfl,hrow3,hg3⟩;have B3:=hid (ng.out.trans (hrow3.aN.mono ng.out.size));have S3:=SF.out w3 B3.out))
 all_goals
  obtain ⟨m3,MZ⟩:∃ m,m=(List.map Pr.d ([⟨zM,d⟩,⟨zO,mG ks⟩]++iJ Eb ti)).length:=⟨_,rfl⟩;obtain ⟨a3,c3,rfl,-,-⟩:=hrow3.cap MZ.symm;have jf8:m3<=3:=by rw [MZ];unfold iJ;split<;>simp
  have Y4:=hid MZ.symm;have U3:=hid hrow3;obtain ⟨-,-,-,g4,g5,g6,-⟩:=SX.out w3 B3.out;have AC:=hid (q1z at_ [] (.slice ac nc cc) (.slice ap np cp) (.slice none 0 0) w3 w3 pI.nil (Cq HR.out.at_ B3.out (by have:=Z0.out;omega)) (Cr jO.out).1 (Cr jO.out).2);clear MZ hrow3 hrow2 hg3 b1 S0 S1 S1a S2 S3 PL PC TC wM ng B2;go_wp2_with fail
  (with_reducible refine AC.out.mono ?_)
  rintro e w4 ⟨dJ,v4,rfl,hrow4⟩;obtain ⟨m4,UZ⟩:∃ m,m=(List.map Pr.d (q0z at_ [])).length:=⟨_,rfl⟩;obtain ⟨a4,c4,rfl,-,-⟩:=hrow4.cap UZ.symm;have jl6:m4<=2:=by rw [UZ];unfold q0z iJ Hw;split<;>split<;>simp
  have HM4:=hid UZ.symm;have b4:=hrow4.aN;have U4:=hid (U3.out.below b4);have X4:=hid (show Rd (fun b=>False\/w3.heap.size<=b) w4 (.sl 2 (List.map Pr.d (q0z at_ []))) [.slice a4 m4 c4] from hrow4.eP.weaken (fun b hb=>.inr hb));have B4:=hid (aU B3.out b4);have O1:=hid (fun (rs:List (List jr1)) (ok':Nat->Prop) h=>NS (q0z at_ []) rs ok' w4 h);obtain ⟨iP,hiP,zJ,zK,zL⟩:=info_parts pV;clear UZ hrow4 b4 g4 g5 g6 AC;go_wp2_with (at_builtin;refine Fe (n:=m3) (m:=m4) rfl _ _ 24 rfl iP _ 32 Tryz.underlying24 hiP zJ zK zL rfl (by decide) U4.out (fun _=>False.elim) (.slice a4 m4 c4) X4.out O1.out Y4.out HM4.out (by omega) (by decide) rfl rfl ?_)
  intro a5 c5 Ar w5 cu hg5;have B5:=hid (BWX.out.trans (cu.aN.mono BWX.out.size));have AT5:Hid (Rd (W0.heap.size<=·) w5 (bD ([⟨zM,d⟩,⟨zO,mG ks⟩]++iJ Eb ti++q0z at_ [])) [.slice a5 (m3+m4) c5]):=by have h:=cu.eP.weaken (ok':=(W0.heap.size<=·)) (fun b hb=>jnx BWX.out.size hb);show Rd _ _ (.sl 2 (List.map Pr.d _)) _;rw [List.map_append];exact h
  have EC:=hid (lD ⟨#[105,109,103]⟩ a5 none (m3+m4) 0 c5 0 w5);clear cu hg5 U4 X4 O1 U3;go_wp2_with fail
  (with_reducible refine EC.out.mono ?_)
  rintro e w6 ⟨rfl,b6⟩;have BL:=hid (aU B5.out b6);have HN:=hid (show gF (W0.heap.size<=·) w6 ([⟨zM,d⟩,⟨zO,mG ks⟩]++iJ Eb ti++q0z at_ []) [] (.slice a5 (m3+m4) c5) (.slice none 0 0) from ⟨AT5.out.aV b6,Rd.aD _ _ _⟩);clear b6 EC AT5;obtain ⟨w9,dU⟩:∃ w9,w9=dY w6 (S+1) (.string ⟨#[105,109,103]⟩) (.string ⟨#[]⟩) (.slice a5 (m3+m4) c5) (.slice none 0 0):=⟨_,rfl⟩;have hf:=gK ⟨#[105,109,103]⟩ ⟨#[]⟩ ([⟨zM,d⟩,⟨zO,mG ks⟩]++iJ Eb ti++q0z at_ []) [] HS.out Z0.out B0.out K1.out BL.out HN.out;rw [<- dU] at hf;have HC:=hid hf.1;have HP:=hid hf.2;clear hf;have hw8:=dU;simp only [dY] at hw8;clear dU;obtain ⟨x0,x1,x2,x3,xf⟩:=oC (K1.out.below BL.out);go_wp2;rw [<- hw8];have r0:=HC.out.cell 0 _ rfl;have r1:=HC.out.cell 1 _ rfl;have r2:=HC.out.cell 2 _ rfl;have r3:=HC.out.cell 3 _ rfl;exact bodyPost_ret (v:=.agg #[.string ⟨#[105,109,103]⟩,.string ⟨#[]⟩,(.slice a5 (m3+m4) c5),(.slice none 0 0)]) (by simp [results,Tryz.results130,go_sem,r0,r1,r2,r3]) rfl HP.out
theorem Hy (k:Int) (t d ti:ByteArray) (at_:At) (ar:List ByteArray) (ci:List Ci) (ks:List aj) (vc vp va vi vk:jr1) (w:jqz) (hR:wI (·<w.heap.size) w at_ ar ci ks vc vp va vi vk) (hs:(aj.mk k t d ti at_ ar ci ks).small) (hl:Fb w ks vk) (hz:aj.aW ks<=1000000) : Calls Tryz.prog 130 #[.agg #[.int .i64 k,.string t,.string d,.string ti,.string at_.id,vc,vp,va,vi,vk]] w (uR w (aj.mk k t d ti at_ ar ci ks).nd):=by
 by_cases h2:k=2
 ·subst h2;exact WV t d ti at_ ar ci ks vc vp va vi vk w hR hs hl
 by_cases h3:k=3
 ·subst h3;exact WW t d ti at_ ar ci ks vc vp va vi vk w hR hs hl
 by_cases h4:k=4
 ·subst h4;exact WX t d ti at_ ar ci ks vc vp va vi vk w hR hs hl
 by_cases h5:k=5
 ·subst h5;exact Xa t d ti at_ ar ci ks vc vp va vi vk w hR hs hl
 by_cases h6:k=6
 ·subst h6;exact WY t d ti at_ ar ci ks vc vp va vi vk w hR hs hl
 by_cases h7:k=7
 ·subst h7;exact WZ t d ti at_ ar ci ks vc vp va vi vk w hR hs hl
 by_cases h8:k=8
 ·subst h8;exact W9 t d ti at_ ar ci ks vc vp va vi vk w hR hs hl
 by_cases h9:k=9
 ·subst h9;exact Xc t d ti at_ ar ci ks vc vp va vi vk w hR hs hl
 by_cases h10:k=10
 ·subst h10;exact Si t d ti at_ ar ci ks vc vp va vi vk w hR hs hl hz
 by_cases h11:k=11
 ·subst h11;exact Sg t d ti at_ ar ci ks vc vp va vi vk w hR hs hl
 by_cases h12:k=12
 ·subst h12;exact Sc t d ti at_ ar ci ks vc vp va vi vk w hR hs hl
 by_cases h16:k=16
 ·subst h16;exact Sd t d ti at_ ar ci ks vc vp va vi vk w hR hs hl
 exact NR k t d ti at_ ar ci ks vc vp va vi vk w hR hs hl ⟨h2,h3,h4,h5,h6,h7,h8,h9,h10,h11,h12,h16⟩
open Go.RowKit
def Xd (w:jqz) (e:Ending) (w':jqz):Prop:=e=.returned (.bool true)/\jr0 w.heap.size w w'
def Z8 (W1:jqz) (n:Nat) (vi:jr1) (wr:jqz):Prop:=∃ k q:Nat,k<=n/\vi=.int .i64 k/\wr=W1.drewN q
def Z9 (W1:jqz) (n:Nat) (vi:jr1) (wr:jqz):Prop:=∃ k:Nat,k<=n/\vi=.int .i64 k/\jr0 W1.heap.size W1 wr
theorem Hz (N:Nat):∀ (x:Nd) (va vk vb vl:jr1) (w:jqz),x.sz<=N->gF (·<w.heap.size) w x.at_ x.ks va vk->gF (·<w.heap.size) w x.at_ x.ks vb vl -> Calls Tryz.prog 18 #[.agg #[.string x.nm,.string x.tx,va,vk],.agg #[.string x.nm,.string x.tx,vb,vl]] w (Xd w):=by
 induction N using Nat.strongRecOn with
 | _ N ih=>
  intro x va vk vb vl w hN hA hB;obtain ⟨nm,tx,at_,ks⟩:=x;dsimp only [Nd.nm,Nd.tx,Nd.at_,Nd.ks] at hA hB ⊢;obtain ⟨a1,c1,h1,s1⟩:=Rd.aC hA.at_
  obtain ⟨a2,c2,h2,s2⟩:=Rd.aC hA.ks;obtain ⟨b1,d1,h3,s3⟩:=Rd.aC hB.at_
  obtain ⟨b2,d2,h4,s4⟩:=Rd.aC hB.ks;obtain ⟨n1,hn1⟩:∃ n,n=at_.length:=⟨_,rfl⟩
  obtain ⟨n2,hn2⟩:∃ n,n=ks.length:=⟨_,rfl⟩;obtain rfl:va=.slice a1 n1 c1:=by rw [hn1];simpa using h1
  obtain rfl:vk=.slice a2 n2 c2:=by rw [hn2];simpa using h2
  obtain rfl:vb=.slice b1 n1 d1:=by rw [hn1];simpa using h3
  obtain rfl:vl=.slice b2 n2 d2:=by rw [hn2];simpa using h4
  have l1:=s1.le;have l2:=s2.le;have l3:=s3.le;have l4:=s4.le;rw [List.length_map,<- hn1] at l1 l3;rw [List.length_map,<- hn2] at l2 l4;have m1:=s1.max;have m2:=s2.max;have m3:=s3.max;have m4:=s4.max;unfold maxLen at m1 m2 m3 m4;rw [Nd.sz] at hN;have hks:=Nd.aZ ks;obtain ⟨S,hS⟩:∃ S,S=w.heap.size:=⟨_,rfl⟩;obtain ⟨W1,hW1⟩:∃ W,W=(w.alloc (.cells #[.string nm,.string tx,.slice a1 n1 c1,.slice a2 n2 c2] 35)).alloc (.cells #[.string nm,.string tx,.slice b1 n1 d1,.slice b2 n2 d2] 35):=⟨_,rfl⟩;have z1:W1.heap.size=S+2:=by rw [hW1,hS];simp
  have k0:CB 35 S [.string nm,.string tx,.slice a1 n1 c1,.slice a2 n2 c2] W1:=by rw [hW1,hS];exact (Below.heap_alloc _ _ _ (by simp)).trans (CB.new _ _ w)
  have k1:CB 35 (S+1) [.string nm,.string tx,.slice b1 n1 d1,.slice b2 n2 d2] W1:=by have:=CB.new 35 [.string nm,.string tx,.slice b1 n1 d1,.slice b2 n2 d2] (w.alloc (.cells #[.string nm,.string tx,.slice a1 n1 c1,.slice a2 n2 c2] 35));rw [World.size_alloc] at this;rw [hW1,hS];exact this
  have bW:jr0 w.heap.size w W1:=by rw [hW1];exact ((jnk _ _).alloc (jnq _) _).alloc (by simp) _
  have CL:Hid (∀ w':jqz,jr0 W1.heap.size W1 w'->w'.cell? ⟨S,0,none⟩=some (.string nm)/\w'.cell? ⟨S,1,none⟩=some (.string tx)/\w'.cell? ⟨S,2,none⟩=some (.slice a1 n1 c1)/\w'.cell? ⟨S,3,none⟩=some (.slice a2 n2 c2)/\w'.cell? ⟨S+1,0,none⟩=some (.string nm)/\w'.cell? ⟨S+1,1,none⟩=some (.string tx)/\w'.cell? ⟨S+1,2,none⟩=some (.slice b1 n1 d1)/\w'.cell? ⟨S+1,3,none⟩=some (.slice b2 n2 d2)):=
   fun w' hb=>⟨(k0.below hb).cell 0 _ rfl,(k0.below hb).cell 1 _ rfl,(k0.below hb).cell 2 _ rfl,(k0.below hb).cell 3 _ rfl,(k1.below hb).cell 0 _ rfl,(k1.below hb).cell 1 _ rfl,(k1.below hb).cell 2 _ rfl,(k1.below hb).cell 3 _ rfl⟩
  obtain ⟨e0,e1,e2,e3,f0,f1,f2,f3⟩:=CL.out W1 (jnk _ _);have H1:=hid s1;have H2:=hid s2;have H3:=hid s3;have H4:=hid s4;have IH:=hid ih;have RX:=hid hks;have BW:=hid bW;have Z1:=hid z1;have HS:=hid hS;have HW1:=hid hW1;have Lu:=hid hn1;have uZ:=hid hn2;have R0:Hid (Z8 W1 n1 (.int .i64 0) W1):=⟨0,0,Nat.zero_le _,rfl,rfl⟩;have p1:(nm.toList != nm.toList)=false:=by simp
  have p2:(nm.toList==nm.toList)=true:=by simp
  have p3:(tx.toList != tx.toList)=false:=by simp
  have p4:(tx.toList==tx.toList)=true:=by simp
  have p5:((n1:Int) != (n1:Int))=false:=by simp
  have p6:((n2:Int) != (n2:Int))=false:=by simp
  clear hA hB h1 h2 h3 h4 s1 s2 s3 s4 ih hks z1 k0 k1 bW hS hW1 hn1 hn2;go_enter Tryz.func18,Tryz.ntmps18;go_upto_region 1 with (fail)
  rw [<- HS.out,<- HW1.out];go_wp2
  go_loopw [5] (fun vi wr=>Z8 W1 n1 vi wr) (fun i _=>n1-(intOf i).toNat)
  case atStart=>exact R0.out
  case round=>
   clear R0;obtain ⟨k,q,hk,rfl,rfl⟩:=hrel;by_cases hlt:k<n1
   ·obtain ⟨y,hy⟩:∃ y,at_[k]?=some y:=⟨_,List.getElem?_eq_getElem (by have:=Lu.out;omega)⟩
    obtain ⟨g1,o1,rfl,-,hg1,k1,k2⟩:=iW H1.out hy;obtain ⟨g2,o2,rfl,-,hg2,k3,k4⟩:=iW H3.out hy;have r1:W1.cell? ⟨g1,o1+k*2,none⟩=some (.string y.key):=(BW.out.cell (p:=⟨g1,_,none⟩) hg1).trans k1;have r2:W1.cell? ⟨g1,o1+k*2+1,none⟩=some (.string y.val):=(BW.out.cell (p:=⟨g1,_,none⟩) hg1).trans k2;have r3:W1.cell? ⟨g2,o2+k*2,none⟩=some (.string y.key):=(BW.out.cell (p:=⟨g2,_,none⟩) hg2).trans k3;have r4:W1.cell? ⟨g2,o2+k*2+1,none⟩=some (.string y.val):=(BW.out.cell (p:=⟨g2,_,none⟩) hg2).trans k4;clear hy k1 k2 k3 k4;obtain ⟨yk,yv⟩:=y;dsimp only at r1 r2 r3 r4;have hne1:(yk.toList != yk.toList)=false:=by simp
    have hne2:(yv.toList != yv.toList)=false:=by simp
    have jl7:(yk.toList==yk.toList)=true:=by simp
    have jl8:(yv.toList==yv.toList)=true:=by simp
    go_wp2_with fail
    go_quiet (fail)
    go_wp2;go_roundw;case rel=>exact ⟨k+1,_,by omega,by go_num,rfl⟩
    case measure=>simp [intOf];omega
   ·have hkl:k=n1:=by omega
    subst hkl;have R2:Hid (Z9 W1 n2 (.int .i64 0) (W1.drewN q)):=⟨0,Nat.zero_le _,rfl,gG (jnk _ _) q⟩;go_wp2
    go_loopw [6] (fun vi wr=>Z9 W1 n2 vi wr) (fun i _=>n2-(intOf i).toNat)
    case atStart=>exact R2.out
    case round=>
     clear R2 e0 e1 e2 e3 f0 f1 f2 f3;obtain ⟨j,hj,rfl,hbel⟩:=hrel;obtain ⟨e0,e1,e2,e3,f0,f1,f2,f3⟩:=CL.out _ hbel;by_cases hlt2:j<n2
     ·obtain ⟨y,hy⟩:∃ y,ks[j]?=some y:=⟨_,List.getElem?_eq_getElem (by have:=uZ.out;omega)⟩;have Hu:=RX.out j y hy;obtain ⟨yn,yt,ya,yk⟩:=y;obtain ⟨g1,o1,u1,u2,rfl,-,hg1,x0,x1,x2,x3,Cn⟩:=iX H2.out hy;obtain ⟨g2,o2,u3,u4,rfl,-,hg2,y0,y1,y2,y3,hR2⟩:=iX H4.out hy;obtain ⟨i1,i2,i3,rfl⟩:=Rd.au Cn.at_
      obtain ⟨i4,i5,i6,rfl⟩:=Rd.au Cn.ks;obtain ⟨j1,j2,j3,rfl⟩:=Rd.au hR2.at_
      obtain ⟨j4,j5,j6,rfl⟩:=Rd.au hR2.ks;have Ea:=BW.out.trans (hbel.mono BW.out.size);have hgc:∀ {b o:Nat} {u:jr1},b<w.heap.size->w.cell? ⟨b,o,none⟩=some u->∀ w',jr0 w.heap.size w w'->w'.cell? ⟨b,o,none⟩=some u:=fun hb h w' hw=>(hw.cell (p:=⟨_,_,none⟩) hb).trans h
      have CK:Hid (∀ w':jqz,jr0 W1.heap.size W1 w'->w'.cell? ⟨S,3,none⟩=some (.slice (some ⟨g1,o1,none⟩) n2 c2)/\w'.cell? ⟨S+1,3,none⟩=some (.slice (some ⟨g2,o2,none⟩) n2 d2)/\w'.cell? ⟨g1,o1+j*4,none⟩=some (.string yn)/\w'.cell? ⟨g1,o1+j*4+1,none⟩=some (.string yt)/\w'.cell? ⟨g1,o1+j*4+2,none⟩=some (.slice i1 i2 i3)/\w'.cell? ⟨g1,o1+j*4+3,none⟩=some (.slice i4 i5 i6) /\
        w'.cell? ⟨g2,o2+j*4,none⟩=some (.string yn)/\w'.cell? ⟨g2,o2+j*4+1,none⟩=some (.string yt)/\w'.cell? ⟨g2,o2+j*4+2,none⟩=some (.slice j1 j2 j3)/\w'.cell? ⟨g2,o2+j*4+3,none⟩=some (.slice j4 j5 j6)):=fun w' hb=>by
       obtain ⟨-,-,-,q3,-,-,-,q7⟩:=CL.out w' hb;have hb2:=BW.out.trans (hb.mono BW.out.size);exact ⟨q3,q7,hgc hg1 x0 w' hb2,hgc hg1 x1 w' hb2,hgc hg1 x2 w' hb2,hgc hg1 x3 w' hb2,hgc hg2 y0 w' hb2,hgc hg2 y1 w' hb2,hgc hg2 y2 w' hb2,hgc hg2 y3 w' hb2⟩
      have S0:=CK.out _ hbel.drew;have hRx:∀ {va vk:jr1},gF (·<w.heap.size) w ya yk va vk->gF (·<wr.drew.heap.size) wr.drew ya yk va vk:=fun h=>h.keep (fun b (hb:b<w.heap.size) _=>⟨Nat.lt_of_lt_of_le hb Ea.size,Ea.block b hb⟩)
      have IC:Hid (Calls Tryz.prog 18 #[.agg #[.string yn,.string yt,.slice i1 i2 i3,.slice i4 i5 i6],.agg #[.string yn,.string yt,.slice j1 j2 j3,.slice j4 j5 j6]] wr.drew (Xd wr.drew)):=IH.out (Nd.mk yn yt ya yk).sz (by omega) (Nd.mk yn yt ya yk) (.slice i1 i2 i3) (.slice i4 i5 i6) (.slice j1 j2 j3) (.slice j4 j5 j6) wr.drew (jnq _) (hRx Cn) (hRx hR2);have D5:=hid hbel.drew;have t1:(j:Int)<(n2:Int):=by omega
      have t2:(0:Int)<=(j:Int):=by omega
      clear hRx Cn hR2 hgc Ea Hu hy x0 x1 x2 x3 y0 y1 y2 y3 e0 e1 e2 e3 f0 f1 f2 f3;obtain ⟨-,-,-,e3,-,-,-,f3⟩:=CL.out _ hbel;go_wp2_with fail
      go_region_held3 (fun w'=>w'.cell? ⟨S,3,none⟩=some (.slice (some ⟨g1,o1,none⟩) n2 c2)/\w'.cell? ⟨S+1,3,none⟩=some (.slice (some ⟨g2,o2,none⟩) n2 d2)/\w'.cell? ⟨g1,o1+j*4,none⟩=some (.string yn)/\w'.cell? ⟨g1,o1+j*4+1,none⟩=some (.string yt)/\w'.cell? ⟨g1,o1+j*4+2,none⟩=some (.slice i1 i2 i3)/\w'.cell? ⟨g1,o1+j*4+3,none⟩=some (.slice i4 i5 i6)/\w'.cell? ⟨g2,o2+j*4,none⟩=some (.string yn)/\w'.cell? ⟨g2,o2+j*4+1,none⟩=some (.string yt)/\w'.cell? ⟨g2,o2+j*4+2,none⟩=some (.slice j1 j2 j3)/\w'.cell? ⟨g2,o2+j*4+3,none⟩=some (.slice j4 j5 j6))
       (with_reducible assumption)
       (first | (go_simp;go_at_call 18;(with_reducible refine IC.out.mono ?_);rintro e w5 ⟨rfl,b5⟩;have B5:=hid (D5.out.trans (b5.mono D5.out.size));have S5:=CK.out w5 B5.out))
      all_goals
       clear b5 S0 S5 IC;go_wp2;go_roundw;case rel=>exact ⟨j+1,by omega,by go_num,B5.out⟩
       case measure=>simp [intOf];omega
     ·have hjl:j=n2:=by omega
      have HB:=hid (BW.out.trans (hbel.mono BW.out.size));clear hbel;go_wp2;go_ret;exact ⟨rfl,HB.out⟩
end Go.Proofs.YtkfnkeflalcphaaGreatDoor

