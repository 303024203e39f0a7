/- Contract of the function collect of html.Blocks (html.Blocks$1): the node of a note comes behind those that there are. -/
import Derived.Test.YtkfnkeflalcphaaGreatDoorKHtM
set_option maxHeartbeats 8000000
set_option maxRecDepth 100000
open Go.Lib (hid)
namespace Go.Proofs.YtkfnkeflalcphaaGreatDoor
open List renaming setIfInBounds_toArray->jD3,set_cons_zero->jD4,set_cons_succ->jD5
open Go.RowKit.Below renaming refl->jD7
open Nat renaming le_refl->jD8,le_trans->jD9
open Go.RowKit renaming Below->jGj
open Go.RowKit
set_option linter.unusedVariables false
set_option linter.unusedSimpArgs false
def BuI (Bb N0:Nat) (L:List Nd) (w:World):Prop:=
 ∃ (wB:World) (rows:List (List Value)) (v:Value),wB.heap.size=N0/\aF 35 4 (fun _=>False) w.heap.size wB (L.map Nd.d) rows v w/\aH Bb v 75 w
structure wS (Bb N0:Nat) (W W':World):Prop where
 os:W'.os=W.os
 tape:W'.tape=W.tape
 output:W'.output=W.output
 size:W.heap.size<=W'.heap.size
 blk:∀ b,b<N0->b≠Bb->W'.heap[b]?=W.heap[b]?
 cel:∀ (b:Nat) (cs:Array Value) (t:TypeId) (g:Nat × Nat),W.heap[b]?=some (Obj.cells cs t g)->t≠75->t≠35->W'.heap[b]?=W.heap[b]?
theorem wS.refl (Bb N0:Nat) (W:World):wS Bb N0 W W:=⟨rfl,rfl,rfl,jD8 _,fun _ _ _=>rfl,fun _ _ _ _ _ _ _=>rfl⟩
theorem wS.trans {Bb N0:Nat} {A B C:World} (h:wS Bb N0 A B) (k:wS Bb N0 B C):wS Bb N0 A C:=
 ⟨k.os.trans h.os,k.tape.trans h.tape,k.output.trans h.output,jD9 h.size k.size,fun b h1 h3=>(k.blk b h1 h3).trans (h.blk b h1 h3),
  fun b cs t g h1 h2 h3=>(k.cel b cs t g ((h.cel b cs t g h1 h2 h3).trans h1) h2 h3).trans (h.cel b cs t g h1 h2 h3)⟩
theorem wS.grown {Bb N0:Nat} {W W':World} {row:Option Nat} (h:W.grownBy W' row) (hS:N0<=W.heap.size) (hr:∀ r,row=some r->N0<=r/\∃ o:Obj,W.heap[r]?=some o/\o.isCells=false):wS Bb N0 W W':=
 ⟨h.os,h.tape,h.output,h.size,fun b h1 _=>h.block b (by omega) (fun e=>by have:=(hr b e.symm).1;omega),fun b cs t g h1 _ _=>h.block b (Array.getElem?_eq_some_iff.1 h1).1 (fun e=>by
  obtain ⟨-,o,k1,k2⟩:=hr b e.symm;rw [h1] at k1;cases k1;cases k2)⟩
theorem wS.obj (Bb N0:Nat) (W:World) (l:Nat) (o o':Obj) (hl:N0<=l) (ho:W.heap[l]?=some o) (hc:o.isCells=false):wS Bb N0 W (W.putObj l o'):=by
 refine ⟨rfl,rfl,rfl,by simp [World.putObj],fun b h1 _=>World.putObj_heap_other (by omega),fun b cs t g h1 _ _=>World.putObj_heap_other ?_⟩;rintro rfl;rw [ho] at h1;cases h1
 cases hc
theorem wS.below {Bb N0 S:Nat} {W W':World} (h:wS Bb N0 W W') (h1:S<=Bb) (h2:Bb<N0):jGj S W W':=⟨h.os,h.tape,h.output,h.size,fun b hb=>h.blk b (by omega) (by omega)⟩
def Tm (w w':World):Prop:=∀ (b:Nat) (o:Obj),w.heap[b]?=some o->o.isCells=false->w'.heap[b]?=some o
def jn8 (Bb N0:Nat) (L:List Nd) (w:World) (e:Ending) (w':World):Prop:=e=.returned (.tuple #[])/\BuI Bb N0 L w'/\wS Bb N0 w w'/\Tm w w'
def OM:Nd:=.mk ⟨#[]⟩ ⟨#[]⟩ [] []
theorem He {Bb N0 n g5 c5:Nat} {L:List Nd} {rows nY:List (List Value)} {v z0 z1 z2 z3:Value} {w y w5 wB:World} {x:Nd} (c0 c1 c2 c3:Value) (hN0:wB.heap.size=N0) (hB:Bb<N0) (hrow:aF 35 4 (fun _=>False) w.heap.size wB (L.map Nd.d) rows v w) (hbx:aH Bb v 75 w) (b0:jGj w.heap.size w y) (aX:aF 35 4 (fun _=>False) w5.heap.size wB (L.map Nd.d++[OM.d]) (nY++[[z0,z1,z2,z3]]) (.slice (some ⟨g5,0,none⟩) (n+1) c5) w5) (hg5:y.grownBy w5 v.ownBlock) (hn:(L.map Nd.d).length=n) (hat:v.ownBlock=some g5\/g5=y.heap.size) (hx:Rd (w.heap.size<=·) y x.d [c0,c1,c2,c3]) : BuI Bb N0 (L++[x]) ((sO w5 g5 (n*4) c0 c1 c2 c3).setCell ⟨Bb,0,none⟩ (.slice (some ⟨g5,0,none⟩) (n+1) c5)) /\ wS Bb N0 w ((sO w5 g5 (n*4) c0 c1 c2 c3).setCell ⟨Bb,0,none⟩ (.slice (some ⟨g5,0,none⟩) (n+1) c5))/\Tm w ((sO w5 g5 (n*4) c0 c1 c2 c3).setCell ⟨Bb,0,none⟩ (.slice (some ⟨g5,0,none⟩) (n+1) c5)):=by
 have hov:∀ g,v.ownBlock=some g->N0<=g/\g<w.heap.size:=fun g hg=>by have:=hrow.own.lt g hg;omega
 have Hf:=hrow.aM.size;have Nh:=b0.size;have Kg:=hg5.size;have hg:(N0<=g5/\g5<w.heap.size)\/g5=y.heap.size:=hat.imp (fun h=>hov g5 h) id;have hBg:Bb≠g5:=by omega
 have hr6:=aX.ZJ hn c0 c1 c2 c3 (d1:=x.d) (Rd.keep (fun b (hb:w.heap.size<=b) hlt=>⟨⟨.inr (by omega),by omega,by omega⟩,hg5.block b hlt (fun e=>by have:=hov b e.symm;omega)⟩) _ _ hx);obtain ⟨w6,pG⟩:∃ w6,w6=sO w5 g5 (n*4) c0 c1 c2 c3:=⟨_,rfl⟩;have hb6:∀ b,b≠g5->w6.heap[b]?=w5.heap[b]?:=fun b hb=>by rw [pG];exact iq _ _ _ _ _ _ _ b hb
 have hz6:w6.heap.size=w5.heap.size:=by rw [pG];simp [sO,World.setCell]
 have ho6:w6.os=w5.os/\w6.tape=w5.tape/\w6.output=w5.output:=by rw [pG];exact ⟨rfl,rfl,rfl⟩
 rw [<- pG] at hr6 ⊢;clear pG;obtain ⟨w7,hw7⟩:∃ w7,w7=w6.setCell ⟨Bb,0,none⟩ (.slice (some ⟨g5,0,none⟩) (n+1) c5):=⟨_,rfl⟩;rw [<- hw7];have hb5:∀ b,b<w.heap.size->v.ownBlock≠some b->w5.heap[b]?=w.heap[b]?:=fun b hb ho=>(hg5.block b (by omega) (fun e=>ho e.symm)).trans (b0.block b hb)
 have hBo:v.ownBlock≠some Bb:=fun e=>by have:=hov Bb e;omega
 have bx6:aH Bb v 75 w6:=(hb6 Bb hBg).trans ((hb5 Bb (by omega) hBo).trans hbx);have bx7:aH Bb (.slice (some ⟨g5,0,none⟩) (n+1) c5) 75 w7:=by rw [hw7];exact bx6.set _
 have g7:w6.grownBy w7 (some Bb):=by rw [hw7];exact ⟨rfl,rfl,rfl,by simp [World.setCell],fun b _ hb=>Below.heap_setCell w6 ⟨Bb,0,none⟩ _ b (fun e=>hb (by rw [e]))⟩
 have hz7:w7.heap.size=w6.heap.size:=by rw [hw7];simp [World.setCell]
 obtain ⟨wB7,hB7,MN⟩:=hr6.hop2 (p:=Bb) (by omega) g7;have Ql:∀ b,b<w.heap.size->b≠Bb->b≠g5->v.ownBlock≠some b->w7.heap[b]?=w.heap[b]?:=fun b h1 h2 h3 h4=>
  (g7.block b (by omega) (fun e=>h2 (Option.some.inj e))).trans ((hb6 b h3).trans (hb5 b h1 h4))
 have hown:∀ g,v.ownBlock=some g->∃ cs gg,w.heap[g]?=some (Obj.cells cs 35 gg):=fun g hg=>by
  rcases hrow.own.2 with ⟨h1,-⟩ | ⟨g',cap,cur,h1,-,h2,-⟩
  ·rw [h1] at hg;cases hg
  ·rw [h1] at hg;have e:g'=g:=by simpa [Value.ownBlock] using hg
   subst e;exact ⟨_,_,h2⟩
 refine ⟨⟨wB7,nY++[[c0,c1,c2,c3]],_,hB7.trans hN0,?_,bx7⟩,⟨?_,?_,?_,by omega,fun b hb hne=>Ql b (by omega) hne (by omega) (fun e=>by have:=hov b e;omega),fun b cs t g hc h1 h2=>?_⟩,fun b o ho hc=>?_⟩
 ·rw [List.map_append];exact MN.up (by omega) (jD8 _)
 ·exact g7.os.trans (ho6.1.trans (hg5.os.trans b0.os))
 ·exact g7.tape.trans (ho6.2.1.trans (hg5.tape.trans b0.tape))
 ·exact g7.output.trans (ho6.2.2.trans (hg5.output.trans b0.output))
 ·have hbw:b<w.heap.size:=(Array.getElem?_eq_some_iff.1 hc).1;have hno:v.ownBlock≠some b:=fun e=>by
   obtain ⟨cs',gg,h⟩:=hown b e;rw [h] at hc;injection hc with hc;injection hc with _ hc;exact h2 hc.symm
  refine Ql b hbw (fun e=>?_) (fun e=>?_) hno
  ·subst e;rw [show w.heap[b]?=_ from hbx] at hc;injection hc with hc;injection hc with _ hc;exact h1 hc.symm
  ·subst e;rcases hat with h | h
   ·exact hno h
   ·omega
 ·have hbw:b<w.heap.size:=(Array.getElem?_eq_some_iff.1 ho).1;have hno:v.ownBlock≠some b:=fun e=>by
   obtain ⟨cs',gg,h⟩:=hown b e;rw [h] at ho;cases ho;cases hc
  refine (Ql b hbw (fun e=>?_) (fun e=>?_) hno).trans ho
  ·subst e;rw [show w.heap[b]?=_ from hbx] at ho;cases ho;cases hc
  ·subst e;rcases hat with h | h
   ·exact hno h
   ·omega
theorem Tn{P:Prop}(h:P:=by
 clear bN;refine hK.out _ _ (fun _ _=>SF.out y3 qo.out) (fun hH2=>?_);clear hK KQ hH;have hH:=hH2 (by decide) (by kernel_rfl);clear hH2;try simp only [Act.put,List.setIfInBounds_toArray,List.set_cons_zero,List.set_cons_succ]
 refine fH (i:=10) rfl (by kernel_rfl) (fun KQ hK=>?_);go_simp;go_at_call 38
 (with_reducible refine (KC.out y3 qo.out).mono ?_)
 rintro e y4 ⟨dD,v3,rfl,hrow3⟩;obtain ⟨a3,n3,c3,rfl⟩:=hrow3.slice3;have bN:=hrow3.aM;have Tq:=hid (show Rd (W0.heap.size<=·) y4 (gD (ah.aV ks)) [.slice a3 n3 c3] from hrow3.bZ.weaken (fun b hb=>Nat.le_trans qo.out.size hb));clear hrow3;have mW:Hid (Below W0.heap.size W0 y4):=qo.out.trans (bN.mono qo.out.size);have Tt:=hid (Hg.out.bC bN);have Tv:=hid (vV.out.bC bN);clear bN;refine hK.out _ _ (fun _ _=>SF.out y4 mW.out) (fun hH2=>?_);clear hK KQ hH;have hH:=hH2 (by decide) (by kernel_rfl);clear hH2;try simp only [Act.put,List.setIfInBounds_toArray,List.set_cons_zero,List.set_cons_succ]
 refine fH (i:=11) rfl (by kernel_rfl) (fun KQ hK=>?_);go_simp;go_at_call 40
 (with_reducible refine (l7 ⟨#[100,105,118]⟩ a2 a3 2 n3 c2 c3 y4).mono ?_)
 rintro e y5 ⟨rfl,bN⟩;have zB:=hid (show Rd (W0.heap.size<=·) y5 (aJ jS [⟨jT,Bw++i⟩,⟨dx,dO⟩] (ah.aV ks)).d [.string ⟨#[100,105,118]⟩,.string ⟨#[]⟩,.slice a2 2 c2,.slice a3 n3 c3] from Nd.dJ ⟨#[100,105,118]⟩ ⟨#[]⟩ ⟨Tv.out.bC bN,Tq.out.bC bN⟩);have sV:Hid (Below W0.heap.size W0 y5):=mW.out.trans (bN.mono mW.out.size);have zC:=hid (Tt.out.bC bN);clear bN;refine hK.out _ _ (fun _ _=>SF.out y5 sV.out) (fun hH2=>?_);clear hK KQ hH;have hH:=hH2 (by decide) (by kernel_rfl);clear hH2;try simp only [Act.put,List.setIfInBounds_toArray,List.set_cons_zero,List.set_cons_succ]
 exact REST y5 p6 a2 c2 a3 n3 c3 pz ⟨hH,sV,zC,zB⟩):P:=h
theorem jbx{P Q:Prop}(q:Q)(h:Nonempty Q->P:=by
 intro qQ;have bN:=hrow2.aM;have vV:=hid (show Rd (W0.heap.size<=·) y3 (q32 [⟨jT,Bw++i⟩,⟨dx,dO⟩]) [.slice a2 2 c2] from hrow2.bZ.weaken (fun b hb=>jD9 lX.out.size hb));have qo:Hid (jGj W0.heap.size W0 y3):=lX.out.trans (bN.mono lX.out.size);have Hg:=hid (jbz.out.bC bN);revert bN vV qo Hg;exact qQ.elim fun x=>x):P:=h ⟨q⟩
theorem jc0{P Q:Prop}(q:Q)(h:Nonempty Q->P:=by
 intro qQ;refine fH (i:=7) rfl (by kernel_rfl) (fun KQ hK=>?_);go_simp;go_at_call 41
 (with_reducible refine (l8 [⟨jT,Bw++i⟩,⟨dx,dO⟩] (.slice (some ⟨p6,0,none⟩) 4 4) y2 jc1.out (by simp)).mono ?_)
 revert KQ hK;exact qQ.elim fun x=>x):P:=h ⟨q⟩
theorem G8 (Bb N0:Nat) (L:List Nd) (k lv:Int) (i t d ti:ByteArray) (at_:At) (li:List aj) (ks:List ah) (vc vp vl vk:Value) (w:World) (hB:Bb<N0) (hR:eP (·<Bb) w at_ li ks vc vp vl vk) (hwk:ah.lC ks) (hsz:ah.aY ks<=900000) (hi:i.size<=300) (ht:PT w) (hL:L.length<=1000000) (h:BuI Bb N0 L w) : Calls Tryz.prog 39 #[.agg #[.int .i64 k,.int .i64 lv,.string i,.string t,.string d,.string ti,.string at_.id,vc,vp,vl,vk],.pointer (some ⟨Bb,0,none⟩)] w (jn8 Bb N0 (L++[aJ jS [⟨jT,Bw++i⟩,⟨dx,dO⟩] (ah.aV ks)]) w):=by
 obtain ⟨iN,qB,fC,fD,fE⟩:=info_parts gY;obtain ⟨ac,nc,cc,rfl⟩:=Rd.au hR.at_.cls
 obtain ⟨ap,np,cp,rfl⟩:=Rd.au hR.at_.aD
 obtain ⟨al,nl,cl,rfl⟩:=Rd.au hR.line;obtain ⟨ak,nk,ck,rfl⟩:=Rd.au hR.kids;obtain ⟨wB,rows,v,hN0,hrow,hbx⟩:=h;obtain ⟨n,hn⟩:∃ n,n=(L.map Nd.d).length:=⟨_,rfl⟩;have hn1:n<=1000000:=by rw [hn,List.length_map];exact hL
 obtain ⟨av,cv,rfl,-,-⟩:=hrow.cap hn.symm;obtain ⟨S,hS⟩:∃ S,S=w.heap.size:=⟨_,rfl⟩;obtain ⟨W0,hW0⟩:∃ W0,W0=w.alloc (.cells #[.int .i64 k,.int .i64 lv,.string i,.string t,.string d,.string ti,.string at_.id,.slice ac nc cc,.slice ap np cp,.slice al nl cl,.slice ak nk ck] 48):=⟨_,rfl⟩;have k0:CB 48 S [.int .i64 k,.int .i64 lv,.string i,.string t,.string d,.string ti,.string at_.id,.slice ac nc cc,.slice ap np cp,.slice al nl cl,.slice ak nk ck] W0:=by rw [hW0,hS];exact CB.new _ _ w
 have b0:jGj w.heap.size w W0:=by rw [hW0];exact (jD7 _ _).alloc (jD8 _) _
 have z0:W0.heap.size=S+1:=by rw [hW0,World.size_alloc,hS]
 have Hf:=hrow.aM.size;have hov:∀ g,(Value.slice av n cv).ownBlock=some g->N0<=g/\g<S:=fun g hg=>by have:=hrow.own.lt g hg;omega
 have hBS:Bb<S:=by omega
 have SF:Hid (∀ y:World,jGj W0.heap.size W0 y->y.cell? ⟨Bb,0,none⟩=some (.slice av n cv)/\y.cell? ⟨S,2,none⟩=some (.string i)/\y.cell? ⟨S,10,none⟩=some (.slice ak nk ck)):=fun y hb=>
  ⟨((hbx.below (by omega) b0).below (B:=W0.heap.size) (by omega) hb).cell,(k0.below hb).cell 2 _ rfl,(k0.below hb).cell 10 _ rfl⟩
 have KC:Hid (∀ y:World,jGj W0.heap.size W0 y->Calls Tryz.prog 38 #[.pointer (some ⟨Bb,0,none⟩),.slice ak nk ck] y (aO y (ah.aV ks))):=fun y hy=>by
  have hb:=b0.trans (hy.mono b0.size);exact vT _ 900000 ks _ y hsz (by decide) (Rd.keep (w:=w) (w':=y) (ok:=(·<Bb)) (fun b (hb':b<Bb) hlt=>⟨by show b<y.heap.size;have:=hb.size;omega,hb.block b (by omega)⟩) _ _ hR.kids) hwk (ht.below hb)
 have q5:(⟨#[110,111,116,101,45]⟩:ByteArray).size+i.size<=9223372036854775807:=by have:(⟨#[110,111,116,101,45]⟩:ByteArray).size=5:=rfl;omega
 have q6:5+i.size<=9223372036854775807:=by omega
 have hadd:∀ w:World,(Op.stringOp .add (⟨#[110,111,116,101,45]⟩:ByteArray) i).run Tryz.prog w=.ok (.string (⟨#[110,111,116,101,45]⟩++i)) w:=fun w=>run_string_add_sum w _ _ q5
 have HM:=hid hn.symm;have bg:=hid hrow;have pY:=hid hbx;have J5:=hid hov;have HN0:=hid hN0;have B0:=hid b0;have HS:=hid hS;have Z0:=hid z0;clear hR hwk hsz hi ht hL hrow hbx hn hN0 k0 b0 z0 hov Hf;go_enter Tryz.func39,Tryz.ntmps39;go_upto_region 1 with (fail)
 rw [<- hW0,<- hS];clear hW0 hS;refine Je 19 (fun w'=>w'.cell? ⟨Bb,0,none⟩=some (.slice av n cv)/\w'.cell? ⟨S,2,none⟩=some (.string i)/\w'.cell? ⟨S,10,none⟩=some (.slice ak nk ck)) (by kernel_rfl) (SF.out W0.drew (jD7 _ _).drew) ?_;intro hH;apply js8 (α1:=World) (α2:=Nat) (α3:=Option Addr) (α4:=Nat) (α5:=Option Addr) (α6:=Nat) (α7:=Nat) (α8:=Nat) (R:=fun y5 p6 a2 c2 a3 n3 c3 pz=>(y5.cell? ⟨Bb,0,none⟩=some (.slice av n cv)/\y5.cell? ⟨S,2,none⟩=some (.string i)/\y5.cell? ⟨S,10,none⟩=some (.slice ak nk ck))/\Hid (jGj W0.heap.size W0 y5)/\Hid (Rd (W0.heap.size<=·) y5 (.sl 4 [OM.d]) [.slice (some ⟨pz,0,none⟩) 1 1])/\Hid (Rd (W0.heap.size<=·) y5 (aJ jS [⟨jT,Bw++i⟩,⟨dx,dO⟩] (ah.aV ks)).d [.string ⟨#[100,105,118]⟩,.string ⟨#[]⟩,.slice a2 2 c2,.slice a3 n3 c3]));case hm=>
  intro REST;refine eY 0 rfl (by kernel_rfl) hH (by rfl) (by intro wv hSw;obtain ⟨cb,c2,c10⟩:=hSw;go_simp;try with_reducible rfl) ?_;refine eY 1 rfl (by kernel_rfl) hH (by rfl) (by intro wv hSw;obtain ⟨cb,c2,c10⟩:=hSw;go_simp;try with_reducible rfl) ?_;refine eY 2 rfl (by kernel_rfl) hH (by rfl) (by intro wv hSw;obtain ⟨cb,c2,c10⟩:=hSw;go_simp;try with_reducible rfl) ?_;refine eY 3 rfl (by kernel_rfl) hH (by rfl) (by intro wv hSw;obtain ⟨cb,c2,c10⟩:=hSw;go_simp;try with_reducible rfl) ?_;refine eY 4 rfl (by kernel_rfl) hH (by rfl) (by intro wv hSw;obtain ⟨cb,c2,c10⟩:=hSw;go_simp;try with_reducible rfl) ?_;refine eY 5 rfl (by kernel_rfl) hH (by rfl) (by intro wv hSw;obtain ⟨cb,c2,c10⟩:=hSw;go_simp;try with_reducible rfl) ?_;refine eY 8 rfl (by kernel_rfl) hH (by rfl) (by intro wv hSw;obtain ⟨cb,c2,c10⟩:=hSw;go_simp;try with_reducible rfl) ?_;refine eY 9 rfl (by kernel_rfl) hH (by rfl) (by intro wv hSw;obtain ⟨cb,c2,c10⟩:=hSw;go_simp;try with_reducible rfl) ?_;refine eY 12 rfl (by kernel_rfl) hH (by rfl) (by intro wv hSw;obtain ⟨cb,c2,c10⟩:=hSw;go_simp;try with_reducible rfl) ?_;try simp only [Act.put,jD3,jD4,jD5]
  obtain ⟨y0,hy0⟩:∃ y0,y0=W0.drew:=⟨_,rfl⟩;have Tw:Hid (jGj W0.heap.size W0 y0):=by rw [hy0];exact (jD7 _ _).drew
  rw [<- hy0] at hH;rw [<- hy0];clear hy0;refine ML (i:=6) (j:=13) rfl rfl (by kernel_rfl) (fun KQ hK=>?_) (fun KQ hK=>?_)
  ·go_simp;obtain ⟨y1,hN⟩:∃ z,z=y0.alloc (.cells ([⟨#[105,100]⟩,⟨#[110,111,116,101,45]⟩++i,⟨#[99,108,97,115,115]⟩,⟨#[110,111,116,101]⟩].map Value.string).toArray 9):=⟨_,rfl⟩;obtain ⟨p6,hf⟩:∃ z,z=y0.heap.size:=⟨_,rfl⟩;have LSX:=sS [⟨#[105,100]⟩,⟨#[110,111,116,101,45]⟩++i,⟨#[99,108,97,115,115]⟩,⟨#[110,111,116,101]⟩] y0 (by show 4<=maxLen;unfold maxLen;decide);rw [<- hN,<- hf] at LSX;have jc2:=hid (show Rd (·<y1.heap.size) y1 (jZ (og [⟨jT,Bw++i⟩,⟨dx,dO⟩])) [.slice (some ⟨p6,0,none⟩) 4 4] from LSX);have bN:jGj y0.heap.size y0 y1:=by rw [hN];exact (jD7 _ _).alloc (jD8 _) _
   simp only [List.map_cons,List.map_nil] at hN;rw [<- hN,<- hf];clear hN hf LSX;have zD:Hid (jGj W0.heap.size W0 y1):=Tw.out.trans (bN.mono Tw.out.size);clear bN;refine hK.out _ _ (fun _ _=>SF.out y1 zD.out) (fun hH2=>?_);clear hK KQ hH;have hH:=hH2 (by decide) (by kernel_rfl);clear hH2;try simp only [Act.put,jD3,jD4,jD5]
   refine ML (i:=7) (j:=13) rfl rfl (by kernel_rfl) (fun KQ hK=>?_) (fun KQ hK=>?_)
   ·go_simp;go_at_call 41
    (with_reducible refine (l8 [⟨jT,Bw++i⟩,⟨dx,dO⟩] (.slice (some ⟨p6,0,none⟩) 4 4) y1 jc2.out (by simp)).mono ?_)
    rintro e y2 ⟨aZ,v2,rfl,hrow2⟩;obtain ⟨a2,c2,rfl,-,-⟩:=hrow2.cap (n:=2) rfl;have bN:=hrow2.aM;have Hl:=hid (show Rd (W0.heap.size<=·) y2 (q32 [⟨jT,Bw++i⟩,⟨dx,dO⟩]) [.slice a2 2 c2] from hrow2.bZ.weaken (fun b hb=>jD9 zD.out.size hb));clear hrow2;have lX:Hid (jGj W0.heap.size W0 y2):=zD.out.trans (bN.mono zD.out.size);clear bN;refine hK.out _ _ (fun _ _=>SF.out y2 lX.out) (fun hH2=>?_);clear hK KQ hH;have hH:=hH2 (by decide) (by kernel_rfl);clear hH2;try simp only [Act.put,jD3,jD4,jD5]
    refine ML (i:=10) (j:=13) rfl rfl (by kernel_rfl) (fun KQ hK=>?_) (fun KQ hK=>?_)
    ·go_simp;go_at_call 38
     (with_reducible refine (KC.out y2 lX.out).mono ?_)
     rintro e y3 ⟨dD,v3,rfl,hrow3⟩;obtain ⟨a3,n3,c3,rfl⟩:=hrow3.slice3;have bN:=hrow3.aM;have jc3:=hid (show Rd (W0.heap.size<=·) y3 (gD (ah.aV ks)) [.slice a3 n3 c3] from hrow3.bZ.weaken (fun b hb=>jD9 lX.out.size hb));clear hrow3;have qo:Hid (jGj W0.heap.size W0 y3):=lX.out.trans (bN.mono lX.out.size);have vV:=hid (Hl.out.bC bN);clear bN;refine hK.out _ _ (fun _ _=>SF.out y3 qo.out) (fun hH2=>?_);clear hK KQ hH;have hH:=hH2 (by decide) (by kernel_rfl);clear hH2;try simp only [Act.put,jD3,jD4,jD5]
     refine ML (i:=11) (j:=13) rfl rfl (by kernel_rfl) (fun KQ hK=>?_) (fun KQ hK=>?_)
     ·go_simp;go_at_call 40
      (with_reducible refine (l7 ⟨#[100,105,118]⟩ a2 a3 2 n3 c2 c3 y3).mono ?_)
      rintro e y4 ⟨rfl,bN⟩;have js9:=hid (show Rd (W0.heap.size<=·) y4 (aJ jS [⟨jT,Bw++i⟩,⟨dx,dO⟩] (ah.aV ks)).d [.string ⟨#[100,105,118]⟩,.string ⟨#[]⟩,.slice a2 2 c2,.slice a3 n3 c3] from Nd.dJ ⟨#[100,105,118]⟩ ⟨#[]⟩ ⟨vV.out.bC bN,jc3.out.bC bN⟩);have mW:Hid (jGj W0.heap.size W0 y4):=qo.out.trans (bN.mono qo.out.size);clear bN;refine hK.out _ _ (fun _ _=>SF.out y4 mW.out) (fun hH2=>?_);clear hK KQ hH;have hH:=hH2 (by decide) (by kernel_rfl);clear hH2;try simp only [Act.put,jD3,jD4,jD5]
      refine fH (i:=13) rfl (by kernel_rfl) (fun KQ hK=>?_);go_simp;obtain ⟨y5,hN⟩:∃ z,z=y4.alloc (.cells [Value.string ⟨#[]⟩,.string ⟨#[]⟩,.slice none 0 0,.slice none 0 0].toArray 35):=⟨_,rfl⟩;obtain ⟨pz,hf⟩:∃ z,z=y4.heap.size:=⟨_,rfl⟩;have EM:=(aF.one (T:=35) (k:=4) (w:=y4) (d:=OM.d) (r:=[Value.string ⟨#[]⟩,.string ⟨#[]⟩,.slice none 0 0,.slice none 0 0]) rfl (Nd.dJ ⟨#[]⟩ ⟨#[]⟩ ⟨Rd.aC _ _ _,Rd.aC _ _ _⟩)).bZ;rw [<- hN,<- hf] at EM;have zC:=hid (show Rd (W0.heap.size<=·) y5 (.sl 4 [OM.d]) [.slice (some ⟨pz,0,none⟩) 1 1] from EM.weaken (fun b (hb:pz<=b)=>by have:=mW.out.size;omega));have bN:jGj y4.heap.size y4 y5:=by rw [hN];exact (jD7 _ _).alloc (jD8 _) _
      rw [<- hN,<- hf];clear hN hf EM;have sV:Hid (jGj W0.heap.size W0 y5):=mW.out.trans (bN.mono mW.out.size);have zB:=hid (js9.out.bC bN);clear bN;refine hK.out _ _ (fun _ _=>SF.out y5 sV.out) (fun hH2=>?_);clear hK KQ hH;have hH:=hH2 (by decide) (by kernel_rfl);clear hH2;try simp only [Act.put,jD3,jD4,jD5]
      exact REST y5 p6 a2 c2 a3 n3 c3 pz ⟨hH,sV,zC,zB⟩
     ·go_simp;obtain ⟨y4,hN⟩:∃ z,z=y3.alloc (.cells [Value.string ⟨#[]⟩,.string ⟨#[]⟩,.slice none 0 0,.slice none 0 0].toArray 35):=⟨_,rfl⟩;obtain ⟨pz,hf⟩:∃ z,z=y3.heap.size:=⟨_,rfl⟩;have EM:=(aF.one (T:=35) (k:=4) (w:=y3) (d:=OM.d) (r:=[Value.string ⟨#[]⟩,.string ⟨#[]⟩,.slice none 0 0,.slice none 0 0]) rfl (Nd.dJ ⟨#[]⟩ ⟨#[]⟩ ⟨Rd.aC _ _ _,Rd.aC _ _ _⟩)).bZ;rw [<- hN,<- hf] at EM;have Tt:=hid (show Rd (W0.heap.size<=·) y4 (.sl 4 [OM.d]) [.slice (some ⟨pz,0,none⟩) 1 1] from EM.weaken (fun b (hb:pz<=b)=>by have:=qo.out.size;omega));have bN:jGj y3.heap.size y3 y4:=by rw [hN];exact (jD7 _ _).alloc (jD8 _) _
      rw [<- hN,<- hf];clear hN hf EM;have mW:Hid (jGj W0.heap.size W0 y4):=qo.out.trans (bN.mono qo.out.size);have Tq:=hid (jc3.out.bC bN);have Tv:=hid (vV.out.bC bN);clear bN;refine hK.out _ _ (fun _ _=>SF.out y4 mW.out) (fun hH2=>?_);clear hK KQ hH;have hH:=hH2 (by decide) (by kernel_rfl);clear hH2;try simp only [Act.put,jD3,jD4,jD5]
      refine fH (i:=11) rfl (by kernel_rfl) (fun KQ hK=>?_);go_simp;go_at_call 40
      (with_reducible refine (l7 ⟨#[100,105,118]⟩ a2 a3 2 n3 c2 c3 y4).mono ?_)
      rintro e y5 ⟨rfl,bN⟩;have zB:=hid (show Rd (W0.heap.size<=·) y5 (aJ jS [⟨jT,Bw++i⟩,⟨dx,dO⟩] (ah.aV ks)).d [.string ⟨#[100,105,118]⟩,.string ⟨#[]⟩,.slice a2 2 c2,.slice a3 n3 c3] from Nd.dJ ⟨#[100,105,118]⟩ ⟨#[]⟩ ⟨Tv.out.bC bN,Tq.out.bC bN⟩);have sV:Hid (jGj W0.heap.size W0 y5):=mW.out.trans (bN.mono mW.out.size);have zC:=hid (Tt.out.bC bN);clear bN;refine hK.out _ _ (fun _ _=>SF.out y5 sV.out) (fun hH2=>?_);clear hK KQ hH;have hH:=hH2 (by decide) (by kernel_rfl);clear hH2;try simp only [Act.put,jD3,jD4,jD5]
      exact REST y5 p6 a2 c2 a3 n3 c3 pz ⟨hH,sV,zC,zB⟩
    ·go_simp;obtain ⟨y3,hN⟩:∃ z,z=y2.alloc (.cells [Value.string ⟨#[]⟩,.string ⟨#[]⟩,.slice none 0 0,.slice none 0 0].toArray 35):=⟨_,rfl⟩;obtain ⟨pz,hf⟩:∃ z,z=y2.heap.size:=⟨_,rfl⟩;have EM:=(aF.one (T:=35) (k:=4) (w:=y2) (d:=OM.d) (r:=[Value.string ⟨#[]⟩,.string ⟨#[]⟩,.slice none 0 0,.slice none 0 0]) rfl (Nd.dJ ⟨#[]⟩ ⟨#[]⟩ ⟨Rd.aC _ _ _,Rd.aC _ _ _⟩)).bZ;rw [<- hN,<- hf] at EM;have Hg:=hid (show Rd (W0.heap.size<=·) y3 (.sl 4 [OM.d]) [.slice (some ⟨pz,0,none⟩) 1 1] from EM.weaken (fun b (hb:pz<=b)=>by have:=lX.out.size;omega));have bN:jGj y2.heap.size y2 y3:=by rw [hN];exact (jD7 _ _).alloc (jD8 _) _
     rw [<- hN,<- hf];clear hN hf EM;have qo:Hid (jGj W0.heap.size W0 y3):=lX.out.trans (bN.mono lX.out.size);have vV:=hid (Hl.out.bC bN);clear bN;refine hK.out _ _ (fun _ _=>SF.out y3 qo.out) (fun hH2=>?_);clear hK KQ hH;have hH:=hH2 (by decide) (by kernel_rfl);clear hH2;try simp only [Act.put,jD3,jD4,jD5]
     refine fH (i:=10) rfl (by kernel_rfl) (fun KQ hK=>?_);go_simp;go_at_call 38
     (with_reducible refine (KC.out y3 qo.out).mono ?_)
     rintro e y4 ⟨dD,v3,rfl,hrow3⟩;obtain ⟨a3,n3,c3,rfl⟩:=hrow3.slice3;have bN:=hrow3.aM;have Tq:=hid (show Rd (W0.heap.size<=·) y4 (gD (ah.aV ks)) [.slice a3 n3 c3] from hrow3.bZ.weaken (fun b hb=>jD9 qo.out.size hb));clear hrow3;have mW:Hid (jGj W0.heap.size W0 y4):=qo.out.trans (bN.mono qo.out.size);have Tt:=hid (Hg.out.bC bN);have Tv:=hid (vV.out.bC bN);clear bN;refine hK.out _ _ (fun _ _=>SF.out y4 mW.out) (fun hH2=>?_);clear hK KQ hH;have hH:=hH2 (by decide) (by kernel_rfl);clear hH2;try simp only [Act.put,jD3,jD4,jD5]
     refine fH (i:=11) rfl (by kernel_rfl) (fun KQ hK=>?_);go_simp;go_at_call 40
     (with_reducible refine (l7 ⟨#[100,105,118]⟩ a2 a3 2 n3 c2 c3 y4).mono ?_)
     rintro e y5 ⟨rfl,bN⟩;have zB:=hid (show Rd (W0.heap.size<=·) y5 (aJ jS [⟨jT,Bw++i⟩,⟨dx,dO⟩] (ah.aV ks)).d [.string ⟨#[100,105,118]⟩,.string ⟨#[]⟩,.slice a2 2 c2,.slice a3 n3 c3] from Nd.dJ ⟨#[100,105,118]⟩ ⟨#[]⟩ ⟨Tv.out.bC bN,Tq.out.bC bN⟩);have sV:Hid (jGj W0.heap.size W0 y5):=mW.out.trans (bN.mono mW.out.size);have zC:=hid (Tt.out.bC bN);clear bN;refine hK.out _ _ (fun _ _=>SF.out y5 sV.out) (fun hH2=>?_);clear hK KQ hH;have hH:=hH2 (by decide) (by kernel_rfl);clear hH2;try simp only [Act.put,jD3,jD4,jD5]
     exact REST y5 p6 a2 c2 a3 n3 c3 pz ⟨hH,sV,zC,zB⟩
   ·go_simp;obtain ⟨y2,hN⟩:∃ z,z=y1.alloc (.cells [Value.string ⟨#[]⟩,.string ⟨#[]⟩,.slice none 0 0,.slice none 0 0].toArray 35):=⟨_,rfl⟩;obtain ⟨pz,hf⟩:∃ z,z=y1.heap.size:=⟨_,rfl⟩;have EM:=(aF.one (T:=35) (k:=4) (w:=y1) (d:=OM.d) (r:=[Value.string ⟨#[]⟩,.string ⟨#[]⟩,.slice none 0 0,.slice none 0 0]) rfl (Nd.dJ ⟨#[]⟩ ⟨#[]⟩ ⟨Rd.aC _ _ _,Rd.aC _ _ _⟩)).bZ;rw [<- hN,<- hf] at EM;have jbz:=hid (show Rd (W0.heap.size<=·) y2 (.sl 4 [OM.d]) [.slice (some ⟨pz,0,none⟩) 1 1] from EM.weaken (fun b (hb:pz<=b)=>by have:=zD.out.size;omega));have bN:jGj y1.heap.size y1 y2:=by rw [hN];exact (jD7 _ _).alloc (jD8 _) _
    rw [<- hN,<- hf];clear hN hf EM;have lX:Hid (jGj W0.heap.size W0 y2):=zD.out.trans (bN.mono zD.out.size);have jc1:=hid (jc2.out.up bN);clear bN;refine hK.out _ _ (fun _ _=>SF.out y2 lX.out) (fun hH2=>?_);clear hK KQ hH;have hH:=hH2 (by decide) (by kernel_rfl);clear hH2;try simp only [Act.put,jD3,jD4,jD5]
    refine fH (i:=7) rfl (by kernel_rfl) (fun KQ hK=>?_);go_simp;go_at_call 41
    (with_reducible refine (l8 [⟨jT,Bw++i⟩,⟨dx,dO⟩] (.slice (some ⟨p6,0,none⟩) 4 4) y2 jc1.out (by simp)).mono ?_)
    rintro e y3 ⟨aZ,v2,rfl,hrow2⟩;obtain ⟨a2,c2,rfl,-,-⟩:=hrow2.cap (n:=2) rfl;have bN:=hrow2.aM;have vV:=hid (show Rd (W0.heap.size<=·) y3 (q32 [⟨jT,Bw++i⟩,⟨dx,dO⟩]) [.slice a2 2 c2] from hrow2.bZ.weaken (fun b hb=>jD9 lX.out.size hb));clear hrow2;have qo:Hid (jGj W0.heap.size W0 y3):=lX.out.trans (bN.mono lX.out.size);have Hg:=hid (jbz.out.bC bN);clear bN;refine hK.out _ _ (fun _ _=>SF.out y3 qo.out) (fun hH2=>?_);clear hK KQ hH;have hH:=hH2 (by decide) (by kernel_rfl);clear hH2;try simp only [Act.put,jD3,jD4,jD5]
    refine fH (i:=10) rfl (by kernel_rfl) (fun KQ hK=>?_);go_simp;go_at_call 38
    (with_reducible refine (KC.out y3 qo.out).mono ?_)
    rintro e y4 ⟨dD,v3,rfl,hrow3⟩;obtain ⟨a3,n3,c3,rfl⟩:=hrow3.slice3;have bN:=hrow3.aM;have Tq:=hid (show Rd (W0.heap.size<=·) y4 (gD (ah.aV ks)) [.slice a3 n3 c3] from hrow3.bZ.weaken (fun b hb=>jD9 qo.out.size hb));clear hrow3;have mW:Hid (jGj W0.heap.size W0 y4):=qo.out.trans (bN.mono qo.out.size);have Tt:=hid (Hg.out.bC bN);have Tv:=hid (vV.out.bC bN);clear bN;refine hK.out _ _ (fun _ _=>SF.out y4 mW.out) (fun hH2=>?_);clear hK KQ hH;have hH:=hH2 (by decide) (by kernel_rfl);clear hH2;try simp only [Act.put,jD3,jD4,jD5]
    refine fH (i:=11) rfl (by kernel_rfl) (fun KQ hK=>?_);go_simp;go_at_call 40
    (with_reducible refine (l7 ⟨#[100,105,118]⟩ a2 a3 2 n3 c2 c3 y4).mono ?_)
    rintro e y5 ⟨rfl,bN⟩;have zB:=hid (show Rd (W0.heap.size<=·) y5 (aJ jS [⟨jT,Bw++i⟩,⟨dx,dO⟩] (ah.aV ks)).d [.string ⟨#[100,105,118]⟩,.string ⟨#[]⟩,.slice a2 2 c2,.slice a3 n3 c3] from Nd.dJ ⟨#[100,105,118]⟩ ⟨#[]⟩ ⟨Tv.out.bC bN,Tq.out.bC bN⟩);have sV:Hid (jGj W0.heap.size W0 y5):=mW.out.trans (bN.mono mW.out.size);have zC:=hid (Tt.out.bC bN);clear bN;refine hK.out _ _ (fun _ _=>SF.out y5 sV.out) (fun hH2=>?_);clear hK KQ hH;have hH:=hH2 (by decide) (by kernel_rfl);clear hH2;try simp only [Act.put,jD3,jD4,jD5]
    exact REST y5 p6 a2 c2 a3 n3 c3 pz ⟨hH,sV,zC,zB⟩
  ·go_simp;obtain ⟨y1,hN⟩:∃ z,z=y0.alloc (.cells [Value.string ⟨#[]⟩,.string ⟨#[]⟩,.slice none 0 0,.slice none 0 0].toArray 35):=⟨_,rfl⟩;obtain ⟨pz,hf⟩:∃ z,z=y0.heap.size:=⟨_,rfl⟩;have EM:=(aF.one (T:=35) (k:=4) (w:=y0) (d:=OM.d) (r:=[Value.string ⟨#[]⟩,.string ⟨#[]⟩,.slice none 0 0,.slice none 0 0]) rfl (Nd.dJ ⟨#[]⟩ ⟨#[]⟩ ⟨Rd.aC _ _ _,Rd.aC _ _ _⟩)).bZ;rw [<- hN,<- hf] at EM;have jsj:=hid (show Rd (W0.heap.size<=·) y1 (.sl 4 [OM.d]) [.slice (some ⟨pz,0,none⟩) 1 1] from EM.weaken (fun b (hb:pz<=b)=>by have:=Tw.out.size;omega));have bN:jGj y0.heap.size y0 y1:=by rw [hN];exact (jD7 _ _).alloc (jD8 _) _
   rw [<- hN,<- hf];clear hN hf EM;have zD:Hid (jGj W0.heap.size W0 y1):=Tw.out.trans (bN.mono Tw.out.size);clear bN;refine hK.out _ _ (fun _ _=>SF.out y1 zD.out) (fun hH2=>?_);clear hK KQ hH;have hH:=hH2 (by decide) (by kernel_rfl);clear hH2;try simp only [Act.put,jD3,jD4,jD5]
   refine fH (i:=6) rfl (by kernel_rfl) (fun KQ hK=>?_);go_simp;obtain ⟨y2,hN⟩:∃ z,z=y1.alloc (.cells ([⟨#[105,100]⟩,⟨#[110,111,116,101,45]⟩++i,⟨#[99,108,97,115,115]⟩,⟨#[110,111,116,101]⟩].map Value.string).toArray 9):=⟨_,rfl⟩;obtain ⟨p6,hf⟩:∃ z,z=y1.heap.size:=⟨_,rfl⟩;have LSX:=sS [⟨#[105,100]⟩,⟨#[110,111,116,101,45]⟩++i,⟨#[99,108,97,115,115]⟩,⟨#[110,111,116,101]⟩] y1 (by show 4<=maxLen;unfold maxLen;decide);rw [<- hN,<- hf] at LSX;have jc1:=hid (show Rd (·<y2.heap.size) y2 (jZ (og [⟨jT,Bw++i⟩,⟨dx,dO⟩])) [.slice (some ⟨p6,0,none⟩) 4 4] from LSX);have bN:jGj y1.heap.size y1 y2:=by rw [hN];exact (jD7 _ _).alloc (jD8 _) _
   simp only [List.map_cons,List.map_nil] at hN;rw [<- hN,<- hf];clear hN hf LSX;have lX:Hid (jGj W0.heap.size W0 y2):=zD.out.trans (bN.mono zD.out.size);have jbz:=hid (jsj.out.bC bN);clear bN;refine hK.out _ _ (fun _ _=>SF.out y2 lX.out) (fun hH2=>?_);clear hK KQ hH;have hH:=hH2 (by decide) (by kernel_rfl);clear hH2;try simp only [Act.put,jD3,jD4,jD5]
   refine fH (i:=7) rfl (by kernel_rfl) (fun KQ hK=>?_);go_simp;go_at_call 41
   (with_reducible refine (l8 [⟨jT,Bw++i⟩,⟨dx,dO⟩] (.slice (some ⟨p6,0,none⟩) 4 4) y2 jc1.out (by simp)).mono ?_)
   rintro e y3 ⟨aZ,v2,rfl,hrow2⟩;obtain ⟨a2,c2,rfl,-,-⟩:=hrow2.cap (n:=2) rfl;have bN:=hrow2.aM;have vV:=hid (show Rd (W0.heap.size<=·) y3 (q32 [⟨jT,Bw++i⟩,⟨dx,dO⟩]) [.slice a2 2 c2] from hrow2.bZ.weaken (fun b hb=>jD9 lX.out.size hb));clear hrow2;have qo:Hid (jGj W0.heap.size W0 y3):=lX.out.trans (bN.mono lX.out.size);have Hg:=hid (jbz.out.bC bN);clear bN;refine hK.out _ _ (fun _ _=>SF.out y3 qo.out) (fun hH2=>?_);clear hK KQ hH;have hH:=hH2 (by decide) (by kernel_rfl);clear hH2;try simp only [Act.put,jD3,jD4,jD5]
   refine fH (i:=10) rfl (by kernel_rfl) (fun KQ hK=>?_);go_simp;go_at_call 38
   (with_reducible refine (KC.out y3 qo.out).mono ?_)
   rintro e y4 ⟨dD,v3,rfl,hrow3⟩;obtain ⟨a3,n3,c3,rfl⟩:=hrow3.slice3;have bN:=hrow3.aM;have Tq:=hid (show Rd (W0.heap.size<=·) y4 (gD (ah.aV ks)) [.slice a3 n3 c3] from hrow3.bZ.weaken (fun b hb=>jD9 qo.out.size hb));clear hrow3;have mW:Hid (jGj W0.heap.size W0 y4):=qo.out.trans (bN.mono qo.out.size);have Tt:=hid (Hg.out.bC bN);have Tv:=hid (vV.out.bC bN);clear bN;refine hK.out _ _ (fun _ _=>SF.out y4 mW.out) (fun hH2=>?_);clear hK KQ hH;have hH:=hH2 (by decide) (by kernel_rfl);clear hH2;try simp only [Act.put,jD3,jD4,jD5]
   refine fH (i:=11) rfl (by kernel_rfl) (fun KQ hK=>?_);go_simp;go_at_call 40
   (with_reducible refine (l7 ⟨#[100,105,118]⟩ a2 a3 2 n3 c2 c3 y4).mono ?_)
   rintro e y5 ⟨rfl,bN⟩;have zB:=hid (show Rd (W0.heap.size<=·) y5 (aJ jS [⟨jT,Bw++i⟩,⟨dx,dO⟩] (ah.aV ks)).d [.string ⟨#[100,105,118]⟩,.string ⟨#[]⟩,.slice a2 2 c2,.slice a3 n3 c3] from Nd.dJ ⟨#[100,105,118]⟩ ⟨#[]⟩ ⟨Tv.out.bC bN,Tq.out.bC bN⟩);have sV:Hid (jGj W0.heap.size W0 y5):=mW.out.trans (bN.mono mW.out.size);have zC:=hid (Tt.out.bC bN);clear bN;refine hK.out _ _ (fun _ _=>SF.out y5 sV.out) (fun hH2=>?_);clear hK KQ hH;have hH:=hH2 (by decide) (by kernel_rfl);clear hH2;try simp only [Act.put,jD3,jD4,jD5]
   exact REST y5 p6 a2 c2 a3 n3 c3 pz ⟨hH,sV,zC,zB⟩
 case hr=>
  intro y5 p6 a2 c2 a3 n3 c3 pz ⟨hH,sV,zC,zB⟩;refine fH (i:=14) rfl (by kernel_rfl) (fun KQ hK=>?_);refine yU (n:=n) (m:=1) rfl (.tmp 5) (.tmp 16) 28 rfl iN _ 80 Tryz.underlying28 qB fC fD fE rfl (by decide) (bg.out.below (B0.out.trans (sV.out.mono B0.out.size))) (fun _=>False.elim) (.slice (some ⟨pz,0,none⟩) 1 1) (zC.out.weaken (fun b (hb:W0.heap.size<=b)=>.inr (by have:=B0.out.size;omega))) (fun rs ok' h=>Er [OM] rs ok' _ h) HM.out rfl (by omega) (by decide) rfl rfl ?_;intro a5 c5 nY w5 aX hg5 RJ;obtain ⟨g5,cap5,hvg,-⟩:=jE aX.own (by simp);obtain ⟨rfl,rfl⟩:a5=some ⟨g5,0,none⟩/\c5=cap5:=by injection hvg with h1 h2 h3;exact ⟨h1,h3⟩
  obtain ⟨jy8,z0,z1,z2,z3,rfl,-⟩:=aX.uJ;have hat:(Value.slice av n cv).ownBlock=some g5\/g5=y5.heap.size:=by
   rcases RJ with h | h
   ·exact .inl (h.symm.trans rfl)
   ·refine .inr ?_;have e:g5=y5.heap.size:=by simpa [Value.ownBlock] using h
    exact e
  have hzy:=sV.out.size;have hg:(N0<=g5/\g5<S)\/g5=y5.heap.size:=hat.imp (fun h=>J5.out g5 h) id;have hBg:Bb≠g5:=by have:=Z0.out;omega
  have hSg:S≠g5:=by have:=Z0.out;omega
  have Tx:∀ b,b=Bb\/b=S->some b≠(Value.slice av n cv).ownBlock:=fun b hb e=>by have:=J5.out b e.symm;omega
  obtain ⟨s1,s2,s3⟩:=SF.out y5 sV.out;have S5:w5.cell? ⟨Bb,0,none⟩=some (.slice av n cv)/\w5.cell? ⟨S,2,none⟩=some (.string i)/\w5.cell? ⟨S,10,none⟩=some (.slice ak nk ck):=
   ⟨(jq (hg5.block Bb (by have:=Z0.out;omega) (Tx Bb (.inl rfl))) 0).trans s1,(jq (hg5.block S (by have:=Z0.out;omega) (Tx S (.inr rfl))) 2).trans s2,(jq (hg5.block S (by have:=Z0.out;omega) (Tx S (.inr rfl))) 10).trans s3⟩
  have WZ:aH Bb (.slice av n cv) 75 w5:=(hg5.block Bb (by have:=Z0.out;omega) (Tx Bb (.inl rfl))).trans (((pY.out.below (by have:=HS.out;omega) B0.out)).below (B:=W0.heap.size) (by have:=Z0.out;omega) sV.out);obtain ⟨y0',y1',y2',y3',yf⟩:=aX.Cw HM.out;have zf5:=WZ.free;have z5:=WZ.cell;obtain ⟨wZ,hzZ,GD⟩:=aX.hop2 (p:=Bb) (by have:=HN0.out;omega) (show w5.grownBy (w5.setCell ⟨Bb,0,none⟩ (.slice (some ⟨g5,0,none⟩) (n+1) c5)) (some Bb) from ⟨rfl,rfl,rfl,by simp [World.setCell],fun b _ hb=>Below.heap_setCell w5 ⟨Bb,0,none⟩ _ b (fun e=>hb (by rw [e]))⟩);obtain ⟨u0,u1,u2,u3,uf⟩:=GD.Cw HM.out;have hF:=He (x:=(aJ jS [⟨jT,Bw++i⟩,⟨dx,dO⟩] (ah.aV ks))) (.string ⟨#[100,105,118]⟩) (.string ⟨#[]⟩) (.slice a2 2 c2) (.slice a3 n3 c3) HN0.out hB bg.out pY.out (B0.out.trans (sV.out.mono B0.out.size)) aX hg5 HM.out hat (zB.out.weaken (fun b (hb:W0.heap.size<=b)=>jD9 B0.out.size hb));have nX:=hid hF;have bx6:aH Bb (.slice av n cv) 75 ((((w5.setCell ⟨g5,n*4,none⟩ (.string ⟨#[100,105,118]⟩)).setCell ⟨g5,n*4+1,none⟩ (.string ⟨#[]⟩)).setCell ⟨g5,n*4+2,none⟩ (.slice a2 2 c2)).setCell ⟨g5,n*4+3,none⟩ (.slice a3 n3 c3)):=(iq w5 g5 (n*4) (.string ⟨#[100,105,118]⟩) (.string ⟨#[]⟩) (.slice a2 2 c2) (.slice a3 n3 c3) Bb hBg).trans WZ;have S6:World.cell? ((((w5.setCell ⟨g5,n*4,none⟩ (.string ⟨#[100,105,118]⟩)).setCell ⟨g5,n*4+1,none⟩ (.string ⟨#[]⟩)).setCell ⟨g5,n*4+2,none⟩ (.slice a2 2 c2)).setCell ⟨g5,n*4+3,none⟩ (.slice a3 n3 c3)) ⟨Bb,0,none⟩=some (.slice av n cv)/\World.cell? ((((w5.setCell ⟨g5,n*4,none⟩ (.string ⟨#[100,105,118]⟩)).setCell ⟨g5,n*4+1,none⟩ (.string ⟨#[]⟩)).setCell ⟨g5,n*4+2,none⟩ (.slice a2 2 c2)).setCell ⟨g5,n*4+3,none⟩ (.slice a3 n3 c3)) ⟨S,2,none⟩=some (.string i)/\World.cell? ((((w5.setCell ⟨g5,n*4,none⟩ (.string ⟨#[100,105,118]⟩)).setCell ⟨g5,n*4+1,none⟩ (.string ⟨#[]⟩)).setCell ⟨g5,n*4+2,none⟩ (.slice a2 2 c2)).setCell ⟨g5,n*4+3,none⟩ (.slice a3 n3 c3)) ⟨S,10,none⟩=some (.slice ak nk ck):=⟨ZI S5.1 hBg,ZI S5.2.1 hSg,ZI S5.2.2 hSg⟩;have zf6:=bx6.free;have z6:=S6.1;have t0:(0:Int)<=(n:Int):=by omega
  have t1:(n:Int)<((n+1:Nat):Int):=by omega
  have t2:(n:Int)<(n:Int)+1:=by omega
  have t3:n<n+1:=by omega
  clear GD hzZ WZ bx6 aX hg5 RJ hvg Tx s1 s2 s3 hF hat hg;refine hK.out _ _ (fun _ _=>S5) (fun hH2=>?_);clear hK KQ hH;have hH:=hH2 (by decide) (by kernel_rfl);clear hH2;try simp only [Act.put,jD3,jD4,jD5]
  refine eY 17 rfl (by kernel_rfl) hH (by rfl) (by intro wv hSw;obtain ⟨cb,c2,c10⟩:=hSw;go_simp;try with_reducible rfl) ?_;refine eY 18 rfl (by kernel_rfl) hH (by rfl) (by intro wv hSw;obtain ⟨cb,c2,c10⟩:=hSw;go_simp;try with_reducible rfl) ?_;try simp only [Act.put,jD3,jD4,jD5]
  refine ML (i:=15) (j:=19) rfl rfl (by kernel_rfl) (fun KQ hK=>?_) (fun KQ hK=>?_)
  ·go_simp;refine hK.out _ _ (fun _ _=>S5) (fun hH2=>?_);clear hK KQ hH;have hH:=hH2 (by decide) (by kernel_rfl);clear hH2;try simp only [Act.put,jD3,jD4,jD5]
   refine ML (i:=16) (j:=19) rfl rfl (by kernel_rfl) (fun KQ hK=>?_) (fun KQ hK=>?_)
   ·go_simp;refine hK.out _ _ (fun _ _=>S6) (fun hH2=>?_);clear hK KQ hH;have hH:=hH2 (by decide) (by kernel_rfl);clear hH2;try simp only [Act.put,jD3,jD4,jD5]
    refine fH (i:=19) rfl (by kernel_rfl) (fun KQ hK=>?_);go_simp;refine hK.out _ _ (fun h=>absurd rfl h) (fun _=>?_);clear hK KQ hH;try simp only [Act.put,jD3,jD4,jD5]
    refine Om (by kernel_rfl) ?_ _;clear S5 S6 y0' y1' y2' y3' yf u0 u1 u2 u3 uf zf5 z5 zf6 z6 t0 t1 t2 t3;have Ni:=nX.out;simp only [sO] at Ni;obtain ⟨w7,hw7⟩:∃ w7,w7=((((w5.setCell ⟨g5,n*4,none⟩ (.string ⟨#[100,105,118]⟩)).setCell ⟨g5,n*4+1,none⟩ (.string ⟨#[]⟩)).setCell ⟨g5,n*4+2,none⟩ (.slice a2 2 c2)).setCell ⟨g5,n*4+3,none⟩ (.slice a3 n3 c3)).setCell ⟨Bb,0,none⟩ (.slice (some ⟨g5,0,none⟩) (n+1) c5):=⟨_,rfl⟩;rw [<- hw7] at Ni;rw [<- hw7];have HF7:=hid Ni;clear hw7 Ni nX;go_wp2
    go_end0
    exact ⟨rfl,HF7.out⟩
   ·go_simp;refine hK.out _ _ (fun h=>absurd rfl h) (fun _=>?_);clear hK KQ hH;try simp only [Act.put,jD3,jD4,jD5]
    refine fH (i:=16) rfl (by kernel_rfl) (fun KQ hK=>?_);go_simp;refine hK.out _ _ (fun _ h=>absurd h (by decide)) (fun _=>?_);clear hK KQ;try simp only [Act.put,jD3,jD4,jD5]
    refine Om (by kernel_rfl) ?_ _;have hsw:=uI w5 Bb g5 (n*4) (.slice (some ⟨g5,0,none⟩) (n+1) c5) (.string ⟨#[100,105,118]⟩) (.string ⟨#[]⟩) (.slice a2 2 c2) (.slice a3 n3 c3) hBg;simp only [sO] at hsw;rw [hsw];clear hsw;clear S5 S6 y0' y1' y2' y3' yf u0 u1 u2 u3 uf zf5 z5 zf6 z6 t0 t1 t2 t3;have Ni:=nX.out;simp only [sO] at Ni;obtain ⟨w7,hw7⟩:∃ w7,w7=((((w5.setCell ⟨g5,n*4,none⟩ (.string ⟨#[100,105,118]⟩)).setCell ⟨g5,n*4+1,none⟩ (.string ⟨#[]⟩)).setCell ⟨g5,n*4+2,none⟩ (.slice a2 2 c2)).setCell ⟨g5,n*4+3,none⟩ (.slice a3 n3 c3)).setCell ⟨Bb,0,none⟩ (.slice (some ⟨g5,0,none⟩) (n+1) c5):=⟨_,rfl⟩;rw [<- hw7] at Ni;rw [<- hw7];have HF7:=hid Ni;clear hw7 Ni nX;go_wp2
    go_end0
    exact ⟨rfl,HF7.out⟩
  ·go_simp;refine hK.out _ _ (fun h=>absurd rfl h) (fun _=>?_);clear hK KQ hH;try simp only [Act.put,jD3,jD4,jD5]
   refine fH (i:=15) rfl (by kernel_rfl) (fun KQ hK=>?_);go_simp;refine hK.out _ _ (fun _ h=>absurd h (by decide)) (fun _=>?_);clear hK KQ;try simp only [Act.put,jD3,jD4,jD5]
   refine fH (i:=16) rfl (by kernel_rfl) (fun KQ hK=>?_);go_simp;refine hK.out _ _ (fun _ h=>absurd h (by decide)) (fun _=>?_);clear hK KQ;try simp only [Act.put,jD3,jD4,jD5]
   refine Om (by kernel_rfl) ?_ _;have hsw:=uI w5 Bb g5 (n*4) (.slice (some ⟨g5,0,none⟩) (n+1) c5) (.string ⟨#[100,105,118]⟩) (.string ⟨#[]⟩) (.slice a2 2 c2) (.slice a3 n3 c3) hBg;simp only [sO] at hsw;rw [hsw];clear hsw;clear S5 S6 y0' y1' y2' y3' yf u0 u1 u2 u3 uf zf5 z5 zf6 z6 t0 t1 t2 t3;have Ni:=nX.out;simp only [sO] at Ni;obtain ⟨w7,hw7⟩:∃ w7,w7=((((w5.setCell ⟨g5,n*4,none⟩ (.string ⟨#[100,105,118]⟩)).setCell ⟨g5,n*4+1,none⟩ (.string ⟨#[]⟩)).setCell ⟨g5,n*4+2,none⟩ (.slice a2 2 c2)).setCell ⟨g5,n*4+3,none⟩ (.slice a3 n3 c3)).setCell ⟨Bb,0,none⟩ (.slice (some ⟨g5,0,none⟩) (n+1) c5):=⟨_,rfl⟩;rw [<- hw7] at Ni;rw [<- hw7];have HF7:=hid Ni;clear hw7 Ni nX;go_wp2
   go_end0
   exact ⟨rfl,HF7.out⟩
end Go.Proofs.YtkfnkeflalcphaaGreatDoor

