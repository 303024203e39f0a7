/- Contract of the function collect of html.Blocks (html.Blocks$1): the node of a note comes behind those that there are. -/
import Derived.Test.YtkfnkeflalcphaaGreatDoorMCkR
set_option maxHeartbeats 8000000
set_option maxRecDepth 100000
open Go.Lib (hid)
namespace Go.Proofs.YtkfnkeflalcphaaGreatDoor
open Tryz
open List renaming setIfInBounds_toArray->jK3,set_cons_zero->jK4,set_cons_succ->jK5
open Go.RowKit.Below renaming refl->jK7
open Nat renaming le_refl->jK8,le_trans->jK9
open Go.RowKit renaming Below->jNj
open Go.RowKit
set_option linter.unusedVariables false
set_option linter.unusedSimpArgs false
def BuI (Bb N0:Nat) (L:List Nd) (w:World):Prop:=
 ∃ (wB:World) (rows:List (List Value)) (v:Value),wB.heap.size=N0/\aC 35 4 (fun _=>False) w.heap.size wB (L.map Nd.d) rows v w/\aH Bb v 75 w
structure yE (Bb N0:Nat) (W W':World):Prop where
 os:W'.os=W.os
 tape:W'.tape=W.tape
 output:W'.output=W.output
 size:W.heap.size<=W'.heap.size
 blk:∀ b,b<N0->b≠Bb->W'.heap[b]?=W.heap[b]?
 cel:∀ (b:Nat) (cs:Array Value) (t:TypeId) (g:Nat × Nat),W.heap[b]?=some (Obj.cells cs t g)->t≠75->t≠35->W'.heap[b]?=W.heap[b]?
theorem yE.refl (Bb N0:Nat) (W:World):yE Bb N0 W W:=⟨rfl,rfl,rfl,jK8 _,fun _ _ _=>rfl,fun _ _ _ _ _ _ _=>rfl⟩
theorem yE.trans {Bb N0:Nat} {A B C:World} (h:yE Bb N0 A B) (k:yE Bb N0 B C):yE Bb N0 A C:=
 ⟨k.os.trans h.os,k.tape.trans h.tape,k.output.trans h.output,jK9 h.size k.size,fun b h1 h3=>(k.blk b h1 h3).trans (h.blk b h1 h3),
  fun b cs t g h1 h2 h3=>(k.cel b cs t g ((h.cel b cs t g h1 h2 h3).trans h1) h2 h3).trans (h.cel b cs t g h1 h2 h3)⟩
theorem yE.grown {Bb N0:Nat} {W W':World} {row:Option Nat} (h:W.grownBy W' row) (hS:N0<=W.heap.size) (hr:∀ r,row=some r->N0<=r/\∃ o:Obj,W.heap[r]?=some o/\o.isCells=false):yE Bb N0 W W':=
 ⟨h.os,h.tape,h.output,h.size,fun b h1 _=>h.block b (by omega) (fun e=>by have:=(hr b e.symm).1;omega),fun b cs t g h1 _ _=>h.block b (Array.getElem?_eq_some_iff.1 h1).1 (fun e=>by
  obtain ⟨-,o,k1,k2⟩:=hr b e.symm;rw [h1] at k1;cases k1;cases k2)⟩
theorem yE.obj (Bb N0:Nat) (W:World) (l:Nat) (o o':Obj) (hl:N0<=l) (ho:W.heap[l]?=some o) (hc:o.isCells=false):yE Bb N0 W (W.putObj l o'):=by
 refine ⟨rfl,rfl,rfl,by simp [World.putObj],fun b h1 _=>World.putObj_heap_other (by omega),fun b cs t g h1 _ _=>World.putObj_heap_other ?_⟩;rintro rfl;rw [ho] at h1;cases h1
 cases hc
theorem yE.below {Bb N0 S:Nat} {W W':World} (h:yE Bb N0 W W') (h1:S<=Bb) (h2:Bb<N0):jNj S W W':=⟨h.os,h.tape,h.output,h.size,fun b hb=>h.blk b (by omega) (by omega)⟩
def Vg (w w':World):Prop:=∀ (b:Nat) (o:Obj),w.heap[b]?=some o->o.isCells=false->w'.heap[b]?=some o
def jsj (Bb N0:Nat) (L:List Nd) (w:World) (e:Ending) (w':World):Prop:=e=.returned (.tuple #[])/\BuI Bb N0 L w'/\yE Bb N0 w w'/\Vg w w'
def Q7:Nd:=.mk ⟨#[]⟩ ⟨#[]⟩ [] []
theorem Jt {Bb N0 n g5 c5:Nat} {L:List Nd} {rows Am:List (List Value)} {v z0 z1 z2 z3:Value} {w y w5 wB:World} {x:Nd} (c0 c1 c2 c3:Value) (hN0:wB.heap.size=N0) (hB:Bb<N0) (hrow:aC 35 4 (fun _=>False) w.heap.size wB (L.map Nd.d) rows v w) (hbx:aH Bb v 75 w) (b0:jNj w.heap.size w y) (bZ:aC 35 4 (fun _=>False) w5.heap.size wB (L.map Nd.d++[Q7.d]) (Am++[[z0,z1,z2,z3]]) (.slice (some ⟨g5,0,none⟩) (n+1) c5) w5) (hg5:y.grownBy w5 v.ownBlock) (hn:(L.map Nd.d).length=n) (hat:v.ownBlock=some g5\/g5=y.heap.size) (hx:Rd (w.heap.size<=·) y x.d [c0,c1,c2,c3]) : BuI Bb N0 (L++[x]) ((tZ w5 g5 (n*4) c0 c1 c2 c3).setCell ⟨Bb,0,none⟩ (.slice (some ⟨g5,0,none⟩) (n+1) c5)) /\ yE Bb N0 w ((tZ w5 g5 (n*4) c0 c1 c2 c3).setCell ⟨Bb,0,none⟩ (.slice (some ⟨g5,0,none⟩) (n+1) c5))/\Vg w ((tZ w5 g5 (n*4) c0 c1 c2 c3).setCell ⟨Bb,0,none⟩ (.slice (some ⟨g5,0,none⟩) (n+1) c5)):=by
 have hov:∀ g,v.ownBlock=some g->N0<=g/\g<w.heap.size:=fun g hg=>by have:=hrow.own.lt g hg;omega
 have Ju:=hrow.aY.size;have Ph:=b0.size;have MN:=hg5.size;have hg:(N0<=g5/\g5<w.heap.size)\/g5=y.heap.size:=hat.imp (fun h=>hov g5 h) id;have hBg:Bb≠g5:=by omega
 have Ig:=bZ.jfq hn c0 c1 c2 c3 (d1:=x.d) (Rd.keep (fun b (hb:w.heap.size<=b) hlt=>⟨⟨.inr (by omega),by omega,by omega⟩,hg5.block b hlt (fun e=>by have:=hov b e.symm;omega)⟩) _ _ hx);obtain ⟨w6,ku⟩:∃ w6,w6=tZ w5 g5 (n*4) c0 c1 c2 c3:=⟨_,rfl⟩;have hb6:∀ b,b≠g5->w6.heap[b]?=w5.heap[b]?:=fun b hb=>by rw [ku];exact iJ _ _ _ _ _ _ _ b hb
 have hz6:w6.heap.size=w5.heap.size:=by rw [ku];simp [tZ,World.setCell]
 have ho6:w6.os=w5.os/\w6.tape=w5.tape/\w6.output=w5.output:=by rw [ku];exact ⟨rfl,rfl,rfl⟩
 rw [<- ku] at Ig ⊢;clear ku;obtain ⟨w7,hw7⟩:∃ w7,w7=w6.setCell ⟨Bb,0,none⟩ (.slice (some ⟨g5,0,none⟩) (n+1) c5):=⟨_,rfl⟩;rw [<- hw7];have hb5:∀ b,b<w.heap.size->v.ownBlock≠some b->w5.heap[b]?=w.heap[b]?:=fun b hb ho=>(hg5.block b (by omega) (fun e=>ho e.symm)).trans (b0.block b hb)
 have hBo:v.ownBlock≠some Bb:=fun e=>by have:=hov Bb e;omega
 have bx6:aH Bb v 75 w6:=(hb6 Bb hBg).trans ((hb5 Bb (by omega) hBo).trans hbx);have bx7:aH Bb (.slice (some ⟨g5,0,none⟩) (n+1) c5) 75 w7:=by rw [hw7];exact bx6.set _
 have g7:w6.grownBy w7 (some Bb):=by rw [hw7];exact ⟨rfl,rfl,rfl,by simp [World.setCell],fun b _ hb=>Below.heap_setCell w6 ⟨Bb,0,none⟩ _ b (fun e=>hb (by rw [e]))⟩
 have hz7:w7.heap.size=w6.heap.size:=by rw [hw7];simp [World.setCell]
 obtain ⟨wB7,hB7,Ao⟩:=Ig.hop2 (p:=Bb) (by omega) g7;have TG:∀ b,b<w.heap.size->b≠Bb->b≠g5->v.ownBlock≠some b->w7.heap[b]?=w.heap[b]?:=fun b h1 h2 h3 h4=>
  (g7.block b (by omega) (fun e=>h2 (Option.some.inj e))).trans ((hb6 b h3).trans (hb5 b h1 h4))
 have hown:∀ g,v.ownBlock=some g->∃ cs gg,w.heap[g]?=some (Obj.cells cs 35 gg):=fun g hg=>by
  rcases hrow.own.2 with ⟨h1,-⟩ | ⟨g',cap,cur,h1,-,h2,-⟩
  ·rw [h1] at hg;cases hg
  ·rw [h1] at hg;have e:g'=g:=by simpa [Value.ownBlock] using hg
   subst e;exact ⟨_,_,h2⟩
 refine ⟨⟨wB7,Am++[[c0,c1,c2,c3]],_,hB7.trans hN0,?_,bx7⟩,⟨?_,?_,?_,by omega,fun b hb hne=>TG b (by omega) hne (by omega) (fun e=>by have:=hov b e;omega),fun b cs t g hc h1 h2=>?_⟩,fun b o ho hc=>?_⟩
 ·rw [List.map_append];exact Ao.up (by omega) (jK8 _)
 ·exact g7.os.trans (ho6.1.trans (hg5.os.trans b0.os))
 ·exact g7.tape.trans (ho6.2.1.trans (hg5.tape.trans b0.tape))
 ·exact g7.output.trans (ho6.2.2.trans (hg5.output.trans b0.output))
 ·have hbw:b<w.heap.size:=(Array.getElem?_eq_some_iff.1 hc).1;have hno:v.ownBlock≠some b:=fun e=>by
   obtain ⟨cs',gg,h⟩:=hown b e;rw [h] at hc;injection hc with hc;injection hc with _ hc;exact h2 hc.symm
  refine TG b hbw (fun e=>?_) (fun e=>?_) hno
  ·subst e;rw [show w.heap[b]?=_ from hbx] at hc;injection hc with hc;injection hc with _ hc;exact h1 hc.symm
  ·subst e;rcases hat with h | h
   ·exact hno h
   ·omega
 ·have hbw:b<w.heap.size:=(Array.getElem?_eq_some_iff.1 ho).1;have hno:v.ownBlock≠some b:=fun e=>by
   obtain ⟨cs',gg,h⟩:=hown b e;rw [h] at ho;cases ho;cases hc
  refine (TG b hbw (fun e=>?_) (fun e=>?_) hno).trans ho
  ·subst e;rw [show w.heap[b]?=_ from hbx] at ho;cases ho;cases hc
  ·subst e;rcases hat with h | h
   ·exact hno h
   ·omega
theorem Pj{P Q:Prop}(q:Q)(h:Nonempty Q->P:=by
 intro qQ;have ug:=hid (show Rd (W0.heap.size<=·) y5 (aW vM [⟨pR,eX++i⟩,⟨gV,jB⟩] (ah.bG ks)).d [.string ⟨#[100,105,118]⟩,.string ⟨#[]⟩,.slice a2 2 c2,.slice a3 n3 c3] from Nd.fC ⟨#[100,105,118]⟩ ⟨#[]⟩ ⟨ED.out.bP bN,EF.out.bP bN⟩);have rz:Hid (Below W0.heap.size W0 y5):=uh.out.trans (bN.mono uh.out.size);have uj:=hid (EG.out.bP bN);refine dY hK (SF.out y5 rz.out) ?_;intro hH;revert ug rz uj hH;exact qQ.elim fun x=>x):P:=h ⟨q⟩
theorem Vh{P Q:Prop}(q:Q)(h:Nonempty Q->P:=by
 intro qQ;have bN:=hrow3.aY;have EF:=hid (show Rd (W0.heap.size<=·) y4 (dR (ah.bG ks)) [.slice a3 n3 c3] from hrow3.iZ.weaken (fun b hb=>Nat.le_trans mK.out.size hb));have uh:Hid (Below W0.heap.size W0 y4):=mK.out.trans (bN.mono mK.out.size);have EG:=hid (Jv.out.bP bN);have ED:=hid (xI.out.bP bN);clear bN;refine dY hK (SF.out y4 uh.out) ?_;intro hH;revert EF uh EG ED hH;exact qQ.elim fun x=>x):P:=h ⟨q⟩
theorem jfx{P Q:Prop}(q:Q)(h:Nonempty Q->P:=by
 intro qQ;have bN:=hrow2.aY;have xI:=hid (show Rd (W0.heap.size<=·) y3 (dx [⟨pR,eX++i⟩,⟨gV,jB⟩]) [.slice a2 2 c2] from hrow2.iZ.weaken (fun b hb=>Nat.le_trans rG.out.size hb));have mK:Hid (Below W0.heap.size W0 y3):=rG.out.trans (bN.mono rG.out.size);have Jv:=hid (jfz.out.bP bN);clear bN;refine dY hK (SF.out y3 mK.out) ?_;revert xI mK Jv;exact qQ.elim fun x=>x):P:=h ⟨q⟩
theorem Pk{P Q:Prop}(q:Q)(h:Nonempty Q->P:=by
 intro qQ;go_simp;go_at_call 40
 (with_reducible refine (ny ⟨#[100,105,118]⟩ a2 a3 2 n3 c2 c3 y4).mono ?_)
 exact qQ.elim fun x=>x):P:=h ⟨q⟩
theorem Jw{P:Prop}(h:P:=by
 exact REST y5 p6 a2 c2 a3 n3 c3 pz ⟨hH,rz,uj,ug⟩):P:=h
theorem jg0{P Q:Prop}(q:Q)(h:Nonempty Q->P:=by
 intro qQ;go_simp;go_at_call 41
 (with_reducible refine (mH [⟨pR,eX++i⟩,⟨gV,jB⟩] (.slice (some ⟨p6,0,none⟩) 4 4) y2 jg1.out (by simp)).mono ?_)
 exact qQ.elim fun x=>x):P:=h ⟨q⟩
theorem Jy (Bb N0:Nat) (L:List Nd) (k lv:Int) (i t d ti:ByteArray) (at_:At) (li:List aj) (ks:List ah) (vc vp vl vk:Value) (w:World) (hB:Bb<N0) (hR:kG (·<Bb) w at_ li ks vc vp vl vk) (hwk:ah.lN ks) (hsz:ah.aU ks<=900000) (hi:i.size<=300) (ht:PT w) (hL:L.length<=1000000) (h:BuI Bb N0 L w) : Calls prog 39 #[.agg #[.int .i64 k,.int .i64 lv,.string i,.string t,.string d,.string ti,.string at_.id,vc,vp,vl,vk],.pointer (some ⟨Bb,0,none⟩)] w (jsj Bb N0 (L++[aW vM [⟨pR,eX++i⟩,⟨gV,jB⟩] (ah.bG ks)]) w):=by
 obtain ⟨iN,LJ,qx,qz,qA⟩:=info_parts oC;obtain ⟨ac,nc,cc,rfl⟩:=Rd.au hR.at_.cls
 obtain ⟨ap,np,cp,rfl⟩:=Rd.au hR.at_.aD
 obtain ⟨al,nl,cl,rfl⟩:=Rd.au hR.line;obtain ⟨ak,nk,ck,rfl⟩:=Rd.au hR.kids;obtain ⟨wB,rows,v,hN0,hrow,hbx⟩:=h;obtain ⟨n,hn⟩:∃ n,n=(L.map Nd.d).length:=⟨_,rfl⟩;have hn1:n<=1000000:=by rw [hn,List.length_map];exact hL
 obtain ⟨av,cv,rfl,-,-⟩:=hrow.cap hn.symm;obtain ⟨S,hS⟩:∃ S,S=w.heap.size:=⟨_,rfl⟩;obtain ⟨W0,hW0⟩:∃ W0,W0=w.alloc (.cells #[.int .i64 k,.int .i64 lv,.string i,.string t,.string d,.string ti,.string at_.id,.slice ac nc cc,.slice ap np cp,.slice al nl cl,.slice ak nk ck] 48):=⟨_,rfl⟩;have k0:CB 48 S [.int .i64 k,.int .i64 lv,.string i,.string t,.string d,.string ti,.string at_.id,.slice ac nc cc,.slice ap np cp,.slice al nl cl,.slice ak nk ck] W0:=by rw [hW0,hS];exact CB.new _ _ w
 have b0:jNj w.heap.size w W0:=by rw [hW0];exact (jK7 _ _).alloc (jK8 _) _
 have z0:W0.heap.size=S+1:=by rw [hW0,World.size_alloc,hS]
 have Ju:=hrow.aY.size;have hov:∀ g,(Value.slice av n cv).ownBlock=some g->N0<=g/\g<S:=fun g hg=>by have:=hrow.own.lt g hg;omega
 have hBS:Bb<S:=by omega
 have SF:Hid (∀ y:World,jNj W0.heap.size W0 y->y.cell? ⟨Bb,0,none⟩=some (.slice av n cv)/\y.cell? ⟨S,2,none⟩=some (.string i)/\y.cell? ⟨S,10,none⟩=some (.slice ak nk ck)):=fun y hb=>
  ⟨((hbx.below (by omega) b0).below (B:=W0.heap.size) (by omega) hb).cell,(k0.below hb).cell 2 _ rfl,(k0.below hb).cell 10 _ rfl⟩
 have KC:Hid (∀ y:World,jNj W0.heap.size W0 y->Calls prog 38 #[.pointer (some ⟨Bb,0,none⟩),.slice ak nk ck] y (dP y (ah.bG ks))):=fun y hy=>by
  have hb:=b0.trans (hy.mono b0.size);exact xH _ 900000 ks _ y hsz (by decide) (Rd.keep (w:=w) (w':=y) (ok:=(·<Bb)) (fun b (hb':b<Bb) hlt=>⟨by show b<y.heap.size;have:=hb.size;omega,hb.block b (by omega)⟩) _ _ hR.kids) hwk (ht.below hb)
 have q5:(⟨#[110,111,116,101,45]⟩:ByteArray).size+i.size<=9223372036854775807:=by have:(⟨#[110,111,116,101,45]⟩:ByteArray).size=5:=rfl;omega
 have q6:5+i.size<=9223372036854775807:=by omega
 have hadd:∀ w:World,(Op.stringOp .add (⟨#[110,111,116,101,45]⟩:ByteArray) i).run prog w=.ok (.string (⟨#[110,111,116,101,45]⟩++i)) w:=fun w=>run_string_add_sum w _ _ q5
 have HM:=hid hn.symm;have bR:=hid hrow;have lK:=hid hbx;have C8:=hid hov;have HN0:=hid hN0;have B0:=hid b0;have HS:=hid hS;have Z0:=hid z0;clear hR hwk hsz hi ht hL hrow hbx hn hN0 k0 b0 z0 hov Ju;go_enter func39,ntmps39;go_upto_region 1 with (fail)
 rw [<- hW0,<- hS];clear hW0 hS;refine q2s 19 (fun w'=>w'.cell? ⟨Bb,0,none⟩=some (.slice av n cv)/\w'.cell? ⟨S,2,none⟩=some (.string i)/\w'.cell? ⟨S,10,none⟩=some (.slice ak nk ck)) (by kernel_rfl) (SF.out W0.drew (jK7 _ _).drew) ?_;intro hH;apply jxj (α1:=World) (α2:=Nat) (α3:=Option Addr) (α4:=Nat) (α5:=Option Addr) (α6:=Nat) (α7:=Nat) (α8:=Nat) (R:=fun y5 p6 a2 c2 a3 n3 c3 pz=>(y5.cell? ⟨Bb,0,none⟩=some (.slice av n cv)/\y5.cell? ⟨S,2,none⟩=some (.string i)/\y5.cell? ⟨S,10,none⟩=some (.slice ak nk ck))/\Hid (jNj W0.heap.size W0 y5)/\Hid (Rd (W0.heap.size<=·) y5 (.sl 4 [Q7.d]) [.slice (some ⟨pz,0,none⟩) 1 1])/\Hid (Rd (W0.heap.size<=·) y5 (aW vM [⟨pR,eX++i⟩,⟨gV,jB⟩] (ah.bG ks)).d [.string ⟨#[100,105,118]⟩,.string ⟨#[]⟩,.slice a2 2 c2,.slice a3 n3 c3]));case hm=>
  intro REST;refine gP 0 rfl hH (by intro wv hSw;obtain ⟨cb,c2,c10⟩:=hSw;go_simp;try with_reducible rfl) ?_;refine gP 1 rfl hH (by intro wv hSw;obtain ⟨cb,c2,c10⟩:=hSw;go_simp;try with_reducible rfl) ?_;refine gP 2 rfl hH (by intro wv hSw;obtain ⟨cb,c2,c10⟩:=hSw;go_simp;try with_reducible rfl) ?_;refine gP 3 rfl hH (by intro wv hSw;obtain ⟨cb,c2,c10⟩:=hSw;go_simp;try with_reducible rfl) ?_;refine gP 4 rfl hH (by intro wv hSw;obtain ⟨cb,c2,c10⟩:=hSw;go_simp;try with_reducible rfl) ?_;refine gP 5 rfl hH (by intro wv hSw;obtain ⟨cb,c2,c10⟩:=hSw;go_simp;try with_reducible rfl) ?_;refine gP 8 rfl hH (by intro wv hSw;obtain ⟨cb,c2,c10⟩:=hSw;go_simp;try with_reducible rfl) ?_;refine gP 9 rfl hH (by intro wv hSw;obtain ⟨cb,c2,c10⟩:=hSw;go_simp;try with_reducible rfl) ?_;refine gP 12 rfl hH (by intro wv hSw;obtain ⟨cb,c2,c10⟩:=hSw;go_simp;try with_reducible rfl) ?_;try simp only [Act.put,jK3,jK4,jK5]
  obtain ⟨y0,hy0⟩:∃ y0,y0=W0.drew:=⟨_,rfl⟩;have Vi:Hid (jNj W0.heap.size W0 y0):=by rw [hy0];exact (jK7 _ _).drew
  rw [<- hy0] at hH;rw [<- hy0];clear hy0;refine rH 6 13 (fun KQ hK=>?_) (fun KQ hK=>?_)
  ·go_simp;obtain ⟨y1,hN⟩:∃ z,z=y0.alloc (.cells ([⟨#[105,100]⟩,⟨#[110,111,116,101,45]⟩++i,⟨#[99,108,97,115,115]⟩,⟨#[110,111,116,101]⟩].map Value.string).toArray 9):=⟨_,rfl⟩;obtain ⟨p6,hf⟩:∃ z,z=y0.heap.size:=⟨_,rfl⟩;have LSX:=tY [⟨#[105,100]⟩,⟨#[110,111,116,101,45]⟩++i,⟨#[99,108,97,115,115]⟩,⟨#[110,111,116,101]⟩] y0 (by show 4<=maxLen;unfold maxLen;decide);rw [<- hN,<- hf] at LSX;have jg2:=hid (show Rd (·<y1.heap.size) y1 (jf (oD [⟨pR,eX++i⟩,⟨gV,jB⟩])) [.slice (some ⟨p6,0,none⟩) 4 4] from LSX);have bN:jNj y0.heap.size y0 y1:=by rw [hN];exact (jK7 _ _).alloc (jK8 _) _
   simp only [List.map_cons,List.map_nil] at hN;rw [<- hN,<- hf];clear hN hf LSX;have Ap:Hid (jNj W0.heap.size W0 y1):=Vi.out.trans (bN.mono Vi.out.size);clear bN;refine dY hK (SF.out y1 Ap.out) ?_;clear hK KQ hH;intro hH;try simp only [Act.put,jK3,jK4,jK5]
   refine rH 7 13 (fun KQ hK=>?_) (fun KQ hK=>?_)
   ·go_simp;go_at_call 41
    (with_reducible refine (mH [⟨pR,eX++i⟩,⟨gV,jB⟩] (.slice (some ⟨p6,0,none⟩) 4 4) y1 jg2.out (by simp)).mono ?_)
    rintro e y2 ⟨bI,v2,rfl,hrow2⟩;obtain ⟨a2,c2,rfl,-,-⟩:=hrow2.cap (n:=2) rfl;have bN:=hrow2.aY;have jg3:=hid (show Rd (W0.heap.size<=·) y2 (dx [⟨pR,eX++i⟩,⟨gV,jB⟩]) [.slice a2 2 c2] from hrow2.iZ.weaken (fun b hb=>jK9 Ap.out.size hb));clear hrow2;have rG:Hid (jNj W0.heap.size W0 y2):=Ap.out.trans (bN.mono Ap.out.size);clear bN;refine dY hK (SF.out y2 rG.out) ?_;clear hK KQ hH;intro hH;try simp only [Act.put,jK3,jK4,jK5]
    refine rH 10 13 (fun KQ hK=>?_) (fun KQ hK=>?_)
    ·go_simp;go_at_call 38
     (with_reducible refine (KC.out y2 rG.out).mono ?_)
     rintro e y3 ⟨gW,v3,rfl,hrow3⟩;obtain ⟨a3,n3,c3,rfl⟩:=hrow3.slice3;have bN:=hrow3.aY;have jg4:=hid (show Rd (W0.heap.size<=·) y3 (dR (ah.bG ks)) [.slice a3 n3 c3] from hrow3.iZ.weaken (fun b hb=>jK9 rG.out.size hb));clear hrow3;have mK:Hid (jNj W0.heap.size W0 y3):=rG.out.trans (bN.mono rG.out.size);have xI:=hid (jg3.out.bP bN);clear bN;refine dY hK (SF.out y3 mK.out) ?_;clear hK KQ hH;intro hH;try simp only [Act.put,jK3,jK4,jK5]
     refine rH 11 13 (fun KQ hK=>?_) (fun KQ hK=>?_)
     ·go_simp;go_at_call 40
      (with_reducible refine (ny ⟨#[100,105,118]⟩ a2 a3 2 n3 c2 c3 y3).mono ?_)
      rintro e y4 ⟨rfl,bN⟩;have jxk:=hid (show Rd (W0.heap.size<=·) y4 (aW vM [⟨pR,eX++i⟩,⟨gV,jB⟩] (ah.bG ks)).d [.string ⟨#[100,105,118]⟩,.string ⟨#[]⟩,.slice a2 2 c2,.slice a3 n3 c3] from Nd.fC ⟨#[100,105,118]⟩ ⟨#[]⟩ ⟨xI.out.bP bN,jg4.out.bP bN⟩);have uh:Hid (jNj W0.heap.size W0 y4):=mK.out.trans (bN.mono mK.out.size);clear bN;refine dY hK (SF.out y4 uh.out) ?_;clear hK KQ hH;intro hH;try simp only [Act.put,jK3,jK4,jK5]
      refine fK 13 fun KQ hK=>?_
      go_simp;obtain ⟨y5,hN⟩:∃ z,z=y4.alloc (.cells [Value.string ⟨#[]⟩,.string ⟨#[]⟩,.slice none 0 0,.slice none 0 0].toArray 35):=⟨_,rfl⟩;obtain ⟨pz,hf⟩:∃ z,z=y4.heap.size:=⟨_,rfl⟩;have Gs:=(aC.one (T:=35) (k:=4) (w:=y4) (d:=Q7.d) (r:=[Value.string ⟨#[]⟩,.string ⟨#[]⟩,.slice none 0 0,.slice none 0 0]) rfl (Nd.fC ⟨#[]⟩ ⟨#[]⟩ ⟨Rd.aI _ _ _,Rd.aI _ _ _⟩)).iZ;rw [<- hN,<- hf] at Gs;have uj:=hid (show Rd (W0.heap.size<=·) y5 (.sl 4 [Q7.d]) [.slice (some ⟨pz,0,none⟩) 1 1] from Gs.weaken (fun b (hb:pz<=b)=>by have:=uh.out.size;omega));have bN:jNj y4.heap.size y4 y5:=by rw [hN];exact (jK7 _ _).alloc (jK8 _) _
      rw [<- hN,<- hf];clear hN hf Gs;have rz:Hid (jNj W0.heap.size W0 y5):=uh.out.trans (bN.mono uh.out.size);have ug:=hid (jxk.out.bP bN);clear bN;refine dY hK (SF.out y5 rz.out) ?_;clear hK KQ hH;intro hH;try simp only [Act.put,jK3,jK4,jK5]
      exact REST y5 p6 a2 c2 a3 n3 c3 pz ⟨hH,rz,uj,ug⟩
     ·go_simp;obtain ⟨y4,hN⟩:∃ z,z=y3.alloc (.cells [Value.string ⟨#[]⟩,.string ⟨#[]⟩,.slice none 0 0,.slice none 0 0].toArray 35):=⟨_,rfl⟩;obtain ⟨pz,hf⟩:∃ z,z=y3.heap.size:=⟨_,rfl⟩;have Gs:=(aC.one (T:=35) (k:=4) (w:=y3) (d:=Q7.d) (r:=[Value.string ⟨#[]⟩,.string ⟨#[]⟩,.slice none 0 0,.slice none 0 0]) rfl (Nd.fC ⟨#[]⟩ ⟨#[]⟩ ⟨Rd.aI _ _ _,Rd.aI _ _ _⟩)).iZ;rw [<- hN,<- hf] at Gs;have EG:=hid (show Rd (W0.heap.size<=·) y4 (.sl 4 [Q7.d]) [.slice (some ⟨pz,0,none⟩) 1 1] from Gs.weaken (fun b (hb:pz<=b)=>by have:=mK.out.size;omega));have bN:jNj y3.heap.size y3 y4:=by rw [hN];exact (jK7 _ _).alloc (jK8 _) _
      rw [<- hN,<- hf];clear hN hf Gs;have uh:Hid (jNj W0.heap.size W0 y4):=mK.out.trans (bN.mono mK.out.size);have EF:=hid (jg4.out.bP bN);have ED:=hid (xI.out.bP bN);clear bN;refine dY hK (SF.out y4 uh.out) ?_;clear hK KQ hH;intro hH;try simp only [Act.put,jK3,jK4,jK5]
      refine fK 11 fun KQ hK=>?_
      go_simp;go_at_call 40
      (with_reducible refine (ny ⟨#[100,105,118]⟩ a2 a3 2 n3 c2 c3 y4).mono ?_)
      rintro e y5 ⟨rfl,bN⟩;have ug:=hid (show Rd (W0.heap.size<=·) y5 (aW vM [⟨pR,eX++i⟩,⟨gV,jB⟩] (ah.bG ks)).d [.string ⟨#[100,105,118]⟩,.string ⟨#[]⟩,.slice a2 2 c2,.slice a3 n3 c3] from Nd.fC ⟨#[100,105,118]⟩ ⟨#[]⟩ ⟨ED.out.bP bN,EF.out.bP bN⟩);have rz:Hid (jNj W0.heap.size W0 y5):=uh.out.trans (bN.mono uh.out.size);have uj:=hid (EG.out.bP bN);clear bN;refine dY hK (SF.out y5 rz.out) ?_;clear hK KQ hH;intro hH;try simp only [Act.put,jK3,jK4,jK5]
      exact REST y5 p6 a2 c2 a3 n3 c3 pz ⟨hH,rz,uj,ug⟩
    ·go_simp;obtain ⟨y3,hN⟩:∃ z,z=y2.alloc (.cells [Value.string ⟨#[]⟩,.string ⟨#[]⟩,.slice none 0 0,.slice none 0 0].toArray 35):=⟨_,rfl⟩;obtain ⟨pz,hf⟩:∃ z,z=y2.heap.size:=⟨_,rfl⟩;have Gs:=(aC.one (T:=35) (k:=4) (w:=y2) (d:=Q7.d) (r:=[Value.string ⟨#[]⟩,.string ⟨#[]⟩,.slice none 0 0,.slice none 0 0]) rfl (Nd.fC ⟨#[]⟩ ⟨#[]⟩ ⟨Rd.aI _ _ _,Rd.aI _ _ _⟩)).iZ;rw [<- hN,<- hf] at Gs;have Jv:=hid (show Rd (W0.heap.size<=·) y3 (.sl 4 [Q7.d]) [.slice (some ⟨pz,0,none⟩) 1 1] from Gs.weaken (fun b (hb:pz<=b)=>by have:=rG.out.size;omega));have bN:jNj y2.heap.size y2 y3:=by rw [hN];exact (jK7 _ _).alloc (jK8 _) _
     rw [<- hN,<- hf];clear hN hf Gs;have mK:Hid (jNj W0.heap.size W0 y3):=rG.out.trans (bN.mono rG.out.size);have xI:=hid (jg3.out.bP bN);clear bN;refine dY hK (SF.out y3 mK.out) ?_;clear hK KQ hH;intro hH;try simp only [Act.put,jK3,jK4,jK5]
     refine fK 10 fun KQ hK=>?_
     go_simp;go_at_call 38
     (with_reducible refine (KC.out y3 mK.out).mono ?_)
     rintro e y4 ⟨gW,v3,rfl,hrow3⟩;obtain ⟨a3,n3,c3,rfl⟩:=hrow3.slice3;have bN:=hrow3.aY;have EF:=hid (show Rd (W0.heap.size<=·) y4 (dR (ah.bG ks)) [.slice a3 n3 c3] from hrow3.iZ.weaken (fun b hb=>jK9 mK.out.size hb));clear hrow3;have uh:Hid (jNj W0.heap.size W0 y4):=mK.out.trans (bN.mono mK.out.size);have EG:=hid (Jv.out.bP bN);have ED:=hid (xI.out.bP bN);clear bN;refine dY hK (SF.out y4 uh.out) ?_;clear hK KQ hH;intro hH;try simp only [Act.put,jK3,jK4,jK5]
     refine fK 11 fun KQ hK=>?_
     go_simp;go_at_call 40
     (with_reducible refine (ny ⟨#[100,105,118]⟩ a2 a3 2 n3 c2 c3 y4).mono ?_)
     rintro e y5 ⟨rfl,bN⟩;have ug:=hid (show Rd (W0.heap.size<=·) y5 (aW vM [⟨pR,eX++i⟩,⟨gV,jB⟩] (ah.bG ks)).d [.string ⟨#[100,105,118]⟩,.string ⟨#[]⟩,.slice a2 2 c2,.slice a3 n3 c3] from Nd.fC ⟨#[100,105,118]⟩ ⟨#[]⟩ ⟨ED.out.bP bN,EF.out.bP bN⟩);have rz:Hid (jNj W0.heap.size W0 y5):=uh.out.trans (bN.mono uh.out.size);have uj:=hid (EG.out.bP bN);clear bN;refine dY hK (SF.out y5 rz.out) ?_;clear hK KQ hH;intro hH;try simp only [Act.put,jK3,jK4,jK5]
     exact REST y5 p6 a2 c2 a3 n3 c3 pz ⟨hH,rz,uj,ug⟩
   ·go_simp;obtain ⟨y2,hN⟩:∃ z,z=y1.alloc (.cells [Value.string ⟨#[]⟩,.string ⟨#[]⟩,.slice none 0 0,.slice none 0 0].toArray 35):=⟨_,rfl⟩;obtain ⟨pz,hf⟩:∃ z,z=y1.heap.size:=⟨_,rfl⟩;have Gs:=(aC.one (T:=35) (k:=4) (w:=y1) (d:=Q7.d) (r:=[Value.string ⟨#[]⟩,.string ⟨#[]⟩,.slice none 0 0,.slice none 0 0]) rfl (Nd.fC ⟨#[]⟩ ⟨#[]⟩ ⟨Rd.aI _ _ _,Rd.aI _ _ _⟩)).iZ;rw [<- hN,<- hf] at Gs;have jfz:=hid (show Rd (W0.heap.size<=·) y2 (.sl 4 [Q7.d]) [.slice (some ⟨pz,0,none⟩) 1 1] from Gs.weaken (fun b (hb:pz<=b)=>by have:=Ap.out.size;omega));have bN:jNj y1.heap.size y1 y2:=by rw [hN];exact (jK7 _ _).alloc (jK8 _) _
    rw [<- hN,<- hf];clear hN hf Gs;have rG:Hid (jNj W0.heap.size W0 y2):=Ap.out.trans (bN.mono Ap.out.size);have jg1:=hid (jg2.out.up bN);clear bN;refine dY hK (SF.out y2 rG.out) ?_;clear hK KQ hH;intro hH;try simp only [Act.put,jK3,jK4,jK5]
    refine fK 7 fun KQ hK=>?_
    go_simp;go_at_call 41
    (with_reducible refine (mH [⟨pR,eX++i⟩,⟨gV,jB⟩] (.slice (some ⟨p6,0,none⟩) 4 4) y2 jg1.out (by simp)).mono ?_)
    rintro e y3 ⟨bI,v2,rfl,hrow2⟩;obtain ⟨a2,c2,rfl,-,-⟩:=hrow2.cap (n:=2) rfl;have bN:=hrow2.aY;have xI:=hid (show Rd (W0.heap.size<=·) y3 (dx [⟨pR,eX++i⟩,⟨gV,jB⟩]) [.slice a2 2 c2] from hrow2.iZ.weaken (fun b hb=>jK9 rG.out.size hb));clear hrow2;have mK:Hid (jNj W0.heap.size W0 y3):=rG.out.trans (bN.mono rG.out.size);have Jv:=hid (jfz.out.bP bN);clear bN;refine dY hK (SF.out y3 mK.out) ?_;clear hK KQ hH;intro hH;try simp only [Act.put,jK3,jK4,jK5]
    refine fK 10 fun KQ hK=>?_
    go_simp;go_at_call 38
    (with_reducible refine (KC.out y3 mK.out).mono ?_)
    rintro e y4 ⟨gW,v3,rfl,hrow3⟩;obtain ⟨a3,n3,c3,rfl⟩:=hrow3.slice3;have bN:=hrow3.aY;have EF:=hid (show Rd (W0.heap.size<=·) y4 (dR (ah.bG ks)) [.slice a3 n3 c3] from hrow3.iZ.weaken (fun b hb=>jK9 mK.out.size hb));clear hrow3;have uh:Hid (jNj W0.heap.size W0 y4):=mK.out.trans (bN.mono mK.out.size);have EG:=hid (Jv.out.bP bN);have ED:=hid (xI.out.bP bN);clear bN;refine dY hK (SF.out y4 uh.out) ?_;clear hK KQ hH;intro hH;try simp only [Act.put,jK3,jK4,jK5]
    refine fK 11 fun KQ hK=>?_
    go_simp;go_at_call 40
    (with_reducible refine (ny ⟨#[100,105,118]⟩ a2 a3 2 n3 c2 c3 y4).mono ?_)
    rintro e y5 ⟨rfl,bN⟩;have ug:=hid (show Rd (W0.heap.size<=·) y5 (aW vM [⟨pR,eX++i⟩,⟨gV,jB⟩] (ah.bG ks)).d [.string ⟨#[100,105,118]⟩,.string ⟨#[]⟩,.slice a2 2 c2,.slice a3 n3 c3] from Nd.fC ⟨#[100,105,118]⟩ ⟨#[]⟩ ⟨ED.out.bP bN,EF.out.bP bN⟩);have rz:Hid (jNj W0.heap.size W0 y5):=uh.out.trans (bN.mono uh.out.size);have uj:=hid (EG.out.bP bN);clear bN;refine dY hK (SF.out y5 rz.out) ?_;clear hK KQ hH;intro hH;try simp only [Act.put,jK3,jK4,jK5]
    exact REST y5 p6 a2 c2 a3 n3 c3 pz ⟨hH,rz,uj,ug⟩
  ·go_simp;obtain ⟨y1,hN⟩:∃ z,z=y0.alloc (.cells [Value.string ⟨#[]⟩,.string ⟨#[]⟩,.slice none 0 0,.slice none 0 0].toArray 35):=⟨_,rfl⟩;obtain ⟨pz,hf⟩:∃ z,z=y0.heap.size:=⟨_,rfl⟩;have Gs:=(aC.one (T:=35) (k:=4) (w:=y0) (d:=Q7.d) (r:=[Value.string ⟨#[]⟩,.string ⟨#[]⟩,.slice none 0 0,.slice none 0 0]) rfl (Nd.fC ⟨#[]⟩ ⟨#[]⟩ ⟨Rd.aI _ _ _,Rd.aI _ _ _⟩)).iZ;rw [<- hN,<- hf] at Gs;have jxq:=hid (show Rd (W0.heap.size<=·) y1 (.sl 4 [Q7.d]) [.slice (some ⟨pz,0,none⟩) 1 1] from Gs.weaken (fun b (hb:pz<=b)=>by have:=Vi.out.size;omega));have bN:jNj y0.heap.size y0 y1:=by rw [hN];exact (jK7 _ _).alloc (jK8 _) _
   rw [<- hN,<- hf];clear hN hf Gs;have Ap:Hid (jNj W0.heap.size W0 y1):=Vi.out.trans (bN.mono Vi.out.size);clear bN;refine dY hK (SF.out y1 Ap.out) ?_;clear hK KQ hH;intro hH;try simp only [Act.put,jK3,jK4,jK5]
   refine fK 6 fun KQ hK=>?_
   go_simp;obtain ⟨y2,hN⟩:∃ z,z=y1.alloc (.cells ([⟨#[105,100]⟩,⟨#[110,111,116,101,45]⟩++i,⟨#[99,108,97,115,115]⟩,⟨#[110,111,116,101]⟩].map Value.string).toArray 9):=⟨_,rfl⟩;obtain ⟨p6,hf⟩:∃ z,z=y1.heap.size:=⟨_,rfl⟩;have LSX:=tY [⟨#[105,100]⟩,⟨#[110,111,116,101,45]⟩++i,⟨#[99,108,97,115,115]⟩,⟨#[110,111,116,101]⟩] y1 (by show 4<=maxLen;unfold maxLen;decide);rw [<- hN,<- hf] at LSX;have jg1:=hid (show Rd (·<y2.heap.size) y2 (jf (oD [⟨pR,eX++i⟩,⟨gV,jB⟩])) [.slice (some ⟨p6,0,none⟩) 4 4] from LSX);have bN:jNj y1.heap.size y1 y2:=by rw [hN];exact (jK7 _ _).alloc (jK8 _) _
   simp only [List.map_cons,List.map_nil] at hN;rw [<- hN,<- hf];clear hN hf LSX;have rG:Hid (jNj W0.heap.size W0 y2):=Ap.out.trans (bN.mono Ap.out.size);have jfz:=hid (jxq.out.bP bN);clear bN;refine dY hK (SF.out y2 rG.out) ?_;clear hK KQ hH;intro hH;try simp only [Act.put,jK3,jK4,jK5]
   refine fK 7 fun KQ hK=>?_
   go_simp;go_at_call 41
   (with_reducible refine (mH [⟨pR,eX++i⟩,⟨gV,jB⟩] (.slice (some ⟨p6,0,none⟩) 4 4) y2 jg1.out (by simp)).mono ?_)
   rintro e y3 ⟨bI,v2,rfl,hrow2⟩;obtain ⟨a2,c2,rfl,-,-⟩:=hrow2.cap (n:=2) rfl;have bN:=hrow2.aY;have xI:=hid (show Rd (W0.heap.size<=·) y3 (dx [⟨pR,eX++i⟩,⟨gV,jB⟩]) [.slice a2 2 c2] from hrow2.iZ.weaken (fun b hb=>jK9 rG.out.size hb));clear hrow2;have mK:Hid (jNj W0.heap.size W0 y3):=rG.out.trans (bN.mono rG.out.size);have Jv:=hid (jfz.out.bP bN);clear bN;refine dY hK (SF.out y3 mK.out) ?_;clear hK KQ hH;intro hH;try simp only [Act.put,jK3,jK4,jK5]
   refine fK 10 fun KQ hK=>?_
   go_simp;go_at_call 38
   (with_reducible refine (KC.out y3 mK.out).mono ?_)
   rintro e y4 ⟨gW,v3,rfl,hrow3⟩;obtain ⟨a3,n3,c3,rfl⟩:=hrow3.slice3;have bN:=hrow3.aY;have EF:=hid (show Rd (W0.heap.size<=·) y4 (dR (ah.bG ks)) [.slice a3 n3 c3] from hrow3.iZ.weaken (fun b hb=>jK9 mK.out.size hb));clear hrow3;have uh:Hid (jNj W0.heap.size W0 y4):=mK.out.trans (bN.mono mK.out.size);have EG:=hid (Jv.out.bP bN);have ED:=hid (xI.out.bP bN);clear bN;refine dY hK (SF.out y4 uh.out) ?_;clear hK KQ hH;intro hH;try simp only [Act.put,jK3,jK4,jK5]
   refine fK 11 fun KQ hK=>?_
   go_simp;go_at_call 40
   (with_reducible refine (ny ⟨#[100,105,118]⟩ a2 a3 2 n3 c2 c3 y4).mono ?_)
   rintro e y5 ⟨rfl,bN⟩;have ug:=hid (show Rd (W0.heap.size<=·) y5 (aW vM [⟨pR,eX++i⟩,⟨gV,jB⟩] (ah.bG ks)).d [.string ⟨#[100,105,118]⟩,.string ⟨#[]⟩,.slice a2 2 c2,.slice a3 n3 c3] from Nd.fC ⟨#[100,105,118]⟩ ⟨#[]⟩ ⟨ED.out.bP bN,EF.out.bP bN⟩);have rz:Hid (jNj W0.heap.size W0 y5):=uh.out.trans (bN.mono uh.out.size);have uj:=hid (EG.out.bP bN);clear bN;refine dY hK (SF.out y5 rz.out) ?_;clear hK KQ hH;intro hH;try simp only [Act.put,jK3,jK4,jK5]
   exact REST y5 p6 a2 c2 a3 n3 c3 pz ⟨hH,rz,uj,ug⟩
 case hr=>
  intro y5 p6 a2 c2 a3 n3 c3 pz ⟨hH,rz,uj,ug⟩;refine fK 14 fun KQ hK=>?_
  refine Ae (n:=n) (m:=1) rfl (.tmp 5) (.tmp 16) 28 rfl iN _ 80 underlying28 LJ qx qz qA rfl (by decide) (bR.out.below (B0.out.trans (rz.out.mono B0.out.size))) (fun _=>False.elim) (.slice (some ⟨pz,0,none⟩) 1 1) (uj.out.weaken (fun b (hb:W0.heap.size<=b)=>.inr (by have:=B0.out.size;omega))) (fun rs ok' h=>O8 [Q7] rs ok' _ h) HM.out rfl (by omega) (by decide) rfl rfl ?_;intro a5 c5 Am w5 bZ hg5 Gt;obtain ⟨g5,cap5,hvg,-⟩:=oJ bZ.own (by simp);obtain ⟨rfl,rfl⟩:a5=some ⟨g5,0,none⟩/\c5=cap5:=by injection hvg with h1 h2 h3;exact ⟨h1,h3⟩
  obtain ⟨jE1,z0,z1,z2,z3,rfl,-⟩:=bZ.Q8;have hat:(Value.slice av n cv).ownBlock=some g5\/g5=y5.heap.size:=by
   rcases Gt with h | h
   ·exact .inl (h.symm.trans rfl)
   ·refine .inr ?_;have e:g5=y5.heap.size:=by simpa [Value.ownBlock] using h
    exact e
  have hzy:=rz.out.size;have hg:(N0<=g5/\g5<S)\/g5=y5.heap.size:=hat.imp (fun h=>C8.out g5 h) id;have hBg:Bb≠g5:=by have:=Z0.out;omega
  have hSg:S≠g5:=by have:=Z0.out;omega
  have Vj:∀ b,b=Bb\/b=S->some b≠(Value.slice av n cv).ownBlock:=fun b hb e=>by have:=C8.out b e.symm;omega
  obtain ⟨s1,s2,s3⟩:=SF.out y5 rz.out;have S5:w5.cell? ⟨Bb,0,none⟩=some (.slice av n cv)/\w5.cell? ⟨S,2,none⟩=some (.string i)/\w5.cell? ⟨S,10,none⟩=some (.slice ak nk ck):=
   ⟨(lI (hg5.block Bb (by have:=Z0.out;omega) (Vj Bb (.inl rfl))) 0).trans s1,(lI (hg5.block S (by have:=Z0.out;omega) (Vj S (.inr rfl))) 2).trans s2,(lI (hg5.block S (by have:=Z0.out;omega) (Vj S (.inr rfl))) 10).trans s3⟩
  have ZH:aH Bb (.slice av n cv) 75 w5:=(hg5.block Bb (by have:=Z0.out;omega) (Vj Bb (.inl rfl))).trans (((lK.out.below (by have:=HS.out;omega) B0.out)).below (B:=W0.heap.size) (by have:=Z0.out;omega) rz.out);obtain ⟨y0',y1',y2',y3',yf⟩:=bZ.Pm HM.out;have zf5:=ZH.free;have z5:=ZH.cell;obtain ⟨wZ,hzZ,xJ⟩:=bZ.hop2 (p:=Bb) (by have:=HN0.out;omega) (show w5.grownBy (w5.setCell ⟨Bb,0,none⟩ (.slice (some ⟨g5,0,none⟩) (n+1) c5)) (some Bb) from ⟨rfl,rfl,rfl,by simp [World.setCell],fun b _ hb=>Below.heap_setCell w5 ⟨Bb,0,none⟩ _ b (fun e=>hb (by rw [e]))⟩);obtain ⟨u0,u1,u2,u3,uf⟩:=xJ.Pm HM.out;have hF:=Jt (x:=(aW vM [⟨pR,eX++i⟩,⟨gV,jB⟩] (ah.bG ks))) (.string ⟨#[100,105,118]⟩) (.string ⟨#[]⟩) (.slice a2 2 c2) (.slice a3 n3 c3) HN0.out hB bR.out lK.out (B0.out.trans (rz.out.mono B0.out.size)) bZ hg5 HM.out hat (ug.out.weaken (fun b (hb:W0.heap.size<=b)=>jK9 B0.out.size hb));have oK:=hid hF;have bx6:aH Bb (.slice av n cv) 75 ((((w5.setCell ⟨g5,n*4,none⟩ (.string ⟨#[100,105,118]⟩)).setCell ⟨g5,n*4+1,none⟩ (.string ⟨#[]⟩)).setCell ⟨g5,n*4+2,none⟩ (.slice a2 2 c2)).setCell ⟨g5,n*4+3,none⟩ (.slice a3 n3 c3)):=(iJ w5 g5 (n*4) (.string ⟨#[100,105,118]⟩) (.string ⟨#[]⟩) (.slice a2 2 c2) (.slice a3 n3 c3) Bb hBg).trans ZH;have S6:World.cell? ((((w5.setCell ⟨g5,n*4,none⟩ (.string ⟨#[100,105,118]⟩)).setCell ⟨g5,n*4+1,none⟩ (.string ⟨#[]⟩)).setCell ⟨g5,n*4+2,none⟩ (.slice a2 2 c2)).setCell ⟨g5,n*4+3,none⟩ (.slice a3 n3 c3)) ⟨Bb,0,none⟩=some (.slice av n cv)/\World.cell? ((((w5.setCell ⟨g5,n*4,none⟩ (.string ⟨#[100,105,118]⟩)).setCell ⟨g5,n*4+1,none⟩ (.string ⟨#[]⟩)).setCell ⟨g5,n*4+2,none⟩ (.slice a2 2 c2)).setCell ⟨g5,n*4+3,none⟩ (.slice a3 n3 c3)) ⟨S,2,none⟩=some (.string i)/\World.cell? ((((w5.setCell ⟨g5,n*4,none⟩ (.string ⟨#[100,105,118]⟩)).setCell ⟨g5,n*4+1,none⟩ (.string ⟨#[]⟩)).setCell ⟨g5,n*4+2,none⟩ (.slice a2 2 c2)).setCell ⟨g5,n*4+3,none⟩ (.slice a3 n3 c3)) ⟨S,10,none⟩=some (.slice ak nk ck):=⟨q2u S5.1 hBg,q2u S5.2.1 hSg,q2u S5.2.2 hSg⟩;have zf6:=bx6.free;have z6:=S6.1;have t0:(0:Int)<=(n:Int):=by omega
  have t1:(n:Int)<((n+1:Nat):Int):=by omega
  have t2:(n:Int)<(n:Int)+1:=by omega
  have t3:n<n+1:=by omega
  clear xJ hzZ ZH bx6 bZ hg5 Gt hvg Vj s1 s2 s3 hF hat hg;refine dY hK S5 ?_;clear hK KQ hH;intro hH;try simp only [Act.put,jK3,jK4,jK5]
  refine gP 17 rfl hH (by intro wv hSw;obtain ⟨cb,c2,c10⟩:=hSw;go_simp;try with_reducible rfl) ?_;refine gP 18 rfl hH (by intro wv hSw;obtain ⟨cb,c2,c10⟩:=hSw;go_simp;try with_reducible rfl) ?_;try simp only [Act.put,jK3,jK4,jK5]
  refine rH 15 19 (fun KQ hK=>?_) (fun KQ hK=>?_)
  ·go_simp;refine dY hK S5 ?_;clear hK KQ hH;intro hH;try simp only [Act.put,jK3,jK4,jK5]
   refine rH 16 19 (fun KQ hK=>?_) (fun KQ hK=>?_)
   ·go_simp;refine dY hK S6 ?_;clear hK KQ hH;intro hH;try simp only [Act.put,jK3,jK4,jK5]
    refine fK 19 fun KQ hK=>?_
    go_simp;refine qB hK ?_;clear hK KQ hH;try simp only [Act.put,jK3,jK4,jK5]
    refine yF ?_;clear S5 S6 y0' y1' y2' y3' yf u0 u1 u2 u3 uf zf5 z5 zf6 z6 t0 t1 t2 t3;have Pn:=oK.out;simp only [tZ] at Pn;obtain ⟨w7,hw7⟩:∃ w7,w7=((((w5.setCell ⟨g5,n*4,none⟩ (.string ⟨#[100,105,118]⟩)).setCell ⟨g5,n*4+1,none⟩ (.string ⟨#[]⟩)).setCell ⟨g5,n*4+2,none⟩ (.slice a2 2 c2)).setCell ⟨g5,n*4+3,none⟩ (.slice a3 n3 c3)).setCell ⟨Bb,0,none⟩ (.slice (some ⟨g5,0,none⟩) (n+1) c5):=⟨_,rfl⟩;rw [<- hw7] at Pn;rw [<- hw7];have HF7:=hid Pn;clear hw7 Pn oK;go_wp2
    go_end0
    exact ⟨rfl,HF7.out⟩
   ·go_simp;refine qB hK ?_;clear hK KQ hH;try simp only [Act.put,jK3,jK4,jK5]
    refine fK 16 fun KQ hK=>?_
    go_simp;refine hK.out _ _ (fun _ h=>absurd h (by decide)) (fun _=>?_);clear hK KQ;try simp only [Act.put,jK3,jK4,jK5]
    refine yF ?_;have hsw:=vU w5 Bb g5 (n*4) (.slice (some ⟨g5,0,none⟩) (n+1) c5) (.string ⟨#[100,105,118]⟩) (.string ⟨#[]⟩) (.slice a2 2 c2) (.slice a3 n3 c3) hBg;simp only [tZ] at hsw;rw [hsw];clear hsw;clear S5 S6 y0' y1' y2' y3' yf u0 u1 u2 u3 uf zf5 z5 zf6 z6 t0 t1 t2 t3;have Pn:=oK.out;simp only [tZ] at Pn;obtain ⟨w7,hw7⟩:∃ w7,w7=((((w5.setCell ⟨g5,n*4,none⟩ (.string ⟨#[100,105,118]⟩)).setCell ⟨g5,n*4+1,none⟩ (.string ⟨#[]⟩)).setCell ⟨g5,n*4+2,none⟩ (.slice a2 2 c2)).setCell ⟨g5,n*4+3,none⟩ (.slice a3 n3 c3)).setCell ⟨Bb,0,none⟩ (.slice (some ⟨g5,0,none⟩) (n+1) c5):=⟨_,rfl⟩;rw [<- hw7] at Pn;rw [<- hw7];have HF7:=hid Pn;clear hw7 Pn oK;go_wp2
    go_end0
    exact ⟨rfl,HF7.out⟩
  ·go_simp;refine qB hK ?_;clear hK KQ hH;try simp only [Act.put,jK3,jK4,jK5]
   refine fK 15 fun KQ hK=>?_
   go_simp;refine hK.out _ _ (fun _ h=>absurd h (by decide)) (fun _=>?_);clear hK KQ;try simp only [Act.put,jK3,jK4,jK5]
   refine fK 16 fun KQ hK=>?_
   go_simp;refine hK.out _ _ (fun _ h=>absurd h (by decide)) (fun _=>?_);clear hK KQ;try simp only [Act.put,jK3,jK4,jK5]
   refine yF ?_;have hsw:=vU w5 Bb g5 (n*4) (.slice (some ⟨g5,0,none⟩) (n+1) c5) (.string ⟨#[100,105,118]⟩) (.string ⟨#[]⟩) (.slice a2 2 c2) (.slice a3 n3 c3) hBg;simp only [tZ] at hsw;rw [hsw];clear hsw;clear S5 S6 y0' y1' y2' y3' yf u0 u1 u2 u3 uf zf5 z5 zf6 z6 t0 t1 t2 t3;have Pn:=oK.out;simp only [tZ] at Pn;obtain ⟨w7,hw7⟩:∃ w7,w7=((((w5.setCell ⟨g5,n*4,none⟩ (.string ⟨#[100,105,118]⟩)).setCell ⟨g5,n*4+1,none⟩ (.string ⟨#[]⟩)).setCell ⟨g5,n*4+2,none⟩ (.slice a2 2 c2)).setCell ⟨g5,n*4+3,none⟩ (.slice a3 n3 c3)).setCell ⟨Bb,0,none⟩ (.slice (some ⟨g5,0,none⟩) (n+1) c5):=⟨_,rfl⟩;rw [<- hw7] at Pn;rw [<- hw7];have HF7:=hid Pn;clear hw7 Pn oK;go_wp2
   go_end0
   exact ⟨rfl,HF7.out⟩
end Go.Proofs.YtkfnkeflalcphaaGreatDoor

