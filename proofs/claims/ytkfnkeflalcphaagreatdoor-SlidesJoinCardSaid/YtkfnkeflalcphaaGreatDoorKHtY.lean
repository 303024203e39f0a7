/- Contract of the function collect of html.Blocks (html.Blocks$1): the node of a note comes behind those that there are. -/
import Derived.Test.YtkfnkeflalcphaaGreatDoorKHrV
set_option maxHeartbeats 8000000
set_option maxRecDepth 100000
open Go.Lib (hid)
namespace Go.Proofs.YtkfnkeflalcphaaGreatDoor
open List renaming setIfInBounds_toArray->jlk,set_cons_zero->jlq,set_cons_succ->jlx
open Go.RowKit.Below renaming refl->jm0
open Nat renaming le_refl->jm1,le_trans->jm2
open Go.RowKit renaming Below->jp4
open Go.RowKit
set_option linter.unusedVariables false
set_option linter.unusedSimpArgs false
def Wj (Bb N0:Nat) (L:List Nd) (w:World):Prop:=
 ∃ (wB:World) (rows:List (List Value)) (v:Value),wB.heap.size=N0/\ay 35 4 (fun _=>False) w.heap.size wB (L.map Nd.d) rows v w/\aG Bb v 75 w
structure tT (Bb N0:Nat) (W W':World):Prop where
 os:W'.os=W.os
 tape:W'.tape=W.tape
 output:W'.output=W.output
 size:W.heap.size<=W'.heap.size
 blk:∀ b,b<N0->b≠Bb->W'.heap[b]?=W.heap[b]?
 Zy:∀ (b:Nat) (cs:Array Value) (t:TypeId) (g:Nat × Nat),W.heap[b]?=some (Obj.cells cs t g)->t≠75->t≠35->W'.heap[b]?=W.heap[b]?
theorem tT.refl (Bb N0:Nat) (W:World):tT Bb N0 W W:=⟨rfl,rfl,rfl,jm1 _,fun _ _ _=>rfl,fun _ _ _ _ _ _ _=>rfl⟩
theorem tT.trans {Bb N0:Nat} {A B C:World} (h:tT Bb N0 A B) (k:tT Bb N0 B C):tT Bb N0 A C:=
 ⟨k.os.trans h.os,k.tape.trans h.tape,k.output.trans h.output,jm2 h.size k.size,fun b h1 h3=>(k.blk b h1 h3).trans (h.blk b h1 h3),
  fun b cs t g h1 h2 h3=>(k.Zy b cs t g ((h.Zy b cs t g h1 h2 h3).trans h1) h2 h3).trans (h.Zy b cs t g h1 h2 h3)⟩
theorem tT.grown {Bb N0:Nat} {W W':World} {row:Option Nat} (h:W.grownBy W' row) (hS:N0<=W.heap.size) (hr:∀ r,row=some r->N0<=r/\∃ o:Obj,W.heap[r]?=some o/\o.isCells=false):tT Bb N0 W W':=
 ⟨h.os,h.tape,h.output,h.size,fun b h1 _=>h.block b (by omega) (fun e=>by have:=(hr b e.symm).1;omega),fun b cs t g h1 _ _=>h.block b (Array.getElem?_eq_some_iff.1 h1).1 (fun e=>by
  obtain ⟨-,o,k1,k2⟩:=hr b e.symm;rw [h1] at k1;cases k1;cases k2)⟩
theorem tT.obj (Bb N0:Nat) (W:World) (l:Nat) (o o':Obj) (hl:N0<=l) (ho:W.heap[l]?=some o) (hc:o.isCells=false):tT Bb N0 W (W.putObj l o'):=by
 refine ⟨rfl,rfl,rfl,by simp [World.putObj],fun b h1 _=>World.putObj_heap_other (by omega),fun b cs t g h1 _ _=>World.putObj_heap_other ?_⟩;rintro rfl;rw [ho] at h1;cases h1
 cases hc
theorem tT.below {Bb N0 S:Nat} {W W':World} (h:tT Bb N0 W W') (h1:S<=Bb) (h2:Bb<N0):jp4 S W W':=⟨h.os,h.tape,h.output,h.size,fun b hb=>h.blk b (by omega) (by omega)⟩
def Nr (w w':World):Prop:=∀ (b:Nat) (o:Obj),w.heap[b]?=some o->o.isCells=false->w'.heap[b]?=some o
def Wm (Bb N0:Nat) (L:List Nd) (w:World) (e:Ending) (w':World):Prop:=e=.returned (.tuple #[])/\Wj Bb N0 L w'/\tT Bb N0 w w'/\Nr w w'
def KI:Nd:=.mk ⟨#[]⟩ ⟨#[]⟩ [] []
theorem El {Bb N0 n g5 c5:Nat} {L:List Nd} {rows vY:List (List Value)} {v z0 z1 z2 z3:Value} {w y w5 wB:World} {x:Nd} (c0 c1 c2 c3:Value) (hN0:wB.heap.size=N0) (hB:Bb<N0) (hrow:ay 35 4 (fun _=>False) w.heap.size wB (L.map Nd.d) rows v w) (hbx:aG Bb v 75 w) (b0:jp4 w.heap.size w y) (bK:ay 35 4 (fun _=>False) w5.heap.size wB (L.map Nd.d++[KI.d]) (vY++[[z0,z1,z2,z3]]) (.slice (some ⟨g5,0,none⟩) (n+1) c5) w5) (hg5:y.grownBy w5 v.ownBlock) (hn:(L.map Nd.d).length=n) (hat:v.ownBlock=some g5\/g5=y.heap.size) (hx:Rd (w.heap.size<=·) y x.d [c0,c1,c2,c3]) : Wj Bb N0 (L++[x]) ((pI w5 g5 (n*4) c0 c1 c2 c3).setCell ⟨Bb,0,none⟩ (.slice (some ⟨g5,0,none⟩) (n+1) c5)) /\ tT Bb N0 w ((pI w5 g5 (n*4) c0 c1 c2 c3).setCell ⟨Bb,0,none⟩ (.slice (some ⟨g5,0,none⟩) (n+1) c5))/\Nr w ((pI w5 g5 (n*4) c0 c1 c2 c3).setCell ⟨Bb,0,none⟩ (.slice (some ⟨g5,0,none⟩) (n+1) c5)):=by
 have hov:∀ g,v.ownBlock=some g->N0<=g/\g<w.heap.size:=fun g hg=>by have:=hrow.own.lt g hg;omega
 have Em:=hrow.aI.size;have Iz:=b0.size;have Gv:=hg5.size;have hg:(N0<=g5/\g5<w.heap.size)\/g5=y.heap.size:=hat.imp (fun h=>hov g5 h) id;have hBg:Bb≠g5:=by omega
 have CZ:=bK.TH hn c0 c1 c2 c3 (d1:=x.d) (Rd.keep (fun b (hb:w.heap.size<=b) hlt=>⟨⟨.inr (by omega),by omega,by omega⟩,hg5.block b hlt (fun e=>by have:=hov b e.symm;omega)⟩) _ _ hx);obtain ⟨w6,jH⟩:∃ w6,w6=pI w5 g5 (n*4) c0 c1 c2 c3:=⟨_,rfl⟩;have hb6:∀ b,b≠g5->w6.heap[b]?=w5.heap[b]?:=fun b hb=>by rw [jH];exact gU _ _ _ _ _ _ _ b hb
 have VO:w6.heap.size=w5.heap.size:=by rw [jH];simp [pI,World.setCell]
 have ho6:w6.os=w5.os/\w6.tape=w5.tape/\w6.output=w5.output:=by rw [jH];exact ⟨rfl,rfl,rfl⟩
 rw [<- jH] at CZ ⊢;clear jH;obtain ⟨w7,hw7⟩:∃ w7,w7=w6.setCell ⟨Bb,0,none⟩ (.slice (some ⟨g5,0,none⟩) (n+1) c5):=⟨_,rfl⟩;rw [<- hw7];have hb5:∀ b,b<w.heap.size->v.ownBlock≠some b->w5.heap[b]?=w.heap[b]?:=fun b hb ho=>(hg5.block b (by omega) (fun e=>ho e.symm)).trans (b0.block b hb)
 have hBo:v.ownBlock≠some Bb:=fun e=>by have:=hov Bb e;omega
 have VL:aG Bb v 75 w6:=(hb6 Bb hBg).trans ((hb5 Bb (by omega) hBo).trans hbx);have bx7:aG Bb (.slice (some ⟨g5,0,none⟩) (n+1) c5) 75 w7:=by rw [hw7];exact VL.set _
 have g7:w6.grownBy w7 (some Bb):=by rw [hw7];exact ⟨rfl,rfl,rfl,by simp [World.setCell],fun b _ hb=>Below.heap_setCell w6 ⟨Bb,0,none⟩ _ b (fun e=>hb (by rw [e]))⟩
 have hz7:w7.heap.size=w6.heap.size:=by rw [hw7];simp [World.setCell]
 obtain ⟨wB7,VP,vO⟩:=CZ.hop2 (p:=Bb) (by omega) g7;have VQ:∀ b,b<w.heap.size->b≠Bb->b≠g5->v.ownBlock≠some b->w7.heap[b]?=w.heap[b]?:=fun b h1 h2 h3 h4=>
  (g7.block b (by omega) (fun e=>h2 (Option.some.inj e))).trans ((hb6 b h3).trans (hb5 b h1 h4))
 have hown:∀ g,v.ownBlock=some g->∃ cs gg,w.heap[g]?=some (Obj.cells cs 35 gg):=fun g hg=>by
  rcases hrow.own.2 with ⟨h1,-⟩ | ⟨g',cap,cur,h1,-,h2,-⟩
  ·rw [h1] at hg;cases hg
  ·rw [h1] at hg;have e:g'=g:=by simpa [Value.ownBlock] using hg
   subst e;exact ⟨_,_,h2⟩
 refine ⟨⟨wB7,vY++[[c0,c1,c2,c3]],_,VP.trans hN0,?_,bx7⟩,⟨?_,?_,?_,by omega,fun b hb hne=>VQ b (by omega) hne (by omega) (fun e=>by have:=hov b e;omega),fun b cs t g hc h1 h2=>?_⟩,fun b o ho hc=>?_⟩
 ·rw [List.map_append];exact vO.up (by omega) (jm1 _)
 ·exact g7.os.trans (ho6.1.trans (hg5.os.trans b0.os))
 ·exact g7.tape.trans (ho6.2.1.trans (hg5.tape.trans b0.tape))
 ·exact g7.output.trans (ho6.2.2.trans (hg5.output.trans b0.output))
 ·have hbw:b<w.heap.size:=(Array.getElem?_eq_some_iff.1 hc).1;have hno:v.ownBlock≠some b:=fun e=>by
   obtain ⟨cs',gg,h⟩:=hown b e;rw [h] at hc;injection hc with hc;injection hc with _ hc;exact h2 hc.symm
  refine VQ b hbw (fun e=>?_) (fun e=>?_) hno
  ·subst e;rw [show w.heap[b]?=_ from hbx] at hc;injection hc with hc;injection hc with _ hc;exact h1 hc.symm
  ·subst e;rcases hat with h | h
   ·exact hno h
   ·omega
 ·have hbw:b<w.heap.size:=(Array.getElem?_eq_some_iff.1 ho).1;have hno:v.ownBlock≠some b:=fun e=>by
   obtain ⟨cs',gg,h⟩:=hown b e;rw [h] at ho;cases ho;cases hc
  refine (VQ b hbw (fun e=>?_) (fun e=>?_) hno).trans ho
  ·subst e;rw [show w.heap[b]?=_ from hbx] at ho;cases ho;cases hc
  ·subst e;rcases hat with h | h
   ·exact hno h
   ·omega
theorem En (Bb N0:Nat) (L:List Nd) (k lv:Int) (i t d ti:ByteArray) (at_:At) (li:List aj) (ks:List ah) (vc vp vl vk:Value) (w:World) (hB:Bb<N0) (hR:kN (·<Bb) w at_ li ks vc vp vl vk) (hwk:ah.kR ks) (hsz:ah.aR ks<=900000) (hi:i.size<=300) (ht:PT w) (hL:L.length<=1000000) (h:Wj Bb N0 L w) : Calls Tryz.prog 39 #[.agg #[.int .i64 k,.int .i64 lv,.string i,.string t,.string d,.string ti,.string at_.id,vc,vp,vl,vk],.pointer (some ⟨Bb,0,none⟩)] w (Wm Bb N0 (L++[aQ qc [⟨oC,dK++i⟩,⟨iF,gH⟩] (ah.aW ks)]) w):=by
 obtain ⟨iN,FH,nW,og,oh⟩:=info_parts mG;obtain ⟨ac,nc,cc,rfl⟩:=Rd.au hR.at_.cls
 obtain ⟨ap,np,cp,rfl⟩:=Rd.au hR.at_.aJ
 obtain ⟨al,nl,cl,rfl⟩:=Rd.au hR.line;obtain ⟨ak,nk,ck,rfl⟩:=Rd.au hR.kids;obtain ⟨wB,rows,v,hN0,hrow,hbx⟩:=h;obtain ⟨n,hn⟩:∃ n,n=(L.map Nd.d).length:=⟨_,rfl⟩;have hn1:n<=1000000:=by rw [hn,List.length_map];exact hL
 obtain ⟨av,cv,rfl,-,-⟩:=hrow.cap hn.symm;obtain ⟨S,hS⟩:∃ S,S=w.heap.size:=⟨_,rfl⟩;obtain ⟨W0,hW0⟩:∃ W0,W0=w.alloc (.cells #[.int .i64 k,.int .i64 lv,.string i,.string t,.string d,.string ti,.string at_.id,.slice ac nc cc,.slice ap np cp,.slice al nl cl,.slice ak nk ck] 48):=⟨_,rfl⟩;have k0:CB 48 S [.int .i64 k,.int .i64 lv,.string i,.string t,.string d,.string ti,.string at_.id,.slice ac nc cc,.slice ap np cp,.slice al nl cl,.slice ak nk ck] W0:=by rw [hW0,hS];exact CB.new _ _ w
 have b0:jp4 w.heap.size w W0:=by rw [hW0];exact (jm0 _ _).alloc (jm1 _) _
 have z0:W0.heap.size=S+1:=by rw [hW0,World.size_alloc,hS]
 have Em:=hrow.aI.size;have hov:∀ g,(Value.slice av n cv).ownBlock=some g->N0<=g/\g<S:=fun g hg=>by have:=hrow.own.lt g hg;omega
 have hBS:Bb<S:=by omega
 have SF:Hid (∀ y:World,jp4 W0.heap.size W0 y->y.cell? ⟨Bb,0,none⟩=some (.slice av n cv)/\y.cell? ⟨S,2,none⟩=some (.string i)/\y.cell? ⟨S,10,none⟩=some (.slice ak nk ck)):=fun y hb=>
  ⟨((hbx.below (by omega) b0).below (B:=W0.heap.size) (by omega) hb).cell,(k0.below hb).cell 2 _ rfl,(k0.below hb).cell 10 _ rfl⟩
 have KC:Hid (∀ y:World,jp4 W0.heap.size W0 y->Calls Tryz.prog 38 #[.pointer (some ⟨Bb,0,none⟩),.slice ak nk ck] y (dw y (ah.aW ks))):=fun y hy=>by
  have hb:=b0.trans (hy.mono b0.size);exact sK _ 900000 ks _ y hsz (by decide) (Rd.keep (w:=w) (w':=y) (ok:=(·<Bb)) (fun b (hb':b<Bb) hlt=>⟨by show b<y.heap.size;have:=hb.size;omega,hb.block b (by omega)⟩) _ _ hR.kids) hwk (ht.below hb)
 have q5:(⟨#[110,111,116,101,45]⟩:ByteArray).size+i.size<=9223372036854775807:=by have:(⟨#[110,111,116,101,45]⟩:ByteArray).size=5:=rfl;omega
 have q6:5+i.size<=9223372036854775807:=by omega
 have hadd:∀ w:World,(Op.stringOp .add (⟨#[110,111,116,101,45]⟩:ByteArray) i).run Tryz.prog w=.ok (.string (⟨#[110,111,116,101,45]⟩++i)) w:=fun w=>run_string_add_sum w _ _ q5
 have HM:=hid hn.symm;have bV:=hid hrow;have kF:=hid hbx;have xP:=hid hov;have HN0:=hid hN0;have B0:=hid b0;have HS:=hid hS;have Z0:=hid z0;clear hR hwk hsz hi ht hL hrow hbx hn hN0 k0 b0 z0 hov Em;go_enter Tryz.func39,Tryz.ntmps39;go_upto_region 1 with (fail)
 rw [<- hW0,<- hS];clear hW0 hS;refine QX 19 (fun w'=>w'.cell? ⟨Bb,0,none⟩=some (.slice av n cv)/\w'.cell? ⟨S,2,none⟩=some (.string i)/\w'.cell? ⟨S,10,none⟩=some (.slice ak nk ck)) (by kernel_rfl) (SF.out W0.drew (jm0 _ _).drew) ?_;intro hH;apply Zz (α1:=World) (α2:=Nat) (α3:=Option Addr) (α4:=Nat) (α5:=Option Addr) (α6:=Nat) (α7:=Nat) (α8:=Nat) (R:=fun y5 p6 a2 c2 a3 n3 c3 pz=>(y5.cell? ⟨Bb,0,none⟩=some (.slice av n cv)/\y5.cell? ⟨S,2,none⟩=some (.string i)/\y5.cell? ⟨S,10,none⟩=some (.slice ak nk ck))/\Hid (jp4 W0.heap.size W0 y5)/\Hid (Rd (W0.heap.size<=·) y5 (.sl 4 [KI.d]) [.slice (some ⟨pz,0,none⟩) 1 1])/\Hid (Rd (W0.heap.size<=·) y5 (aQ qc [⟨oC,dK++i⟩,⟨iF,gH⟩] (ah.aW ks)).d [.string ⟨#[100,105,118]⟩,.string ⟨#[]⟩,.slice a2 2 c2,.slice a3 n3 c3]));case hm=>
  intro REST;refine ig 0 (v:=?_) rfl (by kernel_rfl) hH (by rfl) ?_ ?_;rotate_left
  ·(intro wv hSw;obtain ⟨cb,c2,c10⟩:=hSw;go_simp;try with_reducible rfl)
  try simp only [Act.put,jlk,jlq,jlx]
  refine ig 1 (v:=?_) rfl (by kernel_rfl) hH (by rfl) ?_ ?_;rotate_left
  ·(intro wv hSw;obtain ⟨cb,c2,c10⟩:=hSw;go_simp;try with_reducible rfl)
  try simp only [Act.put,jlk,jlq,jlx]
  refine ig 2 (v:=?_) rfl (by kernel_rfl) hH (by rfl) ?_ ?_;rotate_left
  ·(intro wv hSw;obtain ⟨cb,c2,c10⟩:=hSw;go_simp;try with_reducible rfl)
  try simp only [Act.put,jlk,jlq,jlx]
  refine ig 3 (v:=?_) rfl (by kernel_rfl) hH (by rfl) ?_ ?_;rotate_left
  ·(intro wv hSw;obtain ⟨cb,c2,c10⟩:=hSw;go_simp;try with_reducible rfl)
  try simp only [Act.put,jlk,jlq,jlx]
  refine ig 4 (v:=?_) rfl (by kernel_rfl) hH (by rfl) ?_ ?_;rotate_left
  ·(intro wv hSw;obtain ⟨cb,c2,c10⟩:=hSw;go_simp;try with_reducible rfl)
  try simp only [Act.put,jlk,jlq,jlx]
  refine ig 5 (v:=?_) rfl (by kernel_rfl) hH (by rfl) ?_ ?_;rotate_left
  ·(intro wv hSw;obtain ⟨cb,c2,c10⟩:=hSw;go_simp;try with_reducible rfl)
  try simp only [Act.put,jlk,jlq,jlx]
  refine ig 8 (v:=?_) rfl (by kernel_rfl) hH (by rfl) ?_ ?_;rotate_left
  ·(intro wv hSw;obtain ⟨cb,c2,c10⟩:=hSw;go_simp;try with_reducible rfl)
  try simp only [Act.put,jlk,jlq,jlx]
  refine ig 9 (v:=?_) rfl (by kernel_rfl) hH (by rfl) ?_ ?_;rotate_left
  ·(intro wv hSw;obtain ⟨cb,c2,c10⟩:=hSw;go_simp;try with_reducible rfl)
  try simp only [Act.put,jlk,jlq,jlx]
  refine ig 12 (v:=?_) rfl (by kernel_rfl) hH (by rfl) ?_ ?_;rotate_left
  ·(intro wv hSw;obtain ⟨cb,c2,c10⟩:=hSw;go_simp;try with_reducible rfl)
  try simp only [Act.put,jlk,jlq,jlx]
  obtain ⟨y0,hy0⟩:∃ y0,y0=W0.drew:=⟨_,rfl⟩;have Ns:Hid (jp4 W0.heap.size W0 y0):=by rw [hy0];exact (jm0 _ _).drew
  rw [<- hy0] at hH;rw [<- hy0];clear hy0;refine xR (i:=6) (j:=13) rfl rfl (by kernel_rfl) (fun KQ hK=>?_) (fun KQ hK=>?_)
  ·go_simp;obtain ⟨y1,hN⟩:∃ z,z=y0.alloc (.cells ([⟨#[105,100]⟩,⟨#[110,111,116,101,45]⟩++i,⟨#[99,108,97,115,115]⟩,⟨#[110,111,116,101]⟩].map Value.string).toArray 9):=⟨_,rfl⟩;obtain ⟨p6,hf⟩:∃ z,z=y0.heap.size:=⟨_,rfl⟩;have Wn:=qo [⟨#[105,100]⟩,⟨#[110,111,116,101,45]⟩++i,⟨#[99,108,97,115,115]⟩,⟨#[110,111,116,101]⟩] y0 (by show 4<=maxLen;unfold maxLen;decide);rw [<- hN,<- hf] at Wn;have TU:=hid (show Rd (·<y1.heap.size) y1 (dW (mH [⟨oC,dK++i⟩,⟨iF,gH⟩])) [.slice (some ⟨p6,0,none⟩) 4 4] from Wn);have bN:jp4 y0.heap.size y0 y1:=by rw [hN];exact (jm0 _ _).alloc (jm1 _) _
   simp only [List.map_cons,List.map_nil] at hN;rw [<- hN,<- hf];clear hN hf Wn;have vZ:Hid (jp4 W0.heap.size W0 y1):=Ns.out.trans (bN.mono Ns.out.size);clear bN;refine hK.out _ _ (fun _ _=>SF.out y1 vZ.out) (fun hH2=>?_);clear hK KQ hH;have hH:=hH2 (by decide) (by kernel_rfl);clear hH2;try simp only [Act.put,jlk,jlq,jlx]
   refine xR (i:=7) (j:=13) rfl rfl (by kernel_rfl) (fun KQ hK=>?_) (fun KQ hK=>?_)
   ·go_simp;go_at_call 41
    (with_reducible refine (jq [⟨oC,dK++i⟩,⟨iF,gH⟩] (.slice (some ⟨p6,0,none⟩) 4 4) y1 TU.out (by simp)).mono ?_)
    rintro e y2 ⟨bR,v2,rfl,hrow2⟩;obtain ⟨a2,c2,rfl,-,-⟩:=hrow2.cap (n:=2) rfl;have bN:=hrow2.aI;have TV:=hid (show Rd (W0.heap.size<=·) y2 (bP [⟨oC,dK++i⟩,⟨iF,gH⟩]) [.slice a2 2 c2] from hrow2.fD.weaken (fun b hb=>jm2 vZ.out.size hb));clear hrow2;have l7:Hid (jp4 W0.heap.size W0 y2):=vZ.out.trans (bN.mono vZ.out.size);clear bN;refine hK.out _ _ (fun _ _=>SF.out y2 l7.out) (fun hH2=>?_);clear hK KQ hH;have hH:=hH2 (by decide) (by kernel_rfl);clear hH2;try simp only [Act.put,jlk,jlq,jlx]
    refine xR (i:=10) (j:=13) rfl rfl (by kernel_rfl) (fun KQ hK=>?_) (fun KQ hK=>?_)
    ·go_simp;go_at_call 38
     (with_reducible refine (KC.out y2 l7.out).mono ?_)
     rintro e y3 ⟨dM,v3,rfl,hrow3⟩;obtain ⟨a3,n3,c3,rfl⟩:=hrow3.slice3;have bN:=hrow3.aI;have TW:=hid (show Rd (W0.heap.size<=·) y3 (cO (ah.aW ks)) [.slice a3 n3 c3] from hrow3.fD.weaken (fun b hb=>jm2 l7.out.size hb));clear hrow3;have jc:Hid (jp4 W0.heap.size W0 y3):=l7.out.trans (bN.mono l7.out.size);have sV:=hid (TV.out.aY bN);clear bN;refine hK.out _ _ (fun _ _=>SF.out y3 jc.out) (fun hH2=>?_);clear hK KQ hH;have hH:=hH2 (by decide) (by kernel_rfl);clear hH2;try simp only [Act.put,jlk,jlq,jlx]
     refine xR (i:=11) (j:=13) rfl rfl (by kernel_rfl) (fun KQ hK=>?_) (fun KQ hK=>?_)
     ·go_simp;go_at_call 40
      (with_reducible refine (kM ⟨#[100,105,118]⟩ a2 a3 2 n3 c2 c3 y3).mono ?_)
      rintro e y4 ⟨rfl,bN⟩;have ZB:=hid (show Rd (W0.heap.size<=·) y4 (aQ qc [⟨oC,dK++i⟩,⟨iF,gH⟩] (ah.aW ks)).d [.string ⟨#[100,105,118]⟩,.string ⟨#[]⟩,.slice a2 2 c2,.slice a3 n3 c3] from Nd.eH ⟨#[100,105,118]⟩ ⟨#[]⟩ ⟨sV.out.aY bN,TW.out.aY bN⟩);have kU:Hid (jp4 W0.heap.size W0 y4):=jc.out.trans (bN.mono jc.out.size);clear bN;refine hK.out _ _ (fun _ _=>SF.out y4 kU.out) (fun hH2=>?_);clear hK KQ hH;have hH:=hH2 (by decide) (by kernel_rfl);clear hH2;try simp only [Act.put,jlk,jlq,jlx]
      refine q01 (i:=13) rfl (by kernel_rfl) (fun KQ hK=>?_);go_simp;obtain ⟨y5,hN⟩:∃ z,z=y4.alloc (.cells [Value.string ⟨#[]⟩,.string ⟨#[]⟩,.slice none 0 0,.slice none 0 0].toArray 35):=⟨_,rfl⟩;obtain ⟨pz,hf⟩:∃ z,z=y4.heap.size:=⟨_,rfl⟩;have BJ:=(ay.one (T:=35) (k:=4) (w:=y4) (d:=KI.d) (r:=[Value.string ⟨#[]⟩,.string ⟨#[]⟩,.slice none 0 0,.slice none 0 0]) rfl (Nd.eH ⟨#[]⟩ ⟨#[]⟩ ⟨Rd.aD _ _ _,Rd.aD _ _ _⟩)).fD;rw [<- hN,<- hf] at BJ;have mR:=hid (show Rd (W0.heap.size<=·) y5 (.sl 4 [KI.d]) [.slice (some ⟨pz,0,none⟩) 1 1] from BJ.weaken (fun b (hb:pz<=b)=>by have:=kU.out.size;omega));have bN:jp4 y4.heap.size y4 y5:=by rw [hN];exact (jm0 _ _).alloc (jm1 _) _
      rw [<- hN,<- hf];clear hN hf BJ;have kV:Hid (jp4 W0.heap.size W0 y5):=kU.out.trans (bN.mono kU.out.size);have mU:=hid (ZB.out.aY bN);clear bN;refine hK.out _ _ (fun _ _=>SF.out y5 kV.out) (fun hH2=>?_);clear hK KQ hH;have hH:=hH2 (by decide) (by kernel_rfl);clear hH2;try simp only [Act.put,jlk,jlq,jlx]
      exact REST y5 p6 a2 c2 a3 n3 c3 pz ⟨hH,kV,mR,mU⟩
     ·go_simp;obtain ⟨y4,hN⟩:∃ z,z=y3.alloc (.cells [Value.string ⟨#[]⟩,.string ⟨#[]⟩,.slice none 0 0,.slice none 0 0].toArray 35):=⟨_,rfl⟩;obtain ⟨pz,hf⟩:∃ z,z=y3.heap.size:=⟨_,rfl⟩;have BJ:=(ay.one (T:=35) (k:=4) (w:=y3) (d:=KI.d) (r:=[Value.string ⟨#[]⟩,.string ⟨#[]⟩,.slice none 0 0,.slice none 0 0]) rfl (Nd.eH ⟨#[]⟩ ⟨#[]⟩ ⟨Rd.aD _ _ _,Rd.aD _ _ _⟩)).fD;rw [<- hN,<- hf] at BJ;have wh:=hid (show Rd (W0.heap.size<=·) y4 (.sl 4 [KI.d]) [.slice (some ⟨pz,0,none⟩) 1 1] from BJ.weaken (fun b (hb:pz<=b)=>by have:=jc.out.size;omega));have bN:jp4 y3.heap.size y3 y4:=by rw [hN];exact (jm0 _ _).alloc (jm1 _) _
      rw [<- hN,<- hf];clear hN hf BJ;have kU:Hid (jp4 W0.heap.size W0 y4):=jc.out.trans (bN.mono jc.out.size);have wm:=hid (TW.out.aY bN);have wo:=hid (sV.out.aY bN);clear bN;refine hK.out _ _ (fun _ _=>SF.out y4 kU.out) (fun hH2=>?_);clear hK KQ hH;have hH:=hH2 (by decide) (by kernel_rfl);clear hH2;try simp only [Act.put,jlk,jlq,jlx]
      refine q01 (i:=11) rfl (by kernel_rfl) (fun KQ hK=>?_);go_simp;go_at_call 40
      (with_reducible refine (kM ⟨#[100,105,118]⟩ a2 a3 2 n3 c2 c3 y4).mono ?_)
      rintro e y5 ⟨rfl,bN⟩;have mU:=hid (show Rd (W0.heap.size<=·) y5 (aQ qc [⟨oC,dK++i⟩,⟨iF,gH⟩] (ah.aW ks)).d [.string ⟨#[100,105,118]⟩,.string ⟨#[]⟩,.slice a2 2 c2,.slice a3 n3 c3] from Nd.eH ⟨#[100,105,118]⟩ ⟨#[]⟩ ⟨wo.out.aY bN,wm.out.aY bN⟩);have kV:Hid (jp4 W0.heap.size W0 y5):=kU.out.trans (bN.mono kU.out.size);have mR:=hid (wh.out.aY bN);clear bN;refine hK.out _ _ (fun _ _=>SF.out y5 kV.out) (fun hH2=>?_);clear hK KQ hH;have hH:=hH2 (by decide) (by kernel_rfl);clear hH2;try simp only [Act.put,jlk,jlq,jlx]
      exact REST y5 p6 a2 c2 a3 n3 c3 pz ⟨hH,kV,mR,mU⟩
    ·go_simp;obtain ⟨y3,hN⟩:∃ z,z=y2.alloc (.cells [Value.string ⟨#[]⟩,.string ⟨#[]⟩,.slice none 0 0,.slice none 0 0].toArray 35):=⟨_,rfl⟩;obtain ⟨pz,hf⟩:∃ z,z=y2.heap.size:=⟨_,rfl⟩;have BJ:=(ay.one (T:=35) (k:=4) (w:=y2) (d:=KI.d) (r:=[Value.string ⟨#[]⟩,.string ⟨#[]⟩,.slice none 0 0,.slice none 0 0]) rfl (Nd.eH ⟨#[]⟩ ⟨#[]⟩ ⟨Rd.aD _ _ _,Rd.aD _ _ _⟩)).fD;rw [<- hN,<- hf] at BJ;have Eo:=hid (show Rd (W0.heap.size<=·) y3 (.sl 4 [KI.d]) [.slice (some ⟨pz,0,none⟩) 1 1] from BJ.weaken (fun b (hb:pz<=b)=>by have:=l7.out.size;omega));have bN:jp4 y2.heap.size y2 y3:=by rw [hN];exact (jm0 _ _).alloc (jm1 _) _
     rw [<- hN,<- hf];clear hN hf BJ;have jc:Hid (jp4 W0.heap.size W0 y3):=l7.out.trans (bN.mono l7.out.size);have sV:=hid (TV.out.aY bN);clear bN;refine hK.out _ _ (fun _ _=>SF.out y3 jc.out) (fun hH2=>?_);clear hK KQ hH;have hH:=hH2 (by decide) (by kernel_rfl);clear hH2;try simp only [Act.put,jlk,jlq,jlx]
     refine q01 (i:=10) rfl (by kernel_rfl) (fun KQ hK=>?_);go_simp;go_at_call 38
     (with_reducible refine (KC.out y3 jc.out).mono ?_)
     rintro e y4 ⟨dM,v3,rfl,hrow3⟩;obtain ⟨a3,n3,c3,rfl⟩:=hrow3.slice3;have bN:=hrow3.aI;have wm:=hid (show Rd (W0.heap.size<=·) y4 (cO (ah.aW ks)) [.slice a3 n3 c3] from hrow3.fD.weaken (fun b hb=>jm2 jc.out.size hb));clear hrow3;have kU:Hid (jp4 W0.heap.size W0 y4):=jc.out.trans (bN.mono jc.out.size);have wh:=hid (Eo.out.aY bN);have wo:=hid (sV.out.aY bN);clear bN;refine hK.out _ _ (fun _ _=>SF.out y4 kU.out) (fun hH2=>?_);clear hK KQ hH;have hH:=hH2 (by decide) (by kernel_rfl);clear hH2;try simp only [Act.put,jlk,jlq,jlx]
     refine q01 (i:=11) rfl (by kernel_rfl) (fun KQ hK=>?_);go_simp;go_at_call 40
     (with_reducible refine (kM ⟨#[100,105,118]⟩ a2 a3 2 n3 c2 c3 y4).mono ?_)
     rintro e y5 ⟨rfl,bN⟩;have mU:=hid (show Rd (W0.heap.size<=·) y5 (aQ qc [⟨oC,dK++i⟩,⟨iF,gH⟩] (ah.aW ks)).d [.string ⟨#[100,105,118]⟩,.string ⟨#[]⟩,.slice a2 2 c2,.slice a3 n3 c3] from Nd.eH ⟨#[100,105,118]⟩ ⟨#[]⟩ ⟨wo.out.aY bN,wm.out.aY bN⟩);have kV:Hid (jp4 W0.heap.size W0 y5):=kU.out.trans (bN.mono kU.out.size);have mR:=hid (wh.out.aY bN);clear bN;refine hK.out _ _ (fun _ _=>SF.out y5 kV.out) (fun hH2=>?_);clear hK KQ hH;have hH:=hH2 (by decide) (by kernel_rfl);clear hH2;try simp only [Act.put,jlk,jlq,jlx]
     exact REST y5 p6 a2 c2 a3 n3 c3 pz ⟨hH,kV,mR,mU⟩
   ·go_simp;obtain ⟨y2,hN⟩:∃ z,z=y1.alloc (.cells [Value.string ⟨#[]⟩,.string ⟨#[]⟩,.slice none 0 0,.slice none 0 0].toArray 35):=⟨_,rfl⟩;obtain ⟨pz,hf⟩:∃ z,z=y1.heap.size:=⟨_,rfl⟩;have BJ:=(ay.one (T:=35) (k:=4) (w:=y1) (d:=KI.d) (r:=[Value.string ⟨#[]⟩,.string ⟨#[]⟩,.slice none 0 0,.slice none 0 0]) rfl (Nd.eH ⟨#[]⟩ ⟨#[]⟩ ⟨Rd.aD _ _ _,Rd.aD _ _ _⟩)).fD;rw [<- hN,<- hf] at BJ;have Nt:=hid (show Rd (W0.heap.size<=·) y2 (.sl 4 [KI.d]) [.slice (some ⟨pz,0,none⟩) 1 1] from BJ.weaken (fun b (hb:pz<=b)=>by have:=vZ.out.size;omega));have bN:jp4 y1.heap.size y1 y2:=by rw [hN];exact (jm0 _ _).alloc (jm1 _) _
    rw [<- hN,<- hf];clear hN hf BJ;have l7:Hid (jp4 W0.heap.size W0 y2):=vZ.out.trans (bN.mono vZ.out.size);have Nu:=hid (TU.out.up bN);clear bN;refine hK.out _ _ (fun _ _=>SF.out y2 l7.out) (fun hH2=>?_);clear hK KQ hH;have hH:=hH2 (by decide) (by kernel_rfl);clear hH2;try simp only [Act.put,jlk,jlq,jlx]
    refine q01 (i:=7) rfl (by kernel_rfl) (fun KQ hK=>?_);go_simp;go_at_call 41
    (with_reducible refine (jq [⟨oC,dK++i⟩,⟨iF,gH⟩] (.slice (some ⟨p6,0,none⟩) 4 4) y2 Nu.out (by simp)).mono ?_)
    rintro e y3 ⟨bR,v2,rfl,hrow2⟩;obtain ⟨a2,c2,rfl,-,-⟩:=hrow2.cap (n:=2) rfl;have bN:=hrow2.aI;have sV:=hid (show Rd (W0.heap.size<=·) y3 (bP [⟨oC,dK++i⟩,⟨iF,gH⟩]) [.slice a2 2 c2] from hrow2.fD.weaken (fun b hb=>jm2 l7.out.size hb));clear hrow2;have jc:Hid (jp4 W0.heap.size W0 y3):=l7.out.trans (bN.mono l7.out.size);have Eo:=hid (Nt.out.aY bN);clear bN;refine hK.out _ _ (fun _ _=>SF.out y3 jc.out) (fun hH2=>?_);clear hK KQ hH;have hH:=hH2 (by decide) (by kernel_rfl);clear hH2;try simp only [Act.put,jlk,jlq,jlx]
    refine q01 (i:=10) rfl (by kernel_rfl) (fun KQ hK=>?_);go_simp;go_at_call 38
    (with_reducible refine (KC.out y3 jc.out).mono ?_)
    rintro e y4 ⟨dM,v3,rfl,hrow3⟩;obtain ⟨a3,n3,c3,rfl⟩:=hrow3.slice3;have bN:=hrow3.aI;have wm:=hid (show Rd (W0.heap.size<=·) y4 (cO (ah.aW ks)) [.slice a3 n3 c3] from hrow3.fD.weaken (fun b hb=>jm2 jc.out.size hb));clear hrow3;have kU:Hid (jp4 W0.heap.size W0 y4):=jc.out.trans (bN.mono jc.out.size);have wh:=hid (Eo.out.aY bN);have wo:=hid (sV.out.aY bN);clear bN;refine hK.out _ _ (fun _ _=>SF.out y4 kU.out) (fun hH2=>?_);clear hK KQ hH;have hH:=hH2 (by decide) (by kernel_rfl);clear hH2;try simp only [Act.put,jlk,jlq,jlx]
    refine q01 (i:=11) rfl (by kernel_rfl) (fun KQ hK=>?_);go_simp;go_at_call 40
    (with_reducible refine (kM ⟨#[100,105,118]⟩ a2 a3 2 n3 c2 c3 y4).mono ?_)
    rintro e y5 ⟨rfl,bN⟩;have mU:=hid (show Rd (W0.heap.size<=·) y5 (aQ qc [⟨oC,dK++i⟩,⟨iF,gH⟩] (ah.aW ks)).d [.string ⟨#[100,105,118]⟩,.string ⟨#[]⟩,.slice a2 2 c2,.slice a3 n3 c3] from Nd.eH ⟨#[100,105,118]⟩ ⟨#[]⟩ ⟨wo.out.aY bN,wm.out.aY bN⟩);have kV:Hid (jp4 W0.heap.size W0 y5):=kU.out.trans (bN.mono kU.out.size);have mR:=hid (wh.out.aY bN);clear bN;refine hK.out _ _ (fun _ _=>SF.out y5 kV.out) (fun hH2=>?_);clear hK KQ hH;have hH:=hH2 (by decide) (by kernel_rfl);clear hH2;try simp only [Act.put,jlk,jlq,jlx]
    exact REST y5 p6 a2 c2 a3 n3 c3 pz ⟨hH,kV,mR,mU⟩
  ·go_simp;obtain ⟨y1,hN⟩:∃ z,z=y0.alloc (.cells [Value.string ⟨#[]⟩,.string ⟨#[]⟩,.slice none 0 0,.slice none 0 0].toArray 35):=⟨_,rfl⟩;obtain ⟨pz,hf⟩:∃ z,z=y0.heap.size:=⟨_,rfl⟩;have BJ:=(ay.one (T:=35) (k:=4) (w:=y0) (d:=KI.d) (r:=[Value.string ⟨#[]⟩,.string ⟨#[]⟩,.slice none 0 0,.slice none 0 0]) rfl (Nd.eH ⟨#[]⟩ ⟨#[]⟩ ⟨Rd.aD _ _ _,Rd.aD _ _ _⟩)).fD;rw [<- hN,<- hf] at BJ;have ZC:=hid (show Rd (W0.heap.size<=·) y1 (.sl 4 [KI.d]) [.slice (some ⟨pz,0,none⟩) 1 1] from BJ.weaken (fun b (hb:pz<=b)=>by have:=Ns.out.size;omega));have bN:jp4 y0.heap.size y0 y1:=by rw [hN];exact (jm0 _ _).alloc (jm1 _) _
   rw [<- hN,<- hf];clear hN hf BJ;have vZ:Hid (jp4 W0.heap.size W0 y1):=Ns.out.trans (bN.mono Ns.out.size);clear bN;refine hK.out _ _ (fun _ _=>SF.out y1 vZ.out) (fun hH2=>?_);clear hK KQ hH;have hH:=hH2 (by decide) (by kernel_rfl);clear hH2;try simp only [Act.put,jlk,jlq,jlx]
   refine q01 (i:=6) rfl (by kernel_rfl) (fun KQ hK=>?_);go_simp;obtain ⟨y2,hN⟩:∃ z,z=y1.alloc (.cells ([⟨#[105,100]⟩,⟨#[110,111,116,101,45]⟩++i,⟨#[99,108,97,115,115]⟩,⟨#[110,111,116,101]⟩].map Value.string).toArray 9):=⟨_,rfl⟩;obtain ⟨p6,hf⟩:∃ z,z=y1.heap.size:=⟨_,rfl⟩;have Wn:=qo [⟨#[105,100]⟩,⟨#[110,111,116,101,45]⟩++i,⟨#[99,108,97,115,115]⟩,⟨#[110,111,116,101]⟩] y1 (by show 4<=maxLen;unfold maxLen;decide);rw [<- hN,<- hf] at Wn;have Nu:=hid (show Rd (·<y2.heap.size) y2 (dW (mH [⟨oC,dK++i⟩,⟨iF,gH⟩])) [.slice (some ⟨p6,0,none⟩) 4 4] from Wn);have bN:jp4 y1.heap.size y1 y2:=by rw [hN];exact (jm0 _ _).alloc (jm1 _) _
   simp only [List.map_cons,List.map_nil] at hN;rw [<- hN,<- hf];clear hN hf Wn;have l7:Hid (jp4 W0.heap.size W0 y2):=vZ.out.trans (bN.mono vZ.out.size);have Nt:=hid (ZC.out.aY bN);clear bN;refine hK.out _ _ (fun _ _=>SF.out y2 l7.out) (fun hH2=>?_);clear hK KQ hH;have hH:=hH2 (by decide) (by kernel_rfl);clear hH2;try simp only [Act.put,jlk,jlq,jlx]
   refine q01 (i:=7) rfl (by kernel_rfl) (fun KQ hK=>?_);go_simp;go_at_call 41
   (with_reducible refine (jq [⟨oC,dK++i⟩,⟨iF,gH⟩] (.slice (some ⟨p6,0,none⟩) 4 4) y2 Nu.out (by simp)).mono ?_)
   rintro e y3 ⟨bR,v2,rfl,hrow2⟩;obtain ⟨a2,c2,rfl,-,-⟩:=hrow2.cap (n:=2) rfl;have bN:=hrow2.aI;have sV:=hid (show Rd (W0.heap.size<=·) y3 (bP [⟨oC,dK++i⟩,⟨iF,gH⟩]) [.slice a2 2 c2] from hrow2.fD.weaken (fun b hb=>jm2 l7.out.size hb));clear hrow2;have jc:Hid (jp4 W0.heap.size W0 y3):=l7.out.trans (bN.mono l7.out.size);have Eo:=hid (Nt.out.aY bN);clear bN;refine hK.out _ _ (fun _ _=>SF.out y3 jc.out) (fun hH2=>?_);clear hK KQ hH;have hH:=hH2 (by decide) (by kernel_rfl);clear hH2;try simp only [Act.put,jlk,jlq,jlx]
   refine q01 (i:=10) rfl (by kernel_rfl) (fun KQ hK=>?_);go_simp;go_at_call 38
   (with_reducible refine (KC.out y3 jc.out).mono ?_)
   rintro e y4 ⟨dM,v3,rfl,hrow3⟩;obtain ⟨a3,n3,c3,rfl⟩:=hrow3.slice3;have bN:=hrow3.aI;have wm:=hid (show Rd (W0.heap.size<=·) y4 (cO (ah.aW ks)) [.slice a3 n3 c3] from hrow3.fD.weaken (fun b hb=>jm2 jc.out.size hb));clear hrow3;have kU:Hid (jp4 W0.heap.size W0 y4):=jc.out.trans (bN.mono jc.out.size);have wh:=hid (Eo.out.aY bN);have wo:=hid (sV.out.aY bN);clear bN;refine hK.out _ _ (fun _ _=>SF.out y4 kU.out) (fun hH2=>?_);clear hK KQ hH;have hH:=hH2 (by decide) (by kernel_rfl);clear hH2;try simp only [Act.put,jlk,jlq,jlx]
   refine q01 (i:=11) rfl (by kernel_rfl) (fun KQ hK=>?_);go_simp;go_at_call 40
   (with_reducible refine (kM ⟨#[100,105,118]⟩ a2 a3 2 n3 c2 c3 y4).mono ?_)
   rintro e y5 ⟨rfl,bN⟩;have mU:=hid (show Rd (W0.heap.size<=·) y5 (aQ qc [⟨oC,dK++i⟩,⟨iF,gH⟩] (ah.aW ks)).d [.string ⟨#[100,105,118]⟩,.string ⟨#[]⟩,.slice a2 2 c2,.slice a3 n3 c3] from Nd.eH ⟨#[100,105,118]⟩ ⟨#[]⟩ ⟨wo.out.aY bN,wm.out.aY bN⟩);have kV:Hid (jp4 W0.heap.size W0 y5):=kU.out.trans (bN.mono kU.out.size);have mR:=hid (wh.out.aY bN);clear bN;refine hK.out _ _ (fun _ _=>SF.out y5 kV.out) (fun hH2=>?_);clear hK KQ hH;have hH:=hH2 (by decide) (by kernel_rfl);clear hH2;try simp only [Act.put,jlk,jlq,jlx]
   exact REST y5 p6 a2 c2 a3 n3 c3 pz ⟨hH,kV,mR,mU⟩
 case hr=>
  intro y5 p6 a2 c2 a3 n3 c3 pz ⟨hH,kV,mR,mU⟩;refine q01 (i:=14) rfl (by kernel_rfl) (fun KQ hK=>?_);refine vM (n:=n) (m:=1) rfl (.tmp 5) (.tmp 16) 28 rfl iN _ 80 Tryz.underlying28 FH nW og oh rfl (by decide) (bV.out.below (B0.out.trans (kV.out.mono B0.out.size))) (fun _=>False.elim) (.slice (some ⟨pz,0,none⟩) 1 1) (mR.out.weaken (fun b (hb:W0.heap.size<=b)=>.inr (by have:=B0.out.size;omega))) (fun rs ok' h=>Ja [KI] rs ok' _ h) HM.out rfl (by omega) (by decide) rfl rfl ?_;intro a5 c5 vY w5 bK hg5 Bw;obtain ⟨g5,cap5,hvg,-⟩:=qh bK.own (by simp);obtain ⟨rfl,rfl⟩:a5=some ⟨g5,0,none⟩/\c5=cap5:=by injection hvg with h1 h2 h3;exact ⟨h1,h3⟩
  obtain ⟨jg1,z0,z1,z2,z3,rfl,-⟩:=bK.Kt;have hat:(Value.slice av n cv).ownBlock=some g5\/g5=y5.heap.size:=by
   rcases Bw with h | h
   ·exact .inl (h.symm.trans rfl)
   ·refine .inr ?_;have e:g5=y5.heap.size:=by simpa [Value.ownBlock] using h
    exact e
  have hzy:=kV.out.size;have hg:(N0<=g5/\g5<S)\/g5=y5.heap.size:=hat.imp (fun h=>xP.out g5 h) id;have hBg:Bb≠g5:=by have:=Z0.out;omega
  have TK:S≠g5:=by have:=Z0.out;omega
  have Nv:∀ b,b=Bb\/b=S->some b≠(Value.slice av n cv).ownBlock:=fun b hb e=>by have:=xP.out b e.symm;omega
  obtain ⟨s1,s2,s3⟩:=SF.out y5 kV.out;have S5:w5.cell? ⟨Bb,0,none⟩=some (.slice av n cv)/\w5.cell? ⟨S,2,none⟩=some (.string i)/\w5.cell? ⟨S,10,none⟩=some (.slice ak nk ck):=
   ⟨(iA (hg5.block Bb (by have:=Z0.out;omega) (Nv Bb (.inl rfl))) 0).trans s1,(iA (hg5.block S (by have:=Z0.out;omega) (Nv S (.inr rfl))) 2).trans s2,(iA (hg5.block S (by have:=Z0.out;omega) (Nv S (.inr rfl))) 10).trans s3⟩
  have QY:aG Bb (.slice av n cv) 75 w5:=(hg5.block Bb (by have:=Z0.out;omega) (Nv Bb (.inl rfl))).trans (((kF.out.below (by have:=HS.out;omega) B0.out)).below (B:=W0.heap.size) (by have:=Z0.out;omega) kV.out);obtain ⟨y0',y1',y2',y3',yf⟩:=bK.Jc HM.out;have Zg:=QY.free;have z5:=QY.cell;obtain ⟨wZ,Zh,sQ⟩:=bK.hop2 (p:=Bb) (by have:=HN0.out;omega) (show w5.grownBy (w5.setCell ⟨Bb,0,none⟩ (.slice (some ⟨g5,0,none⟩) (n+1) c5)) (some Bb) from ⟨rfl,rfl,rfl,by simp [World.setCell],fun b _ hb=>Below.heap_setCell w5 ⟨Bb,0,none⟩ _ b (fun e=>hb (by rw [e]))⟩);obtain ⟨u0,u1,u2,u3,uf⟩:=sQ.Jc HM.out;have hF:=El (x:=(aQ qc [⟨oC,dK++i⟩,⟨iF,gH⟩] (ah.aW ks))) (.string ⟨#[100,105,118]⟩) (.string ⟨#[]⟩) (.slice a2 2 c2) (.slice a3 n3 c3) HN0.out hB bV.out kF.out (B0.out.trans (kV.out.mono B0.out.size)) bK hg5 HM.out hat (mU.out.weaken (fun b (hb:W0.heap.size<=b)=>jm2 B0.out.size hb));have qW:=hid hF;have VL:aG Bb (.slice av n cv) 75 ((((w5.setCell ⟨g5,n*4,none⟩ (.string ⟨#[100,105,118]⟩)).setCell ⟨g5,n*4+1,none⟩ (.string ⟨#[]⟩)).setCell ⟨g5,n*4+2,none⟩ (.slice a2 2 c2)).setCell ⟨g5,n*4+3,none⟩ (.slice a3 n3 c3)):=(gU w5 g5 (n*4) (.string ⟨#[100,105,118]⟩) (.string ⟨#[]⟩) (.slice a2 2 c2) (.slice a3 n3 c3) Bb hBg).trans QY;have S6:World.cell? ((((w5.setCell ⟨g5,n*4,none⟩ (.string ⟨#[100,105,118]⟩)).setCell ⟨g5,n*4+1,none⟩ (.string ⟨#[]⟩)).setCell ⟨g5,n*4+2,none⟩ (.slice a2 2 c2)).setCell ⟨g5,n*4+3,none⟩ (.slice a3 n3 c3)) ⟨Bb,0,none⟩=some (.slice av n cv)/\World.cell? ((((w5.setCell ⟨g5,n*4,none⟩ (.string ⟨#[100,105,118]⟩)).setCell ⟨g5,n*4+1,none⟩ (.string ⟨#[]⟩)).setCell ⟨g5,n*4+2,none⟩ (.slice a2 2 c2)).setCell ⟨g5,n*4+3,none⟩ (.slice a3 n3 c3)) ⟨S,2,none⟩=some (.string i)/\World.cell? ((((w5.setCell ⟨g5,n*4,none⟩ (.string ⟨#[100,105,118]⟩)).setCell ⟨g5,n*4+1,none⟩ (.string ⟨#[]⟩)).setCell ⟨g5,n*4+2,none⟩ (.slice a2 2 c2)).setCell ⟨g5,n*4+3,none⟩ (.slice a3 n3 c3)) ⟨S,10,none⟩=some (.slice ak nk ck):=⟨TG S5.1 hBg,TG S5.2.1 TK,TG S5.2.2 TK⟩;have Zr:=VL.free;have z6:=S6.1;have t0:(0:Int)<=(n:Int):=by omega
  have t1:(n:Int)<((n+1:Nat):Int):=by omega
  have t2:(n:Int)<(n:Int)+1:=by omega
  have t3:n<n+1:=by omega
  clear sQ Zh QY VL bK hg5 Bw hvg Nv s1 s2 s3 hF hat hg;refine hK.out _ _ (fun _ _=>S5) (fun hH2=>?_);clear hK KQ hH;have hH:=hH2 (by decide) (by kernel_rfl);clear hH2;try simp only [Act.put,jlk,jlq,jlx]
  refine ig 17 (v:=?_) rfl (by kernel_rfl) hH (by rfl) ?_ ?_;rotate_left
  ·(intro wv hSw;obtain ⟨cb,c2,c10⟩:=hSw;go_simp;try with_reducible rfl)
  try simp only [Act.put,jlk,jlq,jlx]
  refine ig 18 (v:=?_) rfl (by kernel_rfl) hH (by rfl) ?_ ?_;rotate_left
  ·(intro wv hSw;obtain ⟨cb,c2,c10⟩:=hSw;go_simp;try with_reducible rfl)
  try simp only [Act.put,jlk,jlq,jlx]
  refine xR (i:=15) (j:=19) rfl rfl (by kernel_rfl) (fun KQ hK=>?_) (fun KQ hK=>?_)
  ·go_simp;refine hK.out _ _ (fun _ _=>S5) (fun hH2=>?_);clear hK KQ hH;have hH:=hH2 (by decide) (by kernel_rfl);clear hH2;try simp only [Act.put,jlk,jlq,jlx]
   refine xR (i:=16) (j:=19) rfl rfl (by kernel_rfl) (fun KQ hK=>?_) (fun KQ hK=>?_)
   ·go_simp;refine hK.out _ _ (fun _ _=>S6) (fun hH2=>?_);clear hK KQ hH;have hH:=hH2 (by decide) (by kernel_rfl);clear hH2;try simp only [Act.put,jlk,jlq,jlx]
    refine q01 (i:=19) rfl (by kernel_rfl) (fun KQ hK=>?_);go_simp;refine hK.out _ _ (fun h=>absurd rfl h) (fun _=>?_);clear hK KQ hH;try simp only [Act.put,jlk,jlq,jlx]
    refine Gp (by kernel_rfl) ?_ _;clear S5 S6 y0' y1' y2' y3' yf u0 u1 u2 u3 uf Zg z5 Zr z6 t0 t1 t2 t3;have Jj:=qW.out;simp only [pI] at Jj;obtain ⟨w7,hw7⟩:∃ w7,w7=((((w5.setCell ⟨g5,n*4,none⟩ (.string ⟨#[100,105,118]⟩)).setCell ⟨g5,n*4+1,none⟩ (.string ⟨#[]⟩)).setCell ⟨g5,n*4+2,none⟩ (.slice a2 2 c2)).setCell ⟨g5,n*4+3,none⟩ (.slice a3 n3 c3)).setCell ⟨Bb,0,none⟩ (.slice (some ⟨g5,0,none⟩) (n+1) c5):=⟨_,rfl⟩;rw [<- hw7] at Jj;rw [<- hw7];have ZE:=hid Jj;clear hw7 Jj qW;go_wp2
    go_end0
    exact ⟨rfl,ZE.out⟩
   ·go_simp;refine hK.out _ _ (fun h=>absurd rfl h) (fun _=>?_);clear hK KQ hH;try simp only [Act.put,jlk,jlq,jlx]
    refine q01 (i:=16) rfl (by kernel_rfl) (fun KQ hK=>?_);go_simp;refine hK.out _ _ (fun _ h=>absurd h (by decide)) (fun _=>?_);clear hK KQ;try simp only [Act.put,jlk,jlq,jlx]
    refine Gp (by kernel_rfl) ?_ _;have hsw:=nM w5 Bb g5 (n*4) (.slice (some ⟨g5,0,none⟩) (n+1) c5) (.string ⟨#[100,105,118]⟩) (.string ⟨#[]⟩) (.slice a2 2 c2) (.slice a3 n3 c3) hBg;simp only [pI] at hsw;rw [hsw];clear hsw;clear S5 S6 y0' y1' y2' y3' yf u0 u1 u2 u3 uf Zg z5 Zr z6 t0 t1 t2 t3;have Jj:=qW.out;simp only [pI] at Jj;obtain ⟨w7,hw7⟩:∃ w7,w7=((((w5.setCell ⟨g5,n*4,none⟩ (.string ⟨#[100,105,118]⟩)).setCell ⟨g5,n*4+1,none⟩ (.string ⟨#[]⟩)).setCell ⟨g5,n*4+2,none⟩ (.slice a2 2 c2)).setCell ⟨g5,n*4+3,none⟩ (.slice a3 n3 c3)).setCell ⟨Bb,0,none⟩ (.slice (some ⟨g5,0,none⟩) (n+1) c5):=⟨_,rfl⟩;rw [<- hw7] at Jj;rw [<- hw7];have ZE:=hid Jj;clear hw7 Jj qW;go_wp2
    go_end0
    exact ⟨rfl,ZE.out⟩
  ·go_simp;refine hK.out _ _ (fun h=>absurd rfl h) (fun _=>?_);clear hK KQ hH;try simp only [Act.put,jlk,jlq,jlx]
   refine q01 (i:=15) rfl (by kernel_rfl) (fun KQ hK=>?_);go_simp;refine hK.out _ _ (fun _ h=>absurd h (by decide)) (fun _=>?_);clear hK KQ;try simp only [Act.put,jlk,jlq,jlx]
   refine q01 (i:=16) rfl (by kernel_rfl) (fun KQ hK=>?_);go_simp;refine hK.out _ _ (fun _ h=>absurd h (by decide)) (fun _=>?_);clear hK KQ;try simp only [Act.put,jlk,jlq,jlx]
   refine Gp (by kernel_rfl) ?_ _;have hsw:=nM w5 Bb g5 (n*4) (.slice (some ⟨g5,0,none⟩) (n+1) c5) (.string ⟨#[100,105,118]⟩) (.string ⟨#[]⟩) (.slice a2 2 c2) (.slice a3 n3 c3) hBg;simp only [pI] at hsw;rw [hsw];clear hsw;clear S5 S6 y0' y1' y2' y3' yf u0 u1 u2 u3 uf Zg z5 Zr z6 t0 t1 t2 t3;have Jj:=qW.out;simp only [pI] at Jj;obtain ⟨w7,hw7⟩:∃ w7,w7=((((w5.setCell ⟨g5,n*4,none⟩ (.string ⟨#[100,105,118]⟩)).setCell ⟨g5,n*4+1,none⟩ (.string ⟨#[]⟩)).setCell ⟨g5,n*4+2,none⟩ (.slice a2 2 c2)).setCell ⟨g5,n*4+3,none⟩ (.slice a3 n3 c3)).setCell ⟨Bb,0,none⟩ (.slice (some ⟨g5,0,none⟩) (n+1) c5):=⟨_,rfl⟩;rw [<- hw7] at Jj;rw [<- hw7];have ZE:=hid Jj;clear hw7 Jj qW;go_wp2
   go_end0
   exact ⟨rfl,ZE.out⟩
end Go.Proofs.YtkfnkeflalcphaaGreatDoor

