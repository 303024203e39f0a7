/- Contract of the function collect of html.Blocks (html.Blocks$1): the node of a note comes behind those that there are. -/
import Derived.Test.YtkfnkeflalcphaaGreatDoorKHtM
set_option maxHeartbeats 8000000
set_option maxRecDepth 100000
open Go.Lib (hid)
namespace Go.Proofs.YtkfnkeflalcphaaGreatDoor
open List renaming setIfInBounds_toArray->jn7,set_cons_zero->jn8,set_cons_succ->jn9
open Go.RowKit.Below renaming refl->jnk
open Nat renaming le_refl->jnq,le_trans->jnx
open Go.RowKit renaming Below->jr0
open Go.RowKit
set_option linter.unusedVariables false
set_option linter.unusedSimpArgs false
def Xx (Bb N0:Nat) (L:List Nd) (w:World):Prop:=
 ∃ (wB:World) (rows:List (List Value)) (v:Value),wB.heap.size=N0/\aH 35 4 (fun _=>False) w.heap.size wB (L.map Nd.d) rows v w/\aF Bb v 75 w
structure uT (Bb N0:Nat) (W W':World):Prop where
 os:W'.os=W.os
 tape:W'.tape=W.tape
 output:W'.output=W.output
 size:W.heap.size<=W'.heap.size
 blk:∀ b,b<N0->b≠Bb->W'.heap[b]?=W.heap[b]?
 cel:∀ (b:Nat) (cs:Array Value) (t:TypeId) (g:Nat × Nat),W.heap[b]?=some (Obj.cells cs t g)->t≠75->t≠35->W'.heap[b]?=W.heap[b]?
theorem uT.refl (Bb N0:Nat) (W:World):uT Bb N0 W W:=⟨rfl,rfl,rfl,jnq _,fun _ _ _=>rfl,fun _ _ _ _ _ _ _=>rfl⟩
theorem uT.trans {Bb N0:Nat} {A B C:World} (h:uT Bb N0 A B) (k:uT Bb N0 B C):uT Bb N0 A C:=
 ⟨k.os.trans h.os,k.tape.trans h.tape,k.output.trans h.output,jnx h.size k.size,fun b h1 h3=>(k.blk b h1 h3).trans (h.blk b h1 h3),
  fun b cs t g h1 h2 h3=>(k.cel b cs t g ((h.cel b cs t g h1 h2 h3).trans h1) h2 h3).trans (h.cel b cs t g h1 h2 h3)⟩
theorem uT.grown {Bb N0:Nat} {W W':World} {row:Option Nat} (h:W.grownBy W' row) (hS:N0<=W.heap.size) (hr:∀ r,row=some r->N0<=r/\∃ o:Obj,W.heap[r]?=some o/\o.isCells=false):uT Bb N0 W W':=
 ⟨h.os,h.tape,h.output,h.size,fun b h1 _=>h.block b (by omega) (fun e=>by have:=(hr b e.symm).1;omega),fun b cs t g h1 _ _=>h.block b (Array.getElem?_eq_some_iff.1 h1).1 (fun e=>by
  obtain ⟨-,o,k1,k2⟩:=hr b e.symm;rw [h1] at k1;cases k1;cases k2)⟩
theorem uT.obj (Bb N0:Nat) (W:World) (l:Nat) (o o':Obj) (hl:N0<=l) (ho:W.heap[l]?=some o) (hc:o.isCells=false):uT Bb N0 W (W.putObj l o'):=by
 refine ⟨rfl,rfl,rfl,by simp [World.putObj],fun b h1 _=>World.putObj_heap_other (by omega),fun b cs t g h1 _ _=>World.putObj_heap_other ?_⟩;rintro rfl;rw [ho] at h1;cases h1
 cases hc
theorem uT.below {Bb N0 S:Nat} {W W':World} (h:uT Bb N0 W W') (h1:S<=Bb) (h2:Bb<N0):jr0 S W W':=⟨h.os,h.tape,h.output,h.size,fun b hb=>h.blk b (by omega) (by omega)⟩
def Oz (w w':World):Prop:=∀ (b:Nat) (o:Obj),w.heap[b]?=some o->o.isCells=false->w'.heap[b]?=some o
def Xy (Bb N0:Nat) (L:List Nd) (w:World) (e:Ending) (w':World):Prop:=e=.returned (.tuple #[])/\Xx Bb N0 L w'/\uT Bb N0 w w'/\Oz w w'
def LP:Nd:=.mk ⟨#[]⟩ ⟨#[]⟩ [] []
theorem Fz {Bb N0 n g5 c5:Nat} {L:List Nd} {rows Ar:List (List Value)} {v z0 z1 z2 z3:Value} {w y w5 wB:World} {x:Nd} (c0 c1 c2 c3:Value) (hN0:wB.heap.size=N0) (hB:Bb<N0) (hrow:aH 35 4 (fun _=>False) w.heap.size wB (L.map Nd.d) rows v w) (hbx:aF Bb v 75 w) (b0:jr0 w.heap.size w y) (cu:aH 35 4 (fun _=>False) w5.heap.size wB (L.map Nd.d++[LP.d]) (Ar++[[z0,z1,z2,z3]]) (.slice (some ⟨g5,0,none⟩) (n+1) c5) w5) (hg5:y.grownBy w5 v.ownBlock) (hn:(L.map Nd.d).length=n) (hat:v.ownBlock=some g5\/g5=y.heap.size) (hx:Rd (w.heap.size<=·) y x.d [c0,c1,c2,c3]) : Xx Bb N0 (L++[x]) ((qD w5 g5 (n*4) c0 c1 c2 c3).setCell ⟨Bb,0,none⟩ (.slice (some ⟨g5,0,none⟩) (n+1) c5)) /\ uT Bb N0 w ((qD w5 g5 (n*4) c0 c1 c2 c3).setCell ⟨Bb,0,none⟩ (.slice (some ⟨g5,0,none⟩) (n+1) c5))/\Oz w ((qD w5 g5 (n*4) c0 c1 c2 c3).setCell ⟨Bb,0,none⟩ (.slice (some ⟨g5,0,none⟩) (n+1) c5)):=by
 have hov:∀ g,v.ownBlock=some g->N0<=g/\g<w.heap.size:=fun g hg=>by have:=hrow.own.lt g hg;omega
 have uj:=hrow.aN.size;have J8:=b0.size;have Ao:=hg5.size;have hg:(N0<=g5/\g5<w.heap.size)\/g5=y.heap.size:=hat.imp (fun h=>hov g5 h) id;have hBg:Bb≠g5:=by omega
 have Za:=cu.Vh hn c0 c1 c2 c3 (d1:=x.d) (Rd.keep (fun b (hb:w.heap.size<=b) hlt=>⟨⟨.inr (by omega),by omega,by omega⟩,hg5.block b hlt (fun e=>by have:=hov b e.symm;omega)⟩) _ _ hx);obtain ⟨w6,mJ⟩:∃ w6,w6=qD w5 g5 (n*4) c0 c1 c2 c3:=⟨_,rfl⟩;have hb6:∀ b,b≠g5->w6.heap[b]?=w5.heap[b]?:=fun b hb=>by rw [mJ];exact gZ _ _ _ _ _ _ _ b hb
 have hz6:w6.heap.size=w5.heap.size:=by rw [mJ];simp [qD,World.setCell]
 have ho6:w6.os=w5.os/\w6.tape=w5.tape/\w6.output=w5.output:=by rw [mJ];exact ⟨rfl,rfl,rfl⟩
 rw [<- mJ] at Za ⊢;clear mJ;obtain ⟨w7,hw7⟩:∃ w7,w7=w6.setCell ⟨Bb,0,none⟩ (.slice (some ⟨g5,0,none⟩) (n+1) c5):=⟨_,rfl⟩;rw [<- hw7];have hb5:∀ b,b<w.heap.size->v.ownBlock≠some b->w5.heap[b]?=w.heap[b]?:=fun b hb ho=>(hg5.block b (by omega) (fun e=>ho e.symm)).trans (b0.block b hb)
 have hBo:v.ownBlock≠some Bb:=fun e=>by have:=hov Bb e;omega
 have Xr:aF Bb v 75 w6:=(hb6 Bb hBg).trans ((hb5 Bb (by omega) hBo).trans hbx);have bx7:aF Bb (.slice (some ⟨g5,0,none⟩) (n+1) c5) 75 w7:=by rw [hw7];exact Xr.set _
 have g7:w6.grownBy w7 (some Bb):=by rw [hw7];exact ⟨rfl,rfl,rfl,by simp [World.setCell],fun b _ hb=>Below.heap_setCell w6 ⟨Bb,0,none⟩ _ b (fun e=>hb (by rw [e]))⟩
 have hz7:w7.heap.size=w6.heap.size:=by rw [hw7];simp [World.setCell]
 obtain ⟨wB7,hB7,nV⟩:=Za.hop2 (p:=Bb) (by omega) g7;have Xu:∀ b,b<w.heap.size->b≠Bb->b≠g5->v.ownBlock≠some b->w7.heap[b]?=w.heap[b]?:=fun b h1 h2 h3 h4=>
  (g7.block b (by omega) (fun e=>h2 (Option.some.inj e))).trans ((hb6 b h3).trans (hb5 b h1 h4))
 have hown:∀ g,v.ownBlock=some g->∃ cs gg,w.heap[g]?=some (Obj.cells cs 35 gg):=fun g hg=>by
  rcases hrow.own.2 with ⟨h1,-⟩ | ⟨g',cap,cur,h1,-,h2,-⟩
  ·rw [h1] at hg;cases hg
  ·rw [h1] at hg;have e:g'=g:=by simpa [Value.ownBlock] using hg
   subst e;exact ⟨_,_,h2⟩
 refine ⟨⟨wB7,Ar++[[c0,c1,c2,c3]],_,hB7.trans hN0,?_,bx7⟩,⟨?_,?_,?_,by omega,fun b hb hne=>Xu b (by omega) hne (by omega) (fun e=>by have:=hov b e;omega),fun b cs t g hc h1 h2=>?_⟩,fun b o ho hc=>?_⟩
 ·rw [List.map_append];exact nV.up (by omega) (jnq _)
 ·exact g7.os.trans (ho6.1.trans (hg5.os.trans b0.os))
 ·exact g7.tape.trans (ho6.2.1.trans (hg5.tape.trans b0.tape))
 ·exact g7.output.trans (ho6.2.2.trans (hg5.output.trans b0.output))
 ·have hbw:b<w.heap.size:=(Array.getElem?_eq_some_iff.1 hc).1;have hno:v.ownBlock≠some b:=fun e=>by
   obtain ⟨cs',gg,h⟩:=hown b e;rw [h] at hc;injection hc with hc;injection hc with _ hc;exact h2 hc.symm
  refine Xu b hbw (fun e=>?_) (fun e=>?_) hno
  ·subst e;rw [show w.heap[b]?=_ from hbx] at hc;injection hc with hc;injection hc with _ hc;exact h1 hc.symm
  ·subst e;rcases hat with h | h
   ·exact hno h
   ·omega
 ·have hbw:b<w.heap.size:=(Array.getElem?_eq_some_iff.1 ho).1;have hno:v.ownBlock≠some b:=fun e=>by
   obtain ⟨cs',gg,h⟩:=hown b e;rw [h] at ho;cases ho;cases hc
  refine (Xu b hbw (fun e=>?_) (fun e=>?_) hno).trans ho
  ·subst e;rw [show w.heap[b]?=_ from hbx] at ho;cases ho;cases hc
  ·subst e;rcases hat with h | h
   ·exact hno h
   ·omega
theorem FD (Bb N0:Nat) (L:List Nd) (k lv:Int) (i t d ti:ByteArray) (at_:At) (li:List aj) (ks:List ah) (vc vp vl vk:Value) (w:World) (hB:Bb<N0) (hR:mg (·<Bb) w at_ li ks vc vp vl vk) (hwk:ah.lJ ks) (hsz:ah.aW ks<=900000) (hi:i.size<=300) (ht:PT w) (hL:L.length<=1000000) (h:Xx Bb N0 L w) : Calls Tryz.prog 39 #[.agg #[.int .i64 k,.int .i64 lv,.string i,.string t,.string d,.string ti,.string at_.id,vc,vp,vl,vk],.pointer (some ⟨Bb,0,none⟩)] w (Xy Bb N0 (L++[aO mH [⟨jZ,bY++i⟩,⟨eX,dK⟩] (ah.aS ks)]) w):=by
 obtain ⟨iN,GR,oQ,oV,oW⟩:=info_parts nM;obtain ⟨ac,nc,cc,rfl⟩:=Rd.au hR.at_.cls
 obtain ⟨ap,np,cp,rfl⟩:=Rd.au hR.at_.aP
 obtain ⟨al,nl,cl,rfl⟩:=Rd.au hR.line;obtain ⟨ak,nk,ck,rfl⟩:=Rd.au hR.kids;obtain ⟨wB,rows,v,hN0,hrow,hbx⟩:=h;obtain ⟨n,hn⟩:∃ n,n=(L.map Nd.d).length:=⟨_,rfl⟩;have hn1:n<=1000000:=by rw [hn,List.length_map];exact hL
 obtain ⟨av,cv,rfl,-,-⟩:=hrow.cap hn.symm;obtain ⟨S,hS⟩:∃ S,S=w.heap.size:=⟨_,rfl⟩;obtain ⟨W0,hW0⟩:∃ W0,W0=w.alloc (.cells #[.int .i64 k,.int .i64 lv,.string i,.string t,.string d,.string ti,.string at_.id,.slice ac nc cc,.slice ap np cp,.slice al nl cl,.slice ak nk ck] 48):=⟨_,rfl⟩;have k0:CB 48 S [.int .i64 k,.int .i64 lv,.string i,.string t,.string d,.string ti,.string at_.id,.slice ac nc cc,.slice ap np cp,.slice al nl cl,.slice ak nk ck] W0:=by rw [hW0,hS];exact CB.new _ _ w
 have b0:jr0 w.heap.size w W0:=by rw [hW0];exact (jnk _ _).alloc (jnq _) _
 have z0:W0.heap.size=S+1:=by rw [hW0,World.size_alloc,hS]
 have uj:=hrow.aN.size;have hov:∀ g,(Value.slice av n cv).ownBlock=some g->N0<=g/\g<S:=fun g hg=>by have:=hrow.own.lt g hg;omega
 have hBS:Bb<S:=by omega
 have SF:Hid (∀ y:World,jr0 W0.heap.size W0 y->y.cell? ⟨Bb,0,none⟩=some (.slice av n cv)/\y.cell? ⟨S,2,none⟩=some (.string i)/\y.cell? ⟨S,10,none⟩=some (.slice ak nk ck)):=fun y hb=>
  ⟨((hbx.below (by omega) b0).below (B:=W0.heap.size) (by omega) hb).cell,(k0.below hb).cell 2 _ rfl,(k0.below hb).cell 10 _ rfl⟩
 have KC:Hid (∀ y:World,jr0 W0.heap.size W0 y->Calls Tryz.prog 38 #[.pointer (some ⟨Bb,0,none⟩),.slice ak nk ck] y (cO y (ah.aS ks))):=fun y hy=>by
  have hb:=b0.trans (hy.mono b0.size);exact ug _ 900000 ks _ y hsz (by decide) (Rd.keep (w:=w) (w':=y) (ok:=(·<Bb)) (fun b (hb':b<Bb) hlt=>⟨by show b<y.heap.size;have:=hb.size;omega,hb.block b (by omega)⟩) _ _ hR.kids) hwk (ht.below hb)
 have q5:(⟨#[110,111,116,101,45]⟩:ByteArray).size+i.size<=9223372036854775807:=by have:(⟨#[110,111,116,101,45]⟩:ByteArray).size=5:=rfl;omega
 have q6:5+i.size<=9223372036854775807:=by omega
 have hadd:∀ w:World,(Op.stringOp .add (⟨#[110,111,116,101,45]⟩:ByteArray) i).run Tryz.prog w=.ok (.string (⟨#[110,111,116,101,45]⟩++i)) w:=fun w=>run_string_add_sum w _ _ q5
 have HM:=hid hn.symm;have bU:=hid hrow;have oz:=hid hbx;have H8:=hid hov;have HN0:=hid hN0;have B0:=hid b0;have HS:=hid hS;have Z0:=hid z0;clear hR hwk hsz hi ht hL hrow hbx hn hN0 k0 b0 z0 hov uj;go_enter Tryz.func39,Tryz.ntmps39;go_upto_region 1 with (fail)
 rw [<- hW0,<- hS];clear hW0 hS;refine M4 19 (fun w'=>w'.cell? ⟨Bb,0,none⟩=some (.slice av n cv)/\w'.cell? ⟨S,2,none⟩=some (.string i)/\w'.cell? ⟨S,10,none⟩=some (.slice ak nk ck)) (by kernel_rfl) (SF.out W0.drew (jnk _ _).drew) ?_;intro hH;apply jaq (α1:=World) (α2:=Nat) (α3:=Option Addr) (α4:=Nat) (α5:=Option Addr) (α6:=Nat) (α7:=Nat) (α8:=Nat) (R:=fun y5 p6 a2 c2 a3 n3 c3 pz=>(y5.cell? ⟨Bb,0,none⟩=some (.slice av n cv)/\y5.cell? ⟨S,2,none⟩=some (.string i)/\y5.cell? ⟨S,10,none⟩=some (.slice ak nk ck))/\Hid (jr0 W0.heap.size W0 y5)/\Hid (Rd (W0.heap.size<=·) y5 (.sl 4 [LP.d]) [.slice (some ⟨pz,0,none⟩) 1 1])/\Hid (Rd (W0.heap.size<=·) y5 (aO mH [⟨jZ,bY++i⟩,⟨eX,dK⟩] (ah.aS ks)).d [.string ⟨#[100,105,118]⟩,.string ⟨#[]⟩,.slice a2 2 c2,.slice a3 n3 c3]));case hm=>
  intro REST;refine dw 0 rfl (by kernel_rfl) hH (by rfl) (by intro wv hSw;obtain ⟨cb,c2,c10⟩:=hSw;go_simp;try with_reducible rfl) ?_;refine dw 1 rfl (by kernel_rfl) hH (by rfl) (by intro wv hSw;obtain ⟨cb,c2,c10⟩:=hSw;go_simp;try with_reducible rfl) ?_;refine dw 2 rfl (by kernel_rfl) hH (by rfl) (by intro wv hSw;obtain ⟨cb,c2,c10⟩:=hSw;go_simp;try with_reducible rfl) ?_;refine dw 3 rfl (by kernel_rfl) hH (by rfl) (by intro wv hSw;obtain ⟨cb,c2,c10⟩:=hSw;go_simp;try with_reducible rfl) ?_;refine dw 4 rfl (by kernel_rfl) hH (by rfl) (by intro wv hSw;obtain ⟨cb,c2,c10⟩:=hSw;go_simp;try with_reducible rfl) ?_;refine dw 5 rfl (by kernel_rfl) hH (by rfl) (by intro wv hSw;obtain ⟨cb,c2,c10⟩:=hSw;go_simp;try with_reducible rfl) ?_;refine dw 8 rfl (by kernel_rfl) hH (by rfl) (by intro wv hSw;obtain ⟨cb,c2,c10⟩:=hSw;go_simp;try with_reducible rfl) ?_;refine dw 9 rfl (by kernel_rfl) hH (by rfl) (by intro wv hSw;obtain ⟨cb,c2,c10⟩:=hSw;go_simp;try with_reducible rfl) ?_;refine dw 12 rfl (by kernel_rfl) hH (by rfl) (by intro wv hSw;obtain ⟨cb,c2,c10⟩:=hSw;go_simp;try with_reducible rfl) ?_;try simp only [Act.put,jn7,jn8,jn9]
  obtain ⟨y0,hy0⟩:∃ y0,y0=W0.drew:=⟨_,rfl⟩;have OB:Hid (jr0 W0.heap.size W0 y0):=by rw [hy0];exact (jnk _ _).drew
  rw [<- hy0] at hH;rw [<- hy0];clear hy0;refine J7 (i:=6) (j:=13) rfl rfl (by kernel_rfl) (fun KQ hK=>?_) (fun KQ hK=>?_)
  ·go_simp;obtain ⟨y1,hN⟩:∃ z,z=y0.alloc (.cells ([⟨#[105,100]⟩,⟨#[110,111,116,101,45]⟩++i,⟨#[99,108,97,115,115]⟩,⟨#[110,111,116,101]⟩].map Value.string).toArray 9):=⟨_,rfl⟩;obtain ⟨p6,hf⟩:∃ z,z=y0.heap.size:=⟨_,rfl⟩;have Xz:=qW [⟨#[105,100]⟩,⟨#[110,111,116,101,45]⟩++i,⟨#[99,108,97,115,115]⟩,⟨#[110,111,116,101]⟩] y0 (by show 4<=maxLen;unfold maxLen;decide);rw [<- hN,<- hf] at Xz;have Vm:=hid (show Rd (·<y1.heap.size) y1 (kD (nN [⟨jZ,bY++i⟩,⟨eX,dK⟩])) [.slice (some ⟨p6,0,none⟩) 4 4] from Xz);have bN:jr0 y0.heap.size y0 y1:=by rw [hN];exact (jnk _ _).alloc (jnq _) _
   simp only [List.map_cons,List.map_nil] at hN;rw [<- hN,<- hf];clear hN hf Xz;have xg:Hid (jr0 W0.heap.size W0 y1):=OB.out.trans (bN.mono OB.out.size);clear bN;refine hK.out _ _ (fun _ _=>SF.out y1 xg.out) (fun hH2=>?_);clear hK KQ hH;have hH:=hH2 (by decide) (by kernel_rfl);clear hH2;try simp only [Act.put,jn7,jn8,jn9]
   refine J7 (i:=7) (j:=13) rfl rfl (by kernel_rfl) (fun KQ hK=>?_) (fun KQ hK=>?_)
   ·go_simp;go_at_call 41
    (with_reducible refine (jM [⟨jZ,bY++i⟩,⟨eX,dK⟩] (.slice (some ⟨p6,0,none⟩) 4 4) y1 Vm.out (by simp)).mono ?_)
    rintro e y2 ⟨bE,v2,rfl,hrow2⟩;obtain ⟨a2,c2,rfl,-,-⟩:=hrow2.cap (n:=2) rfl;have bN:=hrow2.aN;have Vn:=hid (show Rd (W0.heap.size<=·) y2 (bD [⟨jZ,bY++i⟩,⟨eX,dK⟩]) [.slice a2 2 c2] from hrow2.eP.weaken (fun b hb=>jnx xg.out.size hb));clear hrow2;have ny:Hid (jr0 W0.heap.size W0 y2):=xg.out.trans (bN.mono xg.out.size);clear bN;refine hK.out _ _ (fun _ _=>SF.out y2 ny.out) (fun hH2=>?_);clear hK KQ hH;have hH:=hH2 (by decide) (by kernel_rfl);clear hH2;try simp only [Act.put,jn7,jn8,jn9]
    refine J7 (i:=10) (j:=13) rfl rfl (by kernel_rfl) (fun KQ hK=>?_) (fun KQ hK=>?_)
    ·go_simp;go_at_call 38
     (with_reducible refine (KC.out y2 ny.out).mono ?_)
     rintro e y3 ⟨gL,v3,rfl,hrow3⟩;obtain ⟨a3,n3,c3,rfl⟩:=hrow3.slice3;have bN:=hrow3.aN;have Vo:=hid (show Rd (W0.heap.size<=·) y3 (dh (ah.aS ks)) [.slice a3 n3 c3] from hrow3.eP.weaken (fun b hb=>jnx ny.out.size hb));clear hrow3;have jq:Hid (jr0 W0.heap.size W0 y3):=ny.out.trans (bN.mono ny.out.size);have um:=hid (Vn.out.aV bN);clear bN;refine hK.out _ _ (fun _ _=>SF.out y3 jq.out) (fun hH2=>?_);clear hK KQ hH;have hH:=hH2 (by decide) (by kernel_rfl);clear hH2;try simp only [Act.put,jn7,jn8,jn9]
     refine J7 (i:=11) (j:=13) rfl rfl (by kernel_rfl) (fun KQ hK=>?_) (fun KQ hK=>?_)
     ·go_simp;go_at_call 40
      (with_reducible refine (lD ⟨#[100,105,118]⟩ a2 a3 2 n3 c2 c3 y3).mono ?_)
      rintro e y4 ⟨rfl,bN⟩;have jax:=hid (show Rd (W0.heap.size<=·) y4 (aO mH [⟨jZ,bY++i⟩,⟨eX,dK⟩] (ah.aS ks)).d [.string ⟨#[100,105,118]⟩,.string ⟨#[]⟩,.slice a2 2 c2,.slice a3 n3 c3] from Nd.iH ⟨#[100,105,118]⟩ ⟨#[]⟩ ⟨um.out.aV bN,Vo.out.aV bN⟩);have lM:Hid (jr0 W0.heap.size W0 y4):=jq.out.trans (bN.mono jq.out.size);clear bN;refine hK.out _ _ (fun _ _=>SF.out y4 lM.out) (fun hH2=>?_);clear hK KQ hH;have hH:=hH2 (by decide) (by kernel_rfl);clear hH2;try simp only [Act.put,jn7,jn8,jn9]
      refine dO (i:=13) rfl (by kernel_rfl) (fun KQ hK=>?_);go_simp;obtain ⟨y5,hN⟩:∃ z,z=y4.alloc (.cells [Value.string ⟨#[]⟩,.string ⟨#[]⟩,.slice none 0 0,.slice none 0 0].toArray 35):=⟨_,rfl⟩;obtain ⟨pz,hf⟩:∃ z,z=y4.heap.size:=⟨_,rfl⟩;have CJ:=(aH.one (T:=35) (k:=4) (w:=y4) (d:=LP.d) (r:=[Value.string ⟨#[]⟩,.string ⟨#[]⟩,.slice none 0 0,.slice none 0 0]) rfl (Nd.iH ⟨#[]⟩ ⟨#[]⟩ ⟨Rd.aD _ _ _,Rd.aD _ _ _⟩)).eP;rw [<- hN,<- hf] at CJ;have nW:=hid (show Rd (W0.heap.size<=·) y5 (.sl 4 [LP.d]) [.slice (some ⟨pz,0,none⟩) 1 1] from CJ.weaken (fun b (hb:pz<=b)=>by have:=lM.out.size;omega));have bN:jr0 y4.heap.size y4 y5:=by rw [hN];exact (jnk _ _).alloc (jnq _) _
      rw [<- hN,<- hf];clear hN hf CJ;have lN:Hid (jr0 W0.heap.size W0 y5):=lM.out.trans (bN.mono lM.out.size);have nX:=hid (jax.out.aV bN);clear bN;refine hK.out _ _ (fun _ _=>SF.out y5 lN.out) (fun hH2=>?_);clear hK KQ hH;have hH:=hH2 (by decide) (by kernel_rfl);clear hH2;try simp only [Act.put,jn7,jn8,jn9]
      exact REST y5 p6 a2 c2 a3 n3 c3 pz ⟨hH,lN,nW,nX⟩
     ·go_simp;obtain ⟨y4,hN⟩:∃ z,z=y3.alloc (.cells [Value.string ⟨#[]⟩,.string ⟨#[]⟩,.slice none 0 0,.slice none 0 0].toArray 35):=⟨_,rfl⟩;obtain ⟨pz,hf⟩:∃ z,z=y3.heap.size:=⟨_,rfl⟩;have CJ:=(aH.one (T:=35) (k:=4) (w:=y3) (d:=LP.d) (r:=[Value.string ⟨#[]⟩,.string ⟨#[]⟩,.slice none 0 0,.slice none 0 0]) rfl (Nd.iH ⟨#[]⟩ ⟨#[]⟩ ⟨Rd.aD _ _ _,Rd.aD _ _ _⟩)).eP;rw [<- hN,<- hf] at CJ;have xq:=hid (show Rd (W0.heap.size<=·) y4 (.sl 4 [LP.d]) [.slice (some ⟨pz,0,none⟩) 1 1] from CJ.weaken (fun b (hb:pz<=b)=>by have:=jq.out.size;omega));have bN:jr0 y3.heap.size y3 y4:=by rw [hN];exact (jnk _ _).alloc (jnq _) _
      rw [<- hN,<- hf];clear hN hf CJ;have lM:Hid (jr0 W0.heap.size W0 y4):=jq.out.trans (bN.mono jq.out.size);have xu:=hid (Vo.out.aV bN);have xw:=hid (um.out.aV bN);clear bN;refine hK.out _ _ (fun _ _=>SF.out y4 lM.out) (fun hH2=>?_);clear hK KQ hH;have hH:=hH2 (by decide) (by kernel_rfl);clear hH2;try simp only [Act.put,jn7,jn8,jn9]
      refine dO (i:=11) rfl (by kernel_rfl) (fun KQ hK=>?_);go_simp;go_at_call 40
      (with_reducible refine (lD ⟨#[100,105,118]⟩ a2 a3 2 n3 c2 c3 y4).mono ?_)
      rintro e y5 ⟨rfl,bN⟩;have nX:=hid (show Rd (W0.heap.size<=·) y5 (aO mH [⟨jZ,bY++i⟩,⟨eX,dK⟩] (ah.aS ks)).d [.string ⟨#[100,105,118]⟩,.string ⟨#[]⟩,.slice a2 2 c2,.slice a3 n3 c3] from Nd.iH ⟨#[100,105,118]⟩ ⟨#[]⟩ ⟨xw.out.aV bN,xu.out.aV bN⟩);have lN:Hid (jr0 W0.heap.size W0 y5):=lM.out.trans (bN.mono lM.out.size);have nW:=hid (xq.out.aV bN);clear bN;refine hK.out _ _ (fun _ _=>SF.out y5 lN.out) (fun hH2=>?_);clear hK KQ hH;have hH:=hH2 (by decide) (by kernel_rfl);clear hH2;try simp only [Act.put,jn7,jn8,jn9]
      exact REST y5 p6 a2 c2 a3 n3 c3 pz ⟨hH,lN,nW,nX⟩
    ·go_simp;obtain ⟨y3,hN⟩:∃ z,z=y2.alloc (.cells [Value.string ⟨#[]⟩,.string ⟨#[]⟩,.slice none 0 0,.slice none 0 0].toArray 35):=⟨_,rfl⟩;obtain ⟨pz,hf⟩:∃ z,z=y2.heap.size:=⟨_,rfl⟩;have CJ:=(aH.one (T:=35) (k:=4) (w:=y2) (d:=LP.d) (r:=[Value.string ⟨#[]⟩,.string ⟨#[]⟩,.slice none 0 0,.slice none 0 0]) rfl (Nd.iH ⟨#[]⟩ ⟨#[]⟩ ⟨Rd.aD _ _ _,Rd.aD _ _ _⟩)).eP;rw [<- hN,<- hf] at CJ;have FE:=hid (show Rd (W0.heap.size<=·) y3 (.sl 4 [LP.d]) [.slice (some ⟨pz,0,none⟩) 1 1] from CJ.weaken (fun b (hb:pz<=b)=>by have:=ny.out.size;omega));have bN:jr0 y2.heap.size y2 y3:=by rw [hN];exact (jnk _ _).alloc (jnq _) _
     rw [<- hN,<- hf];clear hN hf CJ;have jq:Hid (jr0 W0.heap.size W0 y3):=ny.out.trans (bN.mono ny.out.size);have um:=hid (Vn.out.aV bN);clear bN;refine hK.out _ _ (fun _ _=>SF.out y3 jq.out) (fun hH2=>?_);clear hK KQ hH;have hH:=hH2 (by decide) (by kernel_rfl);clear hH2;try simp only [Act.put,jn7,jn8,jn9]
     refine dO (i:=10) rfl (by kernel_rfl) (fun KQ hK=>?_);go_simp;go_at_call 38
     (with_reducible refine (KC.out y3 jq.out).mono ?_)
     rintro e y4 ⟨gL,v3,rfl,hrow3⟩;obtain ⟨a3,n3,c3,rfl⟩:=hrow3.slice3;have bN:=hrow3.aN;have xu:=hid (show Rd (W0.heap.size<=·) y4 (dh (ah.aS ks)) [.slice a3 n3 c3] from hrow3.eP.weaken (fun b hb=>jnx jq.out.size hb));clear hrow3;have lM:Hid (jr0 W0.heap.size W0 y4):=jq.out.trans (bN.mono jq.out.size);have xq:=hid (FE.out.aV bN);have xw:=hid (um.out.aV bN);clear bN;refine hK.out _ _ (fun _ _=>SF.out y4 lM.out) (fun hH2=>?_);clear hK KQ hH;have hH:=hH2 (by decide) (by kernel_rfl);clear hH2;try simp only [Act.put,jn7,jn8,jn9]
     refine dO (i:=11) rfl (by kernel_rfl) (fun KQ hK=>?_);go_simp;go_at_call 40
     (with_reducible refine (lD ⟨#[100,105,118]⟩ a2 a3 2 n3 c2 c3 y4).mono ?_)
     rintro e y5 ⟨rfl,bN⟩;have nX:=hid (show Rd (W0.heap.size<=·) y5 (aO mH [⟨jZ,bY++i⟩,⟨eX,dK⟩] (ah.aS ks)).d [.string ⟨#[100,105,118]⟩,.string ⟨#[]⟩,.slice a2 2 c2,.slice a3 n3 c3] from Nd.iH ⟨#[100,105,118]⟩ ⟨#[]⟩ ⟨xw.out.aV bN,xu.out.aV bN⟩);have lN:Hid (jr0 W0.heap.size W0 y5):=lM.out.trans (bN.mono lM.out.size);have nW:=hid (xq.out.aV bN);clear bN;refine hK.out _ _ (fun _ _=>SF.out y5 lN.out) (fun hH2=>?_);clear hK KQ hH;have hH:=hH2 (by decide) (by kernel_rfl);clear hH2;try simp only [Act.put,jn7,jn8,jn9]
     exact REST y5 p6 a2 c2 a3 n3 c3 pz ⟨hH,lN,nW,nX⟩
   ·go_simp;obtain ⟨y2,hN⟩:∃ z,z=y1.alloc (.cells [Value.string ⟨#[]⟩,.string ⟨#[]⟩,.slice none 0 0,.slice none 0 0].toArray 35):=⟨_,rfl⟩;obtain ⟨pz,hf⟩:∃ z,z=y1.heap.size:=⟨_,rfl⟩;have CJ:=(aH.one (T:=35) (k:=4) (w:=y1) (d:=LP.d) (r:=[Value.string ⟨#[]⟩,.string ⟨#[]⟩,.slice none 0 0,.slice none 0 0]) rfl (Nd.iH ⟨#[]⟩ ⟨#[]⟩ ⟨Rd.aD _ _ _,Rd.aD _ _ _⟩)).eP;rw [<- hN,<- hf] at CJ;have OC:=hid (show Rd (W0.heap.size<=·) y2 (.sl 4 [LP.d]) [.slice (some ⟨pz,0,none⟩) 1 1] from CJ.weaken (fun b (hb:pz<=b)=>by have:=xg.out.size;omega));have bN:jr0 y1.heap.size y1 y2:=by rw [hN];exact (jnk _ _).alloc (jnq _) _
    rw [<- hN,<- hf];clear hN hf CJ;have ny:Hid (jr0 W0.heap.size W0 y2):=xg.out.trans (bN.mono xg.out.size);have OD:=hid (Vm.out.up bN);clear bN;refine hK.out _ _ (fun _ _=>SF.out y2 ny.out) (fun hH2=>?_);clear hK KQ hH;have hH:=hH2 (by decide) (by kernel_rfl);clear hH2;try simp only [Act.put,jn7,jn8,jn9]
    refine dO (i:=7) rfl (by kernel_rfl) (fun KQ hK=>?_);go_simp;go_at_call 41
    (with_reducible refine (jM [⟨jZ,bY++i⟩,⟨eX,dK⟩] (.slice (some ⟨p6,0,none⟩) 4 4) y2 OD.out (by simp)).mono ?_)
    rintro e y3 ⟨bE,v2,rfl,hrow2⟩;obtain ⟨a2,c2,rfl,-,-⟩:=hrow2.cap (n:=2) rfl;have bN:=hrow2.aN;have um:=hid (show Rd (W0.heap.size<=·) y3 (bD [⟨jZ,bY++i⟩,⟨eX,dK⟩]) [.slice a2 2 c2] from hrow2.eP.weaken (fun b hb=>jnx ny.out.size hb));clear hrow2;have jq:Hid (jr0 W0.heap.size W0 y3):=ny.out.trans (bN.mono ny.out.size);have FE:=hid (OC.out.aV bN);clear bN;refine hK.out _ _ (fun _ _=>SF.out y3 jq.out) (fun hH2=>?_);clear hK KQ hH;have hH:=hH2 (by decide) (by kernel_rfl);clear hH2;try simp only [Act.put,jn7,jn8,jn9]
    refine dO (i:=10) rfl (by kernel_rfl) (fun KQ hK=>?_);go_simp;go_at_call 38
    (with_reducible refine (KC.out y3 jq.out).mono ?_)
    rintro e y4 ⟨gL,v3,rfl,hrow3⟩;obtain ⟨a3,n3,c3,rfl⟩:=hrow3.slice3;have bN:=hrow3.aN;have xu:=hid (show Rd (W0.heap.size<=·) y4 (dh (ah.aS ks)) [.slice a3 n3 c3] from hrow3.eP.weaken (fun b hb=>jnx jq.out.size hb));clear hrow3;have lM:Hid (jr0 W0.heap.size W0 y4):=jq.out.trans (bN.mono jq.out.size);have xq:=hid (FE.out.aV bN);have xw:=hid (um.out.aV bN);clear bN;refine hK.out _ _ (fun _ _=>SF.out y4 lM.out) (fun hH2=>?_);clear hK KQ hH;have hH:=hH2 (by decide) (by kernel_rfl);clear hH2;try simp only [Act.put,jn7,jn8,jn9]
    refine dO (i:=11) rfl (by kernel_rfl) (fun KQ hK=>?_);go_simp;go_at_call 40
    (with_reducible refine (lD ⟨#[100,105,118]⟩ a2 a3 2 n3 c2 c3 y4).mono ?_)
    rintro e y5 ⟨rfl,bN⟩;have nX:=hid (show Rd (W0.heap.size<=·) y5 (aO mH [⟨jZ,bY++i⟩,⟨eX,dK⟩] (ah.aS ks)).d [.string ⟨#[100,105,118]⟩,.string ⟨#[]⟩,.slice a2 2 c2,.slice a3 n3 c3] from Nd.iH ⟨#[100,105,118]⟩ ⟨#[]⟩ ⟨xw.out.aV bN,xu.out.aV bN⟩);have lN:Hid (jr0 W0.heap.size W0 y5):=lM.out.trans (bN.mono lM.out.size);have nW:=hid (xq.out.aV bN);clear bN;refine hK.out _ _ (fun _ _=>SF.out y5 lN.out) (fun hH2=>?_);clear hK KQ hH;have hH:=hH2 (by decide) (by kernel_rfl);clear hH2;try simp only [Act.put,jn7,jn8,jn9]
    exact REST y5 p6 a2 c2 a3 n3 c3 pz ⟨hH,lN,nW,nX⟩
  ·go_simp;obtain ⟨y1,hN⟩:∃ z,z=y0.alloc (.cells [Value.string ⟨#[]⟩,.string ⟨#[]⟩,.slice none 0 0,.slice none 0 0].toArray 35):=⟨_,rfl⟩;obtain ⟨pz,hf⟩:∃ z,z=y0.heap.size:=⟨_,rfl⟩;have CJ:=(aH.one (T:=35) (k:=4) (w:=y0) (d:=LP.d) (r:=[Value.string ⟨#[]⟩,.string ⟨#[]⟩,.slice none 0 0,.slice none 0 0]) rfl (Nd.iH ⟨#[]⟩ ⟨#[]⟩ ⟨Rd.aD _ _ _,Rd.aD _ _ _⟩)).eP;rw [<- hN,<- hf] at CJ;have jaz:=hid (show Rd (W0.heap.size<=·) y1 (.sl 4 [LP.d]) [.slice (some ⟨pz,0,none⟩) 1 1] from CJ.weaken (fun b (hb:pz<=b)=>by have:=OB.out.size;omega));have bN:jr0 y0.heap.size y0 y1:=by rw [hN];exact (jnk _ _).alloc (jnq _) _
   rw [<- hN,<- hf];clear hN hf CJ;have xg:Hid (jr0 W0.heap.size W0 y1):=OB.out.trans (bN.mono OB.out.size);clear bN;refine hK.out _ _ (fun _ _=>SF.out y1 xg.out) (fun hH2=>?_);clear hK KQ hH;have hH:=hH2 (by decide) (by kernel_rfl);clear hH2;try simp only [Act.put,jn7,jn8,jn9]
   refine dO (i:=6) rfl (by kernel_rfl) (fun KQ hK=>?_);go_simp;obtain ⟨y2,hN⟩:∃ z,z=y1.alloc (.cells ([⟨#[105,100]⟩,⟨#[110,111,116,101,45]⟩++i,⟨#[99,108,97,115,115]⟩,⟨#[110,111,116,101]⟩].map Value.string).toArray 9):=⟨_,rfl⟩;obtain ⟨p6,hf⟩:∃ z,z=y1.heap.size:=⟨_,rfl⟩;have Xz:=qW [⟨#[105,100]⟩,⟨#[110,111,116,101,45]⟩++i,⟨#[99,108,97,115,115]⟩,⟨#[110,111,116,101]⟩] y1 (by show 4<=maxLen;unfold maxLen;decide);rw [<- hN,<- hf] at Xz;have OD:=hid (show Rd (·<y2.heap.size) y2 (kD (nN [⟨jZ,bY++i⟩,⟨eX,dK⟩])) [.slice (some ⟨p6,0,none⟩) 4 4] from Xz);have bN:jr0 y1.heap.size y1 y2:=by rw [hN];exact (jnk _ _).alloc (jnq _) _
   simp only [List.map_cons,List.map_nil] at hN;rw [<- hN,<- hf];clear hN hf Xz;have ny:Hid (jr0 W0.heap.size W0 y2):=xg.out.trans (bN.mono xg.out.size);have OC:=hid (jaz.out.aV bN);clear bN;refine hK.out _ _ (fun _ _=>SF.out y2 ny.out) (fun hH2=>?_);clear hK KQ hH;have hH:=hH2 (by decide) (by kernel_rfl);clear hH2;try simp only [Act.put,jn7,jn8,jn9]
   refine dO (i:=7) rfl (by kernel_rfl) (fun KQ hK=>?_);go_simp;go_at_call 41
   (with_reducible refine (jM [⟨jZ,bY++i⟩,⟨eX,dK⟩] (.slice (some ⟨p6,0,none⟩) 4 4) y2 OD.out (by simp)).mono ?_)
   rintro e y3 ⟨bE,v2,rfl,hrow2⟩;obtain ⟨a2,c2,rfl,-,-⟩:=hrow2.cap (n:=2) rfl;have bN:=hrow2.aN;have um:=hid (show Rd (W0.heap.size<=·) y3 (bD [⟨jZ,bY++i⟩,⟨eX,dK⟩]) [.slice a2 2 c2] from hrow2.eP.weaken (fun b hb=>jnx ny.out.size hb));clear hrow2;have jq:Hid (jr0 W0.heap.size W0 y3):=ny.out.trans (bN.mono ny.out.size);have FE:=hid (OC.out.aV bN);clear bN;refine hK.out _ _ (fun _ _=>SF.out y3 jq.out) (fun hH2=>?_);clear hK KQ hH;have hH:=hH2 (by decide) (by kernel_rfl);clear hH2;try simp only [Act.put,jn7,jn8,jn9]
   refine dO (i:=10) rfl (by kernel_rfl) (fun KQ hK=>?_);go_simp;go_at_call 38
   (with_reducible refine (KC.out y3 jq.out).mono ?_)
   rintro e y4 ⟨gL,v3,rfl,hrow3⟩;obtain ⟨a3,n3,c3,rfl⟩:=hrow3.slice3;have bN:=hrow3.aN;have xu:=hid (show Rd (W0.heap.size<=·) y4 (dh (ah.aS ks)) [.slice a3 n3 c3] from hrow3.eP.weaken (fun b hb=>jnx jq.out.size hb));clear hrow3;have lM:Hid (jr0 W0.heap.size W0 y4):=jq.out.trans (bN.mono jq.out.size);have xq:=hid (FE.out.aV bN);have xw:=hid (um.out.aV bN);clear bN;refine hK.out _ _ (fun _ _=>SF.out y4 lM.out) (fun hH2=>?_);clear hK KQ hH;have hH:=hH2 (by decide) (by kernel_rfl);clear hH2;try simp only [Act.put,jn7,jn8,jn9]
   refine dO (i:=11) rfl (by kernel_rfl) (fun KQ hK=>?_);go_simp;go_at_call 40
   (with_reducible refine (lD ⟨#[100,105,118]⟩ a2 a3 2 n3 c2 c3 y4).mono ?_)
   rintro e y5 ⟨rfl,bN⟩;have nX:=hid (show Rd (W0.heap.size<=·) y5 (aO mH [⟨jZ,bY++i⟩,⟨eX,dK⟩] (ah.aS ks)).d [.string ⟨#[100,105,118]⟩,.string ⟨#[]⟩,.slice a2 2 c2,.slice a3 n3 c3] from Nd.iH ⟨#[100,105,118]⟩ ⟨#[]⟩ ⟨xw.out.aV bN,xu.out.aV bN⟩);have lN:Hid (jr0 W0.heap.size W0 y5):=lM.out.trans (bN.mono lM.out.size);have nW:=hid (xq.out.aV bN);clear bN;refine hK.out _ _ (fun _ _=>SF.out y5 lN.out) (fun hH2=>?_);clear hK KQ hH;have hH:=hH2 (by decide) (by kernel_rfl);clear hH2;try simp only [Act.put,jn7,jn8,jn9]
   exact REST y5 p6 a2 c2 a3 n3 c3 pz ⟨hH,lN,nW,nX⟩
 case hr=>
  intro y5 p6 a2 c2 a3 n3 c3 pz ⟨hH,lN,nW,nX⟩;refine dO (i:=14) rfl (by kernel_rfl) (fun KQ hK=>?_);refine wS (n:=n) (m:=1) rfl (.tmp 5) (.tmp 16) 28 rfl iN _ 80 Tryz.underlying28 GR oQ oV oW rfl (by decide) (bU.out.below (B0.out.trans (lN.out.mono B0.out.size))) (fun _=>False.elim) (.slice (some ⟨pz,0,none⟩) 1 1) (nW.out.weaken (fun b (hb:W0.heap.size<=b)=>.inr (by have:=B0.out.size;omega))) (fun rs ok' h=>J2 [LP] rs ok' _ h) HM.out rfl (by omega) (by decide) rfl rfl ?_;intro a5 c5 Ar w5 cu hg5 Ov;obtain ⟨g5,cap5,hvg,-⟩:=qZ cu.own (by simp);obtain ⟨rfl,rfl⟩:a5=some ⟨g5,0,none⟩/\c5=cap5:=by injection hvg with h1 h2 h3;exact ⟨h1,h3⟩
  obtain ⟨jg3,z0,z1,z2,z3,rfl,-⟩:=cu.LM;have hat:(Value.slice av n cv).ownBlock=some g5\/g5=y5.heap.size:=by
   rcases Ov with h | h
   ·exact .inl (h.symm.trans rfl)
   ·refine .inr ?_;have e:g5=y5.heap.size:=by simpa [Value.ownBlock] using h
    exact e
  have hzy:=lN.out.size;have hg:(N0<=g5/\g5<S)\/g5=y5.heap.size:=hat.imp (fun h=>H8.out g5 h) id;have hBg:Bb≠g5:=by have:=Z0.out;omega
  have Vk:S≠g5:=by have:=Z0.out;omega
  have OE:∀ b,b=Bb\/b=S->some b≠(Value.slice av n cv).ownBlock:=fun b hb e=>by have:=H8.out b e.symm;omega
  obtain ⟨s1,s2,s3⟩:=SF.out y5 lN.out;have S5:w5.cell? ⟨Bb,0,none⟩=some (.slice av n cv)/\w5.cell? ⟨S,2,none⟩=some (.string i)/\w5.cell? ⟨S,10,none⟩=some (.slice ak nk ck):=
   ⟨(jG (hg5.block Bb (by have:=Z0.out;omega) (OE Bb (.inl rfl))) 0).trans s1,(jG (hg5.block S (by have:=Z0.out;omega) (OE S (.inr rfl))) 2).trans s2,(jG (hg5.block S (by have:=Z0.out;omega) (OE S (.inr rfl))) 10).trans s3⟩
  have SH:aF Bb (.slice av n cv) 75 w5:=(hg5.block Bb (by have:=Z0.out;omega) (OE Bb (.inl rfl))).trans (((oz.out.below (by have:=HS.out;omega) B0.out)).below (B:=W0.heap.size) (by have:=Z0.out;omega) lN.out);obtain ⟨y0',y1',y2',y3',yf⟩:=cu.J6 HM.out;have zf5:=SH.free;have z5:=SH.cell;obtain ⟨wZ,hzZ,Fw⟩:=cu.hop2 (p:=Bb) (by have:=HN0.out;omega) (show w5.grownBy (w5.setCell ⟨Bb,0,none⟩ (.slice (some ⟨g5,0,none⟩) (n+1) c5)) (some Bb) from ⟨rfl,rfl,rfl,by simp [World.setCell],fun b _ hb=>Below.heap_setCell w5 ⟨Bb,0,none⟩ _ b (fun e=>hb (by rw [e]))⟩);obtain ⟨u0,u1,u2,u3,uf⟩:=Fw.J6 HM.out;have hF:=Fz (x:=(aO mH [⟨jZ,bY++i⟩,⟨eX,dK⟩] (ah.aS ks))) (.string ⟨#[100,105,118]⟩) (.string ⟨#[]⟩) (.slice a2 2 c2) (.slice a3 n3 c3) HN0.out hB bU.out oz.out (B0.out.trans (lN.out.mono B0.out.size)) cu hg5 HM.out hat (nX.out.weaken (fun b (hb:W0.heap.size<=b)=>jnx B0.out.size hb));have sM:=hid hF;have Xr:aF Bb (.slice av n cv) 75 ((((w5.setCell ⟨g5,n*4,none⟩ (.string ⟨#[100,105,118]⟩)).setCell ⟨g5,n*4+1,none⟩ (.string ⟨#[]⟩)).setCell ⟨g5,n*4+2,none⟩ (.slice a2 2 c2)).setCell ⟨g5,n*4+3,none⟩ (.slice a3 n3 c3)):=(gZ w5 g5 (n*4) (.string ⟨#[100,105,118]⟩) (.string ⟨#[]⟩) (.slice a2 2 c2) (.slice a3 n3 c3) Bb hBg).trans SH;have S6:World.cell? ((((w5.setCell ⟨g5,n*4,none⟩ (.string ⟨#[100,105,118]⟩)).setCell ⟨g5,n*4+1,none⟩ (.string ⟨#[]⟩)).setCell ⟨g5,n*4+2,none⟩ (.slice a2 2 c2)).setCell ⟨g5,n*4+3,none⟩ (.slice a3 n3 c3)) ⟨Bb,0,none⟩=some (.slice av n cv)/\World.cell? ((((w5.setCell ⟨g5,n*4,none⟩ (.string ⟨#[100,105,118]⟩)).setCell ⟨g5,n*4+1,none⟩ (.string ⟨#[]⟩)).setCell ⟨g5,n*4+2,none⟩ (.slice a2 2 c2)).setCell ⟨g5,n*4+3,none⟩ (.slice a3 n3 c3)) ⟨S,2,none⟩=some (.string i)/\World.cell? ((((w5.setCell ⟨g5,n*4,none⟩ (.string ⟨#[100,105,118]⟩)).setCell ⟨g5,n*4+1,none⟩ (.string ⟨#[]⟩)).setCell ⟨g5,n*4+2,none⟩ (.slice a2 2 c2)).setCell ⟨g5,n*4+3,none⟩ (.slice a3 n3 c3)) ⟨S,10,none⟩=some (.slice ak nk ck):=⟨Vg S5.1 hBg,Vg S5.2.1 Vk,Vg S5.2.2 Vk⟩;have zf6:=Xr.free;have z6:=S6.1;have t0:(0:Int)<=(n:Int):=by omega
  have t1:(n:Int)<((n+1:Nat):Int):=by omega
  have t2:(n:Int)<(n:Int)+1:=by omega
  have t3:n<n+1:=by omega
  clear Fw hzZ SH Xr cu hg5 Ov hvg OE s1 s2 s3 hF hat hg;refine hK.out _ _ (fun _ _=>S5) (fun hH2=>?_);clear hK KQ hH;have hH:=hH2 (by decide) (by kernel_rfl);clear hH2;try simp only [Act.put,jn7,jn8,jn9]
  refine dw 17 rfl (by kernel_rfl) hH (by rfl) (by intro wv hSw;obtain ⟨cb,c2,c10⟩:=hSw;go_simp;try with_reducible rfl) ?_;refine dw 18 rfl (by kernel_rfl) hH (by rfl) (by intro wv hSw;obtain ⟨cb,c2,c10⟩:=hSw;go_simp;try with_reducible rfl) ?_;try simp only [Act.put,jn7,jn8,jn9]
  refine J7 (i:=15) (j:=19) rfl rfl (by kernel_rfl) (fun KQ hK=>?_) (fun KQ hK=>?_)
  ·go_simp;refine hK.out _ _ (fun _ _=>S5) (fun hH2=>?_);clear hK KQ hH;have hH:=hH2 (by decide) (by kernel_rfl);clear hH2;try simp only [Act.put,jn7,jn8,jn9]
   refine J7 (i:=16) (j:=19) rfl rfl (by kernel_rfl) (fun KQ hK=>?_) (fun KQ hK=>?_)
   ·go_simp;refine hK.out _ _ (fun _ _=>S6) (fun hH2=>?_);clear hK KQ hH;have hH:=hH2 (by decide) (by kernel_rfl);clear hH2;try simp only [Act.put,jn7,jn8,jn9]
    refine dO (i:=19) rfl (by kernel_rfl) (fun KQ hK=>?_);go_simp;refine hK.out _ _ (fun h=>absurd rfl h) (fun _=>?_);clear hK KQ hH;try simp only [Act.put,jn7,jn8,jn9]
    refine Fx (by kernel_rfl) ?_ _;clear S5 S6 y0' y1' y2' y3' yf u0 u1 u2 u3 uf zf5 z5 zf6 z6 t0 t1 t2 t3;have J9:=sM.out;simp only [qD] at J9;obtain ⟨w7,hw7⟩:∃ w7,w7=((((w5.setCell ⟨g5,n*4,none⟩ (.string ⟨#[100,105,118]⟩)).setCell ⟨g5,n*4+1,none⟩ (.string ⟨#[]⟩)).setCell ⟨g5,n*4+2,none⟩ (.slice a2 2 c2)).setCell ⟨g5,n*4+3,none⟩ (.slice a3 n3 c3)).setCell ⟨Bb,0,none⟩ (.slice (some ⟨g5,0,none⟩) (n+1) c5):=⟨_,rfl⟩;rw [<- hw7] at J9;rw [<- hw7];have HF7:=hid J9;clear hw7 J9 sM;go_wp2
    go_end0
    exact ⟨rfl,HF7.out⟩
   ·go_simp;refine hK.out _ _ (fun h=>absurd rfl h) (fun _=>?_);clear hK KQ hH;try simp only [Act.put,jn7,jn8,jn9]
    refine dO (i:=16) rfl (by kernel_rfl) (fun KQ hK=>?_);go_simp;refine hK.out _ _ (fun _ h=>absurd h (by decide)) (fun _=>?_);clear hK KQ;try simp only [Act.put,jn7,jn8,jn9]
    refine Fx (by kernel_rfl) ?_ _;have hsw:=oI w5 Bb g5 (n*4) (.slice (some ⟨g5,0,none⟩) (n+1) c5) (.string ⟨#[100,105,118]⟩) (.string ⟨#[]⟩) (.slice a2 2 c2) (.slice a3 n3 c3) hBg;simp only [qD] at hsw;rw [hsw];clear hsw;clear S5 S6 y0' y1' y2' y3' yf u0 u1 u2 u3 uf zf5 z5 zf6 z6 t0 t1 t2 t3;have J9:=sM.out;simp only [qD] at J9;obtain ⟨w7,hw7⟩:∃ w7,w7=((((w5.setCell ⟨g5,n*4,none⟩ (.string ⟨#[100,105,118]⟩)).setCell ⟨g5,n*4+1,none⟩ (.string ⟨#[]⟩)).setCell ⟨g5,n*4+2,none⟩ (.slice a2 2 c2)).setCell ⟨g5,n*4+3,none⟩ (.slice a3 n3 c3)).setCell ⟨Bb,0,none⟩ (.slice (some ⟨g5,0,none⟩) (n+1) c5):=⟨_,rfl⟩;rw [<- hw7] at J9;rw [<- hw7];have HF7:=hid J9;clear hw7 J9 sM;go_wp2
    go_end0
    exact ⟨rfl,HF7.out⟩
  ·go_simp;refine hK.out _ _ (fun h=>absurd rfl h) (fun _=>?_);clear hK KQ hH;try simp only [Act.put,jn7,jn8,jn9]
   refine dO (i:=15) rfl (by kernel_rfl) (fun KQ hK=>?_);go_simp;refine hK.out _ _ (fun _ h=>absurd h (by decide)) (fun _=>?_);clear hK KQ;try simp only [Act.put,jn7,jn8,jn9]
   refine dO (i:=16) rfl (by kernel_rfl) (fun KQ hK=>?_);go_simp;refine hK.out _ _ (fun _ h=>absurd h (by decide)) (fun _=>?_);clear hK KQ;try simp only [Act.put,jn7,jn8,jn9]
   refine Fx (by kernel_rfl) ?_ _;have hsw:=oI w5 Bb g5 (n*4) (.slice (some ⟨g5,0,none⟩) (n+1) c5) (.string ⟨#[100,105,118]⟩) (.string ⟨#[]⟩) (.slice a2 2 c2) (.slice a3 n3 c3) hBg;simp only [qD] at hsw;rw [hsw];clear hsw;clear S5 S6 y0' y1' y2' y3' yf u0 u1 u2 u3 uf zf5 z5 zf6 z6 t0 t1 t2 t3;have J9:=sM.out;simp only [qD] at J9;obtain ⟨w7,hw7⟩:∃ w7,w7=((((w5.setCell ⟨g5,n*4,none⟩ (.string ⟨#[100,105,118]⟩)).setCell ⟨g5,n*4+1,none⟩ (.string ⟨#[]⟩)).setCell ⟨g5,n*4+2,none⟩ (.slice a2 2 c2)).setCell ⟨g5,n*4+3,none⟩ (.slice a3 n3 c3)).setCell ⟨Bb,0,none⟩ (.slice (some ⟨g5,0,none⟩) (n+1) c5):=⟨_,rfl⟩;rw [<- hw7] at J9;rw [<- hw7];have HF7:=hid J9;clear hw7 J9 sM;go_wp2
   go_end0
   exact ⟨rfl,HF7.out⟩
end Go.Proofs.YtkfnkeflalcphaaGreatDoor

