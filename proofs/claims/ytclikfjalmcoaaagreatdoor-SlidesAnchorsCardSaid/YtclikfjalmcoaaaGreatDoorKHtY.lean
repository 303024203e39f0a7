/- Contract of the function collect of html.Blocks (html.Blocks$1): the node of a note comes behind those that there are. -/
import Derived.Test.YtclikfjalmcoaaaGreatDoorKHrV
set_option maxHeartbeats 8000000
set_option maxRecDepth 100000
open Go.Lib (hid)
namespace Go.Proofs.YtclikfjalmcoaaaGreatDoor
open List renaming setIfInBounds_toArray->ji3,set_cons_zero->ji4,set_cons_succ->ji5
open Go.RowKit.Below renaming refl->ji7
open Nat renaming le_refl->ji8,le_trans->ji9
open Go.RowKit renaming Below->jlj
open Go.RowKit
set_option linter.unusedVariables false
set_option linter.unusedSimpArgs false
def Vw (Bb N0:Nat) (L:List Nd) (w:World):Prop:=
 ∃ (wB:World) (rows:List (List Value)) (v:Value),wB.heap.size=N0/\ay 43 4 (fun _=>False) w.heap.size wB (L.map Nd.d) rows v w/\aI Bb v 84 w
structure tL (Bb N0:Nat) (W W':World):Prop where
 os:W'.os=W.os
 tape:W'.tape=W.tape
 output:W'.output=W.output
 size:W.heap.size<=W'.heap.size
 blk:∀ b,b<N0->b≠Bb->W'.heap[b]?=W.heap[b]?
 YK:∀ (b:Nat) (cs:Array Value) (t:TypeId) (g:Nat × Nat),W.heap[b]?=some (Obj.cells cs t g)->t≠84->t≠43->W'.heap[b]?=W.heap[b]?
theorem tL.refl (Bb N0:Nat) (W:World):tL Bb N0 W W:=⟨rfl,rfl,rfl,ji8 _,fun _ _ _=>rfl,fun _ _ _ _ _ _ _=>rfl⟩
theorem tL.trans {Bb N0:Nat} {A B C:World} (h:tL Bb N0 A B) (k:tL Bb N0 B C):tL Bb N0 A C:=
 ⟨k.os.trans h.os,k.tape.trans h.tape,k.output.trans h.output,ji9 h.size k.size,fun b h1 h3=>(k.blk b h1 h3).trans (h.blk b h1 h3),
  fun b cs t g h1 h2 h3=>(k.YK b cs t g ((h.YK b cs t g h1 h2 h3).trans h1) h2 h3).trans (h.YK b cs t g h1 h2 h3)⟩
theorem tL.grown {Bb N0:Nat} {W W':World} {row:Option Nat} (h:W.grownBy W' row) (hS:N0<=W.heap.size) (hr:∀ r,row=some r->N0<=r/\∃ o:Obj,W.heap[r]?=some o/\o.isCells=false):tL Bb N0 W W':=
 ⟨h.os,h.tape,h.output,h.size,fun b h1 _=>h.block b (by omega) (fun e=>by have:=(hr b e.symm).1;omega),fun b cs t g h1 _ _=>h.block b (Array.getElem?_eq_some_iff.1 h1).1 (fun e=>by
  obtain ⟨-,o,k1,k2⟩:=hr b e.symm;rw [h1] at k1;cases k1;cases k2)⟩
theorem tL.obj (Bb N0:Nat) (W:World) (l:Nat) (o o':Obj) (hl:N0<=l) (ho:W.heap[l]?=some o) (hc:o.isCells=false):tL Bb N0 W (W.putObj l o'):=by
 refine ⟨rfl,rfl,rfl,by simp [World.putObj],fun b h1 _=>World.putObj_heap_other (by omega),fun b cs t g h1 _ _=>World.putObj_heap_other ?_⟩;rintro rfl;rw [ho] at h1;cases h1
 cases hc
theorem tL.below {Bb N0 S:Nat} {W W':World} (h:tL Bb N0 W W') (h1:S<=Bb) (h2:Bb<N0):jlj S W W':=⟨h.os,h.tape,h.output,h.size,fun b hb=>h.blk b (by omega) (by omega)⟩
def MI (w w':World):Prop:=∀ (b:Nat) (o:Obj),w.heap[b]?=some o->o.isCells=false->w'.heap[b]?=some o
def Vx (Bb N0:Nat) (L:List Nd) (w:World) (e:Ending) (w':World):Prop:=e=.returned (.tuple #[])/\Vw Bb N0 L w'/\tL Bb N0 w w'/\MI w w'
def J5:Nd:=.mk ⟨#[]⟩ ⟨#[]⟩ [] []
theorem D7 {Bb N0 n g5 c5:Nat} {L:List Nd} {rows vR:List (List Value)} {v z0 z1 z2 z3:Value} {w y w5 wB:World} {x:Nd} (c0 c1 c2 c3:Value) (hN0:wB.heap.size=N0) (hB:Bb<N0) (hrow:ay 43 4 (fun _=>False) w.heap.size wB (L.map Nd.d) rows v w) (hbx:aI Bb v 84 w) (b0:jlj w.heap.size w y) (bS:ay 43 4 (fun _=>False) w5.heap.size wB (L.map Nd.d++[J5.d]) (vR++[[z0,z1,z2,z3]]) (.slice (some ⟨g5,0,none⟩) (n+1) c5) w5) (hg5:y.grownBy w5 v.ownBlock) (hn:(L.map Nd.d).length=n) (hat:v.ownBlock=some g5\/g5=y.heap.size) (hx:Rd (w.heap.size<=·) y x.d [c0,c1,c2,c3]) : Vw Bb N0 (L++[x]) ((q1z w5 g5 (n*4) c0 c1 c2 c3).setCell ⟨Bb,0,none⟩ (.slice (some ⟨g5,0,none⟩) (n+1) c5)) /\ tL Bb N0 w ((q1z w5 g5 (n*4) c0 c1 c2 c3).setCell ⟨Bb,0,none⟩ (.slice (some ⟨g5,0,none⟩) (n+1) c5))/\MI w ((q1z w5 g5 (n*4) c0 c1 c2 c3).setCell ⟨Bb,0,none⟩ (.slice (some ⟨g5,0,none⟩) (n+1) c5)):=by
 have hov:∀ g,v.ownBlock=some g->N0<=g/\g<w.heap.size:=fun g hg=>by have:=hrow.own.lt g hg;omega
 have D8:=hrow.aT.size;have IV:=b0.size;have zG:=hg5.size;have hg:(N0<=g5/\g5<w.heap.size)\/g5=y.heap.size:=hat.imp (fun h=>hov g5 h) id;have hBg:Bb≠g5:=by omega
 have Cx:=bS.SE hn c0 c1 c2 c3 (d1:=x.d) (Rd.keep (fun b (hb:w.heap.size<=b) hlt=>⟨⟨.inr (by omega),by omega,by omega⟩,hg5.block b hlt (fun e=>by have:=hov b e.symm;omega)⟩) _ _ hx);obtain ⟨w6,jB⟩:∃ w6,w6=q1z w5 g5 (n*4) c0 c1 c2 c3:=⟨_,rfl⟩;have hb6:∀ b,b≠g5->w6.heap[b]?=w5.heap[b]?:=fun b hb=>by rw [jB];exact gT _ _ _ _ _ _ _ b hb
 have Vg:w6.heap.size=w5.heap.size:=by rw [jB];simp [q1z,World.setCell]
 have ho6:w6.os=w5.os/\w6.tape=w5.tape/\w6.output=w5.output:=by rw [jB];exact ⟨rfl,rfl,rfl⟩
 rw [<- jB] at Cx ⊢;clear jB;obtain ⟨w7,hw7⟩:∃ w7,w7=w6.setCell ⟨Bb,0,none⟩ (.slice (some ⟨g5,0,none⟩) (n+1) c5):=⟨_,rfl⟩;rw [<- hw7];have hb5:∀ b,b<w.heap.size->v.ownBlock≠some b->w5.heap[b]?=w.heap[b]?:=fun b hb ho=>(hg5.block b (by omega) (fun e=>ho e.symm)).trans (b0.block b hb)
 have hBo:v.ownBlock≠some Bb:=fun e=>by have:=hov Bb e;omega
 have Ve:aI Bb v 84 w6:=(hb6 Bb hBg).trans ((hb5 Bb (by omega) hBo).trans hbx);have bx7:aI Bb (.slice (some ⟨g5,0,none⟩) (n+1) c5) 84 w7:=by rw [hw7];exact Ve.set _
 have g7:w6.grownBy w7 (some Bb):=by rw [hw7];exact ⟨rfl,rfl,rfl,by simp [World.setCell],fun b _ hb=>Below.heap_setCell w6 ⟨Bb,0,none⟩ _ b (fun e=>hb (by rw [e]))⟩
 have hz7:w7.heap.size=w6.heap.size:=by rw [hw7];simp [World.setCell]
 obtain ⟨wB7,Vh,vG⟩:=Cx.hop2 (p:=Bb) (by omega) g7;have Vi:∀ b,b<w.heap.size->b≠Bb->b≠g5->v.ownBlock≠some b->w7.heap[b]?=w.heap[b]?:=fun b h1 h2 h3 h4=>
  (g7.block b (by omega) (fun e=>h2 (Option.some.inj e))).trans ((hb6 b h3).trans (hb5 b h1 h4))
 have hown:∀ g,v.ownBlock=some g->∃ cs gg,w.heap[g]?=some (Obj.cells cs 43 gg):=fun g hg=>by
  rcases hrow.own.2 with ⟨h1,-⟩ | ⟨g',cap,cur,h1,-,h2,-⟩
  ·rw [h1] at hg;cases hg
  ·rw [h1] at hg;have e:g'=g:=by simpa [Value.ownBlock] using hg
   subst e;exact ⟨_,_,h2⟩
 refine ⟨⟨wB7,vR++[[c0,c1,c2,c3]],_,Vh.trans hN0,?_,bx7⟩,⟨?_,?_,?_,by omega,fun b hb hne=>Vi b (by omega) hne (by omega) (fun e=>by have:=hov b e;omega),fun b cs t g hc h1 h2=>?_⟩,fun b o ho hc=>?_⟩
 ·rw [List.map_append];exact vG.up (by omega) (ji8 _)
 ·exact g7.os.trans (ho6.1.trans (hg5.os.trans b0.os))
 ·exact g7.tape.trans (ho6.2.1.trans (hg5.tape.trans b0.tape))
 ·exact g7.output.trans (ho6.2.2.trans (hg5.output.trans b0.output))
 ·have hbw:b<w.heap.size:=(Array.getElem?_eq_some_iff.1 hc).1;have hno:v.ownBlock≠some b:=fun e=>by
   obtain ⟨cs',gg,h⟩:=hown b e;rw [h] at hc;injection hc with hc;injection hc with _ hc;exact h2 hc.symm
  refine Vi b hbw (fun e=>?_) (fun e=>?_) hno
  ·subst e;rw [show w.heap[b]?=_ from hbx] at hc;injection hc with hc;injection hc with _ hc;exact h1 hc.symm
  ·subst e;rcases hat with h | h
   ·exact hno h
   ·omega
 ·have hbw:b<w.heap.size:=(Array.getElem?_eq_some_iff.1 ho).1;have hno:v.ownBlock≠some b:=fun e=>by
   obtain ⟨cs',gg,h⟩:=hown b e;rw [h] at ho;cases ho;cases hc
  refine (Vi b hbw (fun e=>?_) (fun e=>?_) hno).trans ho
  ·subst e;rw [show w.heap[b]?=_ from hbx] at ho;cases ho;cases hc
  ·subst e;rcases hat with h | h
   ·exact hno h
   ·omega
theorem D9 (Bb N0:Nat) (L:List Nd) (k lv:Int) (i t d ti:ByteArray) (at_:At) (li:List aj) (ks:List ah) (vc vp vl vk:Value) (w:World) (hB:Bb<N0) (hR:j6 (·<Bb) w at_ li ks vc vp vl vk) (hwk:ah.ko ks) (hsz:ah.aY ks<=900000) (hi:i.size<=300) (ht:PT w) (hL:L.length<=1000000) (h:Vw Bb N0 L w) : Calls Tryz.prog 56 #[.agg #[.int .i64 k,.int .i64 lv,.string i,.string t,.string d,.string ti,.string at_.id,vc,vp,vl,vk],.pointer (some ⟨Bb,0,none⟩)] w (Vx Bb N0 (L++[aV oH [⟨dR,Bn++i⟩,⟨fJ,fT⟩] (ah.aW ks)]) w):=by
 obtain ⟨iN,Fg,nR,nT,nU⟩:=info_parts l9;obtain ⟨ac,nc,cc,rfl⟩:=Rd.au hR.at_.cls
 obtain ⟨ap,np,cp,rfl⟩:=Rd.au hR.at_.aR
 obtain ⟨al,nl,cl,rfl⟩:=Rd.au hR.line;obtain ⟨ak,nk,ck,rfl⟩:=Rd.au hR.kids;obtain ⟨wB,rows,v,hN0,hrow,hbx⟩:=h;obtain ⟨n,hn⟩:∃ n,n=(L.map Nd.d).length:=⟨_,rfl⟩;have hn1:n<=1000000:=by rw [hn,List.length_map];exact hL
 obtain ⟨av,cv,rfl,-,-⟩:=hrow.cap hn.symm;obtain ⟨S,hS⟩:∃ S,S=w.heap.size:=⟨_,rfl⟩;obtain ⟨W0,hW0⟩:∃ W0,W0=w.alloc (.cells #[.int .i64 k,.int .i64 lv,.string i,.string t,.string d,.string ti,.string at_.id,.slice ac nc cc,.slice ap np cp,.slice al nl cl,.slice ak nk ck] 30):=⟨_,rfl⟩;have k0:CB 30 S [.int .i64 k,.int .i64 lv,.string i,.string t,.string d,.string ti,.string at_.id,.slice ac nc cc,.slice ap np cp,.slice al nl cl,.slice ak nk ck] W0:=by rw [hW0,hS];exact CB.new _ _ w
 have b0:jlj w.heap.size w W0:=by rw [hW0];exact (ji7 _ _).alloc (ji8 _) _
 have z0:W0.heap.size=S+1:=by rw [hW0,World.size_alloc,hS]
 have D8:=hrow.aT.size;have hov:∀ g,(Value.slice av n cv).ownBlock=some g->N0<=g/\g<S:=fun g hg=>by have:=hrow.own.lt g hg;omega
 have hBS:Bb<S:=by omega
 have SF:Hid (∀ y:World,jlj W0.heap.size W0 y->y.cell? ⟨Bb,0,none⟩=some (.slice av n cv)/\y.cell? ⟨S,2,none⟩=some (.string i)/\y.cell? ⟨S,10,none⟩=some (.slice ak nk ck)):=fun y hb=>
  ⟨((hbx.below (by omega) b0).below (B:=W0.heap.size) (by omega) hb).cell,(k0.below hb).cell 2 _ rfl,(k0.below hb).cell 10 _ rfl⟩
 have KC:Hid (∀ y:World,jlj W0.heap.size W0 y->Calls Tryz.prog 55 #[.pointer (some ⟨Bb,0,none⟩),.slice ak nk ck] y (dn y (ah.aW ks))):=fun y hy=>by
  have hb:=b0.trans (hy.mono b0.size);exact sw _ 900000 ks _ y hsz (by decide) (Rd.keep (w:=w) (w':=y) (ok:=(·<Bb)) (fun b (hb':b<Bb) hlt=>⟨by show b<y.heap.size;have:=hb.size;omega,hb.block b (by omega)⟩) _ _ hR.kids) hwk (ht.below hb)
 have q5:(⟨#[110,111,116,101,45]⟩:ByteArray).size+i.size<=9223372036854775807:=by have:(⟨#[110,111,116,101,45]⟩:ByteArray).size=5:=rfl;omega
 have q6:5+i.size<=9223372036854775807:=by omega
 have hadd:∀ w:World,(Op.stringOp .add (⟨#[110,111,116,101,45]⟩:ByteArray) i).run Tryz.prog w=.ok (.string (⟨#[110,111,116,101,45]⟩++i)) w:=fun w=>run_string_add_sum w _ _ q5
 have HM:=hid hn.symm;have bZ:=hid hrow;have jY:=hid hbx;have xS:=hid hov;have HN0:=hid hN0;have B0:=hid b0;have HS:=hid hS;have Z0:=hid z0;clear hR hwk hsz hi ht hL hrow hbx hn hN0 k0 b0 z0 hov D8;go_enter Tryz.func56,Tryz.ntmps56;go_upto_region 1 with (fail)
 rw [<- hW0,<- hS];clear hW0 hS;refine SH 19 (fun w'=>w'.cell? ⟨Bb,0,none⟩=some (.slice av n cv)/\w'.cell? ⟨S,2,none⟩=some (.string i)/\w'.cell? ⟨S,10,none⟩=some (.slice ak nk ck)) (by kernel_rfl) (SF.out W0.drew (ji7 _ _).drew) ?_;intro hH;apply YL (α1:=World) (α2:=Nat) (α3:=Option Addr) (α4:=Nat) (α5:=Option Addr) (α6:=Nat) (α7:=Nat) (α8:=Nat) (R:=fun y5 p6 a2 c2 a3 n3 c3 pz=>(y5.cell? ⟨Bb,0,none⟩=some (.slice av n cv)/\y5.cell? ⟨S,2,none⟩=some (.string i)/\y5.cell? ⟨S,10,none⟩=some (.slice ak nk ck))/\Hid (jlj W0.heap.size W0 y5)/\Hid (Rd (W0.heap.size<=·) y5 (.sl 4 [J5.d]) [.slice (some ⟨pz,0,none⟩) 1 1])/\Hid (Rd (W0.heap.size<=·) y5 (aV oH [⟨dR,Bn++i⟩,⟨fJ,fT⟩] (ah.aW ks)).d [.string ⟨#[100,105,118]⟩,.string ⟨#[]⟩,.slice a2 2 c2,.slice a3 n3 c3]));case hm=>
  intro REST;refine kT 0 (v:=?_) rfl (by kernel_rfl) hH (by rfl) ?_ ?_;rotate_left
  ·(intro wv hSw;obtain ⟨cb,c2,c10⟩:=hSw;go_simp;try with_reducible rfl)
  try simp only [Act.put,ji3,ji4,ji5]
  refine kT 1 (v:=?_) rfl (by kernel_rfl) hH (by rfl) ?_ ?_;rotate_left
  ·(intro wv hSw;obtain ⟨cb,c2,c10⟩:=hSw;go_simp;try with_reducible rfl)
  try simp only [Act.put,ji3,ji4,ji5]
  refine kT 2 (v:=?_) rfl (by kernel_rfl) hH (by rfl) ?_ ?_;rotate_left
  ·(intro wv hSw;obtain ⟨cb,c2,c10⟩:=hSw;go_simp;try with_reducible rfl)
  try simp only [Act.put,ji3,ji4,ji5]
  refine kT 3 (v:=?_) rfl (by kernel_rfl) hH (by rfl) ?_ ?_;rotate_left
  ·(intro wv hSw;obtain ⟨cb,c2,c10⟩:=hSw;go_simp;try with_reducible rfl)
  try simp only [Act.put,ji3,ji4,ji5]
  refine kT 4 (v:=?_) rfl (by kernel_rfl) hH (by rfl) ?_ ?_;rotate_left
  ·(intro wv hSw;obtain ⟨cb,c2,c10⟩:=hSw;go_simp;try with_reducible rfl)
  try simp only [Act.put,ji3,ji4,ji5]
  refine kT 5 (v:=?_) rfl (by kernel_rfl) hH (by rfl) ?_ ?_;rotate_left
  ·(intro wv hSw;obtain ⟨cb,c2,c10⟩:=hSw;go_simp;try with_reducible rfl)
  try simp only [Act.put,ji3,ji4,ji5]
  refine kT 8 (v:=?_) rfl (by kernel_rfl) hH (by rfl) ?_ ?_;rotate_left
  ·(intro wv hSw;obtain ⟨cb,c2,c10⟩:=hSw;go_simp;try with_reducible rfl)
  try simp only [Act.put,ji3,ji4,ji5]
  refine kT 9 (v:=?_) rfl (by kernel_rfl) hH (by rfl) ?_ ?_;rotate_left
  ·(intro wv hSw;obtain ⟨cb,c2,c10⟩:=hSw;go_simp;try with_reducible rfl)
  try simp only [Act.put,ji3,ji4,ji5]
  refine kT 12 (v:=?_) rfl (by kernel_rfl) hH (by rfl) ?_ ?_;rotate_left
  ·(intro wv hSw;obtain ⟨cb,c2,c10⟩:=hSw;go_simp;try with_reducible rfl)
  try simp only [Act.put,ji3,ji4,ji5]
  obtain ⟨y0,hy0⟩:∃ y0,y0=W0.drew:=⟨_,rfl⟩;have MJ:Hid (jlj W0.heap.size W0 y0):=by rw [hy0];exact (ji7 _ _).drew
  rw [<- hy0] at hH;rw [<- hy0];clear hy0;refine F8 (i:=6) (j:=13) rfl rfl (by kernel_rfl) (fun KQ hK=>?_) (fun KQ hK=>?_)
  ·go_simp;obtain ⟨y1,hN⟩:∃ z,z=y0.alloc (.cells ([⟨#[105,100]⟩,⟨#[110,111,116,101,45]⟩++i,⟨#[99,108,97,115,115]⟩,⟨#[110,111,116,101]⟩].map Value.string).toArray 9):=⟨_,rfl⟩;obtain ⟨p6,hf⟩:∃ z,z=y0.heap.size:=⟨_,rfl⟩;have Vy:=pU [⟨#[105,100]⟩,⟨#[110,111,116,101,45]⟩++i,⟨#[99,108,97,115,115]⟩,⟨#[110,111,116,101]⟩] y0 (by show 4<=maxLen;unfold maxLen;decide);rw [<- hN,<- hf] at Vy;have SV:=hid (show Rd (·<y1.heap.size) y1 (gF (mg [⟨dR,Bn++i⟩,⟨fJ,fT⟩])) [.slice (some ⟨p6,0,none⟩) 4 4] from Vy);have bN:jlj y0.heap.size y0 y1:=by rw [hN];exact (ji7 _ _).alloc (ji8 _) _
   simp only [List.map_cons,List.map_nil] at hN;rw [<- hN,<- hf];clear hN hf Vy;have vS:Hid (jlj W0.heap.size W0 y1):=MJ.out.trans (bN.mono MJ.out.size);clear bN;refine hK.out _ _ (fun _ _=>SF.out y1 vS.out) (fun hH2=>?_);clear hK KQ hH;have hH:=hH2 (by decide) (by kernel_rfl);clear hH2;try simp only [Act.put,ji3,ji4,ji5]
   refine F8 (i:=7) (j:=13) rfl rfl (by kernel_rfl) (fun KQ hK=>?_) (fun KQ hK=>?_)
   ·go_simp;go_at_call 58
    (with_reducible refine (jh [⟨dR,Bn++i⟩,⟨fJ,fT⟩] (.slice (some ⟨p6,0,none⟩) 4 4) y1 SV.out (by simp)).mono ?_)
    rintro e y2 ⟨bV,v2,rfl,hrow2⟩;obtain ⟨a2,c2,rfl,-,-⟩:=hrow2.cap (n:=2) rfl;have bN:=hrow2.aT;have SY:=hid (show Rd (W0.heap.size<=·) y2 (bX [⟨dR,Bn++i⟩,⟨fJ,fT⟩]) [.slice a2 2 c2] from hrow2.fA.weaken (fun b hb=>ji9 vS.out.size hb));clear hrow2;have lQ:Hid (jlj W0.heap.size W0 y2):=vS.out.trans (bN.mono vS.out.size);clear bN;refine hK.out _ _ (fun _ _=>SF.out y2 lQ.out) (fun hH2=>?_);clear hK KQ hH;have hH:=hH2 (by decide) (by kernel_rfl);clear hH2;try simp only [Act.put,ji3,ji4,ji5]
    refine F8 (i:=10) (j:=13) rfl rfl (by kernel_rfl) (fun KQ hK=>?_) (fun KQ hK=>?_)
    ·go_simp;go_at_call 55
     (with_reducible refine (KC.out y2 lQ.out).mono ?_)
     rintro e y3 ⟨gG,v3,rfl,hrow3⟩;obtain ⟨a3,n3,c3,rfl⟩:=hrow3.slice3;have bN:=hrow3.aT;have S9:=hid (show Rd (W0.heap.size<=·) y3 (cZ (ah.aW ks)) [.slice a3 n3 c3] from hrow3.fA.weaken (fun b hb=>ji9 lQ.out.size hb));clear hrow3;have iV:Hid (jlj W0.heap.size W0 y3):=lQ.out.trans (bN.mono lQ.out.size);have sJ:=hid (SY.out.bq bN);clear bN;refine hK.out _ _ (fun _ _=>SF.out y3 iV.out) (fun hH2=>?_);clear hK KQ hH;have hH:=hH2 (by decide) (by kernel_rfl);clear hH2;try simp only [Act.put,ji3,ji4,ji5]
     refine F8 (i:=11) (j:=13) rfl rfl (by kernel_rfl) (fun KQ hK=>?_) (fun KQ hK=>?_)
     ·go_simp;go_at_call 57
      (with_reducible refine (iT ⟨#[100,105,118]⟩ a2 a3 2 n3 c2 c3 y3).mono ?_)
      rintro e y4 ⟨rfl,bN⟩;have YM:=hid (show Rd (W0.heap.size<=·) y4 (aV oH [⟨dR,Bn++i⟩,⟨fJ,fT⟩] (ah.aW ks)).d [.string ⟨#[100,105,118]⟩,.string ⟨#[]⟩,.slice a2 2 c2,.slice a3 n3 c3] from Nd.eD ⟨#[100,105,118]⟩ ⟨#[]⟩ ⟨sJ.out.bq bN,S9.out.bq bN⟩);have kI:Hid (jlj W0.heap.size W0 y4):=iV.out.trans (bN.mono iV.out.size);clear bN;refine hK.out _ _ (fun _ _=>SF.out y4 kI.out) (fun hH2=>?_);clear hK KQ hH;have hH:=hH2 (by decide) (by kernel_rfl);clear hH2;try simp only [Act.put,ji3,ji4,ji5]
      refine q01 (i:=13) rfl (by kernel_rfl) (fun KQ hK=>?_);go_simp;obtain ⟨y5,hN⟩:∃ z,z=y4.alloc (.cells [Value.string ⟨#[]⟩,.string ⟨#[]⟩,.slice none 0 0,.slice none 0 0].toArray 43):=⟨_,rfl⟩;obtain ⟨pz,hf⟩:∃ z,z=y4.heap.size:=⟨_,rfl⟩;have Bo:=(ay.one (T:=43) (k:=4) (w:=y4) (d:=J5.d) (r:=[Value.string ⟨#[]⟩,.string ⟨#[]⟩,.slice none 0 0,.slice none 0 0]) rfl (Nd.eD ⟨#[]⟩ ⟨#[]⟩ ⟨Rd.aF _ _ _,Rd.aF _ _ _⟩)).fA;rw [<- hN,<- hf] at Bo;have mI:=hid (show Rd (W0.heap.size<=·) y5 (.sl 4 [J5.d]) [.slice (some ⟨pz,0,none⟩) 1 1] from Bo.weaken (fun b (hb:pz<=b)=>by have:=kI.out.size;omega));have bN:jlj y4.heap.size y4 y5:=by rw [hN];exact (ji7 _ _).alloc (ji8 _) _
      rw [<- hN,<- hf];clear hN hf Bo;have kJ:Hid (jlj W0.heap.size W0 y5):=kI.out.trans (bN.mono kI.out.size);have mJ:=hid (YM.out.bq bN);clear bN;refine hK.out _ _ (fun _ _=>SF.out y5 kJ.out) (fun hH2=>?_);clear hK KQ hH;have hH:=hH2 (by decide) (by kernel_rfl);clear hH2;try simp only [Act.put,ji3,ji4,ji5]
      exact REST y5 p6 a2 c2 a3 n3 c3 pz ⟨hH,kJ,mI,mJ⟩
     ·go_simp;obtain ⟨y4,hN⟩:∃ z,z=y3.alloc (.cells [Value.string ⟨#[]⟩,.string ⟨#[]⟩,.slice none 0 0,.slice none 0 0].toArray 43):=⟨_,rfl⟩;obtain ⟨pz,hf⟩:∃ z,z=y3.heap.size:=⟨_,rfl⟩;have Bo:=(ay.one (T:=43) (k:=4) (w:=y3) (d:=J5.d) (r:=[Value.string ⟨#[]⟩,.string ⟨#[]⟩,.slice none 0 0,.slice none 0 0]) rfl (Nd.eD ⟨#[]⟩ ⟨#[]⟩ ⟨Rd.aF _ _ _,Rd.aF _ _ _⟩)).fA;rw [<- hN,<- hf] at Bo;have vT:=hid (show Rd (W0.heap.size<=·) y4 (.sl 4 [J5.d]) [.slice (some ⟨pz,0,none⟩) 1 1] from Bo.weaken (fun b (hb:pz<=b)=>by have:=iV.out.size;omega));have bN:jlj y3.heap.size y3 y4:=by rw [hN];exact (ji7 _ _).alloc (ji8 _) _
      rw [<- hN,<- hf];clear hN hf Bo;have kI:Hid (jlj W0.heap.size W0 y4):=iV.out.trans (bN.mono iV.out.size);have vU:=hid (S9.out.bq bN);have vV:=hid (sJ.out.bq bN);clear bN;refine hK.out _ _ (fun _ _=>SF.out y4 kI.out) (fun hH2=>?_);clear hK KQ hH;have hH:=hH2 (by decide) (by kernel_rfl);clear hH2;try simp only [Act.put,ji3,ji4,ji5]
      refine q01 (i:=11) rfl (by kernel_rfl) (fun KQ hK=>?_);go_simp;go_at_call 57
      (with_reducible refine (iT ⟨#[100,105,118]⟩ a2 a3 2 n3 c2 c3 y4).mono ?_)
      rintro e y5 ⟨rfl,bN⟩;have mJ:=hid (show Rd (W0.heap.size<=·) y5 (aV oH [⟨dR,Bn++i⟩,⟨fJ,fT⟩] (ah.aW ks)).d [.string ⟨#[100,105,118]⟩,.string ⟨#[]⟩,.slice a2 2 c2,.slice a3 n3 c3] from Nd.eD ⟨#[100,105,118]⟩ ⟨#[]⟩ ⟨vV.out.bq bN,vU.out.bq bN⟩);have kJ:Hid (jlj W0.heap.size W0 y5):=kI.out.trans (bN.mono kI.out.size);have mI:=hid (vT.out.bq bN);clear bN;refine hK.out _ _ (fun _ _=>SF.out y5 kJ.out) (fun hH2=>?_);clear hK KQ hH;have hH:=hH2 (by decide) (by kernel_rfl);clear hH2;try simp only [Act.put,ji3,ji4,ji5]
      exact REST y5 p6 a2 c2 a3 n3 c3 pz ⟨hH,kJ,mI,mJ⟩
    ·go_simp;obtain ⟨y3,hN⟩:∃ z,z=y2.alloc (.cells [Value.string ⟨#[]⟩,.string ⟨#[]⟩,.slice none 0 0,.slice none 0 0].toArray 43):=⟨_,rfl⟩;obtain ⟨pz,hf⟩:∃ z,z=y2.heap.size:=⟨_,rfl⟩;have Bo:=(ay.one (T:=43) (k:=4) (w:=y2) (d:=J5.d) (r:=[Value.string ⟨#[]⟩,.string ⟨#[]⟩,.slice none 0 0,.slice none 0 0]) rfl (Nd.eD ⟨#[]⟩ ⟨#[]⟩ ⟨Rd.aF _ _ _,Rd.aF _ _ _⟩)).fA;rw [<- hN,<- hf] at Bo;have Ea:=hid (show Rd (W0.heap.size<=·) y3 (.sl 4 [J5.d]) [.slice (some ⟨pz,0,none⟩) 1 1] from Bo.weaken (fun b (hb:pz<=b)=>by have:=lQ.out.size;omega));have bN:jlj y2.heap.size y2 y3:=by rw [hN];exact (ji7 _ _).alloc (ji8 _) _
     rw [<- hN,<- hf];clear hN hf Bo;have iV:Hid (jlj W0.heap.size W0 y3):=lQ.out.trans (bN.mono lQ.out.size);have sJ:=hid (SY.out.bq bN);clear bN;refine hK.out _ _ (fun _ _=>SF.out y3 iV.out) (fun hH2=>?_);clear hK KQ hH;have hH:=hH2 (by decide) (by kernel_rfl);clear hH2;try simp only [Act.put,ji3,ji4,ji5]
     refine q01 (i:=10) rfl (by kernel_rfl) (fun KQ hK=>?_);go_simp;go_at_call 55
     (with_reducible refine (KC.out y3 iV.out).mono ?_)
     rintro e y4 ⟨gG,v3,rfl,hrow3⟩;obtain ⟨a3,n3,c3,rfl⟩:=hrow3.slice3;have bN:=hrow3.aT;have vU:=hid (show Rd (W0.heap.size<=·) y4 (cZ (ah.aW ks)) [.slice a3 n3 c3] from hrow3.fA.weaken (fun b hb=>ji9 iV.out.size hb));clear hrow3;have kI:Hid (jlj W0.heap.size W0 y4):=iV.out.trans (bN.mono iV.out.size);have vT:=hid (Ea.out.bq bN);have vV:=hid (sJ.out.bq bN);clear bN;refine hK.out _ _ (fun _ _=>SF.out y4 kI.out) (fun hH2=>?_);clear hK KQ hH;have hH:=hH2 (by decide) (by kernel_rfl);clear hH2;try simp only [Act.put,ji3,ji4,ji5]
     refine q01 (i:=11) rfl (by kernel_rfl) (fun KQ hK=>?_);go_simp;go_at_call 57
     (with_reducible refine (iT ⟨#[100,105,118]⟩ a2 a3 2 n3 c2 c3 y4).mono ?_)
     rintro e y5 ⟨rfl,bN⟩;have mJ:=hid (show Rd (W0.heap.size<=·) y5 (aV oH [⟨dR,Bn++i⟩,⟨fJ,fT⟩] (ah.aW ks)).d [.string ⟨#[100,105,118]⟩,.string ⟨#[]⟩,.slice a2 2 c2,.slice a3 n3 c3] from Nd.eD ⟨#[100,105,118]⟩ ⟨#[]⟩ ⟨vV.out.bq bN,vU.out.bq bN⟩);have kJ:Hid (jlj W0.heap.size W0 y5):=kI.out.trans (bN.mono kI.out.size);have mI:=hid (vT.out.bq bN);clear bN;refine hK.out _ _ (fun _ _=>SF.out y5 kJ.out) (fun hH2=>?_);clear hK KQ hH;have hH:=hH2 (by decide) (by kernel_rfl);clear hH2;try simp only [Act.put,ji3,ji4,ji5]
     exact REST y5 p6 a2 c2 a3 n3 c3 pz ⟨hH,kJ,mI,mJ⟩
   ·go_simp;obtain ⟨y2,hN⟩:∃ z,z=y1.alloc (.cells [Value.string ⟨#[]⟩,.string ⟨#[]⟩,.slice none 0 0,.slice none 0 0].toArray 43):=⟨_,rfl⟩;obtain ⟨pz,hf⟩:∃ z,z=y1.heap.size:=⟨_,rfl⟩;have Bo:=(ay.one (T:=43) (k:=4) (w:=y1) (d:=J5.d) (r:=[Value.string ⟨#[]⟩,.string ⟨#[]⟩,.slice none 0 0,.slice none 0 0]) rfl (Nd.eD ⟨#[]⟩ ⟨#[]⟩ ⟨Rd.aF _ _ _,Rd.aF _ _ _⟩)).fA;rw [<- hN,<- hf] at Bo;have MK:=hid (show Rd (W0.heap.size<=·) y2 (.sl 4 [J5.d]) [.slice (some ⟨pz,0,none⟩) 1 1] from Bo.weaken (fun b (hb:pz<=b)=>by have:=vS.out.size;omega));have bN:jlj y1.heap.size y1 y2:=by rw [hN];exact (ji7 _ _).alloc (ji8 _) _
    rw [<- hN,<- hf];clear hN hf Bo;have lQ:Hid (jlj W0.heap.size W0 y2):=vS.out.trans (bN.mono vS.out.size);have ML:=hid (SV.out.up bN);clear bN;refine hK.out _ _ (fun _ _=>SF.out y2 lQ.out) (fun hH2=>?_);clear hK KQ hH;have hH:=hH2 (by decide) (by kernel_rfl);clear hH2;try simp only [Act.put,ji3,ji4,ji5]
    refine q01 (i:=7) rfl (by kernel_rfl) (fun KQ hK=>?_);go_simp;go_at_call 58
    (with_reducible refine (jh [⟨dR,Bn++i⟩,⟨fJ,fT⟩] (.slice (some ⟨p6,0,none⟩) 4 4) y2 ML.out (by simp)).mono ?_)
    rintro e y3 ⟨bV,v2,rfl,hrow2⟩;obtain ⟨a2,c2,rfl,-,-⟩:=hrow2.cap (n:=2) rfl;have bN:=hrow2.aT;have sJ:=hid (show Rd (W0.heap.size<=·) y3 (bX [⟨dR,Bn++i⟩,⟨fJ,fT⟩]) [.slice a2 2 c2] from hrow2.fA.weaken (fun b hb=>ji9 lQ.out.size hb));clear hrow2;have iV:Hid (jlj W0.heap.size W0 y3):=lQ.out.trans (bN.mono lQ.out.size);have Ea:=hid (MK.out.bq bN);clear bN;refine hK.out _ _ (fun _ _=>SF.out y3 iV.out) (fun hH2=>?_);clear hK KQ hH;have hH:=hH2 (by decide) (by kernel_rfl);clear hH2;try simp only [Act.put,ji3,ji4,ji5]
    refine q01 (i:=10) rfl (by kernel_rfl) (fun KQ hK=>?_);go_simp;go_at_call 55
    (with_reducible refine (KC.out y3 iV.out).mono ?_)
    rintro e y4 ⟨gG,v3,rfl,hrow3⟩;obtain ⟨a3,n3,c3,rfl⟩:=hrow3.slice3;have bN:=hrow3.aT;have vU:=hid (show Rd (W0.heap.size<=·) y4 (cZ (ah.aW ks)) [.slice a3 n3 c3] from hrow3.fA.weaken (fun b hb=>ji9 iV.out.size hb));clear hrow3;have kI:Hid (jlj W0.heap.size W0 y4):=iV.out.trans (bN.mono iV.out.size);have vT:=hid (Ea.out.bq bN);have vV:=hid (sJ.out.bq bN);clear bN;refine hK.out _ _ (fun _ _=>SF.out y4 kI.out) (fun hH2=>?_);clear hK KQ hH;have hH:=hH2 (by decide) (by kernel_rfl);clear hH2;try simp only [Act.put,ji3,ji4,ji5]
    refine q01 (i:=11) rfl (by kernel_rfl) (fun KQ hK=>?_);go_simp;go_at_call 57
    (with_reducible refine (iT ⟨#[100,105,118]⟩ a2 a3 2 n3 c2 c3 y4).mono ?_)
    rintro e y5 ⟨rfl,bN⟩;have mJ:=hid (show Rd (W0.heap.size<=·) y5 (aV oH [⟨dR,Bn++i⟩,⟨fJ,fT⟩] (ah.aW ks)).d [.string ⟨#[100,105,118]⟩,.string ⟨#[]⟩,.slice a2 2 c2,.slice a3 n3 c3] from Nd.eD ⟨#[100,105,118]⟩ ⟨#[]⟩ ⟨vV.out.bq bN,vU.out.bq bN⟩);have kJ:Hid (jlj W0.heap.size W0 y5):=kI.out.trans (bN.mono kI.out.size);have mI:=hid (vT.out.bq bN);clear bN;refine hK.out _ _ (fun _ _=>SF.out y5 kJ.out) (fun hH2=>?_);clear hK KQ hH;have hH:=hH2 (by decide) (by kernel_rfl);clear hH2;try simp only [Act.put,ji3,ji4,ji5]
    exact REST y5 p6 a2 c2 a3 n3 c3 pz ⟨hH,kJ,mI,mJ⟩
  ·go_simp;obtain ⟨y1,hN⟩:∃ z,z=y0.alloc (.cells [Value.string ⟨#[]⟩,.string ⟨#[]⟩,.slice none 0 0,.slice none 0 0].toArray 43):=⟨_,rfl⟩;obtain ⟨pz,hf⟩:∃ z,z=y0.heap.size:=⟨_,rfl⟩;have Bo:=(ay.one (T:=43) (k:=4) (w:=y0) (d:=J5.d) (r:=[Value.string ⟨#[]⟩,.string ⟨#[]⟩,.slice none 0 0,.slice none 0 0]) rfl (Nd.eD ⟨#[]⟩ ⟨#[]⟩ ⟨Rd.aF _ _ _,Rd.aF _ _ _⟩)).fA;rw [<- hN,<- hf] at Bo;have YN:=hid (show Rd (W0.heap.size<=·) y1 (.sl 4 [J5.d]) [.slice (some ⟨pz,0,none⟩) 1 1] from Bo.weaken (fun b (hb:pz<=b)=>by have:=MJ.out.size;omega));have bN:jlj y0.heap.size y0 y1:=by rw [hN];exact (ji7 _ _).alloc (ji8 _) _
   rw [<- hN,<- hf];clear hN hf Bo;have vS:Hid (jlj W0.heap.size W0 y1):=MJ.out.trans (bN.mono MJ.out.size);clear bN;refine hK.out _ _ (fun _ _=>SF.out y1 vS.out) (fun hH2=>?_);clear hK KQ hH;have hH:=hH2 (by decide) (by kernel_rfl);clear hH2;try simp only [Act.put,ji3,ji4,ji5]
   refine q01 (i:=6) rfl (by kernel_rfl) (fun KQ hK=>?_);go_simp;obtain ⟨y2,hN⟩:∃ z,z=y1.alloc (.cells ([⟨#[105,100]⟩,⟨#[110,111,116,101,45]⟩++i,⟨#[99,108,97,115,115]⟩,⟨#[110,111,116,101]⟩].map Value.string).toArray 9):=⟨_,rfl⟩;obtain ⟨p6,hf⟩:∃ z,z=y1.heap.size:=⟨_,rfl⟩;have Vy:=pU [⟨#[105,100]⟩,⟨#[110,111,116,101,45]⟩++i,⟨#[99,108,97,115,115]⟩,⟨#[110,111,116,101]⟩] y1 (by show 4<=maxLen;unfold maxLen;decide);rw [<- hN,<- hf] at Vy;have ML:=hid (show Rd (·<y2.heap.size) y2 (gF (mg [⟨dR,Bn++i⟩,⟨fJ,fT⟩])) [.slice (some ⟨p6,0,none⟩) 4 4] from Vy);have bN:jlj y1.heap.size y1 y2:=by rw [hN];exact (ji7 _ _).alloc (ji8 _) _
   simp only [List.map_cons,List.map_nil] at hN;rw [<- hN,<- hf];clear hN hf Vy;have lQ:Hid (jlj W0.heap.size W0 y2):=vS.out.trans (bN.mono vS.out.size);have MK:=hid (YN.out.bq bN);clear bN;refine hK.out _ _ (fun _ _=>SF.out y2 lQ.out) (fun hH2=>?_);clear hK KQ hH;have hH:=hH2 (by decide) (by kernel_rfl);clear hH2;try simp only [Act.put,ji3,ji4,ji5]
   refine q01 (i:=7) rfl (by kernel_rfl) (fun KQ hK=>?_);go_simp;go_at_call 58
   (with_reducible refine (jh [⟨dR,Bn++i⟩,⟨fJ,fT⟩] (.slice (some ⟨p6,0,none⟩) 4 4) y2 ML.out (by simp)).mono ?_)
   rintro e y3 ⟨bV,v2,rfl,hrow2⟩;obtain ⟨a2,c2,rfl,-,-⟩:=hrow2.cap (n:=2) rfl;have bN:=hrow2.aT;have sJ:=hid (show Rd (W0.heap.size<=·) y3 (bX [⟨dR,Bn++i⟩,⟨fJ,fT⟩]) [.slice a2 2 c2] from hrow2.fA.weaken (fun b hb=>ji9 lQ.out.size hb));clear hrow2;have iV:Hid (jlj W0.heap.size W0 y3):=lQ.out.trans (bN.mono lQ.out.size);have Ea:=hid (MK.out.bq bN);clear bN;refine hK.out _ _ (fun _ _=>SF.out y3 iV.out) (fun hH2=>?_);clear hK KQ hH;have hH:=hH2 (by decide) (by kernel_rfl);clear hH2;try simp only [Act.put,ji3,ji4,ji5]
   refine q01 (i:=10) rfl (by kernel_rfl) (fun KQ hK=>?_);go_simp;go_at_call 55
   (with_reducible refine (KC.out y3 iV.out).mono ?_)
   rintro e y4 ⟨gG,v3,rfl,hrow3⟩;obtain ⟨a3,n3,c3,rfl⟩:=hrow3.slice3;have bN:=hrow3.aT;have vU:=hid (show Rd (W0.heap.size<=·) y4 (cZ (ah.aW ks)) [.slice a3 n3 c3] from hrow3.fA.weaken (fun b hb=>ji9 iV.out.size hb));clear hrow3;have kI:Hid (jlj W0.heap.size W0 y4):=iV.out.trans (bN.mono iV.out.size);have vT:=hid (Ea.out.bq bN);have vV:=hid (sJ.out.bq bN);clear bN;refine hK.out _ _ (fun _ _=>SF.out y4 kI.out) (fun hH2=>?_);clear hK KQ hH;have hH:=hH2 (by decide) (by kernel_rfl);clear hH2;try simp only [Act.put,ji3,ji4,ji5]
   refine q01 (i:=11) rfl (by kernel_rfl) (fun KQ hK=>?_);go_simp;go_at_call 57
   (with_reducible refine (iT ⟨#[100,105,118]⟩ a2 a3 2 n3 c2 c3 y4).mono ?_)
   rintro e y5 ⟨rfl,bN⟩;have mJ:=hid (show Rd (W0.heap.size<=·) y5 (aV oH [⟨dR,Bn++i⟩,⟨fJ,fT⟩] (ah.aW ks)).d [.string ⟨#[100,105,118]⟩,.string ⟨#[]⟩,.slice a2 2 c2,.slice a3 n3 c3] from Nd.eD ⟨#[100,105,118]⟩ ⟨#[]⟩ ⟨vV.out.bq bN,vU.out.bq bN⟩);have kJ:Hid (jlj W0.heap.size W0 y5):=kI.out.trans (bN.mono kI.out.size);have mI:=hid (vT.out.bq bN);clear bN;refine hK.out _ _ (fun _ _=>SF.out y5 kJ.out) (fun hH2=>?_);clear hK KQ hH;have hH:=hH2 (by decide) (by kernel_rfl);clear hH2;try simp only [Act.put,ji3,ji4,ji5]
   exact REST y5 p6 a2 c2 a3 n3 c3 pz ⟨hH,kJ,mI,mJ⟩
 case hr=>
  intro y5 p6 a2 c2 a3 n3 c3 pz ⟨hH,kJ,mI,mJ⟩;refine q01 (i:=14) rfl (by kernel_rfl) (fun KQ hK=>?_);refine vF (n:=n) (m:=1) rfl (.tmp 5) (.tmp 16) 34 rfl iN _ 80 Tryz.underlying34 Fg nR nT nU rfl (by decide) (bZ.out.below (B0.out.trans (kJ.out.mono B0.out.size))) (fun _=>False.elim) (.slice (some ⟨pz,0,none⟩) 1 1) (mI.out.weaken (fun b (hb:W0.heap.size<=b)=>.inr (by have:=B0.out.size;omega))) (fun rs ok' h=>Iz [J5] rs ok' _ h) HM.out rfl (by omega) (by decide) rfl rfl ?_;intro a5 c5 vR w5 bS hg5 A9;obtain ⟨g5,cap5,hvg,-⟩:=pO bS.own (by simp);obtain ⟨rfl,rfl⟩:a5=some ⟨g5,0,none⟩/\c5=cap5:=by injection hvg with h1 h2 h3;exact ⟨h1,h3⟩
  obtain ⟨jc5,z0,z1,z2,z3,rfl,-⟩:=bS.J2;have hat:(Value.slice av n cv).ownBlock=some g5\/g5=y5.heap.size:=by
   rcases A9 with h | h
   ·exact .inl (h.symm.trans rfl)
   ·refine .inr ?_;have e:g5=y5.heap.size:=by simpa [Value.ownBlock] using h
    exact e
  have hzy:=kJ.out.size;have hg:(N0<=g5/\g5<S)\/g5=y5.heap.size:=hat.imp (fun h=>xS.out g5 h) id;have hBg:Bb≠g5:=by have:=Z0.out;omega
  have SK:S≠g5:=by have:=Z0.out;omega
  have MN:∀ b,b=Bb\/b=S->some b≠(Value.slice av n cv).ownBlock:=fun b hb e=>by have:=xS.out b e.symm;omega
  obtain ⟨s1,s2,s3⟩:=SF.out y5 kJ.out;have S5:w5.cell? ⟨Bb,0,none⟩=some (.slice av n cv)/\w5.cell? ⟨S,2,none⟩=some (.string i)/\w5.cell? ⟨S,10,none⟩=some (.slice ak nk ck):=
   ⟨(kS (hg5.block Bb (by have:=Z0.out;omega) (MN Bb (.inl rfl))) 0).trans s1,(kS (hg5.block S (by have:=Z0.out;omega) (MN S (.inr rfl))) 2).trans s2,(kS (hg5.block S (by have:=Z0.out;omega) (MN S (.inr rfl))) 10).trans s3⟩
  have Ql:aI Bb (.slice av n cv) 84 w5:=(hg5.block Bb (by have:=Z0.out;omega) (MN Bb (.inl rfl))).trans (((jY.out.below (by have:=HS.out;omega) B0.out)).below (B:=W0.heap.size) (by have:=Z0.out;omega) kJ.out);obtain ⟨y0',y1',y2',y3',yf⟩:=bS.IG HM.out;have Yz:=Ql.free;have z5:=Ql.cell;obtain ⟨wZ,YA,sG⟩:=bS.hop2 (p:=Bb) (by have:=HN0.out;omega) (show w5.grownBy (w5.setCell ⟨Bb,0,none⟩ (.slice (some ⟨g5,0,none⟩) (n+1) c5)) (some Bb) from ⟨rfl,rfl,rfl,by simp [World.setCell],fun b _ hb=>Below.heap_setCell w5 ⟨Bb,0,none⟩ _ b (fun e=>hb (by rw [e]))⟩);obtain ⟨u0,u1,u2,u3,uf⟩:=sG.IG HM.out;have hF:=D7 (x:=(aV oH [⟨dR,Bn++i⟩,⟨fJ,fT⟩] (ah.aW ks))) (.string ⟨#[100,105,118]⟩) (.string ⟨#[]⟩) (.slice a2 2 c2) (.slice a3 n3 c3) HN0.out hB bZ.out jY.out (B0.out.trans (kJ.out.mono B0.out.size)) bS hg5 HM.out hat (mJ.out.weaken (fun b (hb:W0.heap.size<=b)=>ji9 B0.out.size hb));have qK:=hid hF;have Ve:aI Bb (.slice av n cv) 84 ((((w5.setCell ⟨g5,n*4,none⟩ (.string ⟨#[100,105,118]⟩)).setCell ⟨g5,n*4+1,none⟩ (.string ⟨#[]⟩)).setCell ⟨g5,n*4+2,none⟩ (.slice a2 2 c2)).setCell ⟨g5,n*4+3,none⟩ (.slice a3 n3 c3)):=(gT w5 g5 (n*4) (.string ⟨#[100,105,118]⟩) (.string ⟨#[]⟩) (.slice a2 2 c2) (.slice a3 n3 c3) Bb hBg).trans Ql;have S6:World.cell? ((((w5.setCell ⟨g5,n*4,none⟩ (.string ⟨#[100,105,118]⟩)).setCell ⟨g5,n*4+1,none⟩ (.string ⟨#[]⟩)).setCell ⟨g5,n*4+2,none⟩ (.slice a2 2 c2)).setCell ⟨g5,n*4+3,none⟩ (.slice a3 n3 c3)) ⟨Bb,0,none⟩=some (.slice av n cv)/\World.cell? ((((w5.setCell ⟨g5,n*4,none⟩ (.string ⟨#[100,105,118]⟩)).setCell ⟨g5,n*4+1,none⟩ (.string ⟨#[]⟩)).setCell ⟨g5,n*4+2,none⟩ (.slice a2 2 c2)).setCell ⟨g5,n*4+3,none⟩ (.slice a3 n3 c3)) ⟨S,2,none⟩=some (.string i)/\World.cell? ((((w5.setCell ⟨g5,n*4,none⟩ (.string ⟨#[100,105,118]⟩)).setCell ⟨g5,n*4+1,none⟩ (.string ⟨#[]⟩)).setCell ⟨g5,n*4+2,none⟩ (.slice a2 2 c2)).setCell ⟨g5,n*4+3,none⟩ (.slice a3 n3 c3)) ⟨S,10,none⟩=some (.slice ak nk ck):=⟨SB S5.1 hBg,SB S5.2.1 SK,SB S5.2.2 SK⟩;have YO:=Ve.free;have z6:=S6.1;have t0:(0:Int)<=(n:Int):=by omega
  have t1:(n:Int)<((n+1:Nat):Int):=by omega
  have t2:(n:Int)<(n:Int)+1:=by omega
  have t3:n<n+1:=by omega
  clear sG YA Ql Ve bS hg5 A9 hvg MN s1 s2 s3 hF hat hg;refine hK.out _ _ (fun _ _=>S5) (fun hH2=>?_);clear hK KQ hH;have hH:=hH2 (by decide) (by kernel_rfl);clear hH2;try simp only [Act.put,ji3,ji4,ji5]
  refine kT 17 (v:=?_) rfl (by kernel_rfl) hH (by rfl) ?_ ?_;rotate_left
  ·(intro wv hSw;obtain ⟨cb,c2,c10⟩:=hSw;go_simp;try with_reducible rfl)
  try simp only [Act.put,ji3,ji4,ji5]
  refine kT 18 (v:=?_) rfl (by kernel_rfl) hH (by rfl) ?_ ?_;rotate_left
  ·(intro wv hSw;obtain ⟨cb,c2,c10⟩:=hSw;go_simp;try with_reducible rfl)
  try simp only [Act.put,ji3,ji4,ji5]
  refine F8 (i:=15) (j:=19) rfl rfl (by kernel_rfl) (fun KQ hK=>?_) (fun KQ hK=>?_)
  ·go_simp;refine hK.out _ _ (fun _ _=>S5) (fun hH2=>?_);clear hK KQ hH;have hH:=hH2 (by decide) (by kernel_rfl);clear hH2;try simp only [Act.put,ji3,ji4,ji5]
   refine F8 (i:=16) (j:=19) rfl rfl (by kernel_rfl) (fun KQ hK=>?_) (fun KQ hK=>?_)
   ·go_simp;refine hK.out _ _ (fun _ _=>S6) (fun hH2=>?_);clear hK KQ hH;have hH:=hH2 (by decide) (by kernel_rfl);clear hH2;try simp only [Act.put,ji3,ji4,ji5]
    refine q01 (i:=19) rfl (by kernel_rfl) (fun KQ hK=>?_);go_simp;refine hK.out _ _ (fun h=>absurd rfl h) (fun _=>?_);clear hK KQ hH;try simp only [Act.put,ji3,ji4,ji5]
    refine Ba (by kernel_rfl) ?_ _;clear S5 S6 y0' y1' y2' y3' yf u0 u1 u2 u3 uf Yz z5 YO z6 t0 t1 t2 t3;have IW:=qK.out;simp only [q1z] at IW;obtain ⟨w7,hw7⟩:∃ w7,w7=((((w5.setCell ⟨g5,n*4,none⟩ (.string ⟨#[100,105,118]⟩)).setCell ⟨g5,n*4+1,none⟩ (.string ⟨#[]⟩)).setCell ⟨g5,n*4+2,none⟩ (.slice a2 2 c2)).setCell ⟨g5,n*4+3,none⟩ (.slice a3 n3 c3)).setCell ⟨Bb,0,none⟩ (.slice (some ⟨g5,0,none⟩) (n+1) c5):=⟨_,rfl⟩;rw [<- hw7] at IW;rw [<- hw7];have YP:=hid IW;clear hw7 IW qK;go_wp2
    go_end0
    exact ⟨rfl,YP.out⟩
   ·go_simp;refine hK.out _ _ (fun h=>absurd rfl h) (fun _=>?_);clear hK KQ hH;try simp only [Act.put,ji3,ji4,ji5]
    refine q01 (i:=16) rfl (by kernel_rfl) (fun KQ hK=>?_);go_simp;refine hK.out _ _ (fun _ h=>absurd h (by decide)) (fun _=>?_);clear hK KQ;try simp only [Act.put,ji3,ji4,ji5]
    refine Ba (by kernel_rfl) ?_ _;have hsw:=nC w5 Bb g5 (n*4) (.slice (some ⟨g5,0,none⟩) (n+1) c5) (.string ⟨#[100,105,118]⟩) (.string ⟨#[]⟩) (.slice a2 2 c2) (.slice a3 n3 c3) hBg;simp only [q1z] at hsw;rw [hsw];clear hsw;clear S5 S6 y0' y1' y2' y3' yf u0 u1 u2 u3 uf Yz z5 YO z6 t0 t1 t2 t3;have IW:=qK.out;simp only [q1z] at IW;obtain ⟨w7,hw7⟩:∃ w7,w7=((((w5.setCell ⟨g5,n*4,none⟩ (.string ⟨#[100,105,118]⟩)).setCell ⟨g5,n*4+1,none⟩ (.string ⟨#[]⟩)).setCell ⟨g5,n*4+2,none⟩ (.slice a2 2 c2)).setCell ⟨g5,n*4+3,none⟩ (.slice a3 n3 c3)).setCell ⟨Bb,0,none⟩ (.slice (some ⟨g5,0,none⟩) (n+1) c5):=⟨_,rfl⟩;rw [<- hw7] at IW;rw [<- hw7];have YP:=hid IW;clear hw7 IW qK;go_wp2
    go_end0
    exact ⟨rfl,YP.out⟩
  ·go_simp;refine hK.out _ _ (fun h=>absurd rfl h) (fun _=>?_);clear hK KQ hH;try simp only [Act.put,ji3,ji4,ji5]
   refine q01 (i:=15) rfl (by kernel_rfl) (fun KQ hK=>?_);go_simp;refine hK.out _ _ (fun _ h=>absurd h (by decide)) (fun _=>?_);clear hK KQ;try simp only [Act.put,ji3,ji4,ji5]
   refine q01 (i:=16) rfl (by kernel_rfl) (fun KQ hK=>?_);go_simp;refine hK.out _ _ (fun _ h=>absurd h (by decide)) (fun _=>?_);clear hK KQ;try simp only [Act.put,ji3,ji4,ji5]
   refine Ba (by kernel_rfl) ?_ _;have hsw:=nC w5 Bb g5 (n*4) (.slice (some ⟨g5,0,none⟩) (n+1) c5) (.string ⟨#[100,105,118]⟩) (.string ⟨#[]⟩) (.slice a2 2 c2) (.slice a3 n3 c3) hBg;simp only [q1z] at hsw;rw [hsw];clear hsw;clear S5 S6 y0' y1' y2' y3' yf u0 u1 u2 u3 uf Yz z5 YO z6 t0 t1 t2 t3;have IW:=qK.out;simp only [q1z] at IW;obtain ⟨w7,hw7⟩:∃ w7,w7=((((w5.setCell ⟨g5,n*4,none⟩ (.string ⟨#[100,105,118]⟩)).setCell ⟨g5,n*4+1,none⟩ (.string ⟨#[]⟩)).setCell ⟨g5,n*4+2,none⟩ (.slice a2 2 c2)).setCell ⟨g5,n*4+3,none⟩ (.slice a3 n3 c3)).setCell ⟨Bb,0,none⟩ (.slice (some ⟨g5,0,none⟩) (n+1) c5):=⟨_,rfl⟩;rw [<- hw7] at IW;rw [<- hw7];have YP:=hid IW;clear hw7 IW qK;go_wp2
   go_end0
   exact ⟨rfl,YP.out⟩
end Go.Proofs.YtclikfjalmcoaaaGreatDoor

