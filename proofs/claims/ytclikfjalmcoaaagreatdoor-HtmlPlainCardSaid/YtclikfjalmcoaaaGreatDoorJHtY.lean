/- Contract of the function collect of html.Blocks (html.Blocks$1): the node of a note comes behind those that there are. -/
import Derived.Test.YtclikfjalmcoaaaGreatDoorJHrK
set_option maxHeartbeats 8000000
set_option maxRecDepth 100000
open Go.Lib (hid)
namespace Go.Proofs.YtclikfjalmcoaaaGreatDoor
open List renaming setIfInBounds_toArray->jc3,set_cons_zero->jc4,set_cons_succ->jc5
open Go.RowKit.Below renaming refl->jc7,heap_setCell->jd1
open Nat renaming le_refl->jc8,le_trans->jc9
open Go.World renaming cell?->je0,setCell->je1
open Go.RowKit renaming Below->jfj
open Go.RowKit
set_option linter.unusedVariables false
set_option linter.unusedSimpArgs false
def Rs (Bb N0:Nat) (L:List Nd) (w:World):Prop:=
 ∃ (wB:World) (rows:List (List Value)) (v:Value),wB.heap.size=N0/\aI 43 4 (fun _=>False) w.heap.size wB (L.map Nd.d) rows v w/\aF Bb v 84 w
structure sS (Bb N0:Nat) (W W':World):Prop where
 os:W'.os=W.os
 tape:W'.tape=W.tape
 output:W'.output=W.output
 size:W.heap.size<=W'.heap.size
 blk:∀ b,b<N0->b≠Bb->W'.heap[b]?=W.heap[b]?
 UK:∀ (b:Nat) (cs:Array Value) (t:TypeId) (g:Nat × Nat),W.heap[b]?=some (Obj.cells cs t g)->t≠84->t≠43->W'.heap[b]?=W.heap[b]?
theorem sS.refl (Bb N0:Nat) (W:World):sS Bb N0 W W:=⟨rfl,rfl,rfl,jc8 _,fun _ _ _=>rfl,fun _ _ _ _ _ _ _=>rfl⟩
theorem sS.trans {Bb N0:Nat} {A B C:World} (h:sS Bb N0 A B) (k:sS Bb N0 B C):sS Bb N0 A C:=
 ⟨k.os.trans h.os,k.tape.trans h.tape,k.output.trans h.output,jc9 h.size k.size,fun b h1 h3=>(k.blk b h1 h3).trans (h.blk b h1 h3),
  fun b cs t g h1 h2 h3=>(k.UK b cs t g ((h.UK b cs t g h1 h2 h3).trans h1) h2 h3).trans (h.UK b cs t g h1 h2 h3)⟩
theorem sS.grown {Bb N0:Nat} {W W':World} {row:Option Nat} (h:W.grownBy W' row) (hS:N0<=W.heap.size) (hr:∀ r,row=some r->N0<=r/\∃ o:Obj,W.heap[r]?=some o/\o.isCells=false):sS Bb N0 W W':=
 ⟨h.os,h.tape,h.output,h.size,fun b h1 _=>h.block b (by omega) (fun e=>by have:=(hr b e.symm).1;omega),fun b cs t g h1 _ _=>h.block b (Array.getElem?_eq_some_iff.1 h1).1 (fun e=>by
  obtain ⟨-,o,k1,k2⟩:=hr b e.symm;rw [h1] at k1;cases k1;cases k2)⟩
theorem sS.obj (Bb N0:Nat) (W:World) (l:Nat) (o o':Obj) (hl:N0<=l) (ho:W.heap[l]?=some o) (hc:o.isCells=false):sS Bb N0 W (W.putObj l o'):=by
 refine ⟨rfl,rfl,rfl,by simp [World.putObj],fun b h1 _=>World.putObj_heap_other (by omega),fun b cs t g h1 _ _=>World.putObj_heap_other ?_⟩;rintro rfl;rw [ho] at h1;cases h1
 cases hc
theorem sS.below {Bb N0 S:Nat} {W W':World} (h:sS Bb N0 W W') (h1:S<=Bb) (h2:Bb<N0):jfj S W W':=⟨h.os,h.tape,h.output,h.size,fun b hb=>h.blk b (by omega) (by omega)⟩
def Ko (w w':World):Prop:=∀ (b:Nat) (o:Obj),w.heap[b]?=some o->o.isCells=false->w'.heap[b]?=some o
def Rt (Bb N0:Nat) (L:List Nd) (w:World) (e:Ending) (w':World):Prop:=e=.returned (.tuple #[])/\Rs Bb N0 L w'/\sS Bb N0 w w'/\Ko w w'
def D6:Nd:=.mk ⟨#[]⟩ ⟨#[]⟩ [] []
theorem gM {Bb N0 n g5 c5:Nat} {L:List Nd} {rows nQ:List (List Value)} {v z0 z1 z2 z3:Value} {w y w5 wB:World} {x:Nd} (c0 c1 c2 c3:Value) (hN0:wB.heap.size=N0) (hB:Bb<N0) (hrow:aI 43 4 (fun _=>False) w.heap.size wB (L.map Nd.d) rows v w) (hbx:aF Bb v 84 w) (b0:jfj w.heap.size w y) (aN:aI 43 4 (fun _=>False) w5.heap.size wB (L.map Nd.d++[D6.d]) (nQ++[[z0,z1,z2,z3]]) (.slice (some ⟨g5,0,none⟩) (n+1) c5) w5) (hg5:y.grownBy w5 v.ownBlock) (hn:(L.map Nd.d).length=n) (hat:v.ownBlock=some g5\/g5=y.heap.size) (hx:Rd (w.heap.size<=·) y x.d [c0,c1,c2,c3]) : Rs Bb N0 (L++[x]) ((fO w5 g5 (n*4) c0 c1 c2 c3).setCell ⟨Bb,0,none⟩ (.slice (some ⟨g5,0,none⟩) (n+1) c5)) /\ sS Bb N0 w ((fO w5 g5 (n*4) c0 c1 c2 c3).setCell ⟨Bb,0,none⟩ (.slice (some ⟨g5,0,none⟩) (n+1) c5))/\Ko w ((fO w5 g5 (n*4) c0 c1 c2 c3).setCell ⟨Bb,0,none⟩ (.slice (some ⟨g5,0,none⟩) (n+1) c5)):=by
 have hov:∀ g,v.ownBlock=some g->N0<=g/\g<w.heap.size:=fun g hg=>by have:=hrow.own.lt g hg;omega
 have CU:=hrow.aJ.size;have Mt:=b0.size;have Im:=hg5.size;have hg:(N0<=g5/\g5<w.heap.size)\/g5=y.heap.size:=hat.imp (fun h=>hov g5 h) id;have hBg:Bb≠g5:=by omega
 have Gp:=aN.Gm hn c0 c1 c2 c3 (d1:=x.d) (Rd.keep (fun b (hb:w.heap.size<=b) hlt=>⟨⟨.inr (by omega),by omega,by omega⟩,hg5.block b hlt (fun e=>by have:=hov b e.symm;omega)⟩) _ _ hx);obtain ⟨w6,dh⟩:∃ w6,w6=fO w5 g5 (n*4) c0 c1 c2 c3:=⟨_,rfl⟩;have hb6:∀ b,b≠g5->w6.heap[b]?=w5.heap[b]?:=fun b hb=>by rw [dh];exact Jk _ _ _ _ _ _ _ b hb
 have QJ:w6.heap.size=w5.heap.size:=by rw [dh];simp [fO,je1]
 have Yy:w6.os=w5.os/\w6.tape=w5.tape/\w6.output=w5.output:=by rw [dh];exact ⟨rfl,rfl,rfl⟩
 rw [<- dh] at Gp ⊢;clear dh;obtain ⟨w7,hw7⟩:∃ w7,w7=w6.setCell ⟨Bb,0,none⟩ (.slice (some ⟨g5,0,none⟩) (n+1) c5):=⟨_,rfl⟩;rw [<- hw7];have hb5:∀ b,b<w.heap.size->v.ownBlock≠some b->w5.heap[b]?=w.heap[b]?:=fun b hb ho=>(hg5.block b (by omega) (fun e=>ho e.symm)).trans (b0.block b hb)
 have hBo:v.ownBlock≠some Bb:=fun e=>by have:=hov Bb e;omega
 have zC:aF Bb v 84 w6:=(hb6 Bb hBg).trans ((hb5 Bb (by omega) hBo).trans hbx);have Mk:aF Bb (.slice (some ⟨g5,0,none⟩) (n+1) c5) 84 w7:=by rw [hw7];exact zC.set _
 have g7:w6.grownBy w7 (some Bb):=by rw [hw7];exact ⟨rfl,rfl,rfl,by simp [je1],fun b _ hb=>jd1 w6 ⟨Bb,0,none⟩ _ b (fun e=>hb (by rw [e]))⟩
 have XU:w7.heap.size=w6.heap.size:=by rw [hw7];simp [je1]
 obtain ⟨Ml,Mq,nM⟩:=Gp.hop2 (p:=Bb) (by omega) g7;have Ez:∀ b,b<w.heap.size->b≠Bb->b≠g5->v.ownBlock≠some b->w7.heap[b]?=w.heap[b]?:=fun b h1 h2 h3 h4=>
  (g7.block b (by omega) (fun e=>h2 (Option.some.inj e))).trans ((hb6 b h3).trans (hb5 b h1 h4))
 have hown:∀ g,v.ownBlock=some g->∃ cs gg,w.heap[g]?=some (Obj.cells cs 43 gg):=fun g hg=>by
  rcases hrow.own.2 with ⟨h1,-⟩ | ⟨g',cap,cur,h1,-,h2,-⟩
  ·rw [h1] at hg;cases hg
  ·rw [h1] at hg;have e:g'=g:=by simpa [Value.ownBlock] using hg
   subst e;exact ⟨_,_,h2⟩
 refine ⟨⟨Ml,nQ++[[c0,c1,c2,c3]],_,Mq.trans hN0,?_,Mk⟩,⟨?_,?_,?_,by omega,fun b hb hne=>Ez b (by omega) hne (by omega) (fun e=>by have:=hov b e;omega),fun b cs t g hc h1 h2=>?_⟩,fun b o ho hc=>?_⟩
 ·rw [List.map_append];exact nM.up (by omega) (jc8 _)
 ·exact g7.os.trans (Yy.1.trans (hg5.os.trans b0.os))
 ·exact g7.tape.trans (Yy.2.1.trans (hg5.tape.trans b0.tape))
 ·exact g7.output.trans (Yy.2.2.trans (hg5.output.trans b0.output))
 ·have hbw:b<w.heap.size:=(Array.getElem?_eq_some_iff.1 hc).1;have hno:v.ownBlock≠some b:=fun e=>by
   obtain ⟨cs',gg,h⟩:=hown b e;rw [h] at hc;injection hc with hc;injection hc with _ hc;exact h2 hc.symm
  refine Ez b hbw (fun e=>?_) (fun e=>?_) hno
  ·subst e;rw [show w.heap[b]?=_ from hbx] at hc;injection hc with hc;injection hc with _ hc;exact h1 hc.symm
  ·subst e;rcases hat with h | h
   ·exact hno h
   ·omega
 ·have hbw:b<w.heap.size:=(Array.getElem?_eq_some_iff.1 ho).1;have hno:v.ownBlock≠some b:=fun e=>by
   obtain ⟨cs',gg,h⟩:=hown b e;rw [h] at ho;cases ho;cases hc
  refine (Ez b hbw (fun e=>?_) (fun e=>?_) hno).trans ho
  ·subst e;rw [show w.heap[b]?=_ from hbx] at ho;cases ho;cases hc
  ·subst e;rcases hat with h | h
   ·exact hno h
   ·omega
theorem CY (Bb N0:Nat) (L:List Nd) (k lv:Int) (i t d ti:ByteArray) (at_:At) (li:List ah) (ks:List au) (vc vp vl vk:Value) (w:World) (hB:Bb<N0) (hR:gW (·<Bb) w at_ li ks vc vp vl vk) (hwk:au.jT ks) (hsz:au.aU ks<=900000) (hi:i.size<=300) (ht:PT w) (hL:L.length<=1000000) (h:Rs Bb N0 L w) : Calls Tryz.prog 56 #[.agg #[.int .i64 k,.int .i64 lv,.string i,.string t,.string d,.string ti,.string at_.id,vc,vp,vl,vk],.pointer (some ⟨Bb,0,none⟩)] w (Rt Bb N0 (L++[aL jS [⟨jX,xD++i⟩,⟨eY,dG⟩] (au.aR ks)]) w):=by
 obtain ⟨iN,wG,jh,ji,jk⟩:=info_parts og;obtain ⟨ac,nc,cc,rfl⟩:=Rd.aj hR.at_.cls
 obtain ⟨ap,np,cp,rfl⟩:=Rd.aj hR.at_.aH
 obtain ⟨al,nl,cl,rfl⟩:=Rd.aj hR.line;obtain ⟨ak,nk,ck,rfl⟩:=Rd.aj hR.kids;obtain ⟨wB,rows,v,hN0,hrow,hbx⟩:=h;obtain ⟨n,hn⟩:∃ n,n=(L.map Nd.d).length:=⟨_,rfl⟩;have hn1:n<=1000000:=by rw [hn,List.length_map];exact hL
 obtain ⟨av,cv,rfl,-,-⟩:=hrow.cap hn.symm;obtain ⟨S,hS⟩:∃ S,S=w.heap.size:=⟨_,rfl⟩;obtain ⟨W0,hW0⟩:∃ W0,W0=w.alloc (.cells #[.int .i64 k,.int .i64 lv,.string i,.string t,.string d,.string ti,.string at_.id,.slice ac nc cc,.slice ap np cp,.slice al nl cl,.slice ak nk ck] 30):=⟨_,rfl⟩;have k0:CB 30 S [.int .i64 k,.int .i64 lv,.string i,.string t,.string d,.string ti,.string at_.id,.slice ac nc cc,.slice ap np cp,.slice al nl cl,.slice ak nk ck] W0:=by rw [hW0,hS];exact CB.new _ _ w
 have b0:jfj w.heap.size w W0:=by rw [hW0];exact (jc7 _ _).alloc (jc8 _) _
 have z0:W0.heap.size=S+1:=by rw [hW0,World.size_alloc,hS]
 have CU:=hrow.aJ.size;have hov:∀ g,(Value.slice av n cv).ownBlock=some g->N0<=g/\g<S:=fun g hg=>by have:=hrow.own.lt g hg;omega
 have hBS:Bb<S:=by omega
 have SF:Hid (∀ y:World,jfj W0.heap.size W0 y->y.cell? ⟨Bb,0,none⟩=some (.slice av n cv)/\y.cell? ⟨S,2,none⟩=some (.string i)/\y.cell? ⟨S,10,none⟩=some (.slice ak nk ck)):=fun y hb=>
  ⟨((hbx.below (by omega) b0).below (B:=W0.heap.size) (by omega) hb).cell,(k0.below hb).cell 2 _ rfl,(k0.below hb).cell 10 _ rfl⟩
 have KC:Hid (∀ y:World,jfj W0.heap.size W0 y->Calls Tryz.prog 55 #[.pointer (some ⟨Bb,0,none⟩),.slice ak nk ck] y (bR y (au.aR ks))):=fun y hy=>by
  have hb:=b0.trans (hy.mono b0.size);exact rR _ 900000 ks _ y hsz (by decide) (Rd.keep (w:=w) (w':=y) (ok:=(·<Bb)) (fun b (hb':b<Bb) hlt=>⟨by show b<y.heap.size;have:=hb.size;omega,hb.block b (by omega)⟩) _ _ hR.kids) hwk (ht.below hb)
 have q5:(⟨#[110,111,116,101,45]⟩:ByteArray).size+i.size<=9223372036854775807:=by have:(⟨#[110,111,116,101,45]⟩:ByteArray).size=5:=rfl;omega
 have q6:5+i.size<=9223372036854775807:=by omega
 have hadd:∀ w:World,(Op.stringOp .add (⟨#[110,111,116,101,45]⟩:ByteArray) i).run Tryz.prog w=.ok (.string (⟨#[110,111,116,101,45]⟩++i)) w:=fun w=>run_string_add_sum w _ _ q5
 have HM:=hid hn.symm;have aY:=hid hrow;have jJ:=hid hbx;have pq:=hid hov;have Jo:=hid hN0;have B0:=hid b0;have HS:=hid hS;have Z0:=hid z0;clear hR hwk hsz hi ht hL hrow hbx hn hN0 k0 b0 z0 hov CU;go_enter Tryz.func56,Tryz.ntmps56;go_upto_region 1 with (fail)
 rw [<- hW0,<- hS];clear hW0 hS;refine gJ 19 (fun w'=>w'.cell? ⟨Bb,0,none⟩=some (.slice av n cv)/\w'.cell? ⟨S,2,none⟩=some (.string i)/\w'.cell? ⟨S,10,none⟩=some (.slice ak nk ck)) (by kernel_rfl) (SF.out W0.drew (jc7 _ _).drew) ?_;intro hH;refine lY (i:=0) (v:=?_) rfl (by kernel_rfl) (by kernel_rfl) (by kernel_rfl) (by kernel_rfl) (by kernel_rfl) (fun _ _ _ h=>h) hH (Or.inl ⟨by rfl,?_⟩) ?_;rotate_left
 ·(intro wv hSw;obtain ⟨cb,c2,c10⟩:=hSw;go_simp;try with_reducible rfl)
 try simp only [Act.put,jc3,jc4,jc5]
 refine lY (i:=1) (v:=?_) rfl (by kernel_rfl) (by kernel_rfl) (by kernel_rfl) (by kernel_rfl) (by kernel_rfl) (fun _ _ _ h=>h) hH (Or.inl ⟨by rfl,?_⟩) ?_;rotate_left
 ·(intro wv hSw;obtain ⟨cb,c2,c10⟩:=hSw;go_simp;try with_reducible rfl)
 try simp only [Act.put,jc3,jc4,jc5]
 refine lY (i:=2) (v:=?_) rfl (by kernel_rfl) (by kernel_rfl) (by kernel_rfl) (by kernel_rfl) (by kernel_rfl) (fun _ _ _ h=>h) hH (Or.inl ⟨by rfl,?_⟩) ?_;rotate_left
 ·(intro wv hSw;obtain ⟨cb,c2,c10⟩:=hSw;go_simp;try with_reducible rfl)
 try simp only [Act.put,jc3,jc4,jc5]
 refine lY (i:=3) (v:=?_) rfl (by kernel_rfl) (by kernel_rfl) (by kernel_rfl) (by kernel_rfl) (by kernel_rfl) (fun _ _ _ h=>h) hH (Or.inl ⟨by rfl,?_⟩) ?_;rotate_left
 ·(intro wv hSw;obtain ⟨cb,c2,c10⟩:=hSw;go_simp;try with_reducible rfl)
 try simp only [Act.put,jc3,jc4,jc5]
 refine lY (i:=4) (v:=?_) rfl (by kernel_rfl) (by kernel_rfl) (by kernel_rfl) (by kernel_rfl) (by kernel_rfl) (fun _ _ _ h=>h) hH (Or.inl ⟨by rfl,?_⟩) ?_;rotate_left
 ·(intro wv hSw;obtain ⟨cb,c2,c10⟩:=hSw;go_simp;try with_reducible rfl)
 try simp only [Act.put,jc3,jc4,jc5]
 refine lY (i:=5) (v:=?_) rfl (by kernel_rfl) (by kernel_rfl) (by kernel_rfl) (by kernel_rfl) (by kernel_rfl) (fun _ _ _ h=>h) hH (Or.inl ⟨by rfl,?_⟩) ?_;rotate_left
 ·(intro wv hSw;obtain ⟨cb,c2,c10⟩:=hSw;go_simp;try with_reducible rfl)
 try simp only [Act.put,jc3,jc4,jc5]
 refine lY (i:=8) (v:=?_) rfl (by kernel_rfl) (by kernel_rfl) (by kernel_rfl) (by kernel_rfl) (by kernel_rfl) (fun _ _ _ h=>h) hH (Or.inl ⟨by rfl,?_⟩) ?_;rotate_left
 ·(intro wv hSw;obtain ⟨cb,c2,c10⟩:=hSw;go_simp;try with_reducible rfl)
 try simp only [Act.put,jc3,jc4,jc5]
 refine lY (i:=9) (v:=?_) rfl (by kernel_rfl) (by kernel_rfl) (by kernel_rfl) (by kernel_rfl) (by kernel_rfl) (fun _ _ _ h=>h) hH (Or.inl ⟨by rfl,?_⟩) ?_;rotate_left
 ·(intro wv hSw;obtain ⟨cb,c2,c10⟩:=hSw;go_simp;try with_reducible rfl)
 try simp only [Act.put,jc3,jc4,jc5]
 refine lY (i:=12) (v:=?_) rfl (by kernel_rfl) (by kernel_rfl) (by kernel_rfl) (by kernel_rfl) (by kernel_rfl) (fun _ _ _ h=>h) hH (Or.inl ⟨by rfl,?_⟩) ?_;rotate_left
 ·(intro wv hSw;obtain ⟨cb,c2,c10⟩:=hSw;go_simp;try with_reducible rfl)
 try simp only [Act.put,jc3,jc4,jc5]
 obtain ⟨y0,hy0⟩:∃ y0,y0=W0.drew:=⟨_,rfl⟩;have Kq:Hid (jfj W0.heap.size W0 y0):=by rw [hy0];exact (jc7 _ _).drew
 rw [<- hy0] at hH;rw [<- hy0];clear hy0;refine xw (i:=6) (j:=13) rfl rfl (by kernel_rfl) (fun KQ hK=>?_) (fun KQ hK=>?_)
 ·go_simp;obtain ⟨y1,hN⟩:∃ z,z=y0.alloc (.cells ([⟨#[105,100]⟩,⟨#[110,111,116,101,45]⟩++i,⟨#[99,108,97,115,115]⟩,⟨#[110,111,116,101]⟩].map Value.string).toArray 9):=⟨_,rfl⟩;obtain ⟨p6,hf⟩:∃ z,z=y0.heap.size:=⟨_,rfl⟩;have Ru:=pQ [⟨#[105,100]⟩,⟨#[110,111,116,101,45]⟩++i,⟨#[99,108,97,115,115]⟩,⟨#[110,111,116,101]⟩] y0 (by show 4<=maxLen;unfold maxLen;decide);rw [<- hN,<- hf] at Ru;have Pq:=hid (show Rd (·<y1.heap.size) y1 (jv (l7 [⟨jX,xD++i⟩,⟨eY,dG⟩])) [.slice (some ⟨p6,0,none⟩) 4 4] from Ru);have bN:jfj y0.heap.size y0 y1:=by rw [hN];exact (jc7 _ _).alloc (jc8 _) _
  simp only [List.map_cons,List.map_nil] at hN;rw [<- hN,<- hf];clear hN hf Ru;have uS:Hid (jfj W0.heap.size W0 y1):=Kq.out.trans (bN.mono Kq.out.size);clear bN;refine hK.out _ _ (fun _ _=>SF.out y1 uS.out) (fun hH2=>?_);clear hK KQ hH;have hH:=hH2 (by decide) (by kernel_rfl);clear hH2;try simp only [Act.put,jc3,jc4,jc5]
  refine xw (i:=7) (j:=13) rfl rfl (by kernel_rfl) (fun KQ hK=>?_) (fun KQ hK=>?_)
  ·go_simp;go_at_call 58
   (with_reducible refine (iW [⟨jX,xD++i⟩,⟨eY,dG⟩] (.slice (some ⟨p6,0,none⟩) 4 4) y1 Pq.out (by simp)).mono ?_)
   rintro e y2 ⟨bg,v2,rfl,hrow2⟩;obtain ⟨a2,c2,rfl,-,-⟩:=hrow2.cap (n:=2) rfl;have bN:=hrow2.aJ;have Pt:=hid (show Rd (W0.heap.size<=·) y2 (dQ [⟨jX,xD++i⟩,⟨eY,dG⟩]) [.slice a2 2 c2] from hrow2.eD.weaken (fun b hb=>jc9 uS.out.size hb));clear hrow2;have lH:Hid (jfj W0.heap.size W0 y2):=uS.out.trans (bN.mono uS.out.size);clear bN;refine hK.out _ _ (fun _ _=>SF.out y2 lH.out) (fun hH2=>?_);clear hK KQ hH;have hH:=hH2 (by decide) (by kernel_rfl);clear hH2;try simp only [Act.put,jc3,jc4,jc5]
   refine xw (i:=10) (j:=13) rfl rfl (by kernel_rfl) (fun KQ hK=>?_) (fun KQ hK=>?_)
   ·go_simp;go_at_call 55
    (with_reducible refine (KC.out y2 lH.out).mono ?_)
    rintro e y3 ⟨dD,v3,rfl,hrow3⟩;obtain ⟨a3,n3,c3,rfl⟩:=hrow3.slice3;have bN:=hrow3.aJ;have Pv:=hid (show Rd (W0.heap.size<=·) y3 (bU (au.aR ks)) [.slice a3 n3 c3] from hrow3.eD.weaken (fun b hb=>jc9 lH.out.size hb));clear hrow3;have iA:Hid (jfj W0.heap.size W0 y3):=lH.out.trans (bN.mono lH.out.size);have rX:=hid (Pt.out.aZ bN);clear bN;refine hK.out _ _ (fun _ _=>SF.out y3 iA.out) (fun hH2=>?_);clear hK KQ hH;have hH:=hH2 (by decide) (by kernel_rfl);clear hH2;try simp only [Act.put,jc3,jc4,jc5]
    refine xw (i:=11) (j:=13) rfl rfl (by kernel_rfl) (fun KQ hK=>?_) (fun KQ hK=>?_)
    ·go_simp;go_at_call 57
     (with_reducible refine (gL ⟨#[100,105,118]⟩ a2 a3 2 n3 c2 c3 y3).mono ?_)
     rintro e y4 ⟨rfl,bN⟩;have UM:=hid (show Rd (W0.heap.size<=·) y4 (aL jS [⟨jX,xD++i⟩,⟨eY,dG⟩] (au.aR ks)).d [.string ⟨#[100,105,118]⟩,.string ⟨#[]⟩,.slice a2 2 c2,.slice a3 n3 c3] from Nd.fK ⟨#[100,105,118]⟩ ⟨#[]⟩ ⟨rX.out.aZ bN,Pv.out.aZ bN⟩);have j4:Hid (jfj W0.heap.size W0 y4):=iA.out.trans (bN.mono iA.out.size);clear bN;refine hK.out _ _ (fun _ _=>SF.out y4 j4.out) (fun hH2=>?_);clear hK KQ hH;have hH:=hH2 (by decide) (by kernel_rfl);clear hH2;try simp only [Act.put,jc3,jc4,jc5]
     refine q01 (i:=13) rfl (by kernel_rfl) (fun KQ hK=>?_);go_simp;obtain ⟨y5,hN⟩:∃ z,z=y4.alloc (.cells [Value.string ⟨#[]⟩,.string ⟨#[]⟩,.slice none 0 0,.slice none 0 0].toArray 43):=⟨_,rfl⟩;obtain ⟨pz,hf⟩:∃ z,z=y4.heap.size:=⟨_,rfl⟩;have zP:=(aI.one (T:=43) (k:=4) (w:=y4) (d:=D6.d) (r:=[Value.string ⟨#[]⟩,.string ⟨#[]⟩,.slice none 0 0,.slice none 0 0]) rfl (Nd.fK ⟨#[]⟩ ⟨#[]⟩ ⟨Rd.ay _ _ _,Rd.ay _ _ _⟩)).eD;rw [<- hN,<- hf] at zP;have pR:=hid (show Rd (W0.heap.size<=·) y5 (.sl 4 [D6.d]) [.slice (some ⟨pz,0,none⟩) 1 1] from zP.weaken (fun b (hb:pz<=b)=>by have:=j4.out.size;omega));have bN:jfj y4.heap.size y4 y5:=by rw [hN];exact (jc7 _ _).alloc (jc8 _) _
     rw [<- hN,<- hf];clear hN hf zP;have dS:Hid (jfj W0.heap.size W0 y5):=j4.out.trans (bN.mono j4.out.size);have pU:=hid (UM.out.aZ bN);clear bN;refine hK.out _ _ (fun _ _=>SF.out y5 dS.out) (fun hH2=>?_);clear hK KQ hH;have hH:=hH2 (by decide) (by kernel_rfl);clear hH2;try simp only [Act.put,jc3,jc4,jc5]
     refine q01 (i:=14) rfl (by kernel_rfl) (fun KQ hK=>?_);refine fV (n:=n) (m:=1) rfl (.tmp 5) (.tmp 16) 34 rfl iN _ 80 Tryz.underlying34 wG jh ji jk rfl (by decide) (aY.out.below (B0.out.trans (dS.out.mono B0.out.size))) (fun _=>False.elim) (.slice (some ⟨pz,0,none⟩) 1 1) (pR.out.weaken (fun b (hb:W0.heap.size<=b)=>.inr (by have:=B0.out.size;omega))) (fun rs ok' h=>mY [D6] rs ok' _ h) HM.out rfl (by omega) (by decide) rfl rfl ?_;intro a5 c5 nQ w5 aN hg5 lZ;obtain ⟨g5,cap5,GL,-⟩:=gI aN.own (by simp);obtain ⟨rfl,rfl⟩:a5=some ⟨g5,0,none⟩/\c5=cap5:=by injection GL with h1 h2 h3;exact ⟨h1,h3⟩
     obtain ⟨zR,z0,z1,z2,z3,rfl,-⟩:=aN.jQ;have hat:(Value.slice av n cv).ownBlock=some g5\/g5=y5.heap.size:=by
      rcases lZ with h | h
      ·exact .inl (h.symm.trans rfl)
      ·refine .inr ?_;have e:g5=y5.heap.size:=by simpa [Value.ownBlock] using h
       exact e
     have hzy:=dS.out.size;have hg:(N0<=g5/\g5<S)\/g5=y5.heap.size:=hat.imp (fun h=>pq.out g5 h) id;have hBg:Bb≠g5:=by have:=Z0.out;omega
     have wJ:S≠g5:=by have:=Z0.out;omega
     have fG:∀ b,b=Bb\/b=S->some b≠(Value.slice av n cv).ownBlock:=fun b hb e=>by have:=pq.out b e.symm;omega
     obtain ⟨s1,s2,s3⟩:=SF.out y5 dS.out;have S5:w5.cell? ⟨Bb,0,none⟩=some (.slice av n cv)/\w5.cell? ⟨S,2,none⟩=some (.string i)/\w5.cell? ⟨S,10,none⟩=some (.slice ak nk ck):=
      ⟨(fJ (hg5.block Bb (by have:=Z0.out;omega) (fG Bb (.inl rfl))) 0).trans s1,(fJ (hg5.block S (by have:=Z0.out;omega) (fG S (.inr rfl))) 2).trans s2,(fJ (hg5.block S (by have:=Z0.out;omega) (fG S (.inr rfl))) 10).trans s3⟩
     have pE:aF Bb (.slice av n cv) 84 w5:=(hg5.block Bb (by have:=Z0.out;omega) (fG Bb (.inl rfl))).trans (((jJ.out.below (by have:=HS.out;omega) B0.out)).below (B:=W0.heap.size) (by have:=Z0.out;omega) dS.out);obtain ⟨y0',y1',y2',zS,yf⟩:=aN.lg HM.out;have uG:=pE.free;have z5:=pE.cell;obtain ⟨wZ,JV,gK⟩:=aN.hop2 (p:=Bb) (by have:=Jo.out;omega) (show w5.grownBy (w5.setCell ⟨Bb,0,none⟩ (.slice (some ⟨g5,0,none⟩) (n+1) c5)) (some Bb) from ⟨rfl,rfl,rfl,by simp [je1],fun b _ hb=>jd1 w5 ⟨Bb,0,none⟩ _ b (fun e=>hb (by rw [e]))⟩);obtain ⟨u0,u1,u2,u3,uf⟩:=gK.lg HM.out;have hF:=gM (x:=(aL jS [⟨jX,xD++i⟩,⟨eY,dG⟩] (au.aR ks))) (.string ⟨#[100,105,118]⟩) (.string ⟨#[]⟩) (.slice a2 2 c2) (.slice a3 n3 c3) Jo.out hB aY.out jJ.out (B0.out.trans (dS.out.mono B0.out.size)) aN hg5 HM.out hat (pU.out.weaken (fun b (hb:W0.heap.size<=b)=>jc9 B0.out.size hb));have bS:=hid hF;have zC:aF Bb (.slice av n cv) 84 ((((w5.setCell ⟨g5,n*4,none⟩ (.string ⟨#[100,105,118]⟩)).setCell ⟨g5,n*4+1,none⟩ (.string ⟨#[]⟩)).setCell ⟨g5,n*4+2,none⟩ (.slice a2 2 c2)).setCell ⟨g5,n*4+3,none⟩ (.slice a3 n3 c3)):=(Jk w5 g5 (n*4) (.string ⟨#[100,105,118]⟩) (.string ⟨#[]⟩) (.slice a2 2 c2) (.slice a3 n3 c3) Bb hBg).trans pE;have S6:je0 ((((w5.setCell ⟨g5,n*4,none⟩ (.string ⟨#[100,105,118]⟩)).setCell ⟨g5,n*4+1,none⟩ (.string ⟨#[]⟩)).setCell ⟨g5,n*4+2,none⟩ (.slice a2 2 c2)).setCell ⟨g5,n*4+3,none⟩ (.slice a3 n3 c3)) ⟨Bb,0,none⟩=some (.slice av n cv)/\je0 ((((w5.setCell ⟨g5,n*4,none⟩ (.string ⟨#[100,105,118]⟩)).setCell ⟨g5,n*4+1,none⟩ (.string ⟨#[]⟩)).setCell ⟨g5,n*4+2,none⟩ (.slice a2 2 c2)).setCell ⟨g5,n*4+3,none⟩ (.slice a3 n3 c3)) ⟨S,2,none⟩=some (.string i)/\je0 ((((w5.setCell ⟨g5,n*4,none⟩ (.string ⟨#[100,105,118]⟩)).setCell ⟨g5,n*4+1,none⟩ (.string ⟨#[]⟩)).setCell ⟨g5,n*4+2,none⟩ (.slice a2 2 c2)).setCell ⟨g5,n*4+3,none⟩ (.slice a3 n3 c3)) ⟨S,10,none⟩=some (.slice ak nk ck):=⟨xW S5.1 hBg,xW S5.2.1 wJ,xW S5.2.2 wJ⟩;have zT:=zC.free;have z6:=S6.1;have t0:(0:Int)<=(n:Int):=by omega
     have t1:(n:Int)<((n+1:Nat):Int):=by omega
     have t2:(n:Int)<(n:Int)+1:=by omega
     have t3:n<n+1:=by omega
     clear gK JV pE zC aN hg5 lZ GL fG s1 s2 s3 hF hat hg;refine hK.out _ _ (fun _ _=>S5) (fun hH2=>?_);clear hK KQ hH;have hH:=hH2 (by decide) (by kernel_rfl);clear hH2;try simp only [Act.put,jc3,jc4,jc5]
     refine lY (i:=17) (v:=?_) rfl (by kernel_rfl) (by kernel_rfl) (by kernel_rfl) (by kernel_rfl) (by kernel_rfl) (fun _ _ _ h=>h) hH (Or.inl ⟨by rfl,?_⟩) ?_;rotate_left
     ·(intro wv hSw;obtain ⟨cb,c2,c10⟩:=hSw;go_simp;try with_reducible rfl)
     try simp only [Act.put,jc3,jc4,jc5]
     refine lY (i:=18) (v:=?_) rfl (by kernel_rfl) (by kernel_rfl) (by kernel_rfl) (by kernel_rfl) (by kernel_rfl) (fun _ _ _ h=>h) hH (Or.inl ⟨by rfl,?_⟩) ?_;rotate_left
     ·(intro wv hSw;obtain ⟨cb,c2,c10⟩:=hSw;go_simp;try with_reducible rfl)
     try simp only [Act.put,jc3,jc4,jc5]
     refine xw (i:=15) (j:=19) rfl rfl (by kernel_rfl) (fun KQ hK=>?_) (fun KQ hK=>?_)
     ·go_simp;refine hK.out _ _ (fun _ _=>S5) (fun hH2=>?_);clear hK KQ hH;have hH:=hH2 (by decide) (by kernel_rfl);clear hH2;try simp only [Act.put,jc3,jc4,jc5]
      refine xw (i:=16) (j:=19) rfl rfl (by kernel_rfl) (fun KQ hK=>?_) (fun KQ hK=>?_)
      ·go_simp;refine hK.out _ _ (fun _ _=>S6) (fun hH2=>?_);clear hK KQ hH;have hH:=hH2 (by decide) (by kernel_rfl);clear hH2;try simp only [Act.put,jc3,jc4,jc5]
       refine q01 (i:=19) rfl (by kernel_rfl) (fun KQ hK=>?_);go_simp;refine hK.out _ _ (fun h=>absurd rfl h) (fun _=>?_);clear hK KQ hH;try simp only [Act.put,jc3,jc4,jc5]
       refine rQ (by kernel_rfl) ?_ _;clear S5 S6 y0' y1' y2' zS yf u0 u1 u2 u3 uf uG z5 zT z6 t0 t1 t2 t3;have dH:=bS.out;simp only [fO] at dH;obtain ⟨w7,hw7⟩:∃ w7,w7=((((w5.setCell ⟨g5,n*4,none⟩ (.string ⟨#[100,105,118]⟩)).setCell ⟨g5,n*4+1,none⟩ (.string ⟨#[]⟩)).setCell ⟨g5,n*4+2,none⟩ (.slice a2 2 c2)).setCell ⟨g5,n*4+3,none⟩ (.slice a3 n3 c3)).setCell ⟨Bb,0,none⟩ (.slice (some ⟨g5,0,none⟩) (n+1) c5):=⟨_,rfl⟩;rw [<- hw7] at dH;rw [<- hw7];have pV:=hid dH;clear hw7 dH bS;go_wp2
       go_end0
       exact ⟨rfl,pV.out⟩
      ·go_simp;refine hK.out _ _ (fun h=>absurd rfl h) (fun _=>?_);clear hK KQ hH;try simp only [Act.put,jc3,jc4,jc5]
       refine q01 (i:=16) rfl (by kernel_rfl) (fun KQ hK=>?_);go_simp;refine hK.out _ _ (fun _ h=>absurd h (by decide)) (fun _=>?_);clear hK KQ;try simp only [Act.put,jc3,jc4,jc5]
       refine rQ (by kernel_rfl) ?_ _;have hsw:=Jl w5 Bb g5 (n*4) (.slice (some ⟨g5,0,none⟩) (n+1) c5) (.string ⟨#[100,105,118]⟩) (.string ⟨#[]⟩) (.slice a2 2 c2) (.slice a3 n3 c3) hBg;simp only [fO] at hsw;rw [hsw];clear hsw;clear S5 S6 y0' y1' y2' zS yf u0 u1 u2 u3 uf uG z5 zT z6 t0 t1 t2 t3;have dH:=bS.out;simp only [fO] at dH;obtain ⟨w7,hw7⟩:∃ w7,w7=((((w5.setCell ⟨g5,n*4,none⟩ (.string ⟨#[100,105,118]⟩)).setCell ⟨g5,n*4+1,none⟩ (.string ⟨#[]⟩)).setCell ⟨g5,n*4+2,none⟩ (.slice a2 2 c2)).setCell ⟨g5,n*4+3,none⟩ (.slice a3 n3 c3)).setCell ⟨Bb,0,none⟩ (.slice (some ⟨g5,0,none⟩) (n+1) c5):=⟨_,rfl⟩;rw [<- hw7] at dH;rw [<- hw7];have pV:=hid dH;clear hw7 dH bS;go_wp2
       go_end0
       exact ⟨rfl,pV.out⟩
     ·go_simp;refine hK.out _ _ (fun h=>absurd rfl h) (fun _=>?_);clear hK KQ hH;try simp only [Act.put,jc3,jc4,jc5]
      refine q01 (i:=15) rfl (by kernel_rfl) (fun KQ hK=>?_);go_simp;refine hK.out _ _ (fun _ h=>absurd h (by decide)) (fun _=>?_);clear hK KQ;try simp only [Act.put,jc3,jc4,jc5]
      refine q01 (i:=16) rfl (by kernel_rfl) (fun KQ hK=>?_);go_simp;refine hK.out _ _ (fun _ h=>absurd h (by decide)) (fun _=>?_);clear hK KQ;try simp only [Act.put,jc3,jc4,jc5]
      refine rQ (by kernel_rfl) ?_ _;have hsw:=Jl w5 Bb g5 (n*4) (.slice (some ⟨g5,0,none⟩) (n+1) c5) (.string ⟨#[100,105,118]⟩) (.string ⟨#[]⟩) (.slice a2 2 c2) (.slice a3 n3 c3) hBg;simp only [fO] at hsw;rw [hsw];clear hsw;clear S5 S6 y0' y1' y2' zS yf u0 u1 u2 u3 uf uG z5 zT z6 t0 t1 t2 t3;have dH:=bS.out;simp only [fO] at dH;obtain ⟨w7,hw7⟩:∃ w7,w7=((((w5.setCell ⟨g5,n*4,none⟩ (.string ⟨#[100,105,118]⟩)).setCell ⟨g5,n*4+1,none⟩ (.string ⟨#[]⟩)).setCell ⟨g5,n*4+2,none⟩ (.slice a2 2 c2)).setCell ⟨g5,n*4+3,none⟩ (.slice a3 n3 c3)).setCell ⟨Bb,0,none⟩ (.slice (some ⟨g5,0,none⟩) (n+1) c5):=⟨_,rfl⟩;rw [<- hw7] at dH;rw [<- hw7];have pV:=hid dH;clear hw7 dH bS;go_wp2
      go_end0
      exact ⟨rfl,pV.out⟩
    ·go_simp;obtain ⟨y4,hN⟩:∃ z,z=y3.alloc (.cells [Value.string ⟨#[]⟩,.string ⟨#[]⟩,.slice none 0 0,.slice none 0 0].toArray 43):=⟨_,rfl⟩;obtain ⟨pz,hf⟩:∃ z,z=y3.heap.size:=⟨_,rfl⟩;have zP:=(aI.one (T:=43) (k:=4) (w:=y3) (d:=D6.d) (r:=[Value.string ⟨#[]⟩,.string ⟨#[]⟩,.slice none 0 0,.slice none 0 0]) rfl (Nd.fK ⟨#[]⟩ ⟨#[]⟩ ⟨Rd.ay _ _ _,Rd.ay _ _ _⟩)).eD;rw [<- hN,<- hf] at zP;have uT:=hid (show Rd (W0.heap.size<=·) y4 (.sl 4 [D6.d]) [.slice (some ⟨pz,0,none⟩) 1 1] from zP.weaken (fun b (hb:pz<=b)=>by have:=iA.out.size;omega));have bN:jfj y3.heap.size y3 y4:=by rw [hN];exact (jc7 _ _).alloc (jc8 _) _
     rw [<- hN,<- hf];clear hN hf zP;have j4:Hid (jfj W0.heap.size W0 y4):=iA.out.trans (bN.mono iA.out.size);have uU:=hid (Pv.out.aZ bN);have uV:=hid (rX.out.aZ bN);clear bN;refine hK.out _ _ (fun _ _=>SF.out y4 j4.out) (fun hH2=>?_);clear hK KQ hH;have hH:=hH2 (by decide) (by kernel_rfl);clear hH2;try simp only [Act.put,jc3,jc4,jc5]
     refine q01 (i:=11) rfl (by kernel_rfl) (fun KQ hK=>?_);go_simp;go_at_call 57
     (with_reducible refine (gL ⟨#[100,105,118]⟩ a2 a3 2 n3 c2 c3 y4).mono ?_)
     rintro e y5 ⟨rfl,bN⟩;have pU:=hid (show Rd (W0.heap.size<=·) y5 (aL jS [⟨jX,xD++i⟩,⟨eY,dG⟩] (au.aR ks)).d [.string ⟨#[100,105,118]⟩,.string ⟨#[]⟩,.slice a2 2 c2,.slice a3 n3 c3] from Nd.fK ⟨#[100,105,118]⟩ ⟨#[]⟩ ⟨uV.out.aZ bN,uU.out.aZ bN⟩);have dS:Hid (jfj W0.heap.size W0 y5):=j4.out.trans (bN.mono j4.out.size);have pR:=hid (uT.out.aZ bN);clear bN;refine hK.out _ _ (fun _ _=>SF.out y5 dS.out) (fun hH2=>?_);clear hK KQ hH;have hH:=hH2 (by decide) (by kernel_rfl);clear hH2;try simp only [Act.put,jc3,jc4,jc5]
     refine q01 (i:=14) rfl (by kernel_rfl) (fun KQ hK=>?_);refine fV (n:=n) (m:=1) rfl (.tmp 5) (.tmp 16) 34 rfl iN _ 80 Tryz.underlying34 wG jh ji jk rfl (by decide) (aY.out.below (B0.out.trans (dS.out.mono B0.out.size))) (fun _=>False.elim) (.slice (some ⟨pz,0,none⟩) 1 1) (pR.out.weaken (fun b (hb:W0.heap.size<=b)=>.inr (by have:=B0.out.size;omega))) (fun rs ok' h=>mY [D6] rs ok' _ h) HM.out rfl (by omega) (by decide) rfl rfl ?_;intro a5 c5 nQ w5 aN hg5 lZ;obtain ⟨g5,cap5,GL,-⟩:=gI aN.own (by simp);obtain ⟨rfl,rfl⟩:a5=some ⟨g5,0,none⟩/\c5=cap5:=by injection GL with h1 h2 h3;exact ⟨h1,h3⟩
     obtain ⟨zR,z0,z1,z2,z3,rfl,-⟩:=aN.jQ;have hat:(Value.slice av n cv).ownBlock=some g5\/g5=y5.heap.size:=by
      rcases lZ with h | h
      ·exact .inl (h.symm.trans rfl)
      ·refine .inr ?_;have e:g5=y5.heap.size:=by simpa [Value.ownBlock] using h
       exact e
     have hzy:=dS.out.size;have hg:(N0<=g5/\g5<S)\/g5=y5.heap.size:=hat.imp (fun h=>pq.out g5 h) id;have hBg:Bb≠g5:=by have:=Z0.out;omega
     have wJ:S≠g5:=by have:=Z0.out;omega
     have fG:∀ b,b=Bb\/b=S->some b≠(Value.slice av n cv).ownBlock:=fun b hb e=>by have:=pq.out b e.symm;omega
     obtain ⟨s1,s2,s3⟩:=SF.out y5 dS.out;have S5:w5.cell? ⟨Bb,0,none⟩=some (.slice av n cv)/\w5.cell? ⟨S,2,none⟩=some (.string i)/\w5.cell? ⟨S,10,none⟩=some (.slice ak nk ck):=
      ⟨(fJ (hg5.block Bb (by have:=Z0.out;omega) (fG Bb (.inl rfl))) 0).trans s1,(fJ (hg5.block S (by have:=Z0.out;omega) (fG S (.inr rfl))) 2).trans s2,(fJ (hg5.block S (by have:=Z0.out;omega) (fG S (.inr rfl))) 10).trans s3⟩
     have pE:aF Bb (.slice av n cv) 84 w5:=(hg5.block Bb (by have:=Z0.out;omega) (fG Bb (.inl rfl))).trans (((jJ.out.below (by have:=HS.out;omega) B0.out)).below (B:=W0.heap.size) (by have:=Z0.out;omega) dS.out);obtain ⟨y0',y1',y2',zS,yf⟩:=aN.lg HM.out;have uG:=pE.free;have z5:=pE.cell;obtain ⟨wZ,JV,gK⟩:=aN.hop2 (p:=Bb) (by have:=Jo.out;omega) (show w5.grownBy (w5.setCell ⟨Bb,0,none⟩ (.slice (some ⟨g5,0,none⟩) (n+1) c5)) (some Bb) from ⟨rfl,rfl,rfl,by simp [je1],fun b _ hb=>jd1 w5 ⟨Bb,0,none⟩ _ b (fun e=>hb (by rw [e]))⟩);obtain ⟨u0,u1,u2,u3,uf⟩:=gK.lg HM.out;have hF:=gM (x:=(aL jS [⟨jX,xD++i⟩,⟨eY,dG⟩] (au.aR ks))) (.string ⟨#[100,105,118]⟩) (.string ⟨#[]⟩) (.slice a2 2 c2) (.slice a3 n3 c3) Jo.out hB aY.out jJ.out (B0.out.trans (dS.out.mono B0.out.size)) aN hg5 HM.out hat (pU.out.weaken (fun b (hb:W0.heap.size<=b)=>jc9 B0.out.size hb));have bS:=hid hF;have zC:aF Bb (.slice av n cv) 84 ((((w5.setCell ⟨g5,n*4,none⟩ (.string ⟨#[100,105,118]⟩)).setCell ⟨g5,n*4+1,none⟩ (.string ⟨#[]⟩)).setCell ⟨g5,n*4+2,none⟩ (.slice a2 2 c2)).setCell ⟨g5,n*4+3,none⟩ (.slice a3 n3 c3)):=(Jk w5 g5 (n*4) (.string ⟨#[100,105,118]⟩) (.string ⟨#[]⟩) (.slice a2 2 c2) (.slice a3 n3 c3) Bb hBg).trans pE;have S6:je0 ((((w5.setCell ⟨g5,n*4,none⟩ (.string ⟨#[100,105,118]⟩)).setCell ⟨g5,n*4+1,none⟩ (.string ⟨#[]⟩)).setCell ⟨g5,n*4+2,none⟩ (.slice a2 2 c2)).setCell ⟨g5,n*4+3,none⟩ (.slice a3 n3 c3)) ⟨Bb,0,none⟩=some (.slice av n cv)/\je0 ((((w5.setCell ⟨g5,n*4,none⟩ (.string ⟨#[100,105,118]⟩)).setCell ⟨g5,n*4+1,none⟩ (.string ⟨#[]⟩)).setCell ⟨g5,n*4+2,none⟩ (.slice a2 2 c2)).setCell ⟨g5,n*4+3,none⟩ (.slice a3 n3 c3)) ⟨S,2,none⟩=some (.string i)/\je0 ((((w5.setCell ⟨g5,n*4,none⟩ (.string ⟨#[100,105,118]⟩)).setCell ⟨g5,n*4+1,none⟩ (.string ⟨#[]⟩)).setCell ⟨g5,n*4+2,none⟩ (.slice a2 2 c2)).setCell ⟨g5,n*4+3,none⟩ (.slice a3 n3 c3)) ⟨S,10,none⟩=some (.slice ak nk ck):=⟨xW S5.1 hBg,xW S5.2.1 wJ,xW S5.2.2 wJ⟩;have zT:=zC.free;have z6:=S6.1;have t0:(0:Int)<=(n:Int):=by omega
     have t1:(n:Int)<((n+1:Nat):Int):=by omega
     have t2:(n:Int)<(n:Int)+1:=by omega
     have t3:n<n+1:=by omega
     clear gK JV pE zC aN hg5 lZ GL fG s1 s2 s3 hF hat hg;refine hK.out _ _ (fun _ _=>S5) (fun hH2=>?_);clear hK KQ hH;have hH:=hH2 (by decide) (by kernel_rfl);clear hH2;try simp only [Act.put,jc3,jc4,jc5]
     refine lY (i:=17) (v:=?_) rfl (by kernel_rfl) (by kernel_rfl) (by kernel_rfl) (by kernel_rfl) (by kernel_rfl) (fun _ _ _ h=>h) hH (Or.inl ⟨by rfl,?_⟩) ?_;rotate_left
     ·(intro wv hSw;obtain ⟨cb,c2,c10⟩:=hSw;go_simp;try with_reducible rfl)
     try simp only [Act.put,jc3,jc4,jc5]
     refine lY (i:=18) (v:=?_) rfl (by kernel_rfl) (by kernel_rfl) (by kernel_rfl) (by kernel_rfl) (by kernel_rfl) (fun _ _ _ h=>h) hH (Or.inl ⟨by rfl,?_⟩) ?_;rotate_left
     ·(intro wv hSw;obtain ⟨cb,c2,c10⟩:=hSw;go_simp;try with_reducible rfl)
     try simp only [Act.put,jc3,jc4,jc5]
     refine xw (i:=15) (j:=19) rfl rfl (by kernel_rfl) (fun KQ hK=>?_) (fun KQ hK=>?_)
     ·go_simp;refine hK.out _ _ (fun _ _=>S5) (fun hH2=>?_);clear hK KQ hH;have hH:=hH2 (by decide) (by kernel_rfl);clear hH2;try simp only [Act.put,jc3,jc4,jc5]
      refine xw (i:=16) (j:=19) rfl rfl (by kernel_rfl) (fun KQ hK=>?_) (fun KQ hK=>?_)
      ·go_simp;refine hK.out _ _ (fun _ _=>S6) (fun hH2=>?_);clear hK KQ hH;have hH:=hH2 (by decide) (by kernel_rfl);clear hH2;try simp only [Act.put,jc3,jc4,jc5]
       refine q01 (i:=19) rfl (by kernel_rfl) (fun KQ hK=>?_);go_simp;refine hK.out _ _ (fun h=>absurd rfl h) (fun _=>?_);clear hK KQ hH;try simp only [Act.put,jc3,jc4,jc5]
       refine rQ (by kernel_rfl) ?_ _;clear S5 S6 y0' y1' y2' zS yf u0 u1 u2 u3 uf uG z5 zT z6 t0 t1 t2 t3;have dH:=bS.out;simp only [fO] at dH;obtain ⟨w7,hw7⟩:∃ w7,w7=((((w5.setCell ⟨g5,n*4,none⟩ (.string ⟨#[100,105,118]⟩)).setCell ⟨g5,n*4+1,none⟩ (.string ⟨#[]⟩)).setCell ⟨g5,n*4+2,none⟩ (.slice a2 2 c2)).setCell ⟨g5,n*4+3,none⟩ (.slice a3 n3 c3)).setCell ⟨Bb,0,none⟩ (.slice (some ⟨g5,0,none⟩) (n+1) c5):=⟨_,rfl⟩;rw [<- hw7] at dH;rw [<- hw7];have pV:=hid dH;clear hw7 dH bS;go_wp2
       go_end0
       exact ⟨rfl,pV.out⟩
      ·go_simp;refine hK.out _ _ (fun h=>absurd rfl h) (fun _=>?_);clear hK KQ hH;try simp only [Act.put,jc3,jc4,jc5]
       refine q01 (i:=16) rfl (by kernel_rfl) (fun KQ hK=>?_);go_simp;refine hK.out _ _ (fun _ h=>absurd h (by decide)) (fun _=>?_);clear hK KQ;try simp only [Act.put,jc3,jc4,jc5]
       refine rQ (by kernel_rfl) ?_ _;have hsw:=Jl w5 Bb g5 (n*4) (.slice (some ⟨g5,0,none⟩) (n+1) c5) (.string ⟨#[100,105,118]⟩) (.string ⟨#[]⟩) (.slice a2 2 c2) (.slice a3 n3 c3) hBg;simp only [fO] at hsw;rw [hsw];clear hsw;clear S5 S6 y0' y1' y2' zS yf u0 u1 u2 u3 uf uG z5 zT z6 t0 t1 t2 t3;have dH:=bS.out;simp only [fO] at dH;obtain ⟨w7,hw7⟩:∃ w7,w7=((((w5.setCell ⟨g5,n*4,none⟩ (.string ⟨#[100,105,118]⟩)).setCell ⟨g5,n*4+1,none⟩ (.string ⟨#[]⟩)).setCell ⟨g5,n*4+2,none⟩ (.slice a2 2 c2)).setCell ⟨g5,n*4+3,none⟩ (.slice a3 n3 c3)).setCell ⟨Bb,0,none⟩ (.slice (some ⟨g5,0,none⟩) (n+1) c5):=⟨_,rfl⟩;rw [<- hw7] at dH;rw [<- hw7];have pV:=hid dH;clear hw7 dH bS;go_wp2
       go_end0
       exact ⟨rfl,pV.out⟩
     ·go_simp;refine hK.out _ _ (fun h=>absurd rfl h) (fun _=>?_);clear hK KQ hH;try simp only [Act.put,jc3,jc4,jc5]
      refine q01 (i:=15) rfl (by kernel_rfl) (fun KQ hK=>?_);go_simp;refine hK.out _ _ (fun _ h=>absurd h (by decide)) (fun _=>?_);clear hK KQ;try simp only [Act.put,jc3,jc4,jc5]
      refine q01 (i:=16) rfl (by kernel_rfl) (fun KQ hK=>?_);go_simp;refine hK.out _ _ (fun _ h=>absurd h (by decide)) (fun _=>?_);clear hK KQ;try simp only [Act.put,jc3,jc4,jc5]
      refine rQ (by kernel_rfl) ?_ _;have hsw:=Jl w5 Bb g5 (n*4) (.slice (some ⟨g5,0,none⟩) (n+1) c5) (.string ⟨#[100,105,118]⟩) (.string ⟨#[]⟩) (.slice a2 2 c2) (.slice a3 n3 c3) hBg;simp only [fO] at hsw;rw [hsw];clear hsw;clear S5 S6 y0' y1' y2' zS yf u0 u1 u2 u3 uf uG z5 zT z6 t0 t1 t2 t3;have dH:=bS.out;simp only [fO] at dH;obtain ⟨w7,hw7⟩:∃ w7,w7=((((w5.setCell ⟨g5,n*4,none⟩ (.string ⟨#[100,105,118]⟩)).setCell ⟨g5,n*4+1,none⟩ (.string ⟨#[]⟩)).setCell ⟨g5,n*4+2,none⟩ (.slice a2 2 c2)).setCell ⟨g5,n*4+3,none⟩ (.slice a3 n3 c3)).setCell ⟨Bb,0,none⟩ (.slice (some ⟨g5,0,none⟩) (n+1) c5):=⟨_,rfl⟩;rw [<- hw7] at dH;rw [<- hw7];have pV:=hid dH;clear hw7 dH bS;go_wp2
      go_end0
      exact ⟨rfl,pV.out⟩
   ·go_simp;obtain ⟨y3,hN⟩:∃ z,z=y2.alloc (.cells [Value.string ⟨#[]⟩,.string ⟨#[]⟩,.slice none 0 0,.slice none 0 0].toArray 43):=⟨_,rfl⟩;obtain ⟨pz,hf⟩:∃ z,z=y2.heap.size:=⟨_,rfl⟩;have zP:=(aI.one (T:=43) (k:=4) (w:=y2) (d:=D6.d) (r:=[Value.string ⟨#[]⟩,.string ⟨#[]⟩,.slice none 0 0,.slice none 0 0]) rfl (Nd.fK ⟨#[]⟩ ⟨#[]⟩ ⟨Rd.ay _ _ _,Rd.ay _ _ _⟩)).eD;rw [<- hN,<- hf] at zP;have CZ:=hid (show Rd (W0.heap.size<=·) y3 (.sl 4 [D6.d]) [.slice (some ⟨pz,0,none⟩) 1 1] from zP.weaken (fun b (hb:pz<=b)=>by have:=lH.out.size;omega));have bN:jfj y2.heap.size y2 y3:=by rw [hN];exact (jc7 _ _).alloc (jc8 _) _
    rw [<- hN,<- hf];clear hN hf zP;have iA:Hid (jfj W0.heap.size W0 y3):=lH.out.trans (bN.mono lH.out.size);have rX:=hid (Pt.out.aZ bN);clear bN;refine hK.out _ _ (fun _ _=>SF.out y3 iA.out) (fun hH2=>?_);clear hK KQ hH;have hH:=hH2 (by decide) (by kernel_rfl);clear hH2;try simp only [Act.put,jc3,jc4,jc5]
    refine q01 (i:=10) rfl (by kernel_rfl) (fun KQ hK=>?_);go_simp;go_at_call 55
    (with_reducible refine (KC.out y3 iA.out).mono ?_)
    rintro e y4 ⟨dD,v3,rfl,hrow3⟩;obtain ⟨a3,n3,c3,rfl⟩:=hrow3.slice3;have bN:=hrow3.aJ;have uU:=hid (show Rd (W0.heap.size<=·) y4 (bU (au.aR ks)) [.slice a3 n3 c3] from hrow3.eD.weaken (fun b hb=>jc9 iA.out.size hb));clear hrow3;have j4:Hid (jfj W0.heap.size W0 y4):=iA.out.trans (bN.mono iA.out.size);have uT:=hid (CZ.out.aZ bN);have uV:=hid (rX.out.aZ bN);clear bN;refine hK.out _ _ (fun _ _=>SF.out y4 j4.out) (fun hH2=>?_);clear hK KQ hH;have hH:=hH2 (by decide) (by kernel_rfl);clear hH2;try simp only [Act.put,jc3,jc4,jc5]
    refine q01 (i:=11) rfl (by kernel_rfl) (fun KQ hK=>?_);go_simp;go_at_call 57
    (with_reducible refine (gL ⟨#[100,105,118]⟩ a2 a3 2 n3 c2 c3 y4).mono ?_)
    rintro e y5 ⟨rfl,bN⟩;have pU:=hid (show Rd (W0.heap.size<=·) y5 (aL jS [⟨jX,xD++i⟩,⟨eY,dG⟩] (au.aR ks)).d [.string ⟨#[100,105,118]⟩,.string ⟨#[]⟩,.slice a2 2 c2,.slice a3 n3 c3] from Nd.fK ⟨#[100,105,118]⟩ ⟨#[]⟩ ⟨uV.out.aZ bN,uU.out.aZ bN⟩);have dS:Hid (jfj W0.heap.size W0 y5):=j4.out.trans (bN.mono j4.out.size);have pR:=hid (uT.out.aZ bN);clear bN;refine hK.out _ _ (fun _ _=>SF.out y5 dS.out) (fun hH2=>?_);clear hK KQ hH;have hH:=hH2 (by decide) (by kernel_rfl);clear hH2;try simp only [Act.put,jc3,jc4,jc5]
    refine q01 (i:=14) rfl (by kernel_rfl) (fun KQ hK=>?_);refine fV (n:=n) (m:=1) rfl (.tmp 5) (.tmp 16) 34 rfl iN _ 80 Tryz.underlying34 wG jh ji jk rfl (by decide) (aY.out.below (B0.out.trans (dS.out.mono B0.out.size))) (fun _=>False.elim) (.slice (some ⟨pz,0,none⟩) 1 1) (pR.out.weaken (fun b (hb:W0.heap.size<=b)=>.inr (by have:=B0.out.size;omega))) (fun rs ok' h=>mY [D6] rs ok' _ h) HM.out rfl (by omega) (by decide) rfl rfl ?_;intro a5 c5 nQ w5 aN hg5 lZ;obtain ⟨g5,cap5,GL,-⟩:=gI aN.own (by simp);obtain ⟨rfl,rfl⟩:a5=some ⟨g5,0,none⟩/\c5=cap5:=by injection GL with h1 h2 h3;exact ⟨h1,h3⟩
    obtain ⟨zR,z0,z1,z2,z3,rfl,-⟩:=aN.jQ;have hat:(Value.slice av n cv).ownBlock=some g5\/g5=y5.heap.size:=by
     rcases lZ with h | h
     ·exact .inl (h.symm.trans rfl)
     ·refine .inr ?_;have e:g5=y5.heap.size:=by simpa [Value.ownBlock] using h
      exact e
    have hzy:=dS.out.size;have hg:(N0<=g5/\g5<S)\/g5=y5.heap.size:=hat.imp (fun h=>pq.out g5 h) id;have hBg:Bb≠g5:=by have:=Z0.out;omega
    have wJ:S≠g5:=by have:=Z0.out;omega
    have fG:∀ b,b=Bb\/b=S->some b≠(Value.slice av n cv).ownBlock:=fun b hb e=>by have:=pq.out b e.symm;omega
    obtain ⟨s1,s2,s3⟩:=SF.out y5 dS.out;have S5:w5.cell? ⟨Bb,0,none⟩=some (.slice av n cv)/\w5.cell? ⟨S,2,none⟩=some (.string i)/\w5.cell? ⟨S,10,none⟩=some (.slice ak nk ck):=
     ⟨(fJ (hg5.block Bb (by have:=Z0.out;omega) (fG Bb (.inl rfl))) 0).trans s1,(fJ (hg5.block S (by have:=Z0.out;omega) (fG S (.inr rfl))) 2).trans s2,(fJ (hg5.block S (by have:=Z0.out;omega) (fG S (.inr rfl))) 10).trans s3⟩
    have pE:aF Bb (.slice av n cv) 84 w5:=(hg5.block Bb (by have:=Z0.out;omega) (fG Bb (.inl rfl))).trans (((jJ.out.below (by have:=HS.out;omega) B0.out)).below (B:=W0.heap.size) (by have:=Z0.out;omega) dS.out);obtain ⟨y0',y1',y2',zS,yf⟩:=aN.lg HM.out;have uG:=pE.free;have z5:=pE.cell;obtain ⟨wZ,JV,gK⟩:=aN.hop2 (p:=Bb) (by have:=Jo.out;omega) (show w5.grownBy (w5.setCell ⟨Bb,0,none⟩ (.slice (some ⟨g5,0,none⟩) (n+1) c5)) (some Bb) from ⟨rfl,rfl,rfl,by simp [je1],fun b _ hb=>jd1 w5 ⟨Bb,0,none⟩ _ b (fun e=>hb (by rw [e]))⟩);obtain ⟨u0,u1,u2,u3,uf⟩:=gK.lg HM.out;have hF:=gM (x:=(aL jS [⟨jX,xD++i⟩,⟨eY,dG⟩] (au.aR ks))) (.string ⟨#[100,105,118]⟩) (.string ⟨#[]⟩) (.slice a2 2 c2) (.slice a3 n3 c3) Jo.out hB aY.out jJ.out (B0.out.trans (dS.out.mono B0.out.size)) aN hg5 HM.out hat (pU.out.weaken (fun b (hb:W0.heap.size<=b)=>jc9 B0.out.size hb));have bS:=hid hF;have zC:aF Bb (.slice av n cv) 84 ((((w5.setCell ⟨g5,n*4,none⟩ (.string ⟨#[100,105,118]⟩)).setCell ⟨g5,n*4+1,none⟩ (.string ⟨#[]⟩)).setCell ⟨g5,n*4+2,none⟩ (.slice a2 2 c2)).setCell ⟨g5,n*4+3,none⟩ (.slice a3 n3 c3)):=(Jk w5 g5 (n*4) (.string ⟨#[100,105,118]⟩) (.string ⟨#[]⟩) (.slice a2 2 c2) (.slice a3 n3 c3) Bb hBg).trans pE;have S6:je0 ((((w5.setCell ⟨g5,n*4,none⟩ (.string ⟨#[100,105,118]⟩)).setCell ⟨g5,n*4+1,none⟩ (.string ⟨#[]⟩)).setCell ⟨g5,n*4+2,none⟩ (.slice a2 2 c2)).setCell ⟨g5,n*4+3,none⟩ (.slice a3 n3 c3)) ⟨Bb,0,none⟩=some (.slice av n cv)/\je0 ((((w5.setCell ⟨g5,n*4,none⟩ (.string ⟨#[100,105,118]⟩)).setCell ⟨g5,n*4+1,none⟩ (.string ⟨#[]⟩)).setCell ⟨g5,n*4+2,none⟩ (.slice a2 2 c2)).setCell ⟨g5,n*4+3,none⟩ (.slice a3 n3 c3)) ⟨S,2,none⟩=some (.string i)/\je0 ((((w5.setCell ⟨g5,n*4,none⟩ (.string ⟨#[100,105,118]⟩)).setCell ⟨g5,n*4+1,none⟩ (.string ⟨#[]⟩)).setCell ⟨g5,n*4+2,none⟩ (.slice a2 2 c2)).setCell ⟨g5,n*4+3,none⟩ (.slice a3 n3 c3)) ⟨S,10,none⟩=some (.slice ak nk ck):=⟨xW S5.1 hBg,xW S5.2.1 wJ,xW S5.2.2 wJ⟩;have zT:=zC.free;have z6:=S6.1;have t0:(0:Int)<=(n:Int):=by omega
    have t1:(n:Int)<((n+1:Nat):Int):=by omega
    have t2:(n:Int)<(n:Int)+1:=by omega
    have t3:n<n+1:=by omega
    clear gK JV pE zC aN hg5 lZ GL fG s1 s2 s3 hF hat hg;refine hK.out _ _ (fun _ _=>S5) (fun hH2=>?_);clear hK KQ hH;have hH:=hH2 (by decide) (by kernel_rfl);clear hH2;try simp only [Act.put,jc3,jc4,jc5]
    refine lY (i:=17) (v:=?_) rfl (by kernel_rfl) (by kernel_rfl) (by kernel_rfl) (by kernel_rfl) (by kernel_rfl) (fun _ _ _ h=>h) hH (Or.inl ⟨by rfl,?_⟩) ?_;rotate_left
    ·(intro wv hSw;obtain ⟨cb,c2,c10⟩:=hSw;go_simp;try with_reducible rfl)
    try simp only [Act.put,jc3,jc4,jc5]
    refine lY (i:=18) (v:=?_) rfl (by kernel_rfl) (by kernel_rfl) (by kernel_rfl) (by kernel_rfl) (by kernel_rfl) (fun _ _ _ h=>h) hH (Or.inl ⟨by rfl,?_⟩) ?_;rotate_left
    ·(intro wv hSw;obtain ⟨cb,c2,c10⟩:=hSw;go_simp;try with_reducible rfl)
    try simp only [Act.put,jc3,jc4,jc5]
    refine xw (i:=15) (j:=19) rfl rfl (by kernel_rfl) (fun KQ hK=>?_) (fun KQ hK=>?_)
    ·go_simp;refine hK.out _ _ (fun _ _=>S5) (fun hH2=>?_);clear hK KQ hH;have hH:=hH2 (by decide) (by kernel_rfl);clear hH2;try simp only [Act.put,jc3,jc4,jc5]
     refine xw (i:=16) (j:=19) rfl rfl (by kernel_rfl) (fun KQ hK=>?_) (fun KQ hK=>?_)
     ·go_simp;refine hK.out _ _ (fun _ _=>S6) (fun hH2=>?_);clear hK KQ hH;have hH:=hH2 (by decide) (by kernel_rfl);clear hH2;try simp only [Act.put,jc3,jc4,jc5]
      refine q01 (i:=19) rfl (by kernel_rfl) (fun KQ hK=>?_);go_simp;refine hK.out _ _ (fun h=>absurd rfl h) (fun _=>?_);clear hK KQ hH;try simp only [Act.put,jc3,jc4,jc5]
      refine rQ (by kernel_rfl) ?_ _;clear S5 S6 y0' y1' y2' zS yf u0 u1 u2 u3 uf uG z5 zT z6 t0 t1 t2 t3;have dH:=bS.out;simp only [fO] at dH;obtain ⟨w7,hw7⟩:∃ w7,w7=((((w5.setCell ⟨g5,n*4,none⟩ (.string ⟨#[100,105,118]⟩)).setCell ⟨g5,n*4+1,none⟩ (.string ⟨#[]⟩)).setCell ⟨g5,n*4+2,none⟩ (.slice a2 2 c2)).setCell ⟨g5,n*4+3,none⟩ (.slice a3 n3 c3)).setCell ⟨Bb,0,none⟩ (.slice (some ⟨g5,0,none⟩) (n+1) c5):=⟨_,rfl⟩;rw [<- hw7] at dH;rw [<- hw7];have pV:=hid dH;clear hw7 dH bS;go_wp2
      go_end0
      exact ⟨rfl,pV.out⟩
     ·go_simp;refine hK.out _ _ (fun h=>absurd rfl h) (fun _=>?_);clear hK KQ hH;try simp only [Act.put,jc3,jc4,jc5]
      refine q01 (i:=16) rfl (by kernel_rfl) (fun KQ hK=>?_);go_simp;refine hK.out _ _ (fun _ h=>absurd h (by decide)) (fun _=>?_);clear hK KQ;try simp only [Act.put,jc3,jc4,jc5]
      refine rQ (by kernel_rfl) ?_ _;have hsw:=Jl w5 Bb g5 (n*4) (.slice (some ⟨g5,0,none⟩) (n+1) c5) (.string ⟨#[100,105,118]⟩) (.string ⟨#[]⟩) (.slice a2 2 c2) (.slice a3 n3 c3) hBg;simp only [fO] at hsw;rw [hsw];clear hsw;clear S5 S6 y0' y1' y2' zS yf u0 u1 u2 u3 uf uG z5 zT z6 t0 t1 t2 t3;have dH:=bS.out;simp only [fO] at dH;obtain ⟨w7,hw7⟩:∃ w7,w7=((((w5.setCell ⟨g5,n*4,none⟩ (.string ⟨#[100,105,118]⟩)).setCell ⟨g5,n*4+1,none⟩ (.string ⟨#[]⟩)).setCell ⟨g5,n*4+2,none⟩ (.slice a2 2 c2)).setCell ⟨g5,n*4+3,none⟩ (.slice a3 n3 c3)).setCell ⟨Bb,0,none⟩ (.slice (some ⟨g5,0,none⟩) (n+1) c5):=⟨_,rfl⟩;rw [<- hw7] at dH;rw [<- hw7];have pV:=hid dH;clear hw7 dH bS;go_wp2
      go_end0
      exact ⟨rfl,pV.out⟩
    ·go_simp;refine hK.out _ _ (fun h=>absurd rfl h) (fun _=>?_);clear hK KQ hH;try simp only [Act.put,jc3,jc4,jc5]
     refine q01 (i:=15) rfl (by kernel_rfl) (fun KQ hK=>?_);go_simp;refine hK.out _ _ (fun _ h=>absurd h (by decide)) (fun _=>?_);clear hK KQ;try simp only [Act.put,jc3,jc4,jc5]
     refine q01 (i:=16) rfl (by kernel_rfl) (fun KQ hK=>?_);go_simp;refine hK.out _ _ (fun _ h=>absurd h (by decide)) (fun _=>?_);clear hK KQ;try simp only [Act.put,jc3,jc4,jc5]
     refine rQ (by kernel_rfl) ?_ _;have hsw:=Jl w5 Bb g5 (n*4) (.slice (some ⟨g5,0,none⟩) (n+1) c5) (.string ⟨#[100,105,118]⟩) (.string ⟨#[]⟩) (.slice a2 2 c2) (.slice a3 n3 c3) hBg;simp only [fO] at hsw;rw [hsw];clear hsw;clear S5 S6 y0' y1' y2' zS yf u0 u1 u2 u3 uf uG z5 zT z6 t0 t1 t2 t3;have dH:=bS.out;simp only [fO] at dH;obtain ⟨w7,hw7⟩:∃ w7,w7=((((w5.setCell ⟨g5,n*4,none⟩ (.string ⟨#[100,105,118]⟩)).setCell ⟨g5,n*4+1,none⟩ (.string ⟨#[]⟩)).setCell ⟨g5,n*4+2,none⟩ (.slice a2 2 c2)).setCell ⟨g5,n*4+3,none⟩ (.slice a3 n3 c3)).setCell ⟨Bb,0,none⟩ (.slice (some ⟨g5,0,none⟩) (n+1) c5):=⟨_,rfl⟩;rw [<- hw7] at dH;rw [<- hw7];have pV:=hid dH;clear hw7 dH bS;go_wp2
     go_end0
     exact ⟨rfl,pV.out⟩
  ·go_simp;obtain ⟨y2,hN⟩:∃ z,z=y1.alloc (.cells [Value.string ⟨#[]⟩,.string ⟨#[]⟩,.slice none 0 0,.slice none 0 0].toArray 43):=⟨_,rfl⟩;obtain ⟨pz,hf⟩:∃ z,z=y1.heap.size:=⟨_,rfl⟩;have zP:=(aI.one (T:=43) (k:=4) (w:=y1) (d:=D6.d) (r:=[Value.string ⟨#[]⟩,.string ⟨#[]⟩,.slice none 0 0,.slice none 0 0]) rfl (Nd.fK ⟨#[]⟩ ⟨#[]⟩ ⟨Rd.ay _ _ _,Rd.ay _ _ _⟩)).eD;rw [<- hN,<- hf] at zP;have Kt:=hid (show Rd (W0.heap.size<=·) y2 (.sl 4 [D6.d]) [.slice (some ⟨pz,0,none⟩) 1 1] from zP.weaken (fun b (hb:pz<=b)=>by have:=uS.out.size;omega));have bN:jfj y1.heap.size y1 y2:=by rw [hN];exact (jc7 _ _).alloc (jc8 _) _
   rw [<- hN,<- hf];clear hN hf zP;have lH:Hid (jfj W0.heap.size W0 y2):=uS.out.trans (bN.mono uS.out.size);have Ku:=hid (Pq.out.up bN);clear bN;refine hK.out _ _ (fun _ _=>SF.out y2 lH.out) (fun hH2=>?_);clear hK KQ hH;have hH:=hH2 (by decide) (by kernel_rfl);clear hH2;try simp only [Act.put,jc3,jc4,jc5]
   refine q01 (i:=7) rfl (by kernel_rfl) (fun KQ hK=>?_);go_simp;go_at_call 58
   (with_reducible refine (iW [⟨jX,xD++i⟩,⟨eY,dG⟩] (.slice (some ⟨p6,0,none⟩) 4 4) y2 Ku.out (by simp)).mono ?_)
   rintro e y3 ⟨bg,v2,rfl,hrow2⟩;obtain ⟨a2,c2,rfl,-,-⟩:=hrow2.cap (n:=2) rfl;have bN:=hrow2.aJ;have rX:=hid (show Rd (W0.heap.size<=·) y3 (dQ [⟨jX,xD++i⟩,⟨eY,dG⟩]) [.slice a2 2 c2] from hrow2.eD.weaken (fun b hb=>jc9 lH.out.size hb));clear hrow2;have iA:Hid (jfj W0.heap.size W0 y3):=lH.out.trans (bN.mono lH.out.size);have CZ:=hid (Kt.out.aZ bN);clear bN;refine hK.out _ _ (fun _ _=>SF.out y3 iA.out) (fun hH2=>?_);clear hK KQ hH;have hH:=hH2 (by decide) (by kernel_rfl);clear hH2;try simp only [Act.put,jc3,jc4,jc5]
   refine q01 (i:=10) rfl (by kernel_rfl) (fun KQ hK=>?_);go_simp;go_at_call 55
   (with_reducible refine (KC.out y3 iA.out).mono ?_)
   rintro e y4 ⟨dD,v3,rfl,hrow3⟩;obtain ⟨a3,n3,c3,rfl⟩:=hrow3.slice3;have bN:=hrow3.aJ;have uU:=hid (show Rd (W0.heap.size<=·) y4 (bU (au.aR ks)) [.slice a3 n3 c3] from hrow3.eD.weaken (fun b hb=>jc9 iA.out.size hb));clear hrow3;have j4:Hid (jfj W0.heap.size W0 y4):=iA.out.trans (bN.mono iA.out.size);have uT:=hid (CZ.out.aZ bN);have uV:=hid (rX.out.aZ bN);clear bN;refine hK.out _ _ (fun _ _=>SF.out y4 j4.out) (fun hH2=>?_);clear hK KQ hH;have hH:=hH2 (by decide) (by kernel_rfl);clear hH2;try simp only [Act.put,jc3,jc4,jc5]
   refine q01 (i:=11) rfl (by kernel_rfl) (fun KQ hK=>?_);go_simp;go_at_call 57
   (with_reducible refine (gL ⟨#[100,105,118]⟩ a2 a3 2 n3 c2 c3 y4).mono ?_)
   rintro e y5 ⟨rfl,bN⟩;have pU:=hid (show Rd (W0.heap.size<=·) y5 (aL jS [⟨jX,xD++i⟩,⟨eY,dG⟩] (au.aR ks)).d [.string ⟨#[100,105,118]⟩,.string ⟨#[]⟩,.slice a2 2 c2,.slice a3 n3 c3] from Nd.fK ⟨#[100,105,118]⟩ ⟨#[]⟩ ⟨uV.out.aZ bN,uU.out.aZ bN⟩);have dS:Hid (jfj W0.heap.size W0 y5):=j4.out.trans (bN.mono j4.out.size);have pR:=hid (uT.out.aZ bN);clear bN;refine hK.out _ _ (fun _ _=>SF.out y5 dS.out) (fun hH2=>?_);clear hK KQ hH;have hH:=hH2 (by decide) (by kernel_rfl);clear hH2;try simp only [Act.put,jc3,jc4,jc5]
   refine q01 (i:=14) rfl (by kernel_rfl) (fun KQ hK=>?_);refine fV (n:=n) (m:=1) rfl (.tmp 5) (.tmp 16) 34 rfl iN _ 80 Tryz.underlying34 wG jh ji jk rfl (by decide) (aY.out.below (B0.out.trans (dS.out.mono B0.out.size))) (fun _=>False.elim) (.slice (some ⟨pz,0,none⟩) 1 1) (pR.out.weaken (fun b (hb:W0.heap.size<=b)=>.inr (by have:=B0.out.size;omega))) (fun rs ok' h=>mY [D6] rs ok' _ h) HM.out rfl (by omega) (by decide) rfl rfl ?_;intro a5 c5 nQ w5 aN hg5 lZ;obtain ⟨g5,cap5,GL,-⟩:=gI aN.own (by simp);obtain ⟨rfl,rfl⟩:a5=some ⟨g5,0,none⟩/\c5=cap5:=by injection GL with h1 h2 h3;exact ⟨h1,h3⟩
   obtain ⟨zR,z0,z1,z2,z3,rfl,-⟩:=aN.jQ;have hat:(Value.slice av n cv).ownBlock=some g5\/g5=y5.heap.size:=by
    rcases lZ with h | h
    ·exact .inl (h.symm.trans rfl)
    ·refine .inr ?_;have e:g5=y5.heap.size:=by simpa [Value.ownBlock] using h
     exact e
   have hzy:=dS.out.size;have hg:(N0<=g5/\g5<S)\/g5=y5.heap.size:=hat.imp (fun h=>pq.out g5 h) id;have hBg:Bb≠g5:=by have:=Z0.out;omega
   have wJ:S≠g5:=by have:=Z0.out;omega
   have fG:∀ b,b=Bb\/b=S->some b≠(Value.slice av n cv).ownBlock:=fun b hb e=>by have:=pq.out b e.symm;omega
   obtain ⟨s1,s2,s3⟩:=SF.out y5 dS.out;have S5:w5.cell? ⟨Bb,0,none⟩=some (.slice av n cv)/\w5.cell? ⟨S,2,none⟩=some (.string i)/\w5.cell? ⟨S,10,none⟩=some (.slice ak nk ck):=
    ⟨(fJ (hg5.block Bb (by have:=Z0.out;omega) (fG Bb (.inl rfl))) 0).trans s1,(fJ (hg5.block S (by have:=Z0.out;omega) (fG S (.inr rfl))) 2).trans s2,(fJ (hg5.block S (by have:=Z0.out;omega) (fG S (.inr rfl))) 10).trans s3⟩
   have pE:aF Bb (.slice av n cv) 84 w5:=(hg5.block Bb (by have:=Z0.out;omega) (fG Bb (.inl rfl))).trans (((jJ.out.below (by have:=HS.out;omega) B0.out)).below (B:=W0.heap.size) (by have:=Z0.out;omega) dS.out);obtain ⟨y0',y1',y2',zS,yf⟩:=aN.lg HM.out;have uG:=pE.free;have z5:=pE.cell;obtain ⟨wZ,JV,gK⟩:=aN.hop2 (p:=Bb) (by have:=Jo.out;omega) (show w5.grownBy (w5.setCell ⟨Bb,0,none⟩ (.slice (some ⟨g5,0,none⟩) (n+1) c5)) (some Bb) from ⟨rfl,rfl,rfl,by simp [je1],fun b _ hb=>jd1 w5 ⟨Bb,0,none⟩ _ b (fun e=>hb (by rw [e]))⟩);obtain ⟨u0,u1,u2,u3,uf⟩:=gK.lg HM.out;have hF:=gM (x:=(aL jS [⟨jX,xD++i⟩,⟨eY,dG⟩] (au.aR ks))) (.string ⟨#[100,105,118]⟩) (.string ⟨#[]⟩) (.slice a2 2 c2) (.slice a3 n3 c3) Jo.out hB aY.out jJ.out (B0.out.trans (dS.out.mono B0.out.size)) aN hg5 HM.out hat (pU.out.weaken (fun b (hb:W0.heap.size<=b)=>jc9 B0.out.size hb));have bS:=hid hF;have zC:aF Bb (.slice av n cv) 84 ((((w5.setCell ⟨g5,n*4,none⟩ (.string ⟨#[100,105,118]⟩)).setCell ⟨g5,n*4+1,none⟩ (.string ⟨#[]⟩)).setCell ⟨g5,n*4+2,none⟩ (.slice a2 2 c2)).setCell ⟨g5,n*4+3,none⟩ (.slice a3 n3 c3)):=(Jk w5 g5 (n*4) (.string ⟨#[100,105,118]⟩) (.string ⟨#[]⟩) (.slice a2 2 c2) (.slice a3 n3 c3) Bb hBg).trans pE;have S6:je0 ((((w5.setCell ⟨g5,n*4,none⟩ (.string ⟨#[100,105,118]⟩)).setCell ⟨g5,n*4+1,none⟩ (.string ⟨#[]⟩)).setCell ⟨g5,n*4+2,none⟩ (.slice a2 2 c2)).setCell ⟨g5,n*4+3,none⟩ (.slice a3 n3 c3)) ⟨Bb,0,none⟩=some (.slice av n cv)/\je0 ((((w5.setCell ⟨g5,n*4,none⟩ (.string ⟨#[100,105,118]⟩)).setCell ⟨g5,n*4+1,none⟩ (.string ⟨#[]⟩)).setCell ⟨g5,n*4+2,none⟩ (.slice a2 2 c2)).setCell ⟨g5,n*4+3,none⟩ (.slice a3 n3 c3)) ⟨S,2,none⟩=some (.string i)/\je0 ((((w5.setCell ⟨g5,n*4,none⟩ (.string ⟨#[100,105,118]⟩)).setCell ⟨g5,n*4+1,none⟩ (.string ⟨#[]⟩)).setCell ⟨g5,n*4+2,none⟩ (.slice a2 2 c2)).setCell ⟨g5,n*4+3,none⟩ (.slice a3 n3 c3)) ⟨S,10,none⟩=some (.slice ak nk ck):=⟨xW S5.1 hBg,xW S5.2.1 wJ,xW S5.2.2 wJ⟩;have zT:=zC.free;have z6:=S6.1;have t0:(0:Int)<=(n:Int):=by omega
   have t1:(n:Int)<((n+1:Nat):Int):=by omega
   have t2:(n:Int)<(n:Int)+1:=by omega
   have t3:n<n+1:=by omega
   clear gK JV pE zC aN hg5 lZ GL fG s1 s2 s3 hF hat hg;refine hK.out _ _ (fun _ _=>S5) (fun hH2=>?_);clear hK KQ hH;have hH:=hH2 (by decide) (by kernel_rfl);clear hH2;try simp only [Act.put,jc3,jc4,jc5]
   refine lY (i:=17) (v:=?_) rfl (by kernel_rfl) (by kernel_rfl) (by kernel_rfl) (by kernel_rfl) (by kernel_rfl) (fun _ _ _ h=>h) hH (Or.inl ⟨by rfl,?_⟩) ?_;rotate_left
   ·(intro wv hSw;obtain ⟨cb,c2,c10⟩:=hSw;go_simp;try with_reducible rfl)
   try simp only [Act.put,jc3,jc4,jc5]
   refine lY (i:=18) (v:=?_) rfl (by kernel_rfl) (by kernel_rfl) (by kernel_rfl) (by kernel_rfl) (by kernel_rfl) (fun _ _ _ h=>h) hH (Or.inl ⟨by rfl,?_⟩) ?_;rotate_left
   ·(intro wv hSw;obtain ⟨cb,c2,c10⟩:=hSw;go_simp;try with_reducible rfl)
   try simp only [Act.put,jc3,jc4,jc5]
   refine xw (i:=15) (j:=19) rfl rfl (by kernel_rfl) (fun KQ hK=>?_) (fun KQ hK=>?_)
   ·go_simp;refine hK.out _ _ (fun _ _=>S5) (fun hH2=>?_);clear hK KQ hH;have hH:=hH2 (by decide) (by kernel_rfl);clear hH2;try simp only [Act.put,jc3,jc4,jc5]
    refine xw (i:=16) (j:=19) rfl rfl (by kernel_rfl) (fun KQ hK=>?_) (fun KQ hK=>?_)
    ·go_simp;refine hK.out _ _ (fun _ _=>S6) (fun hH2=>?_);clear hK KQ hH;have hH:=hH2 (by decide) (by kernel_rfl);clear hH2;try simp only [Act.put,jc3,jc4,jc5]
     refine q01 (i:=19) rfl (by kernel_rfl) (fun KQ hK=>?_);go_simp;refine hK.out _ _ (fun h=>absurd rfl h) (fun _=>?_);clear hK KQ hH;try simp only [Act.put,jc3,jc4,jc5]
     refine rQ (by kernel_rfl) ?_ _;clear S5 S6 y0' y1' y2' zS yf u0 u1 u2 u3 uf uG z5 zT z6 t0 t1 t2 t3;have dH:=bS.out;simp only [fO] at dH;obtain ⟨w7,hw7⟩:∃ w7,w7=((((w5.setCell ⟨g5,n*4,none⟩ (.string ⟨#[100,105,118]⟩)).setCell ⟨g5,n*4+1,none⟩ (.string ⟨#[]⟩)).setCell ⟨g5,n*4+2,none⟩ (.slice a2 2 c2)).setCell ⟨g5,n*4+3,none⟩ (.slice a3 n3 c3)).setCell ⟨Bb,0,none⟩ (.slice (some ⟨g5,0,none⟩) (n+1) c5):=⟨_,rfl⟩;rw [<- hw7] at dH;rw [<- hw7];have pV:=hid dH;clear hw7 dH bS;go_wp2
     go_end0
     exact ⟨rfl,pV.out⟩
    ·go_simp;refine hK.out _ _ (fun h=>absurd rfl h) (fun _=>?_);clear hK KQ hH;try simp only [Act.put,jc3,jc4,jc5]
     refine q01 (i:=16) rfl (by kernel_rfl) (fun KQ hK=>?_);go_simp;refine hK.out _ _ (fun _ h=>absurd h (by decide)) (fun _=>?_);clear hK KQ;try simp only [Act.put,jc3,jc4,jc5]
     refine rQ (by kernel_rfl) ?_ _;have hsw:=Jl w5 Bb g5 (n*4) (.slice (some ⟨g5,0,none⟩) (n+1) c5) (.string ⟨#[100,105,118]⟩) (.string ⟨#[]⟩) (.slice a2 2 c2) (.slice a3 n3 c3) hBg;simp only [fO] at hsw;rw [hsw];clear hsw;clear S5 S6 y0' y1' y2' zS yf u0 u1 u2 u3 uf uG z5 zT z6 t0 t1 t2 t3;have dH:=bS.out;simp only [fO] at dH;obtain ⟨w7,hw7⟩:∃ w7,w7=((((w5.setCell ⟨g5,n*4,none⟩ (.string ⟨#[100,105,118]⟩)).setCell ⟨g5,n*4+1,none⟩ (.string ⟨#[]⟩)).setCell ⟨g5,n*4+2,none⟩ (.slice a2 2 c2)).setCell ⟨g5,n*4+3,none⟩ (.slice a3 n3 c3)).setCell ⟨Bb,0,none⟩ (.slice (some ⟨g5,0,none⟩) (n+1) c5):=⟨_,rfl⟩;rw [<- hw7] at dH;rw [<- hw7];have pV:=hid dH;clear hw7 dH bS;go_wp2
     go_end0
     exact ⟨rfl,pV.out⟩
   ·go_simp;refine hK.out _ _ (fun h=>absurd rfl h) (fun _=>?_);clear hK KQ hH;try simp only [Act.put,jc3,jc4,jc5]
    refine q01 (i:=15) rfl (by kernel_rfl) (fun KQ hK=>?_);go_simp;refine hK.out _ _ (fun _ h=>absurd h (by decide)) (fun _=>?_);clear hK KQ;try simp only [Act.put,jc3,jc4,jc5]
    refine q01 (i:=16) rfl (by kernel_rfl) (fun KQ hK=>?_);go_simp;refine hK.out _ _ (fun _ h=>absurd h (by decide)) (fun _=>?_);clear hK KQ;try simp only [Act.put,jc3,jc4,jc5]
    refine rQ (by kernel_rfl) ?_ _;have hsw:=Jl w5 Bb g5 (n*4) (.slice (some ⟨g5,0,none⟩) (n+1) c5) (.string ⟨#[100,105,118]⟩) (.string ⟨#[]⟩) (.slice a2 2 c2) (.slice a3 n3 c3) hBg;simp only [fO] at hsw;rw [hsw];clear hsw;clear S5 S6 y0' y1' y2' zS yf u0 u1 u2 u3 uf uG z5 zT z6 t0 t1 t2 t3;have dH:=bS.out;simp only [fO] at dH;obtain ⟨w7,hw7⟩:∃ w7,w7=((((w5.setCell ⟨g5,n*4,none⟩ (.string ⟨#[100,105,118]⟩)).setCell ⟨g5,n*4+1,none⟩ (.string ⟨#[]⟩)).setCell ⟨g5,n*4+2,none⟩ (.slice a2 2 c2)).setCell ⟨g5,n*4+3,none⟩ (.slice a3 n3 c3)).setCell ⟨Bb,0,none⟩ (.slice (some ⟨g5,0,none⟩) (n+1) c5):=⟨_,rfl⟩;rw [<- hw7] at dH;rw [<- hw7];have pV:=hid dH;clear hw7 dH bS;go_wp2
    go_end0
    exact ⟨rfl,pV.out⟩
 ·go_simp;obtain ⟨y1,hN⟩:∃ z,z=y0.alloc (.cells [Value.string ⟨#[]⟩,.string ⟨#[]⟩,.slice none 0 0,.slice none 0 0].toArray 43):=⟨_,rfl⟩;obtain ⟨pz,hf⟩:∃ z,z=y0.heap.size:=⟨_,rfl⟩;have zP:=(aI.one (T:=43) (k:=4) (w:=y0) (d:=D6.d) (r:=[Value.string ⟨#[]⟩,.string ⟨#[]⟩,.slice none 0 0,.slice none 0 0]) rfl (Nd.fK ⟨#[]⟩ ⟨#[]⟩ ⟨Rd.ay _ _ _,Rd.ay _ _ _⟩)).eD;rw [<- hN,<- hf] at zP;have UO:=hid (show Rd (W0.heap.size<=·) y1 (.sl 4 [D6.d]) [.slice (some ⟨pz,0,none⟩) 1 1] from zP.weaken (fun b (hb:pz<=b)=>by have:=Kq.out.size;omega));have bN:jfj y0.heap.size y0 y1:=by rw [hN];exact (jc7 _ _).alloc (jc8 _) _
  rw [<- hN,<- hf];clear hN hf zP;have uS:Hid (jfj W0.heap.size W0 y1):=Kq.out.trans (bN.mono Kq.out.size);clear bN;refine hK.out _ _ (fun _ _=>SF.out y1 uS.out) (fun hH2=>?_);clear hK KQ hH;have hH:=hH2 (by decide) (by kernel_rfl);clear hH2;try simp only [Act.put,jc3,jc4,jc5]
  refine q01 (i:=6) rfl (by kernel_rfl) (fun KQ hK=>?_);go_simp;obtain ⟨y2,hN⟩:∃ z,z=y1.alloc (.cells ([⟨#[105,100]⟩,⟨#[110,111,116,101,45]⟩++i,⟨#[99,108,97,115,115]⟩,⟨#[110,111,116,101]⟩].map Value.string).toArray 9):=⟨_,rfl⟩;obtain ⟨p6,hf⟩:∃ z,z=y1.heap.size:=⟨_,rfl⟩;have Ru:=pQ [⟨#[105,100]⟩,⟨#[110,111,116,101,45]⟩++i,⟨#[99,108,97,115,115]⟩,⟨#[110,111,116,101]⟩] y1 (by show 4<=maxLen;unfold maxLen;decide);rw [<- hN,<- hf] at Ru;have Ku:=hid (show Rd (·<y2.heap.size) y2 (jv (l7 [⟨jX,xD++i⟩,⟨eY,dG⟩])) [.slice (some ⟨p6,0,none⟩) 4 4] from Ru);have bN:jfj y1.heap.size y1 y2:=by rw [hN];exact (jc7 _ _).alloc (jc8 _) _
  simp only [List.map_cons,List.map_nil] at hN;rw [<- hN,<- hf];clear hN hf Ru;have lH:Hid (jfj W0.heap.size W0 y2):=uS.out.trans (bN.mono uS.out.size);have Kt:=hid (UO.out.aZ bN);clear bN;refine hK.out _ _ (fun _ _=>SF.out y2 lH.out) (fun hH2=>?_);clear hK KQ hH;have hH:=hH2 (by decide) (by kernel_rfl);clear hH2;try simp only [Act.put,jc3,jc4,jc5]
  refine q01 (i:=7) rfl (by kernel_rfl) (fun KQ hK=>?_);go_simp;go_at_call 58
  (with_reducible refine (iW [⟨jX,xD++i⟩,⟨eY,dG⟩] (.slice (some ⟨p6,0,none⟩) 4 4) y2 Ku.out (by simp)).mono ?_)
  rintro e y3 ⟨bg,v2,rfl,hrow2⟩;obtain ⟨a2,c2,rfl,-,-⟩:=hrow2.cap (n:=2) rfl;have bN:=hrow2.aJ;have rX:=hid (show Rd (W0.heap.size<=·) y3 (dQ [⟨jX,xD++i⟩,⟨eY,dG⟩]) [.slice a2 2 c2] from hrow2.eD.weaken (fun b hb=>jc9 lH.out.size hb));clear hrow2;have iA:Hid (jfj W0.heap.size W0 y3):=lH.out.trans (bN.mono lH.out.size);have CZ:=hid (Kt.out.aZ bN);clear bN;refine hK.out _ _ (fun _ _=>SF.out y3 iA.out) (fun hH2=>?_);clear hK KQ hH;have hH:=hH2 (by decide) (by kernel_rfl);clear hH2;try simp only [Act.put,jc3,jc4,jc5]
  refine q01 (i:=10) rfl (by kernel_rfl) (fun KQ hK=>?_);go_simp;go_at_call 55
  (with_reducible refine (KC.out y3 iA.out).mono ?_)
  rintro e y4 ⟨dD,v3,rfl,hrow3⟩;obtain ⟨a3,n3,c3,rfl⟩:=hrow3.slice3;have bN:=hrow3.aJ;have uU:=hid (show Rd (W0.heap.size<=·) y4 (bU (au.aR ks)) [.slice a3 n3 c3] from hrow3.eD.weaken (fun b hb=>jc9 iA.out.size hb));clear hrow3;have j4:Hid (jfj W0.heap.size W0 y4):=iA.out.trans (bN.mono iA.out.size);have uT:=hid (CZ.out.aZ bN);have uV:=hid (rX.out.aZ bN);clear bN;refine hK.out _ _ (fun _ _=>SF.out y4 j4.out) (fun hH2=>?_);clear hK KQ hH;have hH:=hH2 (by decide) (by kernel_rfl);clear hH2;try simp only [Act.put,jc3,jc4,jc5]
  refine q01 (i:=11) rfl (by kernel_rfl) (fun KQ hK=>?_);go_simp;go_at_call 57
  (with_reducible refine (gL ⟨#[100,105,118]⟩ a2 a3 2 n3 c2 c3 y4).mono ?_)
  rintro e y5 ⟨rfl,bN⟩;have pU:=hid (show Rd (W0.heap.size<=·) y5 (aL jS [⟨jX,xD++i⟩,⟨eY,dG⟩] (au.aR ks)).d [.string ⟨#[100,105,118]⟩,.string ⟨#[]⟩,.slice a2 2 c2,.slice a3 n3 c3] from Nd.fK ⟨#[100,105,118]⟩ ⟨#[]⟩ ⟨uV.out.aZ bN,uU.out.aZ bN⟩);have dS:Hid (jfj W0.heap.size W0 y5):=j4.out.trans (bN.mono j4.out.size);have pR:=hid (uT.out.aZ bN);clear bN;refine hK.out _ _ (fun _ _=>SF.out y5 dS.out) (fun hH2=>?_);clear hK KQ hH;have hH:=hH2 (by decide) (by kernel_rfl);clear hH2;try simp only [Act.put,jc3,jc4,jc5]
  refine q01 (i:=14) rfl (by kernel_rfl) (fun KQ hK=>?_);refine fV (n:=n) (m:=1) rfl (.tmp 5) (.tmp 16) 34 rfl iN _ 80 Tryz.underlying34 wG jh ji jk rfl (by decide) (aY.out.below (B0.out.trans (dS.out.mono B0.out.size))) (fun _=>False.elim) (.slice (some ⟨pz,0,none⟩) 1 1) (pR.out.weaken (fun b (hb:W0.heap.size<=b)=>.inr (by have:=B0.out.size;omega))) (fun rs ok' h=>mY [D6] rs ok' _ h) HM.out rfl (by omega) (by decide) rfl rfl ?_;intro a5 c5 nQ w5 aN hg5 lZ;obtain ⟨g5,cap5,GL,-⟩:=gI aN.own (by simp);obtain ⟨rfl,rfl⟩:a5=some ⟨g5,0,none⟩/\c5=cap5:=by injection GL with h1 h2 h3;exact ⟨h1,h3⟩
  obtain ⟨zR,z0,z1,z2,z3,rfl,-⟩:=aN.jQ;have hat:(Value.slice av n cv).ownBlock=some g5\/g5=y5.heap.size:=by
   rcases lZ with h | h
   ·exact .inl (h.symm.trans rfl)
   ·refine .inr ?_;have e:g5=y5.heap.size:=by simpa [Value.ownBlock] using h
    exact e
  have hzy:=dS.out.size;have hg:(N0<=g5/\g5<S)\/g5=y5.heap.size:=hat.imp (fun h=>pq.out g5 h) id;have hBg:Bb≠g5:=by have:=Z0.out;omega
  have wJ:S≠g5:=by have:=Z0.out;omega
  have fG:∀ b,b=Bb\/b=S->some b≠(Value.slice av n cv).ownBlock:=fun b hb e=>by have:=pq.out b e.symm;omega
  obtain ⟨s1,s2,s3⟩:=SF.out y5 dS.out;have S5:w5.cell? ⟨Bb,0,none⟩=some (.slice av n cv)/\w5.cell? ⟨S,2,none⟩=some (.string i)/\w5.cell? ⟨S,10,none⟩=some (.slice ak nk ck):=
   ⟨(fJ (hg5.block Bb (by have:=Z0.out;omega) (fG Bb (.inl rfl))) 0).trans s1,(fJ (hg5.block S (by have:=Z0.out;omega) (fG S (.inr rfl))) 2).trans s2,(fJ (hg5.block S (by have:=Z0.out;omega) (fG S (.inr rfl))) 10).trans s3⟩
  have pE:aF Bb (.slice av n cv) 84 w5:=(hg5.block Bb (by have:=Z0.out;omega) (fG Bb (.inl rfl))).trans (((jJ.out.below (by have:=HS.out;omega) B0.out)).below (B:=W0.heap.size) (by have:=Z0.out;omega) dS.out);obtain ⟨y0',y1',y2',zS,yf⟩:=aN.lg HM.out;have uG:=pE.free;have z5:=pE.cell;obtain ⟨wZ,JV,gK⟩:=aN.hop2 (p:=Bb) (by have:=Jo.out;omega) (show w5.grownBy (w5.setCell ⟨Bb,0,none⟩ (.slice (some ⟨g5,0,none⟩) (n+1) c5)) (some Bb) from ⟨rfl,rfl,rfl,by simp [je1],fun b _ hb=>jd1 w5 ⟨Bb,0,none⟩ _ b (fun e=>hb (by rw [e]))⟩);obtain ⟨u0,u1,u2,u3,uf⟩:=gK.lg HM.out;have hF:=gM (x:=(aL jS [⟨jX,xD++i⟩,⟨eY,dG⟩] (au.aR ks))) (.string ⟨#[100,105,118]⟩) (.string ⟨#[]⟩) (.slice a2 2 c2) (.slice a3 n3 c3) Jo.out hB aY.out jJ.out (B0.out.trans (dS.out.mono B0.out.size)) aN hg5 HM.out hat (pU.out.weaken (fun b (hb:W0.heap.size<=b)=>jc9 B0.out.size hb));have bS:=hid hF;have zC:aF Bb (.slice av n cv) 84 ((((w5.setCell ⟨g5,n*4,none⟩ (.string ⟨#[100,105,118]⟩)).setCell ⟨g5,n*4+1,none⟩ (.string ⟨#[]⟩)).setCell ⟨g5,n*4+2,none⟩ (.slice a2 2 c2)).setCell ⟨g5,n*4+3,none⟩ (.slice a3 n3 c3)):=(Jk w5 g5 (n*4) (.string ⟨#[100,105,118]⟩) (.string ⟨#[]⟩) (.slice a2 2 c2) (.slice a3 n3 c3) Bb hBg).trans pE;have S6:je0 ((((w5.setCell ⟨g5,n*4,none⟩ (.string ⟨#[100,105,118]⟩)).setCell ⟨g5,n*4+1,none⟩ (.string ⟨#[]⟩)).setCell ⟨g5,n*4+2,none⟩ (.slice a2 2 c2)).setCell ⟨g5,n*4+3,none⟩ (.slice a3 n3 c3)) ⟨Bb,0,none⟩=some (.slice av n cv)/\je0 ((((w5.setCell ⟨g5,n*4,none⟩ (.string ⟨#[100,105,118]⟩)).setCell ⟨g5,n*4+1,none⟩ (.string ⟨#[]⟩)).setCell ⟨g5,n*4+2,none⟩ (.slice a2 2 c2)).setCell ⟨g5,n*4+3,none⟩ (.slice a3 n3 c3)) ⟨S,2,none⟩=some (.string i)/\je0 ((((w5.setCell ⟨g5,n*4,none⟩ (.string ⟨#[100,105,118]⟩)).setCell ⟨g5,n*4+1,none⟩ (.string ⟨#[]⟩)).setCell ⟨g5,n*4+2,none⟩ (.slice a2 2 c2)).setCell ⟨g5,n*4+3,none⟩ (.slice a3 n3 c3)) ⟨S,10,none⟩=some (.slice ak nk ck):=⟨xW S5.1 hBg,xW S5.2.1 wJ,xW S5.2.2 wJ⟩;have zT:=zC.free;have z6:=S6.1;have t0:(0:Int)<=(n:Int):=by omega
  have t1:(n:Int)<((n+1:Nat):Int):=by omega
  have t2:(n:Int)<(n:Int)+1:=by omega
  have t3:n<n+1:=by omega
  clear gK JV pE zC aN hg5 lZ GL fG s1 s2 s3 hF hat hg;refine hK.out _ _ (fun _ _=>S5) (fun hH2=>?_);clear hK KQ hH;have hH:=hH2 (by decide) (by kernel_rfl);clear hH2;try simp only [Act.put,jc3,jc4,jc5]
  refine lY (i:=17) (v:=?_) rfl (by kernel_rfl) (by kernel_rfl) (by kernel_rfl) (by kernel_rfl) (by kernel_rfl) (fun _ _ _ h=>h) hH (Or.inl ⟨by rfl,?_⟩) ?_;rotate_left
  ·(intro wv hSw;obtain ⟨cb,c2,c10⟩:=hSw;go_simp;try with_reducible rfl)
  try simp only [Act.put,jc3,jc4,jc5]
  refine lY (i:=18) (v:=?_) rfl (by kernel_rfl) (by kernel_rfl) (by kernel_rfl) (by kernel_rfl) (by kernel_rfl) (fun _ _ _ h=>h) hH (Or.inl ⟨by rfl,?_⟩) ?_;rotate_left
  ·(intro wv hSw;obtain ⟨cb,c2,c10⟩:=hSw;go_simp;try with_reducible rfl)
  try simp only [Act.put,jc3,jc4,jc5]
  refine xw (i:=15) (j:=19) rfl rfl (by kernel_rfl) (fun KQ hK=>?_) (fun KQ hK=>?_)
  ·go_simp;refine hK.out _ _ (fun _ _=>S5) (fun hH2=>?_);clear hK KQ hH;have hH:=hH2 (by decide) (by kernel_rfl);clear hH2;try simp only [Act.put,jc3,jc4,jc5]
   refine xw (i:=16) (j:=19) rfl rfl (by kernel_rfl) (fun KQ hK=>?_) (fun KQ hK=>?_)
   ·go_simp;refine hK.out _ _ (fun _ _=>S6) (fun hH2=>?_);clear hK KQ hH;have hH:=hH2 (by decide) (by kernel_rfl);clear hH2;try simp only [Act.put,jc3,jc4,jc5]
    refine q01 (i:=19) rfl (by kernel_rfl) (fun KQ hK=>?_);go_simp;refine hK.out _ _ (fun h=>absurd rfl h) (fun _=>?_);clear hK KQ hH;try simp only [Act.put,jc3,jc4,jc5]
    refine rQ (by kernel_rfl) ?_ _;clear S5 S6 y0' y1' y2' zS yf u0 u1 u2 u3 uf uG z5 zT z6 t0 t1 t2 t3;have dH:=bS.out;simp only [fO] at dH;obtain ⟨w7,hw7⟩:∃ w7,w7=((((w5.setCell ⟨g5,n*4,none⟩ (.string ⟨#[100,105,118]⟩)).setCell ⟨g5,n*4+1,none⟩ (.string ⟨#[]⟩)).setCell ⟨g5,n*4+2,none⟩ (.slice a2 2 c2)).setCell ⟨g5,n*4+3,none⟩ (.slice a3 n3 c3)).setCell ⟨Bb,0,none⟩ (.slice (some ⟨g5,0,none⟩) (n+1) c5):=⟨_,rfl⟩;rw [<- hw7] at dH;rw [<- hw7];have pV:=hid dH;clear hw7 dH bS;go_wp2
    go_end0
    exact ⟨rfl,pV.out⟩
   ·go_simp;refine hK.out _ _ (fun h=>absurd rfl h) (fun _=>?_);clear hK KQ hH;try simp only [Act.put,jc3,jc4,jc5]
    refine q01 (i:=16) rfl (by kernel_rfl) (fun KQ hK=>?_);go_simp;refine hK.out _ _ (fun _ h=>absurd h (by decide)) (fun _=>?_);clear hK KQ;try simp only [Act.put,jc3,jc4,jc5]
    refine rQ (by kernel_rfl) ?_ _;have hsw:=Jl w5 Bb g5 (n*4) (.slice (some ⟨g5,0,none⟩) (n+1) c5) (.string ⟨#[100,105,118]⟩) (.string ⟨#[]⟩) (.slice a2 2 c2) (.slice a3 n3 c3) hBg;simp only [fO] at hsw;rw [hsw];clear hsw;clear S5 S6 y0' y1' y2' zS yf u0 u1 u2 u3 uf uG z5 zT z6 t0 t1 t2 t3;have dH:=bS.out;simp only [fO] at dH;obtain ⟨w7,hw7⟩:∃ w7,w7=((((w5.setCell ⟨g5,n*4,none⟩ (.string ⟨#[100,105,118]⟩)).setCell ⟨g5,n*4+1,none⟩ (.string ⟨#[]⟩)).setCell ⟨g5,n*4+2,none⟩ (.slice a2 2 c2)).setCell ⟨g5,n*4+3,none⟩ (.slice a3 n3 c3)).setCell ⟨Bb,0,none⟩ (.slice (some ⟨g5,0,none⟩) (n+1) c5):=⟨_,rfl⟩;rw [<- hw7] at dH;rw [<- hw7];have pV:=hid dH;clear hw7 dH bS;go_wp2
    go_end0
    exact ⟨rfl,pV.out⟩
  ·go_simp;refine hK.out _ _ (fun h=>absurd rfl h) (fun _=>?_);clear hK KQ hH;try simp only [Act.put,jc3,jc4,jc5]
   refine q01 (i:=15) rfl (by kernel_rfl) (fun KQ hK=>?_);go_simp;refine hK.out _ _ (fun _ h=>absurd h (by decide)) (fun _=>?_);clear hK KQ;try simp only [Act.put,jc3,jc4,jc5]
   refine q01 (i:=16) rfl (by kernel_rfl) (fun KQ hK=>?_);go_simp;refine hK.out _ _ (fun _ h=>absurd h (by decide)) (fun _=>?_);clear hK KQ;try simp only [Act.put,jc3,jc4,jc5]
   refine rQ (by kernel_rfl) ?_ _;have hsw:=Jl w5 Bb g5 (n*4) (.slice (some ⟨g5,0,none⟩) (n+1) c5) (.string ⟨#[100,105,118]⟩) (.string ⟨#[]⟩) (.slice a2 2 c2) (.slice a3 n3 c3) hBg;simp only [fO] at hsw;rw [hsw];clear hsw;clear S5 S6 y0' y1' y2' zS yf u0 u1 u2 u3 uf uG z5 zT z6 t0 t1 t2 t3;have dH:=bS.out;simp only [fO] at dH;obtain ⟨w7,hw7⟩:∃ w7,w7=((((w5.setCell ⟨g5,n*4,none⟩ (.string ⟨#[100,105,118]⟩)).setCell ⟨g5,n*4+1,none⟩ (.string ⟨#[]⟩)).setCell ⟨g5,n*4+2,none⟩ (.slice a2 2 c2)).setCell ⟨g5,n*4+3,none⟩ (.slice a3 n3 c3)).setCell ⟨Bb,0,none⟩ (.slice (some ⟨g5,0,none⟩) (n+1) c5):=⟨_,rfl⟩;rw [<- hw7] at dH;rw [<- hw7];have pV:=hid dH;clear hw7 dH bS;go_wp2
   go_end0
   exact ⟨rfl,pV.out⟩
end Go.Proofs.YtclikfjalmcoaaaGreatDoor

