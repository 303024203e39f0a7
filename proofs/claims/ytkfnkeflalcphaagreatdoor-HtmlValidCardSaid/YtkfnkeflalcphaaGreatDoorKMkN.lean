/- Contracts of the reader of publisherref33: text, attr, node, where what is read lies there. -/
import Derived.Test.YtkfnkeflalcphaaGreatDoorKMkC
set_option maxHeartbeats 16000000
set_option maxRecDepth 100000
open Go.Lib (hid)
namespace Go.Proofs.YtkfnkeflalcphaaGreatDoor
open List renaming getElem?_eq_getElem->jnj,length_append->jo1,length_cons->jo3,mem_of_getElem?->jo8,cons_append->joj,append_assoc->jp2,take_length->jp3,length_take->jq9
open Go.RowKit.Below renaming refl->jnk,heap_setCell->jo5
open Nat renaming le_refl->jnq,le_trans->jnx
open Go renaming World->jqz
open Go.RowKit renaming Below->jr0
open Go.RowKit
set_option linter.unusedVariables false
set_option linter.unusedSimpArgs false
theorem FJ (w:jqz) (q:Nat) (c0 c1 c2 c3:Value):w.grownBy (dY w q c0 c1 c2 c3) (some q):=
 ⟨rfl,rfl,rfl,by simp [dY,World.setCell],fun k _ hk=>NK w q c0 c1 c2 c3 k (fun e=>hk (by rw [e]))⟩
theorem dP.own {p i q:Nat} {s:ByteArray} {w w1 w2:jqz} (h:dP p s i w w1) (hg:w1.grownBy w2 (some q)) (hq:w.heap.size<=q) (hp:q≠p):dP p s i w w2:=
 ⟨(hg.block p h.lt (fun e=>hp (by injection e with e;exact e.symm))).trans h.cb,h.gr.andThen hg (fun j hj=>by cases hj;exact .inl hq)⟩
theorem dP.pl {p i:Nat} {s:ByteArray} {w w1:jqz} (h:dP p s i w w1) (hp:p<w.heap.size) {T:TypeId} {q:Nat} {cs:List Value} (hc:CB T q cs w) (hq:q≠p):CB T q cs w1:=
 (h.gr.block q hc.lt (fun e=>hq (by injection e))).trans hc
theorem xQ {T:TypeId} {q:Nat} {cs:List Value} {y1 w9:jqz} {o:Obj} {row:Option Nat} (hc:CB T q cs y1) (hg:(y1.alloc o).grownBy w9 row) (hne:row≠some q):CB T q cs w9:=
 (hg.block q (by rw [World.size_alloc];have:=hc.lt;omega) (fun e=>hne e.symm)).trans (hc.below ((jnk _ _).alloc (jnq _) _))
theorem dP.app {p i:Nat} {s:ByteArray} {w y1 w9:jqz} {o:Obj} {row:Option Nat} (h:dP p s i w y1) (hg:(y1.alloc o).grownBy w9 row) (hr:∀ g,row=some g->w.heap.size<=g/\g≠p):dP p s i w w9:=
 ⟨xQ h.cb hg (fun e=>(hr p e).2 rfl),(h.alloc o).gr.andThen hg (fun j hj=>.inl (hr j hj).1)⟩
theorem TI (w:jqz) (q j:Nat) (u:Value):w.grownBy (w.setCell ⟨q,j,none⟩ u) (some q):=
 ⟨rfl,rfl,rfl,by simp [World.setCell],fun k _ hk=>jo5 w ⟨q,j,none⟩ _ k (fun e=>hk (by rw [e]))⟩
theorem Ba {T:TypeId} {k U:Nat} {ok:Nat->Prop} {w0 w:jqz} {ds:List D} {rows:List (List Value)} {v:Value} {n:Nat} {ops:Array Oper} {o:Oper} {a:Act} {K:Act->jqz->Prop} {Q:Exit->Act->jqz->Prop} {E:Prop} (hgd:o.guard=none) (s x:Operand) (t:TypeId) (ho:o.op=.call { callee:=.builtin .append,args:=#[s,x],argTypes:=#[t,t] }) (i:TypeInfo) (z:Value) (bytes:Nat) (ht:Tryz.prog.underlying t=some (.slice T)) (hi:Tryz.prog.info? T=some i) (hz:i.zero=some z) (hsize:i.size=k) (hby:i.bytes=bytes) (hzs:z.cells.size=k) (hsz:0<k) (h:aH T k ok U w0 ds rows v w) (hB:∀ b,ok b->b<w0.heap.size) (d:D) (r:List Value) (hx:Rd (fun b=>ok b\/U<=b) w d r) (hr:r.length=k) (h1:∀ u∈r,u.oneCell'=true) (hdn:ds.length=n) (hn:n<=1000000000000) (lI:bytes<=100) (hs:a.eval s=v) (hxe:a.eval x=.slice (some ⟨w.heap.size,0,none⟩) 1 1) (hK:∀ a' c' w',aH T k ok w'.heap.size w0 (ds++[d]) (rows++[r]) (.slice a' (n+1) c') w'->(w.alloc (.cells r.toArray T)).grownBy w' v.ownBlock->K (a.put o.dst (.slice a' (n+1) c')) w') : if Region.wanted o (yielded ops a.tmps)=true then Oper.wp Tryz.prog o a (w.alloc (.cells r.toArray T)) K Q else E:=by subst hdn;have hmul:(ds.length+1)*bytes<=140737488355328:=jnx (Nat.mul_le_mul (show ds.length+1<=1000000000001 by omega) lI) (by omega);refine step_append_lies _ hgd s x t ho w0.heap.size T i z k bytes ht hi hz hsize hby hzs hsz v ds.length rows.flatten hs (h.own.alloc _) ⟨w.heap.size,0,none⟩ 1 1 r hxe (by omega) (Om w r T) h1 (by omega) (by unfold maxLen;omega) hmul (by have:=h.aN.size;simp;omega) (w.heap.size+1) (by simp) ?_;intro g cap w' hown hg hat _;refine hK _ _ w' ?_ hg;refine h.put hB (bE:=[r]) (es:=[d]) (aQ.one (Rd.keep (fun b hb hlt=>⟨hb,Below.heap_alloc w _ b hlt⟩) _ _ hx)) (by simp [hr]) (World.grownBy_alloc w _ none) (by simpa using hown) hg (hat.elim (fun e=>.inl (by rw [e];rfl)) (fun e=>.inr (by rw [e];simp [Value.ownBlock])))
theorem L9 (p:Nat) (s t:ByteArray) (i:Nat) (m:List UInt8) (kid:Bool) (w:jqz) (h:CB 109 p [.string s,.int .i64 i,.int .i64 0] w) (hat:fI s i (q24 t.data.toList++60::m)) (hv:fJ t=true) (ht:t.size<=1000000000) (hs:s.size<=10000000000000) : Calls Tryz.prog 123 #[.pointer (some ⟨p,0,none⟩),.bool kid] w (vC p s (i+(q24 t.data.toList).length) (.agg #[.string ⟨#[]⟩,.string t,.slice none 0 0,.slice none 0 0]) w):=by
 have En:Hid (dP p s i w w):=dP.start h;have hpw:=En.out.lt;obtain ⟨j,hj⟩:∃ j,j=i+(q24 t.data.toList).length:=⟨_,rfl⟩;have hl:=hat.len;rw [jo1,jo3] at hl;have hel:=iQ t.data.toList;rw [nD] at hel;obtain ⟨E,hE⟩:∃ E,E=nY t:=⟨_,rfl⟩;have hx:s.extract i j=E:=by rw [hj,hat.cut,hE];rfl
 have hEs:E.size<=10000000000:=by rw [hE];unfold nY;rw [mM];omega
 have UC:Hid (∀ W,CB 109 p [.string s,.int .i64 i,.int .i64 0] W->Calls Tryz.prog 158 #[.pointer (some ⟨p,0,none⟩),.int .u8 60] W (vC p s i (.int .i64 (j:Int)) W)):=fun W hW=>by
  rw [hj];exact A8 p s 60 i (q24 t.data.toList) m W hW hat (fun b hb=>(Df _ b hb).1) hs
 have VC:Hid (∀ W,Calls Tryz.prog 64 #[.string E] W (bX (.bool true) W)):=fun W=>by
  have h1:=qj E W hEs;rw [hE] at h1 ⊢;rw [Bc t hv] at h1;exact h1
 have WC:Hid (∀ W,Calls Tryz.prog 159 #[.pointer (some ⟨p,0,none⟩),.string E] W fun e w'=>e=.returned (.string t)/\jr0 W.heap.size W w'):=fun W=>by
  rw [hE];exact Kq _ t W ht
 have hij:i<=j:=by omega
 have hjs:j<=s.size:=by omega
 rw [<- hj];obtain ⟨R,hR⟩:∃ R,R=w.heap.size:=⟨_,rfl⟩;obtain ⟨W0,hW0⟩:∃ W0,W0=w.alloc (.cells #[.string ⟨#[]⟩,.string ⟨#[]⟩,.slice none 0 0,.slice none 0 0] 35):=⟨_,rfl⟩;have k0:CB 35 R fP W0:=by rw [hW0,hR];exact CB.new _ _ w
 have JZ:Hid (dP p s i w W0):=by rw [hW0];exact En.out.alloc _
 have su:R≠p:=by omega
 have HRW:Hid (w.heap.size<=R):=by show _<=_;omega
 have UC0:=hid (UC.out W0 JZ.out.cb);have K0:=hid k0;have jhq:Hid (p<W0.heap.size):=JZ.out.lt;clear h hat hv ht hj hl hel hE hEs k0 En;go_enter Tryz.func123,Tryz.ntmps123;go_upto_region 1 with (fail)
 rw [<- hW0,<- hR];clear hW0 hR;go_wp2_with fail
 (with_reducible refine UC0.out.mono ?_)
 rintro e w1 ⟨rfl,h1⟩;have ET:=hid (JZ.out.trans h1);have K1:=hid (h1.pl jhq.out K0.out su);have q1:decide ((j:Int)<(0:Int))=false:=by rw [decide_eq_false_iff_not];omega
 have XR:Hid (∀ W:jqz,jr0 w1.heap.size w1 W->W.cell? ⟨p,0,none⟩=some (.string s)/\W.cell? ⟨p,1,none⟩=some (.int .i64 (i:Int))):=fun W hW=>⟨(ET.out.cb.below hW).cell 0 _ rfl,(ET.out.cb.below hW).cell 1 _ rfl⟩
 clear h1 UC0;go_upto_region 6 with (fail)
 refine M4 11 (fun w'=>jr0 w1.heap.size w1 w') (by kernel_rfl) (jnk _ _).drew ?_;intro hH;refine dw 0 rfl (by kernel_rfl) hH (by rfl) (by intro wv hSw;go_simp;try with_reducible rfl) ?_;refine dw 1 rfl (by kernel_rfl) hH (by rfl) (by intro wv hSw;go_simp;try with_reducible rfl) ?_;refine dw 2 rfl (by kernel_rfl) hH (by rfl) (by intro wv hSw;go_simp;try with_reducible rfl) ?_;refine dw 3 rfl (by kernel_rfl) hH (by rfl) (by intro wv hSw;obtain ⟨d0,d1⟩:=XR.out wv hSw;go_simp;try with_reducible rfl) ?_;refine dw 4 rfl (by kernel_rfl) hH (by rfl) (by intro wv hSw;go_simp;try with_reducible rfl) ?_;refine dw 5 rfl (by kernel_rfl) hH (by rfl) (by intro wv hSw;go_simp;try with_reducible rfl) ?_;refine dw 6 rfl (by kernel_rfl) hH (by rfl) (by intro wv hSw;go_simp;try with_reducible rfl) ?_;refine dw 7 rfl (by kernel_rfl) hH (by rfl) (by intro wv hSw;obtain ⟨d0,d1⟩:=XR.out wv hSw;go_simp;try with_reducible rfl) ?_;refine dw 8 rfl (by kernel_rfl) hH (by rfl) (by intro wv hSw;go_simp;try with_reducible rfl) ?_;refine dw 9 rfl (by kernel_rfl) hH (by rfl) (by intro wv hSw;go_simp;try with_reducible rfl) ?_;refine dO (i:=10) rfl (by kernel_rfl) (fun KQ hK=>?_);go_simp;go_at_call 64
 (with_reducible refine (VC.out _).mono ?_)
 rintro e w2 ⟨rfl,b2⟩;have hH1:=aU hH b2;refine hK.out _ _ (fun _ _=>hH1) (fun hH2=>?_);clear b2 hH1;clear hK KQ hH;have hH:=hH2 (by decide) (by kernel_rfl);clear hH2;refine dO (i:=11) rfl (by kernel_rfl) (fun KQ hK=>?_);go_simp;refine hK.out _ _ (fun h=>absurd rfl h) (fun _=>?_);clear hK KQ;refine Fx (by kernel_rfl) ?_ _;have HS2:=hid (ET.out.far (zx hH));have K2:=hid (K1.out.below hH);have XS:Hid (∀ W:jqz,jr0 w2.heap.size w2 W->W.cell? ⟨p,0,none⟩=some (.string s)/\W.cell? ⟨p,1,none⟩=some (.int .i64 (i:Int))):=fun W hW=>⟨(HS2.out.cb.below hW).cell 0 _ rfl,(HS2.out.cb.below hW).cell 1 _ rfl⟩
 clear hH;go_upto_region 8 with (fail)
 go_cut [6] (fun s6 wx=>∃ q,s6=.pointer (some ⟨q,0,none⟩)/\w2.heap.size<=q/\CB 35 q [.string ⟨#[]⟩,.string t,.slice none 0 0,.slice none 0 0] wx/\jr0 w2.heap.size w2 wx)
 case first=>
  refine M4 14 (fun w'=>jr0 w2.heap.size w2 w') (by kernel_rfl) (jnk _ _).drew ?_;intro hH;refine dw 0 rfl (by kernel_rfl) hH (by rfl) (by intro wv hSw;go_simp;try with_reducible rfl) ?_;refine dw 1 rfl (by kernel_rfl) hH (by rfl) (by intro wv hSw;go_simp;try with_reducible rfl) ?_;refine dw 2 rfl (by kernel_rfl) hH (by rfl) (by intro wv hSw;go_simp;try with_reducible rfl) ?_;refine dw 3 rfl (by kernel_rfl) hH (by rfl) (by intro wv hSw;go_simp;try with_reducible rfl) ?_;refine dw 4 rfl (by kernel_rfl) hH (by rfl) (by intro wv hSw;obtain ⟨d0,d1⟩:=XS.out wv hSw;go_simp;try with_reducible rfl) ?_;refine dw 5 rfl (by kernel_rfl) hH (by rfl) (by intro wv hSw;go_simp;try with_reducible rfl) ?_;refine dw 6 rfl (by kernel_rfl) hH (by rfl) (by intro wv hSw;go_simp;try with_reducible rfl) ?_;refine dw 7 rfl (by kernel_rfl) hH (by rfl) (by intro wv hSw;go_simp;try with_reducible rfl) ?_;refine dw 8 rfl (by kernel_rfl) hH (by rfl) (by intro wv hSw;obtain ⟨d0,d1⟩:=XS.out wv hSw;go_simp;try with_reducible rfl) ?_;refine dw 9 rfl (by kernel_rfl) hH (by rfl) (by intro wv hSw;go_simp;try with_reducible rfl) ?_;refine dw 10 rfl (by kernel_rfl) hH (by rfl) (by intro wv hSw;go_simp;try with_reducible rfl) ?_;obtain ⟨y,hy0⟩:∃ y,y=w2.drew:=⟨_,rfl⟩;rw [<- hy0] at hH;rw [<- hy0];clear hy0;refine J7 (i:=11) (j:=13) rfl rfl (by decide +kernel) (fun KQ hK=>?_) (fun KQ hK=>?_)
  ·go_simp;go_at_call 159
   (with_reducible refine (WC.out _).mono ?_)
   rintro e y ⟨rfl,b2⟩;have hH1:=aU hH b2;refine hK.out _ _ (fun _ _=>hH1) (fun hH2=>?_);clear b2 hH1;clear hK KQ hH;have hH:=hH2 (by decide) (by kernel_rfl);clear hH2;refine dw 12 rfl (by kernel_rfl) hH (by rfl) (by intro wv hSw;go_simp;try with_reducible rfl) ?_;refine dO (i:=13) rfl (by kernel_rfl) (fun KQ hK=>?_);go_simp;obtain ⟨q,hf⟩:∃ q,q=y.heap.size:=⟨_,rfl⟩;have Zm:w2.heap.size<=q:=by rw [hf];exact hH.size
   have hkq:=CB.new 35 fP y;have hH1:jr0 w2.heap.size w2 (y.alloc (.cells fP.toArray 35)):=hH.alloc hH.size _;obtain ⟨y,hN⟩:∃ y2,y2=y.alloc (.cells #[.string ⟨#[]⟩,.string ⟨#[]⟩,.slice none 0 0,.slice none 0 0] 35):=⟨_,rfl⟩;have hkq:CB 35 q fP y:=by rw [hN,hf];exact hkq
   have hH1:jr0 w2.heap.size w2 y:=by rw [hN];exact hH1
   rw [<- hN,<- hf];clear hN hf;refine hK.out _ _ (fun _ _=>hH1) (fun hH2=>?_);clear hH1;clear hK KQ hH;have hH:=hH2 (by decide) (by kernel_rfl);clear hH2;refine dO (i:=14) rfl (by kernel_rfl) (fun KQ hK=>?_);have hc:=oC hkq;obtain ⟨x0,x1,x2,x3,xf⟩:=hc;go_simp;have HX:Hid (∃ q',(Value.pointer (some ⟨q,0,none⟩))=.pointer (some ⟨q',0,none⟩)/\w2.heap.size<=q'/\CB 35 q' [.string ⟨#[]⟩,.string t,.slice none 0 0,.slice none 0 0] (dY y q (.string ⟨#[]⟩) (.string t) (.slice none 0 0) (.slice none 0 0))/\jr0 w2.heap.size w2 (dY y q (.string ⟨#[]⟩) (.string t) (.slice none 0 0) (.slice none 0 0))):=⟨q,rfl,Zm,jo hkq _ _ _ _,mF hH Zm _ _ _ _⟩;clear x0 x1 x2 x3 xf hkq;refine hK.out _ _ (fun h=>absurd rfl h) (fun _=>?_);clear hK KQ hH;refine Fx (by kernel_rfl) ?_ _;go_wp2
   go_meet
   exact HX.out
  ·go_simp;obtain ⟨q,hf⟩:∃ q,q=y.heap.size:=⟨_,rfl⟩;have Zm:w2.heap.size<=q:=by rw [hf];exact hH.size
   have hkq:=CB.new 35 fP y;have hH1:jr0 w2.heap.size w2 (y.alloc (.cells fP.toArray 35)):=hH.alloc hH.size _;obtain ⟨y,hN⟩:∃ y2,y2=y.alloc (.cells #[.string ⟨#[]⟩,.string ⟨#[]⟩,.slice none 0 0,.slice none 0 0] 35):=⟨_,rfl⟩;have hkq:CB 35 q fP y:=by rw [hN,hf];exact hkq
   have hH1:jr0 w2.heap.size w2 y:=by rw [hN];exact hH1
   rw [<- hN,<- hf];clear hN hf;refine hK.out _ _ (fun _ _=>hH1) (fun hH2=>?_);clear hH1;clear hK KQ hH;have hH:=hH2 (by decide) (by kernel_rfl);clear hH2;refine dO (i:=11) rfl (by kernel_rfl) (fun KQ hK=>?_);go_simp;go_at_call 159
   (with_reducible refine (WC.out _).mono ?_)
   rintro e y ⟨rfl,b2⟩;have hH1:=aU hH b2;have hkq:=hkq.below b2;refine hK.out _ _ (fun _ _=>hH1) (fun hH2=>?_);clear b2 hH1;clear hK KQ hH;have hH:=hH2 (by decide) (by kernel_rfl);clear hH2;refine dw 12 rfl (by kernel_rfl) hH (by rfl) (by intro wv hSw;go_simp;try with_reducible rfl) ?_;refine dO (i:=14) rfl (by kernel_rfl) (fun KQ hK=>?_);have hc:=oC hkq;obtain ⟨x0,x1,x2,x3,xf⟩:=hc;go_simp;have HX:Hid (∃ q',(Value.pointer (some ⟨q,0,none⟩))=.pointer (some ⟨q',0,none⟩)/\w2.heap.size<=q'/\CB 35 q' [.string ⟨#[]⟩,.string t,.slice none 0 0,.slice none 0 0] (dY y q (.string ⟨#[]⟩) (.string t) (.slice none 0 0) (.slice none 0 0))/\jr0 w2.heap.size w2 (dY y q (.string ⟨#[]⟩) (.string t) (.slice none 0 0) (.slice none 0 0))):=⟨q,rfl,Zm,jo hkq _ _ _ _,mF hH Zm _ _ _ _⟩;clear x0 x1 x2 x3 xf hkq;refine hK.out _ _ (fun h=>absurd rfl h) (fun _=>?_);clear hK KQ hH;refine Fx (by kernel_rfl) ?_ _;go_wp2
   go_meet
   exact HX.out
 case rest=>
  obtain ⟨q,rfl,Zm,hkq,hb⟩:=hcut;obtain ⟨w3,hw3⟩:∃ w3:jqz,w3=wc:=⟨_,rfl⟩;subst hw3;have zR:=hid (HS2.out.far (zx hb));have K3:=hid (K2.out.below hb);have HQ:=hid hkq;have c0:=zR.out.c0;have c1:=zR.out.c1;have fz:=zR.out.fz;have Rw:=hid (zR.out.put j);have hpq:p<w2.heap.size:=HS2.out.lt;have hRq:R<w2.heap.size:=K2.out.lt;have r0:=hkq.cell 0 _ rfl;have r1:=hkq.cell 1 _ rfl;have r2:=hkq.cell 2 _ rfl;have r3:=hkq.cell 3 _ rfl;have hkx:=oC K3.out;obtain ⟨x0,x1,x2,x3,xf⟩:=hkx;have hqp:q≠p:=by omega
  have hqR:q≠R:=by omega
  have HF:Hid (dP p s j w (dY (w3.setCell ⟨p,1,none⟩ (.int .i64 (j:Int))) R (.string ⟨#[]⟩) (.string t) (.slice none 0 0) (.slice none 0 0))/\CB 35 R [.string ⟨#[]⟩,.string t,.slice none 0 0,.slice none 0 0] (dY (w3.setCell ⟨p,1,none⟩ (.int .i64 (j:Int))) R (.string ⟨#[]⟩) (.string t) (.slice none 0 0) (.slice none 0 0))):=by have hk:CB 35 R fP (w3.setCell ⟨p,1,none⟩ (.int .i64 (j:Int))):=(jo5 w3 ⟨p,1,none⟩ _ R su).trans K3.out;exact ⟨Rw.out.own (FJ _ R _ _ _ _) HRW.out su,jo hk _ _ _ _⟩
  clear hkq hb hpq hRq;go_wp2;have uU:=hid HF.out;unfold dY at uU;exact bodyPost_ret (v:=.agg #[.string ⟨#[]⟩,.string t,.slice none 0 0,.slice none 0 0]) (by have hc:=uU.out.2;simp [results,Tryz.results123,go_sem,hc.cell 0 _ rfl,hc.cell 1 _ rfl,hc.cell 2 _ rfl,hc.cell 3 _ rfl]) rfl ⟨rfl,uU.out.1⟩
theorem Ma (p:Nat) (s key val:ByteArray) (i:Nat) (l:List UInt8) (bs:List Pr) (v1:Value) (w:jqz) (h:CB 109 p [.string s,.int .i64 i,.int .i64 0] w) (hat:fI s i (32::(key.data.toList++(61::34::(q24 val.data.toList++34::l))))) (hk:dG key=true) (hv:fJ val=true) (ht:val.size<=1000000000) (hs:s.size<=10000000000000) (hb:Rd (fun b=>b≠p/\b<w.heap.size) w (bD bs) [v1]) (hne:∀ x∈bs,x.key≠key) (hbl:bs.length<=1000000000) : Calls Tryz.prog 126 #[.pointer (some ⟨p,0,none⟩),v1] w (vC p s (i+1+key.size+2+(q24 val.data.toList).length+1) (.agg #[.string key,.string val]) w):=by
 have En:Hid (dP p s i w w):=dP.start h;have hpw:=En.out.lt;obtain ⟨ab,cb,hvb,hsb⟩:=Rd.aC hb;obtain ⟨nb,hnb⟩:∃ n,n=bs.length:=⟨_,rfl⟩;obtain rfl:v1=.slice ab nb cb:=by rw [hnb];simpa using hvb
 have hcb:nb<=cb:=by rw [hnb];simpa using hsb.le
 have hmb:=hsb.max;unfold maxLen at hmb;obtain ⟨i1,hi1⟩:∃ j,j=i+1:=⟨_,rfl⟩;obtain ⟨i2,hi2⟩:∃ j,j=i1+key.size:=⟨_,rfl⟩;obtain ⟨i3,hi3⟩:∃ j,j=i2+2:=⟨_,rfl⟩;obtain ⟨j,hj⟩:∃ j,j=i3+(q24 val.data.toList).length:=⟨_,rfl⟩;have a1:fI s i1 (key.data.toList++(61::34::(q24 val.data.toList++34::l))):=by rw [hi1];exact hat.next
 have a2:fI s i2 (61::34::(q24 val.data.toList++34::l)):=by have h:=a1.step;rw [nD,<- hi2] at h;exact h
 have a3:fI s i3 (q24 val.data.toList++34::l):=by rw [hi3];exact fI.step (a:=[61,34]) a2
 have hl:=a3.len;rw [jo1,jo3] at hl;have hel:=iQ val.data.toList;rw [nD] at hel;obtain ⟨E,hE⟩:∃ E,E=nY val:=⟨_,rfl⟩;have hx:s.extract i3 j=E:=by rw [hj,a3.cut,hE];rfl
 have hEs:E.size<=10000000000:=by rw [hE];unfold nY;rw [mM];omega
 have C1:Hid (∀ W,CB 109 p [.string s,.int .i64 i,.int .i64 0] W->Calls Tryz.prog 124 #[.pointer (some ⟨p,0,none⟩),.string ⟨#[32]⟩] W (vC p s i1 (.tuple #[]) W)):=fun W hW=>by
  rw [hi1];exact lW p s ⟨#[32]⟩ i _ W hW hat hs
 have C2:Hid (∀ W,CB 109 p [.string s,.int .i64 i1,.int .i64 0] W->Calls Tryz.prog 125 #[.pointer (some ⟨p,0,none⟩)] W (vC p s i2 (.string key) W)):=fun W hW=>by
  rw [hi2];exact A9 p s key i1 61 _ W hW a1 hk (by decide) hs
 have C3:Hid (∀ W,CB 109 p [.string s,.int .i64 i2,.int .i64 0] W->Calls Tryz.prog 124 #[.pointer (some ⟨p,0,none⟩),.string ⟨#[61,34]⟩] W (vC p s i3 (.tuple #[]) W)):=fun W hW=>by
  rw [hi3];exact lW p s ⟨#[61,34]⟩ i2 _ W hW a2 hs
 have C4:Hid (∀ W,CB 109 p [.string s,.int .i64 i3,.int .i64 0] W->Calls Tryz.prog 158 #[.pointer (some ⟨p,0,none⟩),.int .u8 34] W (vC p s i3 (.int .i64 (j:Int)) W)):=fun W hW=>by
  rw [hj];exact A8 p s 34 i3 _ l W hW a3 (fun b hb=>(Df _ b hb).2.2) hs
 have VC:Hid (∀ W,Calls Tryz.prog 64 #[.string E] W (bX (.bool true) W)):=fun W=>by
  have h1:=qj E W hEs;rw [hE] at h1 ⊢;rw [Bc val hv] at h1;exact h1
 have WC:Hid (∀ W,Calls Tryz.prog 159 #[.pointer (some ⟨p,0,none⟩),.string E] W fun e w'=>e=.returned (.string val)/\jr0 W.heap.size W w'):=fun W=>by
  rw [hE];exact Kq _ val W ht
 have hij:i3<=j:=by omega
 have hjs:j<=s.size:=by omega
 have HJ1:Hid (i+1+key.size+2+(q24 val.data.toList).length+1=j+1):=by show _=_;omega
 rw [HJ1.out];have mZ:=hid hb;have HNE:=hid hne;have HNB:=hid hnb;obtain ⟨R,hR⟩:∃ R,R=w.heap.size:=⟨_,rfl⟩;obtain ⟨W0,hW0⟩:∃ W0,W0=w.alloc (.cells #[.string ⟨#[]⟩,.string ⟨#[]⟩] 61):=⟨_,rfl⟩;have k0:CB 61 R [.string ⟨#[]⟩,.string ⟨#[]⟩] W0:=by rw [hW0,hR];exact CB.new _ _ w
 have JZ:Hid (dP p s i w W0):=by rw [hW0];exact En.out.alloc _
 have su:R≠p:=by omega
 have HRW:Hid (w.heap.size<=R):=by show _<=_;omega
 have C1W:=hid (C1.out W0 JZ.out.cb);have K0:=hid k0;clear h hat hk hv ht hb hvb hsb hne hnb hbl hi1 hi2 hi3 hj a1 a2 a3 hl hel hE hEs k0 En;go_enter Tryz.func126,Tryz.ntmps126;go_upto_region 1 with (fail)
 rw [<- hW0,<- hR];clear hW0 hR;go_wp2_with fail
 (with_reducible refine C1W.out.mono ?_)
 rintro e w1 ⟨rfl,h1⟩;have ET:=hid (JZ.out.trans h1);have K1:=hid (h1.pl JZ.out.lt K0.out su);have C2W:=hid (C2.out w1 ET.out.cb);clear h1 C1W;go_wp2_with fail
 (with_reducible refine C2W.out.mono ?_)
 rintro e w2 ⟨rfl,h2⟩;have HS2:=hid (ET.out.trans h2);have K2:=hid (h2.pl ET.out.lt K1.out su);obtain ⟨Q,hQ⟩:∃ Q,Q=w2.heap.size:=⟨_,rfl⟩;obtain ⟨w3,hw3⟩:∃ w3,w3=w2.alloc (.cells #[.string key,.string ⟨#[]⟩] 61):=⟨_,rfl⟩;have k3:CB 61 Q [.string key,.string ⟨#[]⟩] w3:=by rw [hw3,hQ];exact CB.new _ _ _
 have b3:jr0 w2.heap.size w2 w3:=by rw [hw3];exact (jnk _ _).alloc (jnq _) _
 have zR:=hid (HS2.out.far (zx b3));have K3:=hid (K2.out.below b3);have Q3:=hid k3;have hQp:Q≠p:=by have:=HS2.out.lt;omega
 have hQR:Q≠R:=by have:=K2.out.lt;omega
 have HQW:Hid (w.heap.size<=Q):=by show _<=_;have:=HS2.out.gr.size;omega
 have C3W:=hid (C3.out w3 zR.out.cb);clear h2 C2W k3 b3;go_upto_region 3 with (fail)
 rw [<- hw3,<- hQ];clear hw3 hQ;go_wp2_with fail
 (with_reducible refine C3W.out.mono ?_)
 rintro e w4 ⟨rfl,h4⟩;have Rw:=hid (zR.out.trans h4);have K4:=hid (h4.pl zR.out.lt K3.out su);have Q4:=hid (h4.pl zR.out.lt Q3.out hQp);have C4W:=hid (C4.out w4 Rw.out.cb);clear h4 C3W;go_wp2_with fail
 (with_reducible refine C4W.out.mono ?_)
 rintro e w5 ⟨rfl,h5⟩;have VI:=hid (Rw.out.trans h5);have K5:=hid (h5.pl Rw.out.lt K4.out su);have Q5:=hid (h5.pl Rw.out.lt Q4.out hQp);have q1:decide ((j:Int)<(0:Int))=false:=by rw [decide_eq_false_iff_not];omega
 have e2:=VI.out.c2;have XR:Hid (∀ W:jqz,jr0 w5.heap.size w5 W->W.cell? ⟨p,0,none⟩=some (.string s)/\W.cell? ⟨p,1,none⟩=some (.int .i64 (i3:Int))):=fun W hW=>⟨(VI.out.cb.below hW).cell 0 _ rfl,(VI.out.cb.below hW).cell 1 _ rfl⟩
 clear h5 C4W;go_upto_region 9 with (fail)
 clear e2;refine M4 11 (fun w'=>jr0 w5.heap.size w5 w') (by kernel_rfl) (jnk _ _).drew ?_;intro hH;refine dw 0 rfl (by kernel_rfl) hH (by rfl) (by intro wv hSw;go_simp;try with_reducible rfl) ?_;refine dw 1 rfl (by kernel_rfl) hH (by rfl) (by intro wv hSw;go_simp;try with_reducible rfl) ?_;refine dw 2 rfl (by kernel_rfl) hH (by rfl) (by intro wv hSw;go_simp;try with_reducible rfl) ?_;refine dw 3 rfl (by kernel_rfl) hH (by rfl) (by intro wv hSw;obtain ⟨d0,d1⟩:=XR.out wv hSw;go_simp;try with_reducible rfl) ?_;refine dw 4 rfl (by kernel_rfl) hH (by rfl) (by intro wv hSw;go_simp;try with_reducible rfl) ?_;refine dw 5 rfl (by kernel_rfl) hH (by rfl) (by intro wv hSw;go_simp;try with_reducible rfl) ?_;refine dw 6 rfl (by kernel_rfl) hH (by rfl) (by intro wv hSw;go_simp;try with_reducible rfl) ?_;refine dw 7 rfl (by kernel_rfl) hH (by rfl) (by intro wv hSw;obtain ⟨d0,d1⟩:=XR.out wv hSw;go_simp;try with_reducible rfl) ?_;refine dw 8 rfl (by kernel_rfl) hH (by rfl) (by intro wv hSw;go_simp;try with_reducible rfl) ?_;refine dw 9 rfl (by kernel_rfl) hH (by rfl) (by intro wv hSw;go_simp;try with_reducible rfl) ?_;refine dO (i:=10) rfl (by kernel_rfl) (fun KQ hK=>?_);go_simp;go_at_call 64
 (with_reducible refine (VC.out _).mono ?_)
 rintro e w6 ⟨rfl,b2⟩;have hH1:=aU hH b2;refine hK.out _ _ (fun _ _=>hH1) (fun hH2=>?_);clear b2 hH1;clear hK KQ hH;have hH:=hH2 (by decide) (by kernel_rfl);clear hH2;refine dO (i:=11) rfl (by kernel_rfl) (fun KQ hK=>?_);go_simp;refine hK.out _ _ (fun h=>absurd rfl h) (fun _=>?_);clear hK KQ;refine Fx (by kernel_rfl) ?_ _;have Kt:=hid (VI.out.far (zx hH));have K6:=hid (K5.out.below hH);have Q6:=hid (Q5.out.below hH);have XS:Hid (∀ W:jqz,jr0 w6.heap.size w6 W->W.cell? ⟨p,0,none⟩=some (.string s)/\W.cell? ⟨p,1,none⟩=some (.int .i64 (i3:Int))):=fun W hW=>⟨(Kt.out.cb.below hW).cell 0 _ rfl,(Kt.out.cb.below hW).cell 1 _ rfl⟩
 clear hH;go_upto_region 11 with (fail)
 refine M4 13 (fun w'=>jr0 w6.heap.size w6 w') (by kernel_rfl) (jnk _ _).drew ?_;intro hH;refine dw 0 rfl (by kernel_rfl) hH (by rfl) (by intro wv hSw;go_simp;try with_reducible rfl) ?_;refine dw 1 rfl (by kernel_rfl) hH (by rfl) (by intro wv hSw;go_simp;try with_reducible rfl) ?_;refine dw 2 rfl (by kernel_rfl) hH (by rfl) (by intro wv hSw;go_simp;try with_reducible rfl) ?_;refine dw 3 rfl (by kernel_rfl) hH (by rfl) (by intro wv hSw;go_simp;try with_reducible rfl) ?_;refine dw 4 rfl (by kernel_rfl) hH (by rfl) (by intro wv hSw;obtain ⟨d0,d1⟩:=XS.out wv hSw;go_simp;try with_reducible rfl) ?_;refine dw 5 rfl (by kernel_rfl) hH (by rfl) (by intro wv hSw;go_simp;try with_reducible rfl) ?_;refine dw 6 rfl (by kernel_rfl) hH (by rfl) (by intro wv hSw;go_simp;try with_reducible rfl) ?_;refine dw 7 rfl (by kernel_rfl) hH (by rfl) (by intro wv hSw;go_simp;try with_reducible rfl) ?_;refine dw 8 rfl (by kernel_rfl) hH (by rfl) (by intro wv hSw;obtain ⟨d0,d1⟩:=XS.out wv hSw;go_simp;try with_reducible rfl) ?_;refine dw 9 rfl (by kernel_rfl) hH (by rfl) (by intro wv hSw;go_simp;try with_reducible rfl) ?_;refine dw 10 rfl (by kernel_rfl) hH (by rfl) (by intro wv hSw;go_simp;try with_reducible rfl) ?_;obtain ⟨y,hy0⟩:∃ y,y=w6.drew:=⟨_,rfl⟩;rw [<- hy0] at hH;rw [<- hy0];clear hy0;refine dO (i:=11) rfl (by kernel_rfl) (fun KQ hK=>?_);go_simp;go_at_call 159
 (with_reducible refine (WC.out _).mono ?_)
 rintro e y2 ⟨rfl,b2⟩;have hH1:=aU hH b2;refine hK.out _ _ (fun _ _=>hH1) (fun hH2=>?_);clear b2 hH1;clear hK KQ hH;have hH:=hH2 (by decide) (by kernel_rfl);clear hH2;refine dO (i:=12) rfl (by kernel_rfl) (fun KQ hK=>?_);go_simp;refine hK.out _ _ (fun _ _=>hH) (fun hH2=>?_);clear hK KQ hH;have hH:=hH2 (by decide) (by kernel_rfl);clear hH2;refine dO (i:=13) rfl (by kernel_rfl) (fun KQ hK=>?_);have hq7:=Q6.out.below hH;have r0:=hq7.cell 1 _ rfl;have f1:=kS hq7 1;go_simp;obtain ⟨w7,hw7⟩:∃ w7,w7=y2.setCell ⟨Q,1,none⟩ (.string val):=⟨_,rfl⟩;have hk7:CB 61 Q [.string key,.string val] w7:=by rw [hw7];exact nO hq7 1 _
 have Zn:y2.grownBy w7 (some Q):=by rw [hw7];exact ⟨rfl,rfl,rfl,by simp [World.setCell],fun k _ hk=>jo5 y2 ⟨Q,1,none⟩ _ k (fun e=>hk (by rw [e]))⟩
 have PI:=hid ((Kt.out.far (zx hH)).own Zn HQW.out hQp);have K7:Hid (CB 61 R [.string ⟨#[]⟩,.string ⟨#[]⟩] w7):=(Zn.block R ((K6.out.below hH).lt) (fun e=>hQR (by injection e with e;exact e.symm))).trans (K6.out.below hH);have Q7:=hid hk7;rw [<- hw7];clear hw7 hk7 Zn hq7 r0 f1;refine hK.out _ _ (fun h=>absurd rfl h) (fun _=>?_);clear hK KQ hH;refine Fx (by kernel_rfl) ?_ _;obtain ⟨ab',cb',TJ,hsl⟩:=Rd.aC (Rd.keep (ok':=fun b=>b≠p/\b<w.heap.size) (fun b hb _=>⟨hb,PI.out.gr.block b hb.2 (fun e=>hb.1 (by injection e))⟩) _ _ mZ.out);obtain ⟨rfl,rfl⟩:ab'=ab/\cb'=cb:=by simp at TJ;exact ⟨TJ.1.symm,TJ.2.2.symm⟩
 have HSL:=hid hsl;clear TJ hsl;have R1:Hid (∃ k x:Nat,k<=nb/\(Value.int .i64 0)=.int .i64 (k:Int)/\w7=w7.drewN x):=⟨0,0,Nat.zero_le _,rfl,rfl⟩;go_wp2
 go_loopw [7] (fun vi wr=>∃ k x:Nat,k<=nb/\vi=.int .i64 (k:Int)/\wr=w7.drewN x) (fun i _=>nb-(intOf i).toNat)
 case atStart=>exact R1.out
 case round=>
  clear R1;obtain ⟨k,x,hk,rfl,rfl⟩:=hrel;by_cases hlt:k<nb
  ·obtain ⟨y,hy⟩:∃ y,bs[k]?=some y:=⟨_,jnj (by have:=HNB.out;omega)⟩;obtain ⟨g,off,rfl,-,-,c0,c1⟩:=iW HSL.out hy;have hkn:=Cm (HNE.out y (jo8 hy));have qk:=Q7.out.cell 0 _ rfl;have HF:Hid (∀ z,(∃ k' x':Nat,k'<=nb/\(Value.int .i64 ((k:Int)+1))=.int .i64 (k':Int)/\w7.drewN z=w7.drewN x')):=fun z=>⟨k+1,z,by omega,rfl,rfl⟩
   clear hy;go_wp2
   go_quiet (fail)
   go_wp2;go_roundw;case rel=>exact HF.out _
   case measure=>simp [intOf];omega
  ·have hc:=PI.out.dN x;have s1:=hc.c1;have fz:=hc.fz;have Yf:CB 61 R [.string ⟨#[]⟩,.string ⟨#[]⟩] (w7.drewN x):=K7.out;have hq8:CB 61 Q [.string key,.string val] (w7.drewN x):=Q7.out;obtain ⟨w8,hw8⟩:∃ w8,w8=w7.drewN x:=⟨_,rfl⟩;rw [<- hw8] at hc s1 fz Yf hq8;rw [<- hw8];clear hw8;have t0:=Yf.cell 0 _ rfl;have t1:=Yf.cell 1 _ rfl;have g0:=kS Yf 0;have g1:=kS Yf 1;have u0:=hq8.cell 0 _ rfl;have u1:=hq8.cell 1 _ rfl;have HF:Hid (dP p s (j+1) w (((w8.setCell ⟨p,1,none⟩ (.int .i64 ((j:Int)+1))).setCell ⟨R,0,none⟩ (.string key)).setCell ⟨R,1,none⟩ (.string val))/\CB 61 R [.string key,.string val] (((w8.setCell ⟨p,1,none⟩ (.int .i64 ((j:Int)+1))).setCell ⟨R,0,none⟩ (.string key)).setCell ⟨R,1,none⟩ (.string val))):=by
    have hk9:CB 61 R [.string ⟨#[]⟩,.string ⟨#[]⟩] (w8.setCell ⟨p,1,none⟩ (.int .i64 ((j:Int)+1))):=(jo5 w8 ⟨p,1,none⟩ _ R su).trans Yf;refine ⟨(hc.put (j+1)).own (q:=R) ⟨rfl,rfl,rfl,by simp [World.setCell],fun k _ hk=>(jo5 _ ⟨R,1,none⟩ _ k (fun e=>hk (by rw [e]))).trans (jo5 _ ⟨R,0,none⟩ _ k (fun e=>hk (by rw [e])))⟩ HRW.out su,nO (nO hk9 0 _) 1 _⟩
   clear hc Yf hq8;go_wp2;have uU:=hid HF.out;exact bodyPost_ret (v:=.agg #[.string key,.string val]) (by have hc:=uU.out.2;simp [results,Tryz.results126,go_sem,hc.cell 0 _ rfl,hc.cell 1 _ rfl]) rfl ⟨rfl,uU.out.1⟩
theorem Yg {s:ByteArray} (h:q01 s=true):s=⟨#[]⟩:=by unfold q01 at h;rw [decide_eq_true_iff] at h;exact ByteArray.ext (Array.toList_inj.1 h)
theorem mO (p:Nat) (s t:ByteArray) (i:Nat) (l:List UInt8) (b:Bool) (hat:fI s i l) (hb:decide (l.take t.size=t.data.toList)=b) (hs:s.size<=10000000000000) (ht:t.size<=1000) : ∀ W,CB 109 p [.string s,.int .i64 i,.int .i64 0] W->Calls Tryz.prog 122 #[.pointer (some ⟨p,0,none⟩),.string t] W (vC p s i (.bool b) W):=fun W hW=>by
 rw [<- hb];exact FW p s t i l W hW hat hs ht
theorem TM (x:Nd) (h:x.kW=0) (l:List UInt8):(x.iO++l).take 2≠[60,47]:=by
 obtain ⟨n,t,a,ks⟩:=x;intro e;cases hn:q01 n
 ·have hn':q01 n=false:=hn;rw [Nd.kW,if_neg (by rw [hn'];simp)] at h;split at h
  ·cases h
  rename_i g1
  obtain ⟨-,c,m,hm,hl⟩:=Ko (s:=n) (by simpa using g1);rw [Nd.iO,if_neg (by rw [hn'];simp),hm] at e;have e2:c=47:=by simpa using e
  subst e2;revert hl;decide
 ·obtain ⟨-,h2⟩:=nZ (x:=.mk n t a ks) h;have h2':(Nd.mk n t a ks).iO=q24 t.data.toList/\(Nd.mk n t a ks).iO≠[]:=h2 hn;obtain ⟨h3,h4⟩:=h2';rw [h3] at e h4;cases he:q24 t.data.toList with
  | nil=>exact h4 he
  | cons c q=>
   have:=(Df t.data.toList c (by rw [he];simp)).1;rw [he] at e;have e2:=congrArg List.head? e;simp at e2;exact this e2
def RnP (p:Nat) (s:ByteArray) (j:Nat) (x:Nd) (w:jqz) (e:Ending) (w':jqz):Prop:=∃ va vk,e=.returned (.agg #[.string x.nm,.string x.tx,va,vk])/\gF (w.heap.size<=·) w' x.at_ x.ks va vk/\dP p s j w w'
def RnA (p:Nat) (s:ByteArray) (j N R B:Nat) (nm:ByteArray) (a:List Pr) (W:jqz) (wr:jqz):Prop:=
 ∃ k v rows wb,k<=a.length/\dP p s (j+(bG (a.take k)).length) W wr/\CB 35 N [.string nm,.string ⟨#[]⟩,v,.slice none 0 0] wr/\CB 35 R fP wr/\wb.heap.size=B/\aH 61 2 (fun _=>False) wr.heap.size wb ((a.take k).map Pr.d) rows v wr
def RnK (p:Nat) (s:ByteArray) (j N R B B2:Nat) (nm:ByteArray) (va:Value) (a:List Pr) (ks:List Nd) (W:jqz) (wr:jqz):Prop:=
 ∃ k v rows wb,k<=ks.length/\dP p s (j+(Nd.aX (ks.take k)).length) W wr/\CB 35 N [.string nm,.string ⟨#[]⟩,va,v] wr/\CB 35 R fP wr/\wb.heap.size=B2/\aH 35 4 (fun _=>False) wr.heap.size wb ((ks.take k).map Nd.d) rows v wr/\Rd (fun b=>B<=b/\b<B2) wr (bD a) [va]
theorem LV (M:Nat):∀ (x:Nd) (p:Nat) (s:ByteArray) (i:Nat) (rest:List UInt8) (kid:Bool) (w:jqz),x.sz<=M->x.kW=0->x.tz->s.size<=1000000000000->(q01 x.nm=true->∃ m,rest=60::m)->CB 109 p [.string s,.int .i64 i,.int .i64 0] w->fI s i (x.iO++rest) -> Calls Tryz.prog 74 #[.pointer (some ⟨p,0,none⟩),.bool kid] w (RnP p s (i+x.iO.length) x w):=by
 induction M using Nat.strongRecOn with
 | _ M ih=>
  intro x p s i rest kid w hM hck htz hs2 hrest h hat;have hs:s.size<=10000000000000:=by omega
  have En:Hid (dP p s i w w):=dP.start h;have hpw:=En.out.lt;obtain ⟨nm,tx,at_,ks⟩:=x;rw [Nd.sz] at hM;obtain ⟨R,hR⟩:∃ R,R=w.heap.size:=⟨_,rfl⟩;obtain ⟨W0,hW0⟩:∃ W0,W0=w.alloc (.cells #[.string ⟨#[]⟩,.string ⟨#[]⟩,.slice none 0 0,.slice none 0 0] 35):=⟨_,rfl⟩;have k0:CB 35 R fP W0:=by rw [hW0,hR];exact CB.new _ _ w
  have JZ:Hid (dP p s i w W0):=by rw [hW0];exact En.out.alloc _
  have su:R≠p:=by omega
  have HRW:Hid (w.heap.size<=R):=by show _<=_;omega
  have K0:=hid k0;have d0:=JZ.out.c0;have d1:=JZ.out.c1;have hlt:=hat.len;have hne0:(Nd.mk nm tx at_ ks).iO≠[]:=by
   obtain ⟨g1,g2⟩:=nZ (x:=.mk nm tx at_ ks) hck;cases he:q01 nm
   ·obtain ⟨m,hm⟩:=g1 he;rw [hm];simp
   ·exact (g2 he).2
  have hpos:0<(Nd.mk nm tx at_ ks).iO.length:=List.length_pos_iff.2 hne0;rw [jo1] at hlt;have q0:((i:Int)==(s.size:Int))=false:=by rw [beq_eq_false_iff_ne];omega
  by_cases hne:q01 nm=true
  ·obtain ⟨m,rfl⟩:=hrest hne;obtain ⟨GY,hte,U9⟩:=mP (x:=.mk nm tx at_ ks) hne hck;have hmk:(Nd.mk nm tx at_ ks).iO=q24 tx.data.toList:=by rw [Nd.iO,if_pos hne]
   rw [Nd.tz] at htz;have hinj:=GY;unfold uS at hinj;injection hinj with hi1 hi2 hi3 hi4
   rw [hmk] at hat ⊢;have hf:decide ((q24 tx.data.toList++60::m).take (⟨#[60]⟩:ByteArray).size=(⟨#[60]⟩:ByteArray).data.toList)=false:=by
    rw [decide_eq_false_iff_not];intro e;rw [hmk] at hne0;cases he:q24 tx.data.toList with
    | nil=>exact hne0 he
    | cons c q=>
     rw [he] at e;have e2:(c::(q++60::m)).take 1=[60]:=e;have e1:c=60:=by simpa using e2
     have:=(Df tx.data.toList c (by rw [he];simp)).1;exact this e1
   have FC:Hid (∀ W,CB 109 p [.string s,.int .i64 i,.int .i64 0] W->Calls Tryz.prog 122 #[.pointer (some ⟨p,0,none⟩),.string ⟨#[60]⟩] W (vC p s i (.bool false) W)):=mO p s ⟨#[60]⟩ i _ false hat hf hs (by decide);have TC:Hid (∀ W,CB 109 p [.string s,.int .i64 i,.int .i64 0] W->Calls Tryz.prog 123 #[.pointer (some ⟨p,0,none⟩),.bool kid] W (vC p s (i+(q24 tx.data.toList).length) (.agg #[.string ⟨#[]⟩,.string tx,.slice none 0 0,.slice none 0 0]) W)):=fun W hW=>L9 p s tx i m kid W hW hat U9 htz.1 hs
   obtain ⟨j,hj⟩:∃ j,j=i+(q24 tx.data.toList).length:=⟨_,rfl⟩;rw [<- hj] at TC ⊢;subst hi1;subst hi3;subst hi4;clear h hat hM hck htz hrest GY hte U9 hmk hi2 hf hj hne hlt hne0 hpos k0 ih En;go_enter Tryz.func74,Tryz.ntmps74;go_upto_region 1 with (fail)
   rw [<- hW0,<- hR];clear hW0 hR
   go_quiet (fail)
   clear d0 d1;obtain ⟨W1,hW1⟩:∃ W1,W1=W0.drewN nq:=⟨_,rfl⟩;have ET:Hid (dP p s i w W1):=by rw [hW1];exact JZ.out.dN _
   have K1:Hid (CB 35 R fP W1):=by rw [hW1];exact K0.out
   have FCW:=hid (FC.out W1 ET.out.cb);rw [<- hW1];clear hW1;go_wp2_with fail
   (with_reducible refine FCW.out.mono ?_)
   rintro e w2 ⟨rfl,h2⟩;have HS2:=hid (ET.out.trans h2);have K2:=hid (h2.pl ET.out.lt K1.out su);have TCW:=hid (TC.out w2 HS2.out.cb);clear h2 FCW;go_wp2_with fail
   (with_reducible refine TCW.out.mono ?_)
   rintro e w3 ⟨rfl,h3⟩;have zR:=hid (HS2.out.trans h3);have K3:=hid (h3.pl HS2.out.lt K2.out su);have hkx:=oC K3.out;obtain ⟨x0,x1,x2,x3,xf⟩:=hkx;have HF:Hid (dP p s j w (dY w3 R (.string ⟨#[]⟩) (.string tx) (.slice none 0 0) (.slice none 0 0))/\CB 35 R [.string ⟨#[]⟩,.string tx,.slice none 0 0,.slice none 0 0] (dY w3 R (.string ⟨#[]⟩) (.string tx) (.slice none 0 0) (.slice none 0 0))):=⟨zR.out.own (FJ _ R _ _ _ _) HRW.out su,jo K3.out _ _ _ _⟩;clear h3 TCW;go_wp2;have uU:=hid HF.out;unfold dY at uU;exact bodyPost_ret (v:=.agg #[.string ⟨#[]⟩,.string tx,.slice none 0 0,.slice none 0 0]) (by have hc:=uU.out.2;simp [results,Tryz.results74,go_sem,hc.cell 0 _ rfl,hc.cell 1 _ rfl,hc.cell 2 _ rfl,hc.cell 3 _ rfl]) rfl ⟨_,_,rfl,⟨Rd.aD _ _ _,Rd.aD _ _ _⟩,uU.out.1⟩
  ·have hne:q01 nm=false:=by simpa using hne
   rw [Nd.kW,if_neg (by rw [hne];simp)] at hck;rw [Nd.tz] at htz;obtain ⟨-,JV,MW,JW⟩:=htz;split at hck
   ·cases hck
   rename_i g1
   split at hck
   ·cases hck
   rename_i g2
   split at hck
   ·rename_i g3;exact absurd hck g3
   rename_i g3
   have hnm:dG nm=true:=by simpa using g1
   have htx:tx=⟨#[]⟩:=by
    cases h3:q01 tx
    ·exact absurd (.inl h3) g2
    ·exact Yg h3
   have jcj:rZ [] at_=0:=by simpa using g3
   obtain ⟨ha1,-,ha3⟩:=lC at_ [] jcj
   have hem:pU nm=true->ks=[]:=fun h=>by
    cases ks with
    | nil=>rfl
    | cons _ _=>exact absurd (.inr ⟨h,rfl⟩) g2
   obtain ⟨k1,-,k3⟩:=qQ ks _ hck;have htk:=(Nd.qR ks).1 JW;have hks:=Nd.aZ ks;subst htx;obtain ⟨T,hT⟩:∃ T,T=(if pU nm=true then [47,62] else 62::(Nd.aX ks++(60::47::(nm.data.toList++[62]))))++rest:=⟨_,rfl⟩;have hmk:(Nd.mk nm ⟨#[]⟩ at_ ks).iO++rest=60::(nm.data.toList++(bG at_++T)):=by rw [Nd.iO,if_neg (by rw [hne];simp),hT];simp
   have jck:(Nd.mk nm ⟨#[]⟩ at_ ks).iO.length=1+nm.size+(bG at_).length+(if pU nm=true then [47,62] else 62::(Nd.aX ks++(60::47::(nm.data.toList++[62])))).length:=by rw [Nd.iO,if_neg (by rw [hne];simp)];simp only [jo1,jo3,nD];omega
   rw [hmk] at hat;obtain ⟨i1,hi1⟩:∃ j,j=i+1:=⟨_,rfl⟩;obtain ⟨i2,hi2⟩:∃ j,j=i1+nm.size:=⟨_,rfl⟩;have a1:fI s i1 (nm.data.toList++(bG at_++T)):=by rw [hi1];exact hat.next
   have a2:fI s i2 (bG at_++T):=by have h:=a1.step;rw [nD,<- hi2] at h;exact h
   have hT1:∃ c q,T=c::q/\(c=47\/c=62):=by
    rw [hT];split
    ·exact ⟨_,_,rfl,.inl rfl⟩
    ·exact ⟨_,_,rfl,.inr rfl⟩
   obtain ⟨cT,qT,hTT,Yh⟩:=hT1;have hnx:∃ c q,bG at_++T=c::q/\fA c=false:=by
    cases hq:at_ with
    | nil=>exact ⟨cT,qT,by rw [hTT];rfl,by rcases Yh with rfl | rfl<;>decide⟩
    | cons y l=>exact ⟨32,_,by unfold bG;rw [List.flatMap_cons,joj,joj],by decide⟩
   obtain ⟨cn,qn,hnx,hcn⟩:=hnx;obtain ⟨n1,hn1⟩:∃ n,n=at_.length:=⟨_,rfl⟩
   have xR:∀ k,fI s (i2+(bG (at_.take k)).length) (bG (at_.drop k)++T):=fun k=>by
    have e:bG at_++T=bG (at_.take k)++(bG (at_.drop k)++T):=by
     conv=>lhs;rw [<- List.take_append_drop k at_]
     unfold bG;rw [List.flatMap_append,jp2]
    have h:=a2;rw [e] at h;exact h.step
   have F1:Hid (∀ W,CB 109 p [.string s,.int .i64 i,.int .i64 0] W->Calls Tryz.prog 122 #[.pointer (some ⟨p,0,none⟩),.string ⟨#[60]⟩] W (vC p s i (.bool true) W)):=mO p s ⟨#[60]⟩ i _ true hat (by rfl) hs (by decide);have W1C:Hid (∀ W,CB 109 p [.string s,.int .i64 i,.int .i64 0] W->Calls Tryz.prog 124 #[.pointer (some ⟨p,0,none⟩),.string ⟨#[60]⟩] W (vC p s i1 (.tuple #[]) W)):=fun W hW=>by
    rw [hi1];exact lW p s ⟨#[60]⟩ i _ W hW hat hs
   have NC:Hid (∀ W,CB 109 p [.string s,.int .i64 i1,.int .i64 0] W->Calls Tryz.prog 125 #[.pointer (some ⟨p,0,none⟩)] W (vC p s i2 (.string nm) W)):=fun W hW=>by
    rw [hi2];rw [hnx] at a1;exact A9 p s nm i1 cn qn W hW a1 hnm hcn hs
   have FS:Hid (∀ k,k<=n1->∀ W,CB 109 p [.string s,.int .i64 ((i2+(bG (at_.take k)).length:Nat):Int),.int .i64 0] W->Calls Tryz.prog 122 #[.pointer (some ⟨p,0,none⟩),.string ⟨#[32]⟩] W (vC p s (i2+(bG (at_.take k)).length) (.bool (decide (k<n1))) W)):=fun k hk W hW=>by
    refine mO p s ⟨#[32]⟩ _ _ _ (xR k) ?_ hs (by decide) W hW;by_cases hlt:k<n1
    ·rw [decide_eq_true hlt];obtain ⟨y,l,hyl⟩:∃ y l,at_.drop k=y::l:=by
      cases h:at_.drop k with
      | nil=>have:=congrArg List.length h;rw [List.length_drop] at this;simp at this;omega
      | cons y l=>exact ⟨y,l,rfl⟩
     rw [hyl];unfold bG;rw [List.flatMap_cons,joj,joj];rfl
    ·rw [decide_eq_false hlt];have:at_.drop k=[]:=List.drop_eq_nil_of_le (by omega)
     rw [this,hTT];show decide ((cT::qT).take 1=[32])=false;rcases Yh with rfl | rfl<;>simp
   have AC:Hid (∀ k y,at_[k]?=some y->∀ (v:Value) W,CB 109 p [.string s,.int .i64 ((i2+(bG (at_.take k)).length:Nat):Int),.int .i64 0] W->Rd (fun b=>b≠p/\b<W.heap.size) W (bD (at_.take k)) [v]->Calls Tryz.prog 126 #[.pointer (some ⟨p,0,none⟩),v] W (vC p s (i2+(bG (at_.take (k+1))).length) (.agg #[.string y.key,.string y.val]) W)):=fun k y hy v W hW hv=>by
    have hym:y∈at_:=jo8 hy
    have hd:at_.drop k=y::at_.drop (k+1):=by obtain ⟨hj,hc⟩:=List.getElem?_eq_some_iff.1 hy;rw [<- hc];exact List.drop_eq_getElem_cons hj
    have h:=xR k;rw [hd] at h;have e2:bG (y::at_.drop (k+1))++T=32::(y.key.data.toList++(61::34::(q24 y.val.data.toList++34::(bG (at_.drop (k+1))++T)))):=by unfold bG;rw [List.flatMap_cons];simp
    rw [e2] at h;have hc:=Ma p s y.key y.val _ _ (at_.take k) v W hW h (ha1 y hym).1 (ha1 y hym).2 (JV y hym) hs hv (fun x hx e=>by
     obtain ⟨j,hj,hjx⟩:=List.mem_iff_getElem.1 hx;rw [jq9] at hj;rw [List.getElem_take] at hjx;exact ha3 k j y at_[j] (by omega) hy (jnj _) (by rw [hjx];exact e)) (by rw [jq9];omega)
    have e3:i2+(bG (at_.take (k+1))).length=i2+(bG (at_.take k)).length+1+y.key.size+2+(q24 y.val.data.toList).length+1:=by rw [sN at_ k y hy];simp only [jo1,jo3,List.length_nil,nD];omega
    rw [e3];exact hc
   have Rp:Hid (∀ k,i2+(bG (at_.take k)).length<s.size):=fun k=>by
    have h:=(xR k).len;rw [hTT,jo1,jo3] at h;show _<_;omega
   have Lu:=hid hn1;have jm3:n1<=1000000000:=by omega
   have EC:=hid (fun W=>tV nm W);have HHE:Hid (∀ b,pU nm=b->fI s (i2+(bG at_).length) ((if b=true then [47,62] else 62::(Nd.aX ks++(60::47::(nm.data.toList++[62]))))++rest)/\(Nd.mk nm ⟨#[]⟩ at_ ks).iO.length+i=i2+(bG at_).length+(if b=true then [47,62] else 62::(Nd.aX ks++(60::47::(nm.data.toList++[62])))).length):=fun b hb=>by
    subst hb;refine ⟨?_,by rw [jck,hi2,hi1];omega⟩;have h:=xR at_.length
    rw [jp3,List.drop_length,hT] at h;exact h
   have HEM:=hid hem;have HK1:=hid k1;have HK3:=hid k3;have Ho:=hid htk;have RX:=hid hks;have IH:=hid ih;have HM:=hid hM;have hnl:nm.size<=60:=by have h:=lQ hnm;rw [nD] at h;exact h
   have F1W:=F1;clear h hat hM hrest hne hck g1 g2 g3 JV MW JW hnm jcj ha1 ha3 hem k1 k3 htk hks hmk jck a1 a2 xR hT hTT Yh hnx hcn hn1 hi1 hi2 hlt hne0 hpos k0 ih En;go_enter Tryz.func74,Tryz.ntmps74;go_upto_region 1 with (fail)
   rw [<- hW0,<- hR];clear hW0 hR
   go_quiet (fail)
   clear d0 d1;obtain ⟨W1,hW1⟩:∃ W1,W1=W0.drewN nq:=⟨_,rfl⟩;have ET:Hid (dP p s i w W1):=by rw [hW1];exact JZ.out.dN _
   have K1:Hid (CB 35 R fP W1):=by rw [hW1];exact K0.out
   have FCW:=hid (F1.out W1 ET.out.cb);rw [<- hW1];clear hW1;go_wp2_with fail
   (with_reducible refine FCW.out.mono ?_)
   rintro e w2 ⟨rfl,h2⟩;have HS2:=hid (ET.out.trans h2);have K2:=hid (h2.pl ET.out.lt K1.out su);have WCW:=hid (W1C.out w2 HS2.out.cb);clear h2 FCW;go_wp2_with fail
   (with_reducible refine WCW.out.mono ?_)
   rintro e w3 ⟨rfl,h3⟩;have zR:=hid (HS2.out.trans h3);have K3:=hid (h3.pl HS2.out.lt K2.out su);have NCW:=hid (NC.out w3 zR.out.cb);clear h3 WCW;go_wp2_with fail
   (with_reducible refine NCW.out.mono ?_)
   rintro e w4 ⟨rfl,h4⟩;have Rw:=hid (zR.out.trans h4);have K4:=hid (h4.pl zR.out.lt K3.out su);obtain ⟨N,hN⟩:∃ N,N=w4.heap.size:=⟨_,rfl⟩;obtain ⟨w5,Ao⟩:∃ w5,w5=w4.alloc (.cells #[.string nm,.string ⟨#[]⟩,.slice none 0 0,.slice none 0 0] 35):=⟨_,rfl⟩;have k5:CB 35 N [.string nm,.string ⟨#[]⟩,.slice none 0 0,.slice none 0 0] w5:=by rw [Ao,hN];exact CB.new _ _ _
   have b5:jr0 w4.heap.size w4 w5:=by rw [Ao];exact (jnk _ _).alloc (jnq _) _
   have VI:=hid (Rw.out.far (zx b5));have K5:=hid (K4.out.below b5);have N5:=hid k5;have PK:N≠p:=by have:=Rw.out.lt;omega
   have hNR:N≠R:=by have:=K4.out.lt;omega
   have HNW:Hid (w.heap.size<=N):=by show _<=_;have:=Rw.out.gr.size;omega
   obtain ⟨B,hB⟩:∃ B,B=w5.heap.size:=⟨_,rfl⟩;have Zc:N<B:=by rw [hB];exact N5.out.lt
   have hRB:R<B:=by rw [hB];exact K5.out.lt
   have hpB:p<B:=by rw [hB];exact VI.out.lt
   have uj:w.heap.size<=B:=by rw [hB];exact VI.out.gr.size
   obtain ⟨iP,hiP,zJ,zK,zL⟩:=info_parts pV;have R1:Hid (RnA p s i2 N R B nm at_ w w5):=⟨0,_,[],w5,Nat.zero_le _,VI.out,N5.out,K5.out,hB.symm,(aH.nil _ _ _ w5)⟩;clear h4 NCW k5 b5;go_upto_region 8 with (fail)
   rw [<- Ao,<- hN];clear Ao hN
   go_loopw [] (fun wr=>RnA p s i2 N R B nm at_ w wr) (fun wr=>s.size-posOf p wr)
   case atStart=>exact R1.out
   case round=>
    clear R1;obtain ⟨k,v,rows,wb,hk,hS,hNc,hRc,hwb,hrow⟩:=hrel;rw [<- Lu.out] at hk;obtain ⟨nv,M6⟩:∃ nv,nv=((at_.take k).map Pr.d).length:=⟨_,rfl⟩;obtain ⟨av,cv,rfl,hcv,hcm⟩:=hrow.cap M6.symm;have jm4:nv<=1000000000:=by rw [M6,List.length_map,jq9];have:=Lu.out;omega
    have HNV:=hid M6.symm;have hrb:=hrow.aN;obtain ⟨pk,hpk⟩:∃ q,q=i2+(bG (at_.take k)).length:=⟨_,rfl⟩;have HPK:=hid hpk;have VJ:Hid (dP p s pk w wr):=by rw [hpk];exact hS
    have Yi:=hid (FS.out k hk wr (by rw [<- hpk];exact VJ.out.cb));rw [<- hpk] at Yi;have HPO:=hid (lX VJ.out.c1);have hps:pk<s.size:=by rw [hpk];exact Rp.out k
    have HNc:=hid hNc;have HRc:=hid hRc;have HWB:=hid hwb;have HRO:=hid hrow;clear hS hNc hRc hwb hrow M6 hpk hrb;obtain ⟨wz,hwz⟩:∃ wz:jqz,wz=wr:=⟨_,rfl⟩;subst hwz;by_cases hlt:k<n1
    ·obtain ⟨y,hy⟩:∃ y,at_[k]?=some y:=⟨_,jnj (by have:=Lu.out;omega)⟩
     rw [decide_eq_true hlt] at Yi;have HY:=hid (AC.out k y hy);have hsn:=sN at_ k y hy
     have Yj:Hid ((at_.take (k+1)).map Pr.d=(at_.take k).map Pr.d++[y.d]):=by show _=_;rw [List.take_add_one,hy,List.map_append];rfl
     have OU:Hid (pk<i2+(bG (at_.take (k+1))).length):=by show _<_;rw [HPK.out,hsn,jo1,jo3];omega
     have HLT:=hid hlt;clear hy hsn hlt;go_wp2_with fail
     (with_reducible refine Yi.out.mono ?_)
     rintro e w6 ⟨rfl,h6⟩;have Kt:=hid (VJ.out.trans h6);have N6:=hid (h6.pl VJ.out.lt HNc.out PK);have R6:=hid (h6.pl VJ.out.lt HRc.out su);obtain ⟨wb6,PS,eu⟩:=HRO.out.hop2 (p:=p) (by rw [HWB.out];exact hpB) h6.gr;have TN:Hid (wb6.heap.size=B):=by show _=_;rw [PS];exact HWB.out
     have RO6:=hid eu;clear h6 Yi PS eu;go_upto_region 9 with (fail)
     refine M4 9 (fun w'=>w'.cell? ⟨N,2,none⟩=some (.slice av nv cv)) (by kernel_rfl) (N6.out.cell 2 _ rfl) ?_;intro hH;refine dw 0 rfl (by kernel_rfl) hH (by rfl) (by intro wv hSw;go_simp;try with_reducible rfl) ?_;refine dw 1 rfl (by kernel_rfl) hH (by rfl) (by intro wv hSw;(try dsimp only at hSw);go_simp;try with_reducible rfl) ?_;refine dw 2 rfl (by kernel_rfl) hH (by rfl) (by intro wv hSw;go_simp;try with_reducible rfl) ?_;refine dw 3 rfl (by kernel_rfl) hH (by rfl) (by intro wv hSw;go_simp;try with_reducible rfl) ?_;refine dw 4 rfl (by kernel_rfl) hH (by rfl) (by intro wv hSw;(try dsimp only at hSw);go_simp;try with_reducible rfl) ?_;obtain ⟨y0,hy0⟩:∃ y0,y0=w6.drew:=⟨_,rfl⟩;have bd:jr0 w6.heap.size w6 y0:=by rw [hy0];exact (jnk _ _).drew
     rw [<- hy0] at hH;rw [<- hy0];clear hy0;have PI:=hid (Kt.out.far (zx bd));have N7:=hid (N6.out.below bd);have R7:=hid (R6.out.below bd);have RO7:=hid (RO6.out.below bd);have ACW:=hid (HY.out (.slice av nv cv) y0 (by rw [<- HPK.out];exact PI.out.cb) (Rd.keep (fun b hb hlt=>⟨⟨by have h1:=TN.out;have h2:wb6.heap.size<=b:=hb;omega,hlt⟩,rfl⟩) _ _ RO7.out.eP));clear bd;refine dO (i:=5) rfl (by kernel_rfl) (fun KQ hK=>?_);go_simp;go_at_call 126
     (with_reducible refine ACW.out.mono ?_)
     rintro e y1 ⟨rfl,h7⟩;have VK:=hid (PI.out.trans h7);have N8:=hid (h7.pl PI.out.lt N7.out PK);have R8:=hid (h7.pl PI.out.lt R7.out su);obtain ⟨wb8,FY,jk⟩:=RO7.out.hop2 (p:=p) (by rw [TN.out];exact hpB) h7.gr;have Rx:Hid (wb8.heap.size=B):=by show _=_;rw [FY];exact TN.out
     have Yk:=hid jk;have hH1:y1.cell? ⟨N,2,none⟩=some (.slice av nv cv):=N8.out.cell 2 _ rfl;clear h7 FY jk ACW;refine hK.out _ _ (fun _ _=>hH1) (fun hH2=>?_);clear hK KQ hH hH1;have hH:=hH2 (by decide) (by kernel_rfl);clear hH2;refine dO (i:=6) rfl (by kernel_rfl) (fun KQ hK=>?_);go_simp;refine hK.out _ _ (fun _ _=>(N8.out.below ((jnk _ _).alloc (jnq _) _)).cell 2 _ rfl) (fun hH2=>?_);clear hK KQ hH;have hH:=hH2 (by decide) (by kernel_rfl);clear hH2;have HXE:Hid (Rd (fun b=>False\/y1.heap.size<=b) y1 y.d [.string y.key,.string y.val]):=Pr.iH _ _ y;refine dO (i:=7) rfl (by kernel_rfl) (fun KQ hK=>?_);refine Ba (n:=nv) rfl (.tmp 33) (.tmp 38) 24 rfl iP _ 32 Tryz.underlying24 hiP zJ zK zL rfl (by decide) Yk.out (fun _=>False.elim) y.d [.string y.key,.string y.val] HXE.out rfl qV HNV.out (by omega) (by decide) rfl rfl ?_;intro a9 c9 w9 uE hg9;have TP:∀ q,q<B->(Value.slice av nv cv).ownBlock≠some q:=fun q hq e=>by have h1:=(Yk.out.own.lt q e).1;have h2:=Rx.out;omega
     have HS9:=hid (VK.out.app hg9 (fun g hg=>⟨by have h1:=(Yk.out.own.lt g hg).1;have h2:=Rx.out;omega,fun e=>TP g (by omega) hg⟩));have N9:=hid (xQ N8.out hg9 (TP N Zc));have R9:=hid (xQ R8.out hg9 (TP R hRB));have RO9:=hid uE;have hH1:w9.cell? ⟨N,2,none⟩=some (.slice av nv cv):=N9.out.cell 2 _ rfl;clear uE hg9 TP;refine hK.out _ _ (fun _ _=>hH1) (fun hH2=>?_);clear hK KQ hH hH1;have hH:=hH2 (by decide) (by kernel_rfl);clear hH2;refine dO (i:=8) rfl (by kernel_rfl) (fun KQ hK=>?_);go_simp;refine hK.out _ _ (fun _ _=>hH) (fun hH2=>?_);clear hK KQ hH;have hH:=hH2 (by decide) (by kernel_rfl);clear hH2;refine dO (i:=9) rfl (by kernel_rfl) (fun KQ hK=>?_);have f2:=kS N9.out 2;go_simp;obtain ⟨wbx,PV,FZ⟩:=RO9.out.hop2 (p:=N) (by rw [Rx.out];exact Zc) (TI w9 N 2 (.slice a9 (nv+1) c9));have HSx:=hid (HS9.out.own (TI w9 N 2 (.slice a9 (nv+1) c9)) HNW.out PK);have hrx:=FZ.top;rw [<- Yj.out] at hrx;have HF:Hid (RnA p s i2 N R B nm at_ w (w9.setCell ⟨N,2,none⟩ (.slice a9 (nv+1) c9))/\s.size-posOf p (w9.setCell ⟨N,2,none⟩ (.slice a9 (nv+1) c9))<s.size-posOf p wz):=by
      refine ⟨⟨k+1,_,_,wbx,by have h0:=Lu.out;have h1:=HLT.out;omega,HSx.out,nO N9.out 2 _,(jo5 w9 ⟨N,2,none⟩ _ R (fun e=>hNR e.symm)).trans R9.out,by rw [PV];exact Rx.out,hrx⟩,?_⟩
      ·rw [lX HSx.out.c1,HPO.out];have:=OU.out;omega
     clear FZ PV f2 hrx;refine hK.out _ _ (fun h=>absurd rfl h) (fun _=>?_);clear hK KQ hH;refine Fx (by kernel_rfl) ?_ _;go_wp2;go_roundw;case rel=>exact HF.out.1
     case measure=>exact HF.out.2
    ·have hkn:k=at_.length:=by have:=Lu.out;omega
     rw [decide_eq_false hlt] at Yi;have UO:Hid (pk=i2+(bG at_).length):=by show _=_;rw [HPK.out,hkn,jp3]
     have hrA:Hid (aH 61 2 (fun _=>False) wz.heap.size wb (at_.map Pr.d) rows (.slice av nv cv) wz):=by have h:=HRO.out;rw [hkn,jp3] at h;exact h
     clear hkn hlt;go_wp2_with fail
     (with_reducible refine Yi.out.mono ?_)
     rintro e w6 ⟨rfl,h6⟩;have Kt:=hid (VJ.out.trans h6);have N6:=hid (h6.pl VJ.out.lt HNc.out PK);have R6:=hid (h6.pl VJ.out.lt HRc.out su);obtain ⟨wb6,PS,eu⟩:=hrA.out.hop2 (p:=p) (by rw [HWB.out];exact hpB) h6.gr;have TN:Hid (wb6.heap.size=B):=by show _=_;rw [PS];exact HWB.out
     have RO6:=hid eu;have s0:=N6.out.cell 0 _ rfl;have OV:=hid (EC.out w6);clear h6 Yi PS eu;cases hb:pU nm with
     | true=>
      rw [hb] at OV;have jhx:=hid (HEM.out hb);obtain ⟨VL,at2⟩:=HHE.out true hb;rw [if_pos rfl,<- UO.out] at VL at2;have W2C:Hid (Calls Tryz.prog 124 #[.pointer (some ⟨p,0,none⟩),.string ⟨#[47,62]⟩] w6 (vC p s (pk+2) (.tuple #[]) w6)):=lW p s ⟨#[47,62]⟩ pk rest w6 Kt.out.cb VL hs;have Ze:Hid (i+(Nd.mk nm ⟨#[]⟩ at_ ks).iO.length=pk+2):=by show _=_;have:([47,62]:List UInt8).length=2:=rfl;omega
      clear hb VL at2;go_wp2_with fail
      (with_reducible refine OV.out.mono ?_)
      rintro e w7 ⟨rfl,hw7⟩;rw [<- hw7];clear hw7 w7;go_wp2_with fail
      (with_reducible refine W2C.out.mono ?_)
      rintro e w7 ⟨rfl,h7⟩;have PI:=hid (Kt.out.trans h7);have N7:=hid (h7.pl Kt.out.lt N6.out PK);have R7:=hid (h7.pl Kt.out.lt R6.out su);obtain ⟨wb7,Mc,nV⟩:=RO6.out.hop2 (p:=p) (by rw [TN.out];exact hpB) h7.gr;have TQ:Hid (Rd (fun b=>B<=b) w7 (bD at_) [.slice av nv cv]):=nV.eP.weaken (fun b hb'=>by rw [Mc,TN.out] at hb';exact hb');have n0:=N7.out.cell 0 _ rfl;have n1':=N7.out.cell 1 _ rfl;have n2':=N7.out.cell 2 _ rfl;have n3':=N7.out.cell 3 _ rfl;have hkx:=oC R7.out;obtain ⟨x0,x1,x2,x3,xf⟩:=hkx;have HF:Hid (dP p s (i+(Nd.mk nm ⟨#[]⟩ at_ ks).iO.length) w (dY w7 R (.string nm) (.string ⟨#[]⟩) (.slice av nv cv) (.slice none 0 0))/\CB 35 R [.string nm,.string ⟨#[]⟩,.slice av nv cv,.slice none 0 0] (dY w7 R (.string nm) (.string ⟨#[]⟩) (.slice av nv cv) (.slice none 0 0))/\gF (w.heap.size<=·) (dY w7 R (.string nm) (.string ⟨#[]⟩) (.slice av nv cv) (.slice none 0 0)) at_ ks (.slice av nv cv) (.slice none 0 0)):=
       ⟨by rw [Ze.out];exact PI.out.own (FJ _ R _ _ _ _) HRW.out su,jo R7.out _ _ _ _,⟨Rd.keep (fun b hb' _=>⟨jnx uj hb',NK w7 R _ _ _ _ b (by have h:B<=b:=hb';omega)⟩) _ _ TQ.out,by rw [jhx.out];exact Rd.aD _ _ _⟩⟩
      clear h7 nV Mc;go_wp2;have uU:=hid HF.out;unfold dY at uU;exact bodyPost_ret (v:=.agg #[.string nm,.string ⟨#[]⟩,.slice av nv cv,.slice none 0 0]) (by have hc:=uU.out.2.1;simp [results,Tryz.results74,go_sem,hc.cell 0 _ rfl,hc.cell 1 _ rfl,hc.cell 2 _ rfl,hc.cell 3 _ rfl]) rfl ⟨_,_,rfl,uU.out.2.2,uU.out.1⟩
     | false=>
      rw [hb] at OV;obtain ⟨VL,at2⟩:=HHE.out false hb;rw [if_neg (by decide),<- UO.out] at VL at2;obtain ⟨j0,hj0⟩:∃ j,j=pk+1:=⟨_,rfl⟩;have at3:fI s j0 (Nd.aX ks++(60::47::(nm.data.toList++62::rest))):=by
       rw [hj0];have h:=fI.next VL
       simpa using h
      obtain ⟨n2,hn2⟩:∃ n,n=ks.length:=⟨_,rfl⟩;have jhz:Hid (i+(Nd.mk nm ⟨#[]⟩ at_ ks).iO.length=j0+(Nd.aX ks).length+(nm.size+3)):=by show _=_;simp only [jo3,jo1,List.length_nil,nD] at at2;omega
      have W2C:Hid (Calls Tryz.prog 124 #[.pointer (some ⟨p,0,none⟩),.string ⟨#[62]⟩] w6 (vC p s j0 (.tuple #[]) w6)):=by rw [hj0];exact lW p s ⟨#[62]⟩ pk _ w6 Kt.out.cb VL hs
      have xR:∀ k,fI s (j0+(Nd.aX (ks.take k)).length) (Nd.aX (ks.drop k)++(60::47::(nm.data.toList++62::rest))):=fun k=>by
       have e:Nd.aX ks++(60::47::(nm.data.toList++62::rest))=Nd.aX (ks.take k)++(Nd.aX (ks.drop k)++(60::47::(nm.data.toList++62::rest))):=by
        conv=>lhs;rw [<- List.take_append_drop k ks]
        rw [xD,jp2]
       have h:=at3;rw [e] at h;exact h.step
      have hdk:∀ k y,ks[k]?=some y->ks.drop k=y::ks.drop (k+1):=fun k y hy=>by
       obtain ⟨hj,hc⟩:=List.getElem?_eq_some_iff.1 hy;rw [<- hc];exact List.drop_eq_getElem_cons hj
      have FK:Hid (∀ k,k<=n2->∀ W,CB 109 p [.string s,.int .i64 ((j0+(Nd.aX (ks.take k)).length:Nat):Int),.int .i64 0] W->Calls Tryz.prog 122 #[.pointer (some ⟨p,0,none⟩),.string ⟨#[60,47]⟩] W (vC p s (j0+(Nd.aX (ks.take k)).length) (.bool (decide (k=n2))) W)):=fun k hk W hW=>by
       refine mO p s ⟨#[60,47]⟩ _ _ _ (xR k) ?_ hs (by decide) W hW;by_cases hlt:k=n2
       ·rw [decide_eq_true hlt];have:ks.drop k=[]:=List.drop_eq_nil_of_le (by omega);rw [this,Nd.aX];rfl
       ·rw [decide_eq_false hlt,decide_eq_false_iff_not];obtain ⟨y,hy⟩:∃ y,ks[k]?=some y:=⟨_,jnj (by omega)⟩;rw [hdk k y hy,Nd.aX,jp2];exact TM y (HK1.out y (jo8 hy)) _
      have IC:Hid (∀ k y,ks[k]?=some y->∀ W,CB 109 p [.string s,.int .i64 ((j0+(Nd.aX (ks.take k)).length:Nat):Int),.int .i64 0] W->Calls Tryz.prog 74 #[.pointer (some ⟨p,0,none⟩),.bool true] W (RnP p s (j0+(Nd.aX (ks.take (k+1))).length) y W)):=fun k y hy W hW=>by
       have hym:=jo8 hy;have h:=xR k;rw [hdk k y hy,Nd.aX,jp2] at h;have hc:=IH.out y.sz (by have h1:=RX.out k y hy;have h2:=HM.out;omega) y p s _ _ true W (jnq _) (HK1.out y hym) (Ho.out y hym) hs2 (fun hye=>by
        cases hd:ks.drop (k+1) with
        | nil=>exact ⟨_,by rw [Nd.aX];rfl⟩
        | cons z l=>
         have hz:ks[k+1]?=some z:=by have:=congrArg (fun l:List Nd=>l[0]?) hd;simpa using this
         have hzn:q01 z.nm=false:=by
          cases h9:q01 z.nm
          ·rfl
          ·exact absurd ⟨hye,h9⟩ (HK3.out k y z hy hz)
         obtain ⟨m,hm⟩:=(nZ (HK1.out z (jo8 hz))).1 hzn;exact ⟨_,by rw [Nd.aX,hm,joj,joj]⟩) hW h
       have e3:j0+(Nd.aX (ks.take (k+1))).length=j0+(Nd.aX (ks.take k)).length+y.iO.length:=by rw [sO ks k y hy,jo1];omega
       rw [e3];exact hc
      have ji0:Hid (∀ k,j0+(Nd.aX (ks.take k)).length<s.size):=fun k=>by
       have h:=(xR k).len;rw [jo1,jo3] at h;show _<_;omega
      have HGR:Hid (∀ k y,ks[k]?=some y->(Nd.aX (ks.take k)).length<(Nd.aX (ks.take (k+1))).length):=fun k y hy=>by
       rw [sO ks k y hy,jo1];have h1:y.iO≠[]:=by
        obtain ⟨g1,g2⟩:=nZ (HK1.out y (jo8 hy));cases he:q01 y.nm
        ·obtain ⟨m,hm⟩:=g1 he;rw [hm];simp
        ·exact (g2 he).2
       have:=List.length_pos_iff.2 h1;omega
      have uZ:=hid hn2;have W3C:Hid (∀ W,CB 109 p [.string s,.int .i64 ((j0+(Nd.aX ks).length:Nat):Int),.int .i64 0] W->Calls Tryz.prog 124 #[.pointer (some ⟨p,0,none⟩),.string ((⟨#[60,47]⟩:ByteArray)++nm++(⟨#[62]⟩:ByteArray))] W (vC p s (j0+(Nd.aX ks).length+(nm.size+3)) (.tuple #[]) W)):=fun W hW=>by
       have h:=xR ks.length;rw [jp3,List.drop_length,Nd.aX,List.nil_append] at h;have e:((⟨#[60,47]⟩:ByteArray)++nm++(⟨#[62]⟩:ByteArray)).data.toList++rest=60::47::(nm.data.toList++62::rest):=by rw [M8,M8];simp
       rw [<- e] at h;have hc:=lW p s _ _ rest W hW h hs;have z1:(⟨#[60,47]⟩:ByteArray).size=2:=rfl;have z2:(⟨#[62]⟩:ByteArray).size=1:=rfl;have e4:((⟨#[60,47]⟩:ByteArray)++nm++(⟨#[62]⟩:ByteArray)).size=nm.size+3:=by rw [ByteArray.size_append,ByteArray.size_append];omega
       rw [e4] at hc;exact hc
      have jm5:n2<=s.size:=by
       have h1:∀ l:List Nd,(∀ x∈l,x.kW=0)->l.length<=(Nd.aX l).length:=by
        intro l;induction l with
        | nil=>intro _;exact Nat.zero_le _
        | cons x l ihl=>
         intro hx;have h2:=ihl (fun y hy=>hx y (List.mem_cons_of_mem _ hy));have h3:x.iO≠[]:=by
          obtain ⟨g1,g2⟩:=nZ (hx x (List.mem_cons_self ..));cases he:q01 x.nm
          ·obtain ⟨m,hm⟩:=g1 he;rw [hm];simp
          ·exact (g2 he).2
         have h4:=List.length_pos_iff.2 h3;rw [Nd.aX,jo1,jo3];omega
       have h2:=h1 ks HK1.out;have h3:=at3.len;rw [jo1] at h3;omega
      clear hb VL at2 at3 hj0 xR hdk hn2;go_wp2_with fail
      (with_reducible refine OV.out.mono ?_)
      rintro e w7 ⟨rfl,hw7⟩;rw [<- hw7];clear hw7 w7;go_wp2_with fail
      (with_reducible refine W2C.out.mono ?_)
      rintro e w7 ⟨rfl,h7⟩;have PI:=hid (Kt.out.trans h7);have N7:=hid (h7.pl Kt.out.lt N6.out PK);have R7:=hid (h7.pl Kt.out.lt R6.out su);obtain ⟨wb7,Mc,nV⟩:=RO6.out.hop2 (p:=p) (by rw [TN.out];exact hpB) h7.gr;obtain ⟨B2,hB2⟩:∃ B2,B2=w7.heap.size:=⟨_,rfl⟩;have hBB:B<=B2:=by rw [hB2];have h1:=nV.aN.size;rw [Mc,TN.out] at h1;exact h1
      have TQ:Hid (Rd (fun b=>B<=b/\b<B2) w7 (bD at_) [.slice av nv cv]):=nV.eP.inside.weaken (fun b hb'=>by rw [Mc,TN.out] at hb';rw [hB2];exact hb');obtain ⟨iN,GR,oQ,oV,oW⟩:=info_parts nM;have R2:Hid (RnK p s j0 N R B B2 nm (.slice av nv cv) at_ ks w w7):=⟨0,_,[],w7,Nat.zero_le _,by rw [List.take_zero,Nd.aX];exact PI.out,N7.out,R7.out,hB2.symm,aH.nil _ _ _ w7,TQ.out⟩;clear s0 h7 Mc nV hB2 W2C OV;go_upto_region 14 with (fail)
      go_loopw [] (fun wr=>RnK p s j0 N R B B2 nm (.slice av nv cv) at_ ks w wr) (fun wr=>s.size-posOf p wr)
      case atStart=>exact R2.out
      case round=>
       clear R2;obtain ⟨k2,v,bE,wb2,hk2,hS,hNc,hRc,hwb,hrow,hrd⟩:=hrel;rw [<- uZ.out] at hk2;obtain ⟨nw,hnw⟩:∃ nw,nw=((ks.take k2).map Nd.d).length:=⟨_,rfl⟩;obtain ⟨aw,cw,rfl,hcw,jm6⟩:=hrow.cap hnw.symm;have jm7:nw<=n2:=by rw [hnw,List.length_map,jq9];omega
       have ji1:=hid hnw.symm;obtain ⟨pk2,Md⟩:∃ q,q=j0+(Nd.aX (ks.take k2)).length:=⟨_,rfl⟩;have Yl:=hid Md;have Dh:Hid (dP p s pk2 w wr):=by rw [Md];exact hS
       have IY:=hid (FK.out k2 hk2 wr (by rw [<- Md];exact Dh.out.cb));rw [<- Md] at IY;have ji2:=hid (lX Dh.out.c1);have jm8:pk2<s.size:=by rw [Md];exact ji0.out k2
       have jcq:=hid hNc;have jcx:=hid hRc;have TS:=hid hwb;have jcz:=hid hrow;have jd0:=hid hrd;have ce:=Dh.out.c2;clear hS hNc hRc hwb hrow hnw Md hrd;obtain ⟨wy,hwy⟩:∃ wy:jqz,wy=wr:=⟨_,rfl⟩;subst hwy;by_cases hlt:k2=n2
       ·rw [decide_eq_true hlt] at IY;have hkl:k2=ks.length:=by have:=uZ.out;omega
        have ji3:Hid (pk2=j0+(Nd.aX ks).length):=by show _=_;rw [Yl.out,hkl,jp3]
        have MR:Hid (aH 35 4 (fun _=>False) wy.heap.size wb2 (ks.map Nd.d) bE (.slice aw nw cw) wy):=by have h:=jcz.out;rw [hkl,jp3] at h;exact h
        clear hkl hlt;go_wp2_with fail
        (with_reducible refine IY.out.mono ?_)
        rintro e w8 ⟨rfl,h8⟩;have VK:=hid (Dh.out.trans h8);have N8:=hid (h8.pl Dh.out.lt jcq.out PK);have R8:=hid (h8.pl Dh.out.lt jcx.out su);obtain ⟨wb8,FY,jk⟩:=MR.out.hop2 (p:=p) (by rw [TS.out];omega) h8.gr;have RD8:Hid (Rd (fun b=>B<=b/\b<B2) w8 (bD at_) [.slice av nv cv]):=Rd.keep (fun b hb' hl=>⟨hb',h8.gr.block b hl (fun e=>by have e9:b=p:=(by injection e);have:=hb'.1;omega)⟩) _ _ jd0.out;have Yk:=hid jk;have Rx:Hid (wb8.heap.size=B2):=by show _=_;rw [FY];exact TS.out
        have n0:=N8.out.cell 0 _ rfl;have z1:(⟨#[60,47]⟩:ByteArray).size=2:=rfl;have z2:(⟨#[62]⟩:ByteArray).size=1:=rfl;have ad1:∀ W:jqz,(Op.stringOp .add (⟨#[60,47]⟩:ByteArray) nm).run Tryz.prog W=.ok (.string ((⟨#[60,47]⟩:ByteArray)++nm)) W:=fun W=>run_string_add_sum W _ _ (by omega)
        have ad2:∀ W:jqz,(Op.stringOp .add ((⟨#[60,47]⟩:ByteArray)++nm) (⟨#[62]⟩:ByteArray)).run Tryz.prog W=.ok (.string ((⟨#[60,47]⟩:ByteArray)++nm++(⟨#[62]⟩:ByteArray))) W:=fun W=>run_string_add_sum W _ _ (by rw [ByteArray.size_append];omega)
        have W3W:=hid (W3C.out w8 (by rw [<- ji3.out];exact VK.out.cb));clear h8 FY jk IY ce;go_wp2_with fail
        (with_reducible refine W3W.out.mono ?_)
        rintro e w9 ⟨rfl,h9⟩;have HS9:=hid (VK.out.trans h9);have N9:=hid (h9.pl VK.out.lt N8.out PK);have R9:=hid (h9.pl VK.out.lt R8.out su);obtain ⟨wb9,PX,uE⟩:=Yk.out.hop2 (p:=p) (by rw [Rx.out];omega) h9.gr;have RD9:Hid (Rd (fun b=>B<=b/\b<B2) w9 (bD at_) [.slice av nv cv]):=Rd.keep (fun b hb' hl=>⟨hb',h9.gr.block b hl (fun e=>by have e9:b=p:=(by injection e);have:=hb'.1;omega)⟩) _ _ RD8.out;have KD9:Hid (Rd (fun b=>B<=b) w9 (dh ks) [.slice aw nw cw]):=uE.eP.weaken (fun b hb'=>by rw [PX,Rx.out] at hb';exact jnx hBB hb');have m0:=N9.out.cell 0 _ rfl;have m1:=N9.out.cell 1 _ rfl;have m2:=N9.out.cell 2 _ rfl;have m3:=N9.out.cell 3 _ rfl;have hkx:=oC R9.out;obtain ⟨x0,x1,x2,x3,xf⟩:=hkx;have HF:Hid (dP p s (i+(Nd.mk nm ⟨#[]⟩ at_ ks).iO.length) w (dY w9 R (.string nm) (.string ⟨#[]⟩) (.slice av nv cv) (.slice aw nw cw))/\CB 35 R [.string nm,.string ⟨#[]⟩,.slice av nv cv,.slice aw nw cw] (dY w9 R (.string nm) (.string ⟨#[]⟩) (.slice av nv cv) (.slice aw nw cw))/\gF (w.heap.size<=·) (dY w9 R (.string nm) (.string ⟨#[]⟩) (.slice av nv cv) (.slice aw nw cw)) at_ ks (.slice av nv cv) (.slice aw nw cw)):=
         ⟨by rw [jhz.out];exact HS9.out.own (FJ _ R _ _ _ _) HRW.out su,jo R9.out _ _ _ _,⟨Rd.keep (fun b hb' _=>⟨jnx uj hb'.1,NK w9 R _ _ _ _ b (by have h:B<=b:=hb'.1;omega)⟩) _ _ RD9.out,Rd.keep (fun b hb' _=>⟨jnx uj hb',NK w9 R _ _ _ _ b (by have h:B<=b:=hb';omega)⟩) _ _ KD9.out⟩⟩
        clear h9 uE PX ad1 ad2 n0;go_wp2;have uU:=hid HF.out;unfold dY at uU;exact bodyPost_ret (v:=.agg #[.string nm,.string ⟨#[]⟩,.slice av nv cv,.slice aw nw cw]) (by have hc:=uU.out.2.1;simp [results,Tryz.results74,go_sem,hc.cell 0 _ rfl,hc.cell 1 _ rfl,hc.cell 2 _ rfl,hc.cell 3 _ rfl]) rfl ⟨_,_,rfl,uU.out.2.2,uU.out.1⟩
       ·rw [decide_eq_false hlt] at IY;obtain ⟨y,hy⟩:∃ y,ks[k2]?=some y:=⟨_,jnj (by have:=uZ.out;omega)⟩;have HY:=hid (IC.out k2 y hy);have Yj:Hid ((ks.take (k2+1)).map Nd.d=(ks.take k2).map Nd.d++[y.d]):=by show _=_;rw [List.take_add_one,hy,List.map_append];rfl
        have OU:Hid (pk2<j0+(Nd.aX (ks.take (k2+1))).length):=by show _<_;rw [Yl.out];have:=HGR.out k2 y hy;omega
        have hkn2:k2<n2:=by omega
        obtain ⟨yn,yt,ya,yk⟩:=y;clear hy hlt;go_wp2_with fail
        (with_reducible refine IY.out.mono ?_)
        rintro e w8 ⟨rfl,h8⟩;have VK:=hid (Dh.out.trans h8);have N8:=hid (h8.pl Dh.out.lt jcq.out PK);have R8:=hid (h8.pl Dh.out.lt jcx.out su);obtain ⟨wb8,FY,jk⟩:=jcz.out.hop2 (p:=p) (by rw [TS.out];omega) h8.gr;have RD8:Hid (Rd (fun b=>B<=b/\b<B2) w8 (bD at_) [.slice av nv cv]):=Rd.keep (fun b hb' hl=>⟨hb',h8.gr.block b hl (fun e=>by have e9:b=p:=(by injection e);have:=hb'.1;omega)⟩) _ _ jd0.out;have Yk:=hid jk;have Rx:Hid (wb8.heap.size=B2):=by show _=_;rw [FY];exact TS.out
        have HZ8:Hid (wy.heap.size<=w8.heap.size):=h8.gr.size;clear h8 IY FY jk ce;go_upto_region 15 with (fail)
        refine M4 7 (fun w'=>w'.cell? ⟨N,3,none⟩=some (.slice aw nw cw)) (by kernel_rfl) (N8.out.cell 3 _ rfl) ?_;intro hH;refine dw 0 rfl (by kernel_rfl) hH (by rfl) (by intro wv hSw;go_simp;try with_reducible rfl) ?_;refine dw 1 rfl (by kernel_rfl) hH (by rfl) (by intro wv hSw;(try dsimp only at hSw);go_simp;try with_reducible rfl) ?_;refine dw 2 rfl (by kernel_rfl) hH (by rfl) (by intro wv hSw;go_simp;try with_reducible rfl) ?_;obtain ⟨y0,hy0⟩:∃ y0,y0=w8.drew:=⟨_,rfl⟩;have bd:jr0 w8.heap.size w8 y0:=by rw [hy0];exact (jnk _ _).drew
        rw [<- hy0] at hH;rw [<- hy0];clear hy0;have TT:=hid (VK.out.far (zx bd));have N7':=hid (N8.out.below bd);have R7':=hid (R8.out.below bd);have ji4:=hid (Yk.out.below bd);have ji5:=hid (RD8.out.aV bd);have HZ7:Hid (wy.heap.size<=y0.heap.size):=jnx HZ8.out bd.size;have ICW:=hid (HY.out y0 (by rw [<- Yl.out];exact TT.out.cb));clear bd;refine dO (i:=3) rfl (by kernel_rfl) (fun KQ hK=>?_);go_simp;go_at_call 74
        (with_reducible refine ICW.out.mono ?_)
        rintro e y1 ⟨va,vk,he,hN9,h7⟩;obtain ⟨i1',i2',i3',rfl⟩:=Rd.au hN9.at_
        obtain ⟨i4',i5',i6',rfl⟩:=Rd.au hN9.ks;have he:e=.returned (.agg #[.string yn,.string yt,.slice i1' i2' i3',.slice i4' i5' i6']):=he;subst he;have HXE:Hid (Rd (fun b=>False\/wy.heap.size<=b) y1 (Nd.mk yn yt ya yk).d [.string yn,.string yt,.slice i1' i2' i3',.slice i4' i5' i6']):=(Nd.iH yn yt hN9).weaken (fun b hb'=>.inr (jnx HZ7.out hb'));have HS9:=hid (TT.out.trans h7);have N9:=hid (h7.pl TT.out.lt N7'.out PK);have R9:=hid (h7.pl TT.out.lt R7'.out su);obtain ⟨wb9,PX,uE⟩:=ji4.out.hop2 (p:=p) (by rw [Rx.out];omega) h7.gr;have RD9:Hid (Rd (fun b=>B<=b/\b<B2) y1 (bD at_) [.slice av nv cv]):=Rd.keep (fun b hb' hl=>⟨hb',h7.gr.block b hl (fun e=>by have e9:b=p:=(by injection e);have:=hb'.1;omega)⟩) _ _ ji5.out;have RO9:=hid uE;have HW9:Hid (wb9.heap.size=B2):=by show _=_;rw [PX];exact Rx.out
        have hH1:y1.cell? ⟨N,3,none⟩=some (.slice aw nw cw):=N9.out.cell 3 _ rfl;clear h7 PX uE ICW hN9;refine hK.out _ _ (fun _ _=>hH1) (fun hH2=>?_);clear hK KQ hH hH1;have hH:=hH2 (by decide) (by kernel_rfl);clear hH2;refine dO (i:=4) rfl (by kernel_rfl) (fun KQ hK=>?_);go_simp;refine hK.out _ _ (fun _ _=>(N9.out.below ((jnk _ _).alloc (jnq _) _)).cell 3 _ rfl) (fun hH2=>?_);clear hK KQ hH;have hH:=hH2 (by decide) (by kernel_rfl);clear hH2;refine dO (i:=5) rfl (by kernel_rfl) (fun KQ hK=>?_);refine Ba (n:=nw) rfl (.tmp 60) (.tmp 63) 28 rfl iN _ 80 Tryz.underlying28 GR oQ oV oW rfl (by decide) RO9.out (fun _=>False.elim) (Nd.mk yn yt ya yk).d [.string yn,.string yt,.slice i1' i2' i3',.slice i4' i5' i6'] HXE.out rfl kE ji1.out (by omega) (by decide) rfl rfl ?_;intro a10 c10 VN PY PZ;have F4:∀ q,q<B2->(Value.slice aw nw cw).ownBlock≠some q:=fun q hq e=>by have h1:=(RO9.out.own.lt q e).1;have h2:=HW9.out;omega
        have ji6:=hid (HS9.out.app PZ (fun g hg=>⟨by have h1:=(RO9.out.own.lt g hg).1;have h2:=HW9.out;omega,fun e=>F4 g (by omega) hg⟩));have N10:=hid (xQ N9.out PZ (F4 N (by omega)));have R10:=hid (xQ R9.out PZ (F4 R (by omega)));have ji7:Hid (Rd (fun b=>B<=b/\b<B2) VN (bD at_) [.slice av nv cv]):=Rd.keep (fun b hb' hl=>⟨hb',(PZ.block b (by rw [World.size_alloc];omega) (fun e=>F4 b hb'.2 e.symm)).trans (Below.heap_alloc y1 _ b hl)⟩) _ _ RD9.out;have ji8:=hid PY;have hH1:VN.cell? ⟨N,3,none⟩=some (.slice aw nw cw):=N10.out.cell 3 _ rfl;clear PY PZ F4;refine hK.out _ _ (fun _ _=>hH1) (fun hH2=>?_);clear hK KQ hH hH1;have hH:=hH2 (by decide) (by kernel_rfl);clear hH2;refine dO (i:=6) rfl (by kernel_rfl) (fun KQ hK=>?_);go_simp;refine hK.out _ _ (fun _ _=>hH) (fun hH2=>?_);clear hK KQ hH;have hH:=hH2 (by decide) (by kernel_rfl);clear hH2;refine dO (i:=7) rfl (by kernel_rfl) (fun KQ hK=>?_);have f2:=kS N10.out 3;go_simp;obtain ⟨wbx,PV,FZ⟩:=ji8.out.hop2 (p:=N) (by rw [HW9.out];omega) (TI VN N 3 (.slice a10 (nw+1) c10));have HSx:=hid (ji6.out.own (TI VN N 3 (.slice a10 (nw+1) c10)) HNW.out PK);have hrx:=FZ.top;rw [<- Yj.out] at hrx;have HF:Hid (RnK p s j0 N R B B2 nm (.slice av nv cv) at_ ks w (VN.setCell ⟨N,3,none⟩ (.slice a10 (nw+1) c10))/\s.size-posOf p (VN.setCell ⟨N,3,none⟩ (.slice a10 (nw+1) c10))<s.size-posOf p wy):=by
         refine ⟨⟨k2+1,_,_,wbx,by have:=uZ.out;omega,HSx.out,nO N10.out 3 _,(jo5 VN ⟨N,3,none⟩ _ R (fun e=>hNR e.symm)).trans R10.out,by rw [PV];exact HW9.out,hrx,Rd.keep (fun b hb' hl=>⟨hb',jo5 VN ⟨N,3,none⟩ _ b (fun e=>by have:=hb'.1;have e:b=N:=e;omega)⟩) _ _ ji7.out⟩,?_⟩
         ·rw [lX HSx.out.c1,ji2.out];have:=OU.out;omega
        clear FZ PV f2 hrx;refine hK.out _ _ (fun h=>absurd rfl h) (fun _=>?_);clear hK KQ hH;refine Fx (by kernel_rfl) ?_ _;go_wp2;go_roundw;case rel=>exact HF.out.1
        case measure=>exact HF.out.2
end Go.Proofs.YtkfnkeflalcphaaGreatDoor

