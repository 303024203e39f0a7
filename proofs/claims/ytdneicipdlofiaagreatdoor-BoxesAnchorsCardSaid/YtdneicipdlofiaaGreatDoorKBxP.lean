/- Contracts of the prefixes' text and marked, and of the list's add. Contract of (*maker).leaf. What the makers of boxes leave, put together; the bounds that their walks ask. -/
import Derived.Test.YtdneicipdlofiaaGreatDoorKBxC
import Derived.Test.YtdneicipdlofiaaGreatDoorKRgY
set_option maxHeartbeats 4000000
set_option maxRecDepth 100000
open Go.Lib (hid)
namespace Go.Proofs.YtdneicipdlofiaaGreatDoor
open List renaming setIfInBounds_toArray->jo9,set_cons_zero->joj,set_cons_succ->jok,map_append->jq0
open Go.RowKit.Below renaming refl->jox
open Nat renaming le_refl->joz,le_trans->jp0
open Go renaming World->js1,Value->js3
open Go.RowKit
set_option linter.unusedVariables false
set_option linter.unusedSimpArgs false
theorem Xq (n:Nat):(⟨(Lib.repeatL [32] n).toArray⟩:ByteArray)=rW n:=by
 unfold rW;congr 2;induction n with
 | zero=>rfl
 | succ n ih=>simp [Lib.repeatL,List.replicate_succ,ih]
theorem mV (n:Nat):(rW n).size=n:=by show (List.replicate n (32:UInt8)).toArray.size=n;rw [List.size_toArray,List.length_replicate]
theorem LH (p:Px) (i:Nat) (s:ByteArray) (w:js1) (h1:p.first.size<=1000000) (h2:p.rest.size<=1000000) (h3:s.size<=1000000000) : Calls Tryz.prog 183 #[.agg #[.string p.first,.string p.rest],.int .i64 i,.string s] w fun e w'=>e=.returned (.string (p.text i s))/\Below w.heap.size w w':=by
 obtain ⟨f,r⟩:=p;simp only at h1 h2;obtain ⟨V,hV⟩:∃ V,V=Px.text ⟨f,r⟩ i s:=⟨_,rfl⟩;have HV:Hid (V=if i=0 then f++s else r++s):=hV;rw [<- hV];clear hV;by_cases hi:i=0
 ·subst hi;have h1:V=f++s:=by
   have h:=HV.out;rw [if_pos rfl] at h;exact h
  have LJ:=hid h1;clear h1 HV;go_enter Tryz.func183,Tryz.ntmps183;go_wp2;go_ret;exact ⟨by rw [LJ.out];rfl,(jox _ _).alloc (joz _) _⟩
 ·have q1:((i:Int)==0)=false:=by simpa using hi
  have HI:=hid hi;clear hi;go_enter Tryz.func183,Tryz.ntmps183;go_wp2;go_ret;exact ⟨by rw [HV.out,if_neg HI.out];rfl,(jox _ _).alloc (joz _) _⟩
theorem wP (p:Px) (m:ByteArray) (w:js1) (h1:p.first.size<=1000000) (h2:p.rest.size<=1000000) (h3:m.size<=1000000) : Calls Tryz.prog 140 #[.agg #[.string p.first,.string p.rest],.string m] w fun e w'=>e=.returned (.agg #[.string (p.mark m).first,.string (p.mark m).rest])/\Below w.heap.size w w':=by
 obtain ⟨f,r⟩:=p;simp only at h1 h2;obtain ⟨A,hA⟩:∃ A,A=(Px.mark ⟨f,r⟩ m).first:=⟨_,rfl⟩
 obtain ⟨B,hB⟩:∃ B,B=(Px.mark ⟨f,r⟩ m).rest:=⟨_,rfl⟩;have HA:Hid (A=f++m):=hA;have HB:Hid (B=r++rW m.size):=hB;rw [<- hA,<- hB];obtain ⟨S,hS⟩:∃ S,S=w.heap.size:=⟨_,rfl⟩;obtain ⟨w0,hw0⟩:∃ w0,w0=(w.alloc (.cells #[.string f,.string r] 87)).alloc (.cells #[.string ⟨#[]⟩,.string ⟨#[]⟩] 87):=⟨_,rfl⟩;have b0:Below w.heap.size w w0:=by rw [hw0];exact ((jox _ _).alloc (joz _) _).alloc (by simp) _
 have k0:CB 87 S [.string f,.string r] w0:=by rw [hw0,hS];exact CB.below (CB.new _ _ _) ((jox _ _).alloc (joz _) _)
 have k1:CB 87 (S+1) [.string ⟨#[]⟩,.string ⟨#[]⟩] w0:=by rw [hw0,hS,show w.heap.size+1=(w.alloc (.cells #[.string f,.string r] 87)).heap.size from (World.size_alloc _ _).symm];exact CB.new _ _ _
 have RP:=hid (Tryz.strings_Repeat ⟨#[32]⟩ m.size w0.drew (by omega) (by show 1*m.size<=_;omega));rw [show (ByteArray.mk #[32]).data.toList=[32] from rfl,show (⟨(Lib.repeatL [32] m.size).toArray⟩:ByteArray)=rW m.size from Xq _] at RP;have hsz:(rW m.size).size=m.size:=mV _;have SF:=hid (fun (w':js1) (hb:Below w0.heap.size w0 w')=>(⟨(k0.below hb).cell 0 _ rfl,(k0.below hb).cell 1 _ rfl⟩:w'.cell? ⟨S,0,none⟩=some (.string f)/\w'.cell? ⟨S,1,none⟩=some (.string r)));have S0:=SF.out _ (jox _ _).drew;have B0:=hid b0;have K1:=hid k1;have a1:=hid (show ¬ 9223372036854775807<f.size+m.size by omega);have a2:=hid (show ¬ 9223372036854775807<r.size+m.size by omega);generalize rW m.size=sp at *;clear hA hB b0 k0 k1;go_enter Tryz.func140,Tryz.ntmps140;go_upto_region 1 with (fail)
 rw [<- hw0,<- hS];have HS:=hid hS;clear hw0 hS;refine gW 11 (fun w'=>w'.cell? ⟨S,0,none⟩=some (.string f)/\w'.cell? ⟨S,1,none⟩=some (.string r)) (by kernel_rfl) S0 ?_;intro hH;refine gI 0 rfl (by kernel_rfl) hH (by rfl) (by intro wv hSw;(try dsimp only at hSw);go_simp;try with_reducible rfl) ?_;refine gI 1 rfl (by kernel_rfl) hH (by rfl) (by intro wv hSw;(try dsimp only at hSw);go_simp;try with_reducible rfl) ?_;refine gI 2 rfl (by kernel_rfl) hH (by rfl) (by intro wv hSw;(try dsimp only at hSw);go_simp;try with_reducible rfl) ?_;refine gI 3 rfl (by kernel_rfl) hH (by rfl) (by intro wv hSw;(try dsimp only at hSw);go_simp;(rw [if_neg a1.out]);try with_reducible rfl) ?_;refine gI 4 rfl (by kernel_rfl) hH (by rfl) (by intro wv hSw;(try dsimp only at hSw);go_simp;try with_reducible rfl) ?_;refine gI 5 rfl (by kernel_rfl) hH (by rfl) (by intro wv hSw;(try dsimp only at hSw);go_simp;try with_reducible rfl) ?_;refine gI 6 rfl (by kernel_rfl) hH (by rfl) (by intro wv hSw;(try dsimp only at hSw);go_simp;try with_reducible rfl) ?_;refine gI 7 rfl (by kernel_rfl) hH (by rfl) (by intro wv hSw;(try dsimp only at hSw);go_simp;try with_reducible rfl) ?_;try simp only [Act.put,jo9,joj,jok]
 refine Gu (i:=8) rfl (by kernel_rfl) (fun KQ hK=>?_);go_simp;go_at_call 186
 (with_reducible refine RP.out.mono ?_)
 rintro e w1 ⟨rfl,b1⟩;have B1:=hid ((jox _ w0).drew.trans b1);have S1:=SF.out w1 B1.out;have K2:=hid (K1.out.below B1.out);have f2:=tN K2.out;have x0:=K2.out.cell 0 _ rfl;have x1:=K2.out.cell 1 _ rfl;clear b1;refine hK.out _ _ (fun _ _=>S1) (fun hH2=>?_);clear hK KQ hH;have hH:=hH2 (by decide) (by kernel_rfl);clear hH2;try simp only [Act.put,jo9,joj,jok]
 refine gI 9 rfl (by kernel_rfl) hH (by rfl) (by intro wv hSw;(try dsimp only at hSw);go_simp;(rw [if_neg a2.out]);try with_reducible rfl) ?_;refine gI 10 rfl (by kernel_rfl) hH (by rfl) (by intro wv hSw;(try dsimp only at hSw);go_simp;try with_reducible rfl) ?_;try simp only [Act.put,jo9,joj,jok]
 refine Gu (i:=11) rfl (by kernel_rfl) (fun KQ hK=>?_);go_simp;refine hK.out _ _ (fun h _=>absurd rfl h) (fun _=>?_);clear hK KQ;refine gX (by kernel_rfl) ?_ _;have K3:=rY (rY K2.out 0 (.string (f++m))) 1 (.string (r++sp));have r0:=K3.cell 0 _ rfl;have r1:=K3.cell 1 _ rfl;have HP:Hid (Below w.heap.size w ((w1.setCell ⟨S+1,0,none⟩ (.string (f++m))).setCell ⟨S+1,1,none⟩ (.string (r++sp)))):=((aP B0.out B1.out).setCell (by have:=HS.out;show w.heap.size<=S+1;omega) _).setCell (by have:=HS.out;show w.heap.size<=S+1;omega) _;clear K3;go_wp2;exact bodyPost_ret (v:=.agg #[.string (f++m),.string (r++sp)]) (by simp [results,Tryz.results140,go_sem,r0,r1]) rfl ⟨by rw [HA.out,HB.out],HP.out⟩
def Cg (q:Nat) (p:Px) (L:List Bx) (N:Nat) (w:js1) (v:js3) (e:Ending) (w':js1):Prop:=
 e=.returned (.tuple #[])/\∃ v',CB 153 q [.string p.first,.string p.rest,v'] w'/\aO 54 6 (fun _=>False) N w'.heap.size (L.map Bx.d) (L.map bG) v' w'/\aM (fun b=>b=q\/v.ownBlock=some b) w w'
theorem iT (q:Nat) (p:Px) (L:List Bx) (v:js3) (N U:Nat) (s:ByteArray) (h:Int) (k:Bool) (w:js1) (h1:p.first.size<=1000000) (h2:p.rest.size<=1000000) (h3:s.size<=1000000000) (hL:L.length<=1000000) (hq:CB 153 q [.string p.first,.string p.rest,v] w) (hqn:q<N) (hr:aO 54 6 (fun _=>False) N U (L.map Bx.d) (L.map bG) v w) : Calls Tryz.prog 134 #[.pointer (some ⟨q,0,none⟩),.string s,.int .i64 h,.bool k] w (Cg q p (L++[Bx.new (p.text L.length s) h k]) N w v):=by
 obtain ⟨iB,zo,Ou,Ov,Ow⟩:=info_parts GV;obtain ⟨n,hn⟩:∃ n,n=(L.map Bx.d).length:=⟨_,rfl⟩;have UW:n=L.length:=by rw [hn,List.length_map]
 have hn1:n<=1000000:=by omega
 obtain ⟨a,c,rfl,-,-⟩:=hr.2.cap hn.symm;have HN:=hid hn.symm;have TX:=hid (LH p n s w.drew h1 h2 h3);obtain ⟨TT,hTT⟩:∃ TT,TT=p.text L.length s:=⟨_,rfl⟩;rw [UW,<- hTT,<- UW] at TX;rw [<- hTT];have HQ:=hid hq;have HR:=hid hr.top;have U9:=hid (show (Value.slice a n c).ownBlock≠some q from fun e=>by have:=(hr.own.lt q e).1;omega);have HP:Hid (∀ (a2:Option Addr) (c2:Nat) (w1 w2:js1),Below w.heap.size w w1->eu 54 6 (fun _=>False) w2.heap.size (zf N w1) (L.map Bx.d++[(Bx.new TT h k).d]) (L.map bG++[tL TT h 0 k false (.slice none 0 0)]) (.slice a2 (n+1) c2) w2 ->
   (w1.alloc (.cells (tL TT h 0 k false (.slice none 0 0)).toArray 54)).grownBy w2 (Value.slice a n c).ownBlock->CB 153 q [.string p.first,.string p.rest,.slice a n c] w2 ->
   Cg q p (L++[Bx.new TT h k]) N w (.slice a n c) (.returned (.tuple #[])) (w2.setCell ⟨q,2,none⟩ (.slice a2 (n+1) c2))):=by
  intro a2 c2 w1 w2 hb hrow hg hc;have M9:N<=w1.heap.size:=jp0 hr.1 hb.size;have hrC:aO 54 6 (fun _=>False) N w2.heap.size (L.map Bx.d++[(Bx.new TT h k).d]) (L.map bG++[tL TT h 0 k false (.slice none 0 0)]) (.slice a2 (n+1) c2) w2:=aO.ofU hrow (Rp M9);have hf2:=aM.set w2 q 2 (.slice a2 (n+1) c2);refine ⟨rfl,.slice a2 (n+1) c2,?_,?_,?_⟩
  ·have:=rY hc 2 (.slice a2 (n+1) c2);exact this
  ·rw [jq0,jq0];have:=hrC.fr (ok':=fun _=>False) hf2 (fun _ h=>h) (fun b _ h e=>by rcases h with h | h;exact h.elim;omega);have hs:(w2.setCell ⟨q,2,none⟩ (.slice a2 (n+1) c2)).heap.size=w2.heap.size:=by simp [World.setCell]
   rw [hs];exact this
  ·refine aM.trans (P:=fun b=>b=q\/(Value.slice a n c).ownBlock=some b) (aM.trans (aM.of_below (hb.trans ((jox _ _).alloc hb.size _)) _) (aM.grown hg) (fun b _ e=>.inr e)) hf2 (fun b _ e=>.inl e)
 clear hr hq hn UW hTT hL;go_enter Tryz.func134,Tryz.ntmps134;go_wp2_with fail
 refine gW 23 (fun w'=>CB 153 q [.string p.first,.string p.rest,.slice a n c] w') (by kernel_rfl) (HQ.out.below (jox _ _).drew) ?_;intro hH;refine gI 0 rfl (by kernel_rfl) hH (by rfl) (by intro wv hSw;(have d0:=CB.cell hSw 0 _ rfl;have d1:=CB.cell hSw 1 _ rfl;have d2:=CB.cell hSw 2 _ rfl);go_simp;try with_reducible rfl) ?_;refine gI 1 rfl (by kernel_rfl) hH (by rfl) (by intro wv hSw;(have d0:=CB.cell hSw 0 _ rfl;have d1:=CB.cell hSw 1 _ rfl;have d2:=CB.cell hSw 2 _ rfl);go_simp;try with_reducible rfl) ?_;refine gI 2 rfl (by kernel_rfl) hH (by rfl) (by intro wv hSw;(have d0:=CB.cell hSw 0 _ rfl;have d1:=CB.cell hSw 1 _ rfl;have d2:=CB.cell hSw 2 _ rfl);go_simp;try with_reducible rfl) ?_;refine gI 3 rfl (by kernel_rfl) hH (by rfl) (by intro wv hSw;(have d0:=CB.cell hSw 0 _ rfl;have d1:=CB.cell hSw 1 _ rfl;have d2:=CB.cell hSw 2 _ rfl);go_simp;try with_reducible rfl) ?_;refine gI 4 rfl (by kernel_rfl) hH (by rfl) (by intro wv hSw;(have d0:=CB.cell hSw 0 _ rfl;have d1:=CB.cell hSw 1 _ rfl;have d2:=CB.cell hSw 2 _ rfl);go_simp;try with_reducible rfl) ?_;refine gI 5 rfl (by kernel_rfl) hH (by rfl) (by intro wv hSw;(have d0:=CB.cell hSw 0 _ rfl;have d1:=CB.cell hSw 1 _ rfl;have d2:=CB.cell hSw 2 _ rfl);go_simp;try with_reducible rfl) ?_;refine gI 6 rfl (by kernel_rfl) hH (by rfl) (by intro wv hSw;(have d0:=CB.cell hSw 0 _ rfl;have d1:=CB.cell hSw 1 _ rfl;have d2:=CB.cell hSw 2 _ rfl);go_simp;try with_reducible rfl) ?_;refine gI 7 rfl (by kernel_rfl) hH (by rfl) (by intro wv hSw;(have d0:=CB.cell hSw 0 _ rfl;have d1:=CB.cell hSw 1 _ rfl;have d2:=CB.cell hSw 2 _ rfl);go_simp;try with_reducible rfl) ?_;try simp only [Act.put,jo9,joj,jok]
 refine gI 8 rfl (by kernel_rfl) hH (by rfl) (by intro wv hSw;(have d0:=CB.cell hSw 0 _ rfl;have d1:=CB.cell hSw 1 _ rfl;have d2:=CB.cell hSw 2 _ rfl);go_simp;try with_reducible rfl) ?_;refine gI 9 rfl (by kernel_rfl) hH (by rfl) (by intro wv hSw;(have d0:=CB.cell hSw 0 _ rfl;have d1:=CB.cell hSw 1 _ rfl;have d2:=CB.cell hSw 2 _ rfl);go_simp;try with_reducible rfl) ?_;refine gI 10 rfl (by kernel_rfl) hH (by rfl) (by intro wv hSw;(have d0:=CB.cell hSw 0 _ rfl;have d1:=CB.cell hSw 1 _ rfl;have d2:=CB.cell hSw 2 _ rfl);go_simp;try with_reducible rfl) ?_;refine gI 11 rfl (by kernel_rfl) hH (by rfl) (by intro wv hSw;(have d0:=CB.cell hSw 0 _ rfl;have d1:=CB.cell hSw 1 _ rfl;have d2:=CB.cell hSw 2 _ rfl);go_simp;try with_reducible rfl) ?_;refine gI 12 rfl (by kernel_rfl) hH (by rfl) (by intro wv hSw;(have d0:=CB.cell hSw 0 _ rfl;have d1:=CB.cell hSw 1 _ rfl;have d2:=CB.cell hSw 2 _ rfl);go_simp;try with_reducible rfl) ?_;refine gI 13 rfl (by kernel_rfl) hH (by rfl) (by intro wv hSw;(have d0:=CB.cell hSw 0 _ rfl;have d1:=CB.cell hSw 1 _ rfl;have d2:=CB.cell hSw 2 _ rfl);go_simp;try with_reducible rfl) ?_;refine gI 14 rfl (by kernel_rfl) hH (by rfl) (by intro wv hSw;(have d0:=CB.cell hSw 0 _ rfl;have d1:=CB.cell hSw 1 _ rfl;have d2:=CB.cell hSw 2 _ rfl);go_simp;try with_reducible rfl) ?_;refine gI 16 rfl (by kernel_rfl) hH (by rfl) (by intro wv hSw;(have d0:=CB.cell hSw 0 _ rfl;have d1:=CB.cell hSw 1 _ rfl;have d2:=CB.cell hSw 2 _ rfl);go_simp;try with_reducible rfl) ?_;try simp only [Act.put,jo9,joj,jok]
 refine gI 17 rfl (by kernel_rfl) hH (by rfl) (by intro wv hSw;(have d0:=CB.cell hSw 0 _ rfl;have d1:=CB.cell hSw 1 _ rfl;have d2:=CB.cell hSw 2 _ rfl);go_simp;try with_reducible rfl) ?_;try simp only [Act.put,jo9,joj,jok]
 refine Gu (i:=15) rfl (by kernel_rfl) (fun KQ hK=>?_);go_simp;go_at_call 183
 (with_reducible refine TX.out.mono ?_)
 rintro e w1 ⟨rfl,b1⟩;have B1:=hid ((jox w.heap.size w).drew.trans b1);have Q1:=hid (HQ.out.below B1.out);have R1:=hid (HR.out.below B1.out);clear b1 TX;refine hK.out _ _ (fun _ _=>Q1.out) (fun hH2=>?_);clear hK KQ hH;have hH:=hH2 (by decide) (by kernel_rfl);clear hH2;try simp only [Act.put,jo9,joj,jok]
 refine gI 18 rfl (by kernel_rfl) hH (by rfl) (by intro wv hSw;(have d0:=CB.cell hSw 0 _ rfl;have d1:=CB.cell hSw 1 _ rfl;have d2:=CB.cell hSw 2 _ rfl);go_simp;try with_reducible rfl) ?_;try simp only [Act.put,jo9,joj,jok]
 refine Gu (i:=19) rfl (by kernel_rfl) (fun KQ hK=>?_);go_simp;refine hK.out _ _ (fun _ _=>Q1.out.below ((jox _ _).alloc (joz _) _)) (fun hH2=>?_);clear hK KQ hH;have hH:=hH2 (by decide) (by kernel_rfl);clear hH2;try simp only [Act.put,jo9,joj,jok]
 try simp only [Act.put,jo9,joj,jok]
 refine Gu (i:=20) rfl (by kernel_rfl) (fun KQ hK=>?_);refine OZ rfl (.tmp 12) (.tmp 27) 50 rfl iB _ 64 Tryz.underlying50 zo Ou Ov Ow rfl (by decide) R1.out.2 (fun b hb=>hb.elim) (Bx.new TT h k).d (tL TT h 0 k false (.slice none 0 0)) (Bx.l6 _ (Rd.aR _ _ _)) rfl Nt HN.out (by omega) (by decide) rfl rfl ?_;intro a2 c2 w2 hrow2 hg2;have Q2:=(Q1.out.below (w':=w1.alloc (.cells (tL TT h 0 k false (.slice none 0 0)).toArray 54)) ((jox _ _).alloc (joz _) _)).fr (aM.grown hg2) (fun e=>U9.out e);have R2:=hid hrow2;have G2:=hid hg2;have Gn:=hid Q2;have f2:=tN Q2;have x2:=Q2.cell 2 _ rfl;clear hrow2 hg2;refine hK.out _ _ (fun _ _=>Q2) (fun hH2=>?_);clear hK KQ hH;have hH:=hH2 (by decide) (by kernel_rfl);clear hH2;try simp only [Act.put,jo9,joj,jok]
 refine gI 21 rfl (by kernel_rfl) hH (by rfl) (by intro wv hSw;(have d0:=CB.cell hSw 0 _ rfl;have d1:=CB.cell hSw 1 _ rfl;have d2:=CB.cell hSw 2 _ rfl);go_simp;try with_reducible rfl) ?_;refine gI 22 rfl (by kernel_rfl) hH (by rfl) (by intro wv hSw;(have d0:=CB.cell hSw 0 _ rfl;have d1:=CB.cell hSw 1 _ rfl;have d2:=CB.cell hSw 2 _ rfl);go_simp;try with_reducible rfl) ?_;try simp only [Act.put,jo9,joj,jok]
 refine Gu (i:=23) rfl (by kernel_rfl) (fun KQ hK=>?_);go_simp;refine hK.out _ _ (fun h _=>absurd rfl h) (fun _=>?_);clear hK KQ;refine gX (by kernel_rfl) ?_ _;go_wp2
 go_end0
 exact HP.out a2 c2 w1 w2 B1.out R2.out G2.out Gn.out
open Go.RowKit
def O1 (m:Nat) (W:Int) (st:St) (vp:js3) (N:Nat) (v:js3) (x:Bx) (L:List Bx) (own:List ByteArray) (w:js1) (e:Ending) (w':js1):Prop:=
 e=.returned v/\∃ va,aO 54 6 (fun b=>vp.ownBlock=some b) N w'.heap.size ((bO st (x::L) own).1.map Bx.d) (tL x.text x.ht (st.groups:Int) x.keep x.fl va::L.map (fun y=>bG (cZ st.groups y))) v w' /\
  w'.ownsRow m 9 1 va (st.pend++own).length ((st.pend++own).map Value.string)/\(∀ g,va.ownBlock=some g->vp.ownBlock=some g\/w.heap.size<=g) /\
  mo m W (bO st (x::L) own).2 (.slice none 0 0) w'/\aM (fun b=>b=m\/vp.ownBlock=some b\/v.ownBlock=some b) w w'
theorem O4 (m:Nat) (W:Int) (st:St) (vp v vo:js3) (w:js1) (hm:mo m W st vp w) (hf:st.aV=true) : Calls Tryz.prog 141 #[.pointer (some ⟨m,0,none⟩),v,vo] w fun e w'=>e=.returned v/\w=w':=by have c4:=hm.cb.cell 4 _ rfl;rw [hf] at c4;clear hm hf;go_enter Tryz.func141,Tryz.ntmps141;go_wp2;go_ret;exact ⟨rfl,rfl⟩
def pz (g k:Nat) (L:List Bx):List Bx:=(L.take k).map (cZ g)++L.drop k
theorem AO (g k:Nat) (L:List Bx) (x:Bx) (h:L[k]?=some x):(pz g k L).set k (cZ g x)=pz g (k+1) L:=by
 have hk:=(List.getElem?_eq_some_iff.1 h);obtain ⟨hk,e⟩:=hk;unfold pz;have h1:L.drop k=x::L.drop (k+1):=by rw [<- e];exact List.drop_eq_getElem_cons hk
 rw [h1,List.set_append_right _ _ (by simp;omega),List.take_add_one,h,jq0];simp [Nat.min_eq_left (Nat.le_of_lt hk)]
theorem SH (g k:Nat) (L:List Bx) (x:Bx) (h:L[k]?=some x):(pz g k L)[k]?=some x:=by have hk:=(List.getElem?_eq_some_iff.1 h).1;unfold pz;rw [List.getElem?_append_right (by simp;omega)];simp [Nat.min_eq_left (Nat.le_of_lt hk),h]
theorem O5 (g:Nat) (L:List Bx):pz g L.length L=L.map (cZ g):=by unfold pz;simp
theorem O6 (g:Nat) (x:Bx):bG (cZ g x)=(bG x).set 2 (.int .i64 (g:Int)):=rfl
def Va (m:Nat) (N:Nat) (g:Nat) (L:List Bx) (v:js3) (w:js1) (vi:js3) (wr:js1):Prop:=
 ∃ k:Nat,k<=L.length/\vi=.int .i64 k/\aO 54 6 (fun _=>False) N wr.heap.size ((pz g k L).map Bx.d) ((pz g k L).map bG) v wr/\aM (fun b=>v.ownBlock=some b) w wr
def lfW (w5:js1) (m g:Nat) (va:js3) (gr ct:Int):js1:=
 (((w5.setCell ⟨g,5,none⟩ va).setCell ⟨m,2,none⟩ (.slice none 0 0)).setCell ⟨m,1,none⟩ (.int .i64 gr)).setCell ⟨m,3,none⟩ (.int .i64 ct)
theorem Xr {m g n cap:Nat} {W:Int} {st:St} {vp va:js3} {N:Nat} {x:Bx} {L:List Bx} {own:List ByteArray} {w wr w5:js1} (hm:mo m W st vp w) (hf:st.aV=false) (RH:m<N) (M4:∀ b,vp.ownBlock=some b->b<N) (hr:aO 54 6 (fun _=>False) N wr.heap.size (((x::L).map (cZ st.groups)).map Bx.d) (((x::L).map (cZ st.groups)).map bG) (.slice (some ⟨g,0,none⟩) n cap) wr) (hn:n=(x::L).length) (han:x.an=[]) (jn7:∀ y∈L,y.an=[]) (hF:aM (fun b=>(Value.slice (some ⟨g,0,none⟩) n cap).ownBlock=some b) w wr) (hg:wr.grownBy w5 vp.ownBlock) (hown:w5.ownsRow m 9 1 va (st.pend.length+own.length) (st.pend.map Value.string++own.map Value.string)) (hat:va.ownBlock=vp.ownBlock\/va.ownBlock=some wr.heap.size) : O1 m W st vp N (.slice (some ⟨g,0,none⟩) n cap) x L own w (.returned (.slice (some ⟨g,0,none⟩) n cap)) (lfW w5 m g va ((st.groups:Int)+1) ((st.count:Int)+(n:Int))):=by
 have hgN:N<=g:=(hr.own.lt g rfl).1;have hgw:g<wr.heap.size:=(hr.own.lt g rfl).2;have hmr:=hm.fr hF (fun e=>absurd (show g=m by simpa [Value.ownBlock] using e) (by omega)) (fun b hb e=>by have e1:g=b:=(by simpa [Value.ownBlock] using e);have:=M4 b hb;omega);have sw:vp.ownBlock≠some m:=oz hm.own hm.cb (by decide);have YS:vp.ownBlock≠some g:=fun e=>by have:=M4 g e;omega
 have Xt:=aM.grown hg;have uV:=hmr.cb.fr Xt sw;have qL:aO 54 6 (fun b=>vp.ownBlock=some b) N wr.heap.size (((x::L).map (cZ st.groups)).map Bx.d) (((x::L).map (cZ st.groups)).map bG) (.slice (some ⟨g,0,none⟩) n cap) w5:=
  hr.fr Xt (fun _ h=>h.elim) (fun b hb h e=>by rcases h with h | h;exact h;have:=M4 b e;omega)
 have jb2:va.ownBlock≠some g:=fun e=>iM hown qL.own (by decide) g e rfl
 have jj1:va.ownBlock≠some m:=oz hown uV (by decide);have jb3:∀ b,va.ownBlock=some b->vp.ownBlock=some b\/wr.heap.size<=b:=fun b e=>by
  rcases hat with h | h
  ·exact .inl (h ▸ e)
  ·rw [h] at e;exact .inr (by have:=Option.some.inj e;omega)
 have hst:=qL.store 0 5 (bG (cZ st.groups x)) (qy st.groups (st.pend++own) x).d va (by rfl) (by decide) (by
  have hx:(bG (cZ st.groups x)).set 5 va=tL (qy st.groups (st.pend++own) x).text (qy st.groups (st.pend++own) x).ht (qy st.groups (st.pend++own) x).gr (qy st.groups (st.pend++own) x).keep (qy st.groups (st.pend++own) x).fl va:=rfl;rw [hx];refine Bx.l6 _ (Rd.qH (l:=st.pend++own) (by rw [List.length_append,jq0];exact hown) (fun b e=>⟨?_,fun e'=>jb2 (e' ▸ e)⟩));rcases jb3 b e with h | h
  ·exact .inl h
  ·exact .inr (by have:=hr.1;omega))
 have hS:∀ (W':js1) (j:Nat) (u:js3),(W'.setCell ⟨m,j,none⟩ u).heap.size=W'.heap.size:=fun W' j u=>by simp [World.setCell]
 have hSg:(w5.setCell ⟨g,5,none⟩ va).heap.size=w5.heap.size:=by simp [World.setCell]
 have hne:∀ (W':js1),∀ b,b<W'.heap.size->(vp.ownBlock=some b\/N<=b)->¬ b=m:=fun W' b _ h e=>by
  subst e;rcases h with h | h
  ·exact sw h
  ·omega
 have m6:CB 84 m [.int .i64 W,.int .i64 (st.groups:Int),vp,.int .i64 (st.count:Int),.bool st.aV,.int .i64 (st.err:Int)] (w5.setCell ⟨g,5,none⟩ va):=uV.fr (aM.set w5 g 5 va) (by omega);have m9:=rY (rY (rY m6 2 (.slice none 0 0)) 1 (.int .i64 ((st.groups:Int)+1))) 3 (.int .i64 ((st.count:Int)+(n:Int)));have f6:=aM.set w5 g 5 va;have f7:=aM.set (w5.setCell ⟨g,5,none⟩ va) m 2 (.slice none 0 0);have f8:=aM.set ((w5.setCell ⟨g,5,none⟩ va).setCell ⟨m,2,none⟩ (.slice none 0 0)) m 1 (.int .i64 ((st.groups:Int)+1));have f9:=aM.set (((w5.setCell ⟨g,5,none⟩ va).setCell ⟨m,2,none⟩ (.slice none 0 0)).setCell ⟨m,1,none⟩ (.int .i64 ((st.groups:Int)+1))) m 3 (.int .i64 ((st.count:Int)+(n:Int)));have f79:aM (fun b=>b=m) (w5.setCell ⟨g,5,none⟩ va) (lfW w5 m g va ((st.groups:Int)+1) ((st.count:Int)+(n:Int))):=(f7.trans f8 (fun _ _ h=>h)).trans f9 (fun _ _ h=>h);have hsz:(lfW w5 m g va ((st.groups:Int)+1) ((st.count:Int)+(n:Int))).heap.size=w5.heap.size:=by unfold lfW;simp [World.setCell]
 have Jy:bO st (x::L) own=(qy st.groups (st.pend++own) x::L.map (cZ st.groups),{ st with groups:=st.groups+1,pend:=[],count:=st.count+(x::L).length }):=by unfold bO;rw [hf];rfl
 refine ⟨rfl,va,?_,?_,?_,?_,?_⟩
 ·rw [Jy];have h1:=hst.fr f79 (fun _ h=>h) (fun b hb h=>hne _ b hb h);have h2:=h1.top;rw [hsz] at h2 ⊢;have e1:((x::L).map (cZ st.groups)).map Bx.d=(cZ st.groups x).d::(L.map (cZ st.groups)).map Bx.d:=rfl;have e2:((x::L).map (cZ st.groups)).map bG=bG (cZ st.groups x)::L.map (fun y=>bG (cZ st.groups y)):=by simp
  rw [e1,e2,joj,joj] at h2;exact h2
 ·rw [List.length_append,jq0];exact dh (dh hown f6 (fun b e e'=>jb2 (e' ▸ e))) f79 (fun b e e'=>jj1 (e' ▸ e))
 ·intro b e;exact (jb3 b e).imp id (fun h=>jp0 hF.size h)
 ·rw [Jy];refine ⟨?_,⟨by simp,.inl ⟨rfl,rfl⟩⟩⟩;have e:(((st.count+(x::L).length:Nat)):Int)=(st.count:Int)+(n:Int):=by rw [hn];push_cast;rfl
  show CB _ m [.int .i64 W,.int .i64 ((st.groups+1:Nat):Int),.slice none 0 0,.int .i64 ((st.count+(x::L).length:Nat):Int),.bool st.aV,.int .i64 (st.err:Int)] _;rw [e];exact m9
 ·refine aM.trans (P:=fun b=>b=m\/vp.ownBlock=some b\/(Value.slice (some ⟨g,0,none⟩) n cap).ownBlock=some b) (aM.trans (aM.trans (hF.mono (fun b _ h=>.inr (.inr h))) Xt (fun b _ h=>.inr (.inl h))) f6 (fun b _ h=>.inr (.inr (by rw [h];rfl)))) f79 (fun b _ h=>.inl h)
theorem Es (m:Nat) (W:Int) (st:St) (vp:js3) (N U:Nat) (v vo:js3) (x:Bx) (L:List Bx) (own:List ByteArray) (okO:Nat->Prop) (w:js1) (hm:mo m W st vp w) (hf:st.aV=false) (hr:aO 54 6 (fun _=>False) N U ((x::L).map Bx.d) ((x::L).map bG) v w) (han:∀ y∈x::L,y.an=[]) (ho:Rd okO w (dZ own) [vo]) (hoN:∀ b,okO b->v.ownBlock≠some b) (hg:st.groups<=1000000000) (hc:st.count<=1000000000) (hL:L.length<=1000000) (hp:st.pend.length+own.length<=1000000) (RH:m<N) (M4:∀ b,vp.ownBlock=some b->b<N) : Calls Tryz.prog 141 #[.pointer (some ⟨m,0,none⟩),v,vo] w (O1 m W st vp N v x L own w):=by
 obtain ⟨iS,Hl,oV,oW,oZ⟩:=info_parts ku;obtain ⟨g,cap,rfl,hcap⟩:=eB hr.own (by simp);obtain ⟨ao,co,rfl⟩:∃ a c,vo=.slice a own.length c:=by obtain ⟨a,c,e,-⟩:=Rd.aC ho;simp at e;exact ⟨a,c,e⟩
 obtain ⟨n,hn⟩:∃ n,n=(x::L).length:=⟨_,rfl⟩;have hn0:((x::L).map Bx.d).length=n:=by rw [hn,List.length_map]
 rw [hn0] at hcap hr hoN ⊢;have hn1:0<n:=by rw [hn,List.length_cons];omega
 have UW:n<=1000001:=by rw [hn,List.length_cons];omega
 have hmg:m≠g:=by have:=(hr.own.lt g rfl).1;omega
 have hgw:g<w.heap.size:=(hr.own.lt g rfl).2;have HRO:Hid (∀ w',aM (fun b=>(Value.slice (some ⟨g,0,none⟩) n cap).ownBlock=some b) w w'->Reads w' w'.heap.size 1 ao own.length (own.map Value.string)):=fun w' hF=>by
  obtain ⟨A,c,rows,hv,-,-,hr,-,hR⟩:=(ho.fr hF hoN).O7;have e:ao=A:=by simp at hv;exact hv.1
  subst e;rw [aL.kP _ _ hr,kR,List.length_map] at hR;exact hR
 have HM:=hid hm;have HF:=hid hf;have HN:=hid hn;have qz:=hid (fun (va:js3) (wr w5:js1) hr hF hg hown hat=>Xr (m:=m) (g:=g) (n:=n) (cap:=cap) (W:=W) (vp:=vp) (va:=va) (x:=x) (L:=L) (own:=own) (w:=w) (wr:=wr) (w5:=w5) hm hf RH M4 hr hn (han x (by simp)) (fun y hy=>han y (by simp [hy])) hF hg hown hat);have ZR:=hid han;have HMN:=hid (And.intro RH M4);have c1:=hm.cb.cell 1 _ rfl;have c4:=hm.cb.cell 4 _ rfl;rw [hf] at c4;have R0:Hid (Va m N st.groups (x::L) (.slice (some ⟨g,0,none⟩) n cap) w (.int .i64 0) w):=⟨0,Nat.zero_le _,rfl,hr.top,aM.refl _ _⟩;obtain ⟨G,hG⟩:∃ G,G=st.groups:=⟨_,rfl⟩;rw [<- hG] at R0 qz c1 hg;have HG:=hid hG;clear hm hr hf hn hn0 ho han RH M4 hG hoN;go_enter Tryz.func141,Tryz.ntmps141;go_wp2
 go_loopw [15] (fun vi wr=>Va m N G (x::L) (.slice (some ⟨g,0,none⟩) n cap) w vi wr) (fun vi _=>n-(intOf vi).toNat)
 case atStart=>exact R0.out
 case round=>
  clear R0;obtain ⟨k,hk,rfl,hrow,hfr⟩:=hrel;have hk':k<=n:=by have:=HN.out;omega
  have Vb:=HM.out.cb.fr hfr (fun e=>hmg (by simpa [Value.ownBlock] using e.symm));have d0:=Vb.cell 0 _ rfl;have d1:=Vb.cell 1 _ rfl;have d2:=Vb.cell 2 _ rfl;have d3:=Vb.cell 3 _ rfl;rw [<- HG.out] at d1;have mf:=tN Vb;have gf:=hrow.2.free (by omega);by_cases hlt:k<n
  ·obtain ⟨y,hy⟩:∃ y,(x::L)[k]?=some y:=⟨_,List.getElem?_eq_getElem (by have:=HN.out;omega)⟩;have hya:=SH G k _ y hy;have hyr:((pz G k (x::L)).map bG)[k]?=some (bG y):=by rw [List.getElem?_map,hya];rfl
   have hyd:((pz G k (x::L)).map Bx.d)[k]?=some y.d:=by rw [List.getElem?_map,hya];rfl
   have hget:=hrow.get hyr hyd;have e2:=hget.2 2 _ rfl;have hst:=hrow.store k 2 (bG y) (cZ G y).d (.int .i64 (G:Int)) hyr (by decide) (Bx.l6 (cZ G y) (by
    obtain ⟨va,e,h⟩:=Bx.open_ hget.1;have e':va=.slice none 0 0:=by simp [bG,tL] at e;exact e.symm
    rw [e'] at h;exact h))
   rw [show ((pz G k (x::L)).map Bx.d).set k (cZ G y).d=(pz G (k+1) (x::L)).map Bx.d from by rw [<- List.map_set,AO _ _ _ _ hy],
    show ((pz G k (x::L)).map bG).set k ((bG y).set 2 (.int .i64 (G:Int)))=(pz G (k+1) (x::L)).map bG from by rw [<- O6,<- List.map_set,AO _ _ _ _ hy]] at hst
   have hf2:=hfr.trans (aM.set wr g (k*6+2) (.int .i64 (G:Int))) (fun b _ e=>by rw [e];rfl);have HST:=hid hst;have HF2:=hid hf2;clear hst hf2 hget hyr hyd hya hy hrow hfr Vb;go_wp2;go_roundw;case rel=>exact ⟨k+1,by have:=HN.out;omega,by go_num,by simpa using HST.out,HF2.out⟩
   case measure=>simp [intOf];omega
  ·have hkn:k=(x::L).length:=by have:=HN.out;omega
   rw [hkn,O5] at hrow;have hkn':k=n:=by omega
   have hRr:=HRO.out wr hfr;have hpr:wr.ownsRow m 9 1 vp st.pend.length (st.pend.map Value.string):=dh HM.out.own hfr (fun b e e'=>by
    have:=HMN.out.2 b e;have e1:g=b:=by simpa [Value.ownBlock] using e'
    have:=(hrow.own.lt g rfl).1;omega)
   have sw:vp.ownBlock≠some m:=oz HM.out.own HM.out.cb (by decide);have YS:vp.ownBlock≠some g:=fun e=>by have:=HMN.out.2 g e;have:=(hrow.own.lt g rfl).1;omega
   have hx5:=(hrow.get (i:=0) (r:=bG (cZ G x)) (d:=(cZ G x).d) rfl rfl).2 5 _ rfl;have HX5:=hid hx5;have HGR:=hid gf;have HMR:=hid Vb;have HRW:=hid hrow;have V7:=hid hfr;have YF:=hid sw;have HVG:=hid YS;obtain ⟨ap,cp,rfl⟩:=HM.out.slice;obtain ⟨pl,hpl⟩:∃ pl,pl=st.pend.length:=⟨_,rfl⟩;rw [<- hpl] at hpr d2 hp qz YF HVG;rw [<- hpl];have Xu:=hid hpr;have HRR:=hid hRr;have BJ:=hid hpl;clear hkn hrow hfr Vb hpl sw YS hx5 hpr hRr;go_wp2_with (at_builtin;(refine Dy _ rfl _ _ 35 rfl m 9 iS _ 1 16 Tryz.underlying35 Hl oV oW oZ rfl (by decide) _ _ _ rfl Xu.out wr.heap.size _ _ _ _ rfl HRR.out ?c1 ?c2 ?c3 ?c4 ?_))
   case c1=>
    intro u hu;obtain ⟨s,_,rfl⟩:=List.mem_map.1 hu;rfl
   case c2=>unfold maxLen;omega
   case c3=>omega
   case c4=>have:=HMR.out.lt;omega
   intro va w5 hown5 hg5 Ea;obtain ⟨a5,c5,rfl⟩:=q01 hown5;have uV:=HMR.out.fr (aM.grown hg5) YF.out;have m1:=uV.cell 1 _ rfl;have m2:=uV.cell 2 _ rfl;have m3:=uV.cell 3 _ rfl;rw [<- HG.out] at m1;have m5f:=tN uV;have g5:w5.cell? ⟨g,5,none⟩=some (.slice none 0 0):=by have hgl:=(HRW.out.own.lt g rfl).2;exact (iZ (hg5.block g hgl (fun e=>HVG.out e.symm)) 5).trans HX5.out
   have g5f:∀ j,w5.frozen? ⟨g,j,none⟩=false:=fun j=>by
    have hgl:=(HRW.out.own.lt g rfl).2;exact (D9 (hg5.block g hgl (fun e=>HVG.out e.symm)) j).trans (HGR.out j)
   have HP:=hid (qz.out _ wr w5 HRW.out V7.out hg5 hown5 Ea);clear uV hown5 hg5 Ea;go_wp2;go_ret;rw [<- BJ.out];exact HP.out
open Go.RowKit
theorem nR {st:St} {L:List Bx} {own:List ByteArray} (h:st.aV=true):bO st L own=(L,st):=by unfold bO;rw [if_pos h]
theorem jd (st:St) (L:List Bx) (own:List ByteArray):(bO st L own).2.err=st.err:=by unfold bO;split<;>rfl
theorem aO.basis {T:TypeId} {k n n' U:Nat} {ok:Nat->Prop} {w:js1} {ds:List D} {rows:List (List js3)} {v:js3} (h:aO T k ok n U ds rows v w) (hn:n'<=n):aO T k ok n' U ds rows v w:=
 aO.l6 (jp0 hn h.1) (mG h.own hn) (aL.keep (fun b hb _=>⟨⟨hb.1.imp id (fun h=>jp0 hn h),hb.2⟩,rfl⟩) _ _ h.red) h.2.len h.2.oU (jp0 hn h.le) h.2.Uz
def qV (m:Nat) (W:Int) (st:St) (vp:js3) (N:Nat) (v:js3) (L:List Bx) (own:List ByteArray) (w:js1) (e:Ending) (w':js1):Prop:=
 ∃ rows bS,e=.returned v/\aO 54 6 (fun b=>vp.ownBlock=some b/\bS.ownBlock≠some b) N w'.heap.size ((bO st L own).1.map Bx.d) rows v w'/\mo m W (bO st L own).2 bS w'/\(bS=vp\/bS=.slice none 0 0) /\
  aM (fun b=>b=m\/vp.ownBlock=some b\/v.ownBlock=some b) w w'
theorem kG (m:Nat) (W:Int) (st:St) (vp:js3) (N U:Nat) (v vo:js3) (L:List Bx) (own:List ByteArray) (okO:Nat->Prop) (w:js1) (hm:mo m W st vp w) (h0:L≠[]) (hr:aO 54 6 (fun _=>False) N U (L.map Bx.d) (L.map bG) v w) (han:∀ y∈L,y.an=[]) (ho:Rd okO w (dZ own) [vo]) (hoN:∀ b,okO b->v.ownBlock≠some b) (hg:st.groups<=1000000000) (hc:st.count<=1000000000) (hL:L.length<=1000000) (hp:st.pend.length+own.length<=1000000) (RH:m<N) (M4:∀ b,vp.ownBlock=some b->b<N) : Calls Tryz.prog 141 #[.pointer (some ⟨m,0,none⟩),v,vo] w (qV m W st vp N v L own w):=by
 by_cases hf:st.aV=true
 ·refine (O4 m W st vp v vo w hm hf).mono ?_;rintro e w' ⟨rfl,rfl⟩;rw [qV,nR hf];exact ⟨L.map bG,vp,rfl,hr.top.weaken (fun _ h=>h.elim),hm,.inl rfl,aM.refl _ _⟩
 ·have hf:st.aV=false:=by simpa using hf
  cases L with
  | nil=>exact absurd rfl h0
  | cons x L=>
   refine (Es m W st vp N U v vo x L own okO w hm hf hr han ho hoN hg hc (by simp at hL;omega) hp RH M4).mono ?_;rintro e w' ⟨rfl,va,h1,h2,h3,h4,h5⟩;exact ⟨_,.slice none 0 0,rfl,h1.weaken (fun b h=>⟨h,by simp [Value.ownBlock]⟩),h4,.inr rfl,h5⟩
theorem aI.of {m:Nat} {W:Int} {st:St} {vp:js3} {N:Nat} {v:js3} {L:List Bx} {own:List ByteArray} {w w1 w':js1} {e:Ending} (h:qV m W st vp N v L own w1 e w') (hf:aM (fun b=>b=m\/vp.ownBlock=some b) w w1) (hN:w.heap.size<=N) : aI m W w vp (bO st L own) e w':=by
 obtain ⟨rows,bS,rfl,hr,hm,hv,hF⟩:=h;refine ⟨v,rows,bS,rfl,hr.basis hN,hm,fun _=>hv,fun g e=>?_,hf.trans hF (fun b hb e=>?_)⟩
 ·rcases hv with rfl | rfl
  ·exact .inl e
  ·simp [Value.ownBlock] at e
 ·rcases e with e | e | e
  ·exact .inl e
  ·exact .inr e
  ·have:=(hr.own.lt b e).1;omega
theorem aI.from_ {m:Nat} {W:Int} {vp:js3} {r:List Bx × St} {w w1 w':js1} {e:Ending} (h:aI m W w1 vp r e w') (hb:Below w.heap.size w w1):aI m W w vp r e w':=by obtain ⟨v,rows,bS,rfl,hr,hm,hv,ho,hF⟩:=h;exact ⟨v,rows,bS,rfl,hr.basis hb.size,hm,hv,fun g e=>(ho g e).imp id (fun h=>jp0 hb.size h),(aM.of_below hb _).trans hF (fun _ _ e=>e)⟩
theorem aI.err {m:Nat} {W:Int} {vp:js3} {s:St} {w w':js1} (hm:mo m W s vp w') (hF:aM (fun b=>b=m\/vp.ownBlock=some b) w w'):aI m W w vp ([],s) (.returned (.slice none 0 0)) w':=
 ⟨_,[],vp,rfl,(aO.nil _ _ _ hF.size).top,hm,fun _=>.inl rfl,fun _ e=>.inl e,hF⟩
mutual
def ah.bM:ah->Nat
 | .mk k lv i t d ti a li ks=>30+i.size+2*t.size+2*(aj.ay li).length+(bJ (aj.aA li)).length+ah.aK ks
def ah.aK:List ah->Nat
 | []=>0
 | x::l=>x.bM+ah.aK l
end
theorem ah.qI:∀ (l:List ah) (k:Nat) (x:ah),l[k]?=some x->x.bM<=ah.aK l
 | [],_,_,h=>by simp at h
 | y::l,0,x,h=>by simp at h;subst h;rw [ah.aK];omega
 | y::l,k+1,x,h=>by
  have:=ah.qI l k x (by simpa using h);rw [ah.aK];omega
structure Fits (n:Nat) (st:St) (p:Px):Prop where
 f:p.first.size+n<=1000000
 r:p.rest.size+n<=1000000
 g:st.groups+n<=1000000
 c:st.count+n<=1000000
 p:st.pend.length+n<=1000000
structure iE (n:Nat) (st st':St):Prop where
 g:st'.groups<=st.groups+n
 c:st'.count<=st.count+n
 p:st'.pend.length<=st.pend.length+n
 f:st'.aV=st.aV
theorem iE.refl (n:Nat) (st:St):iE n st st:=⟨by omega,by omega,by omega,rfl⟩
theorem iE.trans {n n':Nat} {a b c:St} (h:iE n a b) (h2:iE n' b c):iE (n+n') a c:=⟨by have:=h.g;have:=h2.g;omega,by have:=h.c;have:=h2.c;omega,by have:=h.p;have:=h2.p;omega,h2.f.trans h.f⟩
theorem iE.mono {n n':Nat} {a b:St} (h:iE n a b) (hn:n<=n'):iE n' a b:=⟨by have:=h.g;omega,by have:=h.c;omega,by have:=h.p;omega,h.f⟩
theorem Fits.next {n n':Nat} {st st':St} {p p':Px} (h:Fits (n+n') st p) (hg:iE n st st') (h1:p'.first.size<=max p.first.size p.rest.size+n) (h2:p'.rest.size<=p.rest.size+n):Fits n' st' p':=by obtain ⟨a,b,c,d,e⟩:=h;obtain ⟨g1,g2,g3,g4⟩:=hg;exact ⟨by omega,by omega,by omega,by omega,by omega⟩
theorem Fits.mono {n n':Nat} {st:St} {p:Px} (h:Fits n st p) (hn:n'<=n):Fits n' st p:=by obtain ⟨a,b,c,d,e⟩:=h;exact ⟨by omega,by omega,by omega,by omega,by omega⟩
theorem gD (st:St) (L:List Bx) (own:List ByteArray) (n:Nat) (h1:1<=n) (h2:L.length<=n):iE n st (bO st L own).2/\(bO st L own).1.length=L.length:=by
 unfold bO;split
 ·exact ⟨iE.refl _ _,rfl⟩
 ·refine ⟨⟨by simp only;omega,by simp only;omega,by simp,rfl⟩,?_⟩;cases L<;>simp
theorem O8 (st:St):iE 0 st st.lim:=by unfold St.lim;split<;>exact ⟨by simp,by simp,by simp,rfl⟩
end Go.Proofs.YtdneicipdlofiaaGreatDoor

