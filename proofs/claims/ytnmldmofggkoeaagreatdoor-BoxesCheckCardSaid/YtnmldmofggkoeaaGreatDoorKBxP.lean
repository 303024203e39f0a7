/- Contracts of the prefixes' text and marked, and of the list's add. Contract of (*maker).leaf. What the makers of boxes leave, put together; the bounds that their walks ask. -/
import Derived.Test.YtnmldmofggkoeaaGreatDoorKBxN
import Derived.Test.YtnmldmofggkoeaaGreatDoorKRgY
set_option maxHeartbeats 4000000
set_option maxRecDepth 100000
open Go.Lib (hid)
namespace Go.Proofs.YtnmldmofggkoeaaGreatDoor
open List renaming setIfInBounds_toArray->XO,set_cons_zero->XP,set_cons_succ->XQ,map_append->Yd
open Go.RowKit.Below renaming refl->XT
open Nat renaming le_refl->XU,le_trans->XV
open Go.World renaming setCell->Yl
open Go renaming World->YJ,Value->YL
open Go.RowKit
set_option linter.unusedVariables false
set_option linter.unusedSimpArgs false
theorem Jt (n:Nat):(⟨(Lib.repeatL [32] n).toArray⟩:ByteArray)=rW n:=by
  unfold rW;congr 2;induction n with
  | zero=>rfl
  | succ n ih=>simp [Lib.repeatL,List.replicate_succ,ih]
theorem uE (n:Nat):(rW n).size=n:=by show (List.replicate n (32:UInt8)).toArray.size=n;rw [List.size_toArray,List.length_replicate]
theorem Ay (p:Px) (i:Nat) (s:ByteArray) (w:YJ) (h1:p.first.size<=1000000) (h2:p.rest.size<=1000000) (h3:s.size<=1000000000) : Calls Tryz.prog 77 #[.agg #[.string p.first,.string p.rest],.int .i64 i,.string s] w fun e w'=>e=.returned (.string (p.text i s))/\Below w.heap.size w w':=by
  obtain ⟨f,r⟩:=p;simp only at h1 h2;obtain ⟨V,hV⟩:∃ V,V=Px.text ⟨f,r⟩ i s:=⟨_,rfl⟩;have HV:Hid (V=if i=0 then f++s else r++s):=hV;rw [<- hV];clear hV;by_cases hi:i=0
  · subst hi
    have h1:V=f++s:=by have h:=HV.out;rw [if_pos rfl] at h;exact h
    have Vf:=hid h1;clear h1 HV;go_enter Tryz.func77,Tryz.ntmps77;go_wp2;go_ret;exact ⟨by rw [Vf.out];rfl,(XT _ _).alloc (XU _) _⟩
  · have q1:((i:Int)==0)=false:=by simpa using hi
    have HI:=hid hi;clear hi;go_enter Tryz.func77,Tryz.ntmps77;go_wp2;go_ret;exact ⟨by rw [HV.out,if_neg HI.out];rfl,(XT _ _).alloc (XU _) _⟩
theorem xM (p:Px) (m:ByteArray) (w:YJ) (h1:p.first.size<=1000000) (h2:p.rest.size<=1000000) (h3:m.size<=1000000) : Calls Tryz.prog 63 #[.agg #[.string p.first,.string p.rest],.string m] w fun e w'=>e=.returned (.agg #[.string (p.mark m).first,.string (p.mark m).rest])/\Below w.heap.size w w':=by
  obtain ⟨f,r⟩:=p;simp only at h1 h2;obtain ⟨A,hA⟩:∃ A,A=(Px.mark ⟨f,r⟩ m).first:=⟨_,rfl⟩
  obtain ⟨B,hB⟩:∃ B,B=(Px.mark ⟨f,r⟩ m).rest:=⟨_,rfl⟩;have HA:Hid (A=f++m):=hA;have HB:Hid (B=r++rW m.size):=hB;rw [<- hA,<- hB];obtain ⟨S,hS⟩:∃ S,S=w.heap.size:=⟨_,rfl⟩;obtain ⟨w0,hw0⟩:∃ w0,w0=(w.alloc (.cells #[.string f,.string r] 66)).alloc (.cells #[.string ⟨#[]⟩,.string ⟨#[]⟩] 66):=⟨_,rfl⟩;have b0:Below w.heap.size w w0:=by rw [hw0];exact ((XT _ _).alloc (XU _) _).alloc (by simp) _
  have k0:CB 66 S [.string f,.string r] w0:=by rw [hw0,hS];exact CB.below (CB.new _ _ _) ((XT _ _).alloc (XU _) _)
  have k1:CB 66 (S+1) [.string ⟨#[]⟩,.string ⟨#[]⟩] w0:=by rw [hw0,hS,show w.heap.size+1=(w.alloc (.cells #[.string f,.string r] 66)).heap.size from (World.size_alloc _ _).symm];exact CB.new _ _ _
  have RP:=hid (Tryz.strings_Repeat ⟨#[32]⟩ m.size w0.drew (by omega) (by show 1*m.size<=_;omega));rw [show (ByteArray.mk #[32]).data.toList=[32] from rfl,show (⟨(Lib.repeatL [32] m.size).toArray⟩:ByteArray)=rW m.size from Jt _] at RP;have hsz:(rW m.size).size=m.size:=uE _;have SF:=hid (fun (w':YJ) (hb:Below w0.heap.size w0 w')=>(⟨(k0.below hb).cell 0 _ rfl,(k0.below hb).cell 1 _ rfl⟩:w'.cell? ⟨S,0,none⟩=some (.string f)/\w'.cell? ⟨S,1,none⟩=some (.string r)));have S0:=SF.out _ (XT _ _).drew;have B0:=hid b0;have K1:=hid k1;have a1:=hid (show ¬ 9223372036854775807<f.size+m.size by omega);have a2:=hid (show ¬ 9223372036854775807<r.size+m.size by omega);generalize rW m.size=sp at *;clear hA hB b0 k0 k1;go_enter Tryz.func63,Tryz.ntmps63;go_upto_region 1 with (fail)
  rw [<- hw0,<- hS];have HS:=hid hS;clear hw0 hS;refine iO 11 (fun w'=>w'.cell? ⟨S,0,none⟩=some (.string f)/\w'.cell? ⟨S,1,none⟩=some (.string r)) (by kernel_rfl) S0 ?_;intro hH;refine iE 0 rfl (by kernel_rfl) hH (by rfl) (by intro wv hSw;(try dsimp only at hSw);go_simp;try with_reducible rfl) ?_;refine iE 1 rfl (by kernel_rfl) hH (by rfl) (by intro wv hSw;(try dsimp only at hSw);go_simp;try with_reducible rfl) ?_;refine iE 2 rfl (by kernel_rfl) hH (by rfl) (by intro wv hSw;(try dsimp only at hSw);go_simp;try with_reducible rfl) ?_;refine iE 3 rfl (by kernel_rfl) hH (by rfl) (by intro wv hSw;(try dsimp only at hSw);go_simp;(rw [if_neg a1.out]);try with_reducible rfl) ?_;refine iE 4 rfl (by kernel_rfl) hH (by rfl) (by intro wv hSw;(try dsimp only at hSw);go_simp;try with_reducible rfl) ?_;refine iE 5 rfl (by kernel_rfl) hH (by rfl) (by intro wv hSw;(try dsimp only at hSw);go_simp;try with_reducible rfl) ?_;refine iE 6 rfl (by kernel_rfl) hH (by rfl) (by intro wv hSw;(try dsimp only at hSw);go_simp;try with_reducible rfl) ?_;refine iE 7 rfl (by kernel_rfl) hH (by rfl) (by intro wv hSw;(try dsimp only at hSw);go_simp;try with_reducible rfl) ?_;try simp only [Act.put,XO,XP,XQ]
  refine Fb (i:=8) rfl (by kernel_rfl) (fun KQ hK=>?_);go_simp;go_at_call 83
  (with_reducible refine RP.out.mono ?_)
  rintro e w1 ⟨rfl,b1⟩;have B1:=hid ((XT _ w0).drew.trans b1);have S1:=SF.out w1 B1.out;have K2:=hid (K1.out.below B1.out);have f2:=rR K2.out;have x0:=K2.out.cell 0 _ rfl;have x1:=K2.out.cell 1 _ rfl;clear b1;refine hK.out _ _ (fun _ _=>S1) (fun hH2=>?_);clear hK KQ hH;have hH:=hH2 (by decide) (by kernel_rfl);clear hH2;try simp only [Act.put,XO,XP,XQ]
  refine iE 9 rfl (by kernel_rfl) hH (by rfl) (by intro wv hSw;(try dsimp only at hSw);go_simp;(rw [if_neg a2.out]);try with_reducible rfl) ?_;refine iE 10 rfl (by kernel_rfl) hH (by rfl) (by intro wv hSw;(try dsimp only at hSw);go_simp;try with_reducible rfl) ?_;try simp only [Act.put,XO,XP,XQ]
  refine Fb (i:=11) rfl (by kernel_rfl) (fun KQ hK=>?_);go_simp;refine hK.out _ _ (fun h _=>absurd rfl h) (fun _=>?_);clear hK KQ;refine iP (by kernel_rfl) ?_ _;have K3:=qI (qI K2.out 0 (.string (f++m))) 1 (.string (r++sp));have r0:=K3.cell 0 _ rfl;have r1:=K3.cell 1 _ rfl;have HP:Hid (Below w.heap.size w ((w1.setCell ⟨S+1,0,none⟩ (.string (f++m))).setCell ⟨S+1,1,none⟩ (.string (r++sp)))):=((aL B0.out B1.out).setCell (by have:=HS.out;show w.heap.size<=S+1;omega) _).setCell (by have:=HS.out;show w.heap.size<=S+1;omega) _;clear K3;go_wp2;exact bodyPost_ret (v:=.agg #[.string (f++m),.string (r++sp)]) (by simp [results,Tryz.results63,go_sem,r0,r1]) rfl ⟨by rw [HA.out,HB.out],HP.out⟩
def rX (q:Nat) (p:Px) (L:List Bx) (N:Nat) (w:YJ) (v:YL) (e:Ending) (w':YJ):Prop:=
  e=.returned (.tuple #[])/\∃ v',CB 99 q [.string p.first,.string p.rest,v'] w'/\aI 37 6 (fun _=>False) N w'.heap.size (L.map Bx.d) (L.map bH) v' w'/\aN (fun b=>b=q\/v.ownBlock=some b) w w'
theorem jk (q:Nat) (p:Px) (L:List Bx) (v:YL) (N U:Nat) (s:ByteArray) (h:Int) (k:Bool) (w:YJ) (h1:p.first.size<=1000000) (h2:p.rest.size<=1000000) (h3:s.size<=1000000000) (hL:L.length<=1000000) (hq:CB 99 q [.string p.first,.string p.rest,v] w) (Xh:q<N) (hr:aI 37 6 (fun _=>False) N U (L.map Bx.d) (L.map bH) v w) : Calls Tryz.prog 56 #[.pointer (some ⟨q,0,none⟩),.string s,.int .i64 h,.bool k] w (rX q p (L++[Bx.new (p.text L.length s) h k]) N w v):=by
  obtain ⟨iB,qm,CW,CX,CY⟩:=info_parts xH;obtain ⟨n,hn⟩:∃ n,n=(L.map Bx.d).length:=⟨_,rfl⟩;have O7:n=L.length:=by rw [hn,List.length_map]
  have hn1:n<=1000000:=by omega
  obtain ⟨a,c,rfl,-,-⟩:=hr.2.cap hn.symm;have HN:=hid hn.symm;have TX:=hid (Ay p n s w.drew h1 h2 h3);obtain ⟨TT,Qt⟩:∃ TT,TT=p.text L.length s:=⟨_,rfl⟩;rw [O7,<- Qt,<- O7] at TX;rw [<- Qt];have HQ:=hid hq;have HR:=hid hr.top;have Vg:=hid (show (Value.slice a n c).ownBlock≠some q from fun e=>by have:=(hr.own.lt q e).1;omega);have HP:Hid (∀ (a2:Option Addr) (c2:Nat) (w1 w2:YJ),Below w.heap.size w w1->bN 37 6 (fun _=>False) w2.heap.size (ql N w1) (L.map Bx.d++[(Bx.new TT h k).d]) (L.map bH++[xG TT h 0 k false (.slice none 0 0)]) (.slice a2 (n+1) c2) w2 ->
      (w1.alloc (.cells (xG TT h 0 k false (.slice none 0 0)).toArray 37)).grownBy w2 (Value.slice a n c).ownBlock->CB 99 q [.string p.first,.string p.rest,.slice a n c] w2 ->
      rX q p (L++[Bx.new TT h k]) N w (.slice a n c) (.returned (.tuple #[])) (w2.setCell ⟨q,2,none⟩ (.slice a2 (n+1) c2))):=by
    intro a2 c2 w1 w2 hb hrow hg hc;have BX:N<=w1.heap.size:=XV hr.1 hb.size;have Vh:aI 37 6 (fun _=>False) N w2.heap.size (L.map Bx.d++[(Bx.new TT h k).d]) (L.map bH++[xG TT h 0 k false (.slice none 0 0)]) (.slice a2 (n+1) c2) w2:=aI.Sk hrow (FE BX);have hf2:=aN.set w2 q 2 (.slice a2 (n+1) c2);refine ⟨rfl,.slice a2 (n+1) c2,?_,?_,?_⟩
    · have:=qI hc 2 (.slice a2 (n+1) c2)
      exact this
    · rw [Yd,Yd]
      have:=Vh.fr (ok':=fun _=>False) hf2 (fun _ h=>h) (fun b _ h e=>by rcases h with h | h;exact h.elim;omega);have hs:(w2.setCell ⟨q,2,none⟩ (.slice a2 (n+1) c2)).heap.size=w2.heap.size:=by simp [Yl]
      rw [hs];exact this
    · refine aN.trans (P:=fun b=>b=q\/(Value.slice a n c).ownBlock=some b) (aN.trans (aN.of_below (hb.trans ((XT _ _).alloc hb.size _)) _) (aN.grown hg) (fun b _ e=>.inr e)) hf2 (fun b _ e=>.inl e)
  clear hr hq hn O7 Qt hL;go_enter Tryz.func56,Tryz.ntmps56;go_wp2_with fail
  refine iO 23 (fun w'=>CB 99 q [.string p.first,.string p.rest,.slice a n c] w') (by kernel_rfl) (HQ.out.below (XT _ _).drew) ?_;intro hH;refine iE 0 rfl (by kernel_rfl) hH (by rfl) (by intro wv hSw;(have d0:=CB.cell hSw 0 _ rfl;have d1:=CB.cell hSw 1 _ rfl;have d2:=CB.cell hSw 2 _ rfl);go_simp;try with_reducible rfl) ?_;refine iE 1 rfl (by kernel_rfl) hH (by rfl) (by intro wv hSw;(have d0:=CB.cell hSw 0 _ rfl;have d1:=CB.cell hSw 1 _ rfl;have d2:=CB.cell hSw 2 _ rfl);go_simp;try with_reducible rfl) ?_;refine iE 2 rfl (by kernel_rfl) hH (by rfl) (by intro wv hSw;(have d0:=CB.cell hSw 0 _ rfl;have d1:=CB.cell hSw 1 _ rfl;have d2:=CB.cell hSw 2 _ rfl);go_simp;try with_reducible rfl) ?_;refine iE 3 rfl (by kernel_rfl) hH (by rfl) (by intro wv hSw;(have d0:=CB.cell hSw 0 _ rfl;have d1:=CB.cell hSw 1 _ rfl;have d2:=CB.cell hSw 2 _ rfl);go_simp;try with_reducible rfl) ?_;refine iE 4 rfl (by kernel_rfl) hH (by rfl) (by intro wv hSw;(have d0:=CB.cell hSw 0 _ rfl;have d1:=CB.cell hSw 1 _ rfl;have d2:=CB.cell hSw 2 _ rfl);go_simp;try with_reducible rfl) ?_;refine iE 5 rfl (by kernel_rfl) hH (by rfl) (by intro wv hSw;(have d0:=CB.cell hSw 0 _ rfl;have d1:=CB.cell hSw 1 _ rfl;have d2:=CB.cell hSw 2 _ rfl);go_simp;try with_reducible rfl) ?_;refine iE 6 rfl (by kernel_rfl) hH (by rfl) (by intro wv hSw;(have d0:=CB.cell hSw 0 _ rfl;have d1:=CB.cell hSw 1 _ rfl;have d2:=CB.cell hSw 2 _ rfl);go_simp;try with_reducible rfl) ?_;refine iE 7 rfl (by kernel_rfl) hH (by rfl) (by intro wv hSw;(have d0:=CB.cell hSw 0 _ rfl;have d1:=CB.cell hSw 1 _ rfl;have d2:=CB.cell hSw 2 _ rfl);go_simp;try with_reducible rfl) ?_;try simp only [Act.put,XO,XP,XQ]
  refine iE 8 rfl (by kernel_rfl) hH (by rfl) (by intro wv hSw;(have d0:=CB.cell hSw 0 _ rfl;have d1:=CB.cell hSw 1 _ rfl;have d2:=CB.cell hSw 2 _ rfl);go_simp;try with_reducible rfl) ?_;refine iE 9 rfl (by kernel_rfl) hH (by rfl) (by intro wv hSw;(have d0:=CB.cell hSw 0 _ rfl;have d1:=CB.cell hSw 1 _ rfl;have d2:=CB.cell hSw 2 _ rfl);go_simp;try with_reducible rfl) ?_;refine iE 10 rfl (by kernel_rfl) hH (by rfl) (by intro wv hSw;(have d0:=CB.cell hSw 0 _ rfl;have d1:=CB.cell hSw 1 _ rfl;have d2:=CB.cell hSw 2 _ rfl);go_simp;try with_reducible rfl) ?_;refine iE 11 rfl (by kernel_rfl) hH (by rfl) (by intro wv hSw;(have d0:=CB.cell hSw 0 _ rfl;have d1:=CB.cell hSw 1 _ rfl;have d2:=CB.cell hSw 2 _ rfl);go_simp;try with_reducible rfl) ?_;refine iE 12 rfl (by kernel_rfl) hH (by rfl) (by intro wv hSw;(have d0:=CB.cell hSw 0 _ rfl;have d1:=CB.cell hSw 1 _ rfl;have d2:=CB.cell hSw 2 _ rfl);go_simp;try with_reducible rfl) ?_;refine iE 13 rfl (by kernel_rfl) hH (by rfl) (by intro wv hSw;(have d0:=CB.cell hSw 0 _ rfl;have d1:=CB.cell hSw 1 _ rfl;have d2:=CB.cell hSw 2 _ rfl);go_simp;try with_reducible rfl) ?_;refine iE 14 rfl (by kernel_rfl) hH (by rfl) (by intro wv hSw;(have d0:=CB.cell hSw 0 _ rfl;have d1:=CB.cell hSw 1 _ rfl;have d2:=CB.cell hSw 2 _ rfl);go_simp;try with_reducible rfl) ?_;refine iE 16 rfl (by kernel_rfl) hH (by rfl) (by intro wv hSw;(have d0:=CB.cell hSw 0 _ rfl;have d1:=CB.cell hSw 1 _ rfl;have d2:=CB.cell hSw 2 _ rfl);go_simp;try with_reducible rfl) ?_;try simp only [Act.put,XO,XP,XQ]
  refine iE 17 rfl (by kernel_rfl) hH (by rfl) (by intro wv hSw;(have d0:=CB.cell hSw 0 _ rfl;have d1:=CB.cell hSw 1 _ rfl;have d2:=CB.cell hSw 2 _ rfl);go_simp;try with_reducible rfl) ?_;try simp only [Act.put,XO,XP,XQ]
  refine Fb (i:=15) rfl (by kernel_rfl) (fun KQ hK=>?_);go_simp;go_at_call 77
  (with_reducible refine TX.out.mono ?_)
  rintro e w1 ⟨rfl,b1⟩;have B1:=hid ((XT w.heap.size w).drew.trans b1);have Q1:=hid (HQ.out.below B1.out);have R1:=hid (HR.out.below B1.out);clear b1 TX;refine hK.out _ _ (fun _ _=>Q1.out) (fun hH2=>?_);clear hK KQ hH;have hH:=hH2 (by decide) (by kernel_rfl);clear hH2;try simp only [Act.put,XO,XP,XQ]
  refine iE 18 rfl (by kernel_rfl) hH (by rfl) (by intro wv hSw;(have d0:=CB.cell hSw 0 _ rfl;have d1:=CB.cell hSw 1 _ rfl;have d2:=CB.cell hSw 2 _ rfl);go_simp;try with_reducible rfl) ?_;try simp only [Act.put,XO,XP,XQ]
  refine Fb (i:=19) rfl (by kernel_rfl) (fun KQ hK=>?_);go_simp;refine hK.out _ _ (fun _ _=>Q1.out.below ((XT _ _).alloc (XU _) _)) (fun hH2=>?_);clear hK KQ hH;have hH:=hH2 (by decide) (by kernel_rfl);clear hH2;try simp only [Act.put,XO,XP,XQ]
  try simp only [Act.put,XO,XP,XQ]
  refine Fb (i:=20) rfl (by kernel_rfl) (fun KQ hK=>?_);refine CZ rfl (.tmp 12) (.tmp 27) 22 rfl iB _ 64 Tryz.underlying22 qm CW CX CY rfl (by decide) R1.out.2 (fun b hb=>hb.elim) (Bx.new TT h k).d (xG TT h 0 k false (.slice none 0 0)) (Bx.mO _ (Rd.aJ _ _ _)) rfl Cz HN.out (by omega) (by decide) rfl rfl ?_;intro a2 c2 w2 hrow2 hg2;have Q2:=(Q1.out.below (w':=w1.alloc (.cells (xG TT h 0 k false (.slice none 0 0)).toArray 37)) ((XT _ _).alloc (XU _) _)).fr (aN.grown hg2) (fun e=>Vg.out e);have R2:=hid hrow2;have G2:=hid hg2;have BP:=hid Q2;have f2:=rR Q2;have x2:=Q2.cell 2 _ rfl;clear hrow2 hg2;refine hK.out _ _ (fun _ _=>Q2) (fun hH2=>?_);clear hK KQ hH;have hH:=hH2 (by decide) (by kernel_rfl);clear hH2;try simp only [Act.put,XO,XP,XQ]
  refine iE 21 rfl (by kernel_rfl) hH (by rfl) (by intro wv hSw;(have d0:=CB.cell hSw 0 _ rfl;have d1:=CB.cell hSw 1 _ rfl;have d2:=CB.cell hSw 2 _ rfl);go_simp;try with_reducible rfl) ?_;refine iE 22 rfl (by kernel_rfl) hH (by rfl) (by intro wv hSw;(have d0:=CB.cell hSw 0 _ rfl;have d1:=CB.cell hSw 1 _ rfl;have d2:=CB.cell hSw 2 _ rfl);go_simp;try with_reducible rfl) ?_;try simp only [Act.put,XO,XP,XQ]
  refine Fb (i:=23) rfl (by kernel_rfl) (fun KQ hK=>?_);go_simp;refine hK.out _ _ (fun h _=>absurd rfl h) (fun _=>?_);clear hK KQ;refine iP (by kernel_rfl) ?_ _;go_wp2
  go_end0
  exact HP.out a2 c2 w1 w2 B1.out R2.out G2.out BP.out
open Go.RowKit
def C8 (m:Nat) (W:Int) (st:St) (vp:YL) (N:Nat) (v:YL) (x:Bx) (L:List Bx) (own:List ByteArray) (w:YJ) (e:Ending) (w':YJ):Prop:=
  e=.returned v/\∃ va,aI 37 6 (fun b=>vp.ownBlock=some b) N w'.heap.size ((q0z st (x::L) own).1.map Bx.d) (xG x.text x.ht (st.groups:Int) x.keep x.fl va::L.map (fun y=>bH (dX st.groups y))) v w' /\
    w'.ownsRow m 9 1 va (st.pend++own).length ((st.pend++own).map Value.string)/\(∀ g,va.ownBlock=some g->vp.ownBlock=some g\/w.heap.size<=g) /\
    nN m W (q0z st (x::L) own).2 (.slice none 0 0) w'/\aN (fun b=>b=m\/vp.ownBlock=some b\/v.ownBlock=some b) w w'
theorem C9 (m:Nat) (W:Int) (st:St) (vp v vo:YL) (w:YJ) (hm:nN m W st vp w) (hf:st.lq=true) : Calls Tryz.prog 64 #[.pointer (some ⟨m,0,none⟩),v,vo] w fun e w'=>e=.returned v/\w=w':=by have c4:=hm.cb.cell 4 _ rfl;rw [hf] at c4;clear hm hf;go_enter Tryz.func64,Tryz.ntmps64;go_wp2;go_ret;exact ⟨rfl,rfl⟩
def jL (g k:Nat) (L:List Bx):List Bx:=(L.take k).map (dX g)++L.drop k
theorem qK (g k:Nat) (L:List Bx) (x:Bx) (h:L[k]?=some x):(jL g k L).set k (dX g x)=jL g (k+1) L:=by
  have hk:=(List.getElem?_eq_some_iff.1 h);obtain ⟨hk,e⟩:=hk;unfold jL;have h1:L.drop k=x::L.drop (k+1):=by rw [<- e];exact List.drop_eq_getElem_cons hk
  rw [h1,List.set_append_right _ _ (by simp;omega),List.take_add_one,h,Yd];simp [Nat.min_eq_left (Nat.le_of_lt hk)]
theorem FK (g k:Nat) (L:List Bx) (x:Bx) (h:L[k]?=some x):(jL g k L)[k]?=some x:=by have hk:=(List.getElem?_eq_some_iff.1 h).1;unfold jL;rw [List.getElem?_append_right (by simp;omega)];simp [Nat.min_eq_left (Nat.le_of_lt hk),h]
theorem Da (g:Nat) (L:List Bx):jL g L.length L=L.map (dX g):=by unfold jL;simp
theorem Db (g:Nat) (x:Bx):bH (dX g x)=(bH x).set 2 (.int .i64 (g:Int)):=rfl
def He (m:Nat) (N:Nat) (g:Nat) (L:List Bx) (v:YL) (w:YJ) (vi:YL) (wr:YJ):Prop:=
  ∃ k:Nat,k<=L.length/\vi=.int .i64 k/\aI 37 6 (fun _=>False) N wr.heap.size ((jL g k L).map Bx.d) ((jL g k L).map bH) v wr/\aN (fun b=>v.ownBlock=some b) w wr
def O8 (w5:YJ) (m g:Nat) (va:YL) (gr ct:Int):YJ:=
  (((w5.setCell ⟨g,5,none⟩ va).setCell ⟨m,2,none⟩ (.slice none 0 0)).setCell ⟨m,1,none⟩ (.int .i64 gr)).setCell ⟨m,3,none⟩ (.int .i64 ct)
theorem Ju {m g n cap:Nat} {W:Int} {st:St} {vp va:YL} {N:Nat} {x:Bx} {L:List Bx} {own:List ByteArray} {w wr w5:YJ} (hm:nN m W st vp w) (hf:st.lq=false) (Ll:m<N) (FL:∀ b,vp.ownBlock=some b->b<N) (hr:aI 37 6 (fun _=>False) N wr.heap.size (((x::L).map (dX st.groups)).map Bx.d) (((x::L).map (dX st.groups)).map bH) (.slice (some ⟨g,0,none⟩) n cap) wr) (hn:n=(x::L).length) (han:x.an=[]) (Vi:∀ y∈L,y.an=[]) (hF:aN (fun b=>(Value.slice (some ⟨g,0,none⟩) n cap).ownBlock=some b) w wr) (hg:wr.grownBy w5 vp.ownBlock) (hown:w5.ownsRow m 9 1 va (st.pend.length+own.length) (st.pend.map Value.string++own.map Value.string)) (hat:va.ownBlock=vp.ownBlock\/va.ownBlock=some wr.heap.size) : C8 m W st vp N (.slice (some ⟨g,0,none⟩) n cap) x L own w (.returned (.slice (some ⟨g,0,none⟩) n cap)) (O8 w5 m g va ((st.groups:Int)+1) ((st.count:Int)+(n:Int))):=by
  have hgN:N<=g:=(hr.own.lt g rfl).1;have hgw:g<wr.heap.size:=(hr.own.lt g rfl).2;have hmr:=hm.fr hF (fun e=>absurd (show g=m by simpa [Value.ownBlock] using e) (by omega)) (fun b hb e=>by have e1:g=b:=(by simpa [Value.ownBlock] using e);have:=FL b hb;omega)
  have Az:vp.ownBlock≠some m:=bR hm.own hm.cb (by decide);have Qu:vp.ownBlock≠some g:=fun e=>by have:=FL g e;omega
  have Qv:=aN.grown hg;have Dc:=hmr.cb.fr Qv Az;have Hf:aI 37 6 (fun b=>vp.ownBlock=some b) N wr.heap.size (((x::L).map (dX st.groups)).map Bx.d) (((x::L).map (dX st.groups)).map bH) (.slice (some ⟨g,0,none⟩) n cap) w5:=
    hr.fr Qv (fun _ h=>h.elim) (fun b hb h e=>by rcases h with h | h;exact h;have:=FL b e;omega)
  have Mr:va.ownBlock≠some g:=fun e=>mY hown Hf.own (by decide) g e rfl
  have Qw:va.ownBlock≠some m:=bR hown Dc (by decide);have Ms:∀ b,va.ownBlock=some b->vp.ownBlock=some b\/wr.heap.size<=b:=fun b e=>by
    rcases hat with h | h
    · exact .inl (h ▸ e)
    · rw [h] at e;exact .inr (by have:=Option.some.inj e;omega)
  have hst:=Hf.store 0 5 (bH (dX st.groups x)) (uF st.groups (st.pend++own) x).d va (by rfl) (by decide) (by
    have hx:(bH (dX st.groups x)).set 5 va=xG (uF st.groups (st.pend++own) x).text (uF st.groups (st.pend++own) x).ht (uF st.groups (st.pend++own) x).gr (uF st.groups (st.pend++own) x).keep (uF st.groups (st.pend++own) x).fl va:=rfl;rw [hx];refine Bx.mO _ (Rd.uG (l:=st.pend++own) (by rw [List.length_append,Yd];exact hown) (fun b e=>⟨?_,fun e'=>Mr (e' ▸ e)⟩));rcases Ms b e with h | h
    · exact .inl h
    · exact .inr (by have:=hr.1;omega))
  have hS:∀ (W':YJ) (j:Nat) (u:YL),(W'.setCell ⟨m,j,none⟩ u).heap.size=W'.heap.size:=fun W' j u=>by simp [Yl]
  have Xi:(w5.setCell ⟨g,5,none⟩ va).heap.size=w5.heap.size:=by simp [Yl]
  have hne:∀ (W':YJ),∀ b,b<W'.heap.size->(vp.ownBlock=some b\/N<=b)->¬ b=m:=fun W' b _ h e=>by
    subst e;rcases h with h | h
    · exact Az h
    · omega
  have m6:CB 63 m [.int .i64 W,.int .i64 (st.groups:Int),vp,.int .i64 (st.count:Int),.bool st.lq,.int .i64 (st.err:Int)] (w5.setCell ⟨g,5,none⟩ va):=Dc.fr (aN.set w5 g 5 va) (by omega);have m9:=qI (qI (qI m6 2 (.slice none 0 0)) 1 (.int .i64 ((st.groups:Int)+1))) 3 (.int .i64 ((st.count:Int)+(n:Int)));have f6:=aN.set w5 g 5 va;have f7:=aN.set (w5.setCell ⟨g,5,none⟩ va) m 2 (.slice none 0 0);have f8:=aN.set ((w5.setCell ⟨g,5,none⟩ va).setCell ⟨m,2,none⟩ (.slice none 0 0)) m 1 (.int .i64 ((st.groups:Int)+1));have f9:=aN.set (((w5.setCell ⟨g,5,none⟩ va).setCell ⟨m,2,none⟩ (.slice none 0 0)).setCell ⟨m,1,none⟩ (.int .i64 ((st.groups:Int)+1))) m 3 (.int .i64 ((st.count:Int)+(n:Int)));have f79:aN (fun b=>b=m) (w5.setCell ⟨g,5,none⟩ va) (O8 w5 m g va ((st.groups:Int)+1) ((st.count:Int)+(n:Int))):=(f7.trans f8 (fun _ _ h=>h)).trans f9 (fun _ _ h=>h);have hsz:(O8 w5 m g va ((st.groups:Int)+1) ((st.count:Int)+(n:Int))).heap.size=w5.heap.size:=by unfold O8;simp [Yl]
  have Hg:q0z st (x::L) own=(uF st.groups (st.pend++own) x::L.map (dX st.groups),{ st with groups:=st.groups+1,pend:=[],count:=st.count+(x::L).length }):=by unfold q0z;rw [hf];rfl
  refine ⟨rfl,va,?_,?_,?_,?_,?_⟩
  · rw [Hg]
    have h1:=hst.fr f79 (fun _ h=>h) (fun b hb h=>hne _ b hb h);have h2:=h1.top;rw [hsz] at h2 ⊢;have e1:((x::L).map (dX st.groups)).map Bx.d=(dX st.groups x).d::(L.map (dX st.groups)).map Bx.d:=rfl;have e2:((x::L).map (dX st.groups)).map bH=bH (dX st.groups x)::L.map (fun y=>bH (dX st.groups y)):=by simp
    rw [e1,e2,XP,XP] at h2;exact h2
  · rw [List.length_append,Yd]
    exact fK (fK hown f6 (fun b e e'=>Mr (e' ▸ e))) f79 (fun b e e'=>Qw (e' ▸ e))
  · intro b e
    exact (Ms b e).imp id (fun h=>XV hF.size h)
  · rw [Hg]
    refine ⟨?_,⟨by simp,.inl ⟨rfl,rfl⟩⟩⟩;have e:(((st.count+(x::L).length:Nat)):Int)=(st.count:Int)+(n:Int):=by rw [hn];push_cast;rfl
    show CB _ m [.int .i64 W,.int .i64 ((st.groups+1:Nat):Int),.slice none 0 0,.int .i64 ((st.count+(x::L).length:Nat):Int),.bool st.lq,.int .i64 (st.err:Int)] _;rw [e];exact m9
  · refine aN.trans (P:=fun b=>b=m\/vp.ownBlock=some b\/(Value.slice (some ⟨g,0,none⟩) n cap).ownBlock=some b) (aN.trans (aN.trans (hF.mono (fun b _ h=>.inr (.inr h))) Qv (fun b _ h=>.inr (.inl h))) f6 (fun b _ h=>.inr (.inr (by rw [h];rfl)))) f79 (fun b _ h=>.inl h)
theorem Df (m:Nat) (W:Int) (st:St) (vp:YL) (N U:Nat) (v vo:YL) (x:Bx) (L:List Bx) (own:List ByteArray) (okO:Nat->Prop) (w:YJ) (hm:nN m W st vp w) (hf:st.lq=false) (hr:aI 37 6 (fun _=>False) N U ((x::L).map Bx.d) ((x::L).map bH) v w) (han:∀ y∈x::L,y.an=[]) (ho:Rd okO w (dL own) [vo]) (Mt:∀ b,okO b->v.ownBlock≠some b) (hg:st.groups<=1000000000) (hc:st.count<=1000000000) (hL:L.length<=1000000) (hp:st.pend.length+own.length<=1000000) (Ll:m<N) (FL:∀ b,vp.ownBlock=some b->b<N) : Calls Tryz.prog 64 #[.pointer (some ⟨m,0,none⟩),v,vo] w (C8 m W st vp N v x L own w):=by
  obtain ⟨iS,Mf,Jv,Jw,Jy⟩:=info_parts nL;obtain ⟨g,cap,rfl,hcap⟩:=kI hr.own (by simp);obtain ⟨ao,co,rfl⟩:∃ a c,vo=.slice a own.length c:=by obtain ⟨a,c,e,-⟩:=Rd.aC ho;simp at e;exact ⟨a,c,e⟩
  obtain ⟨n,hn⟩:∃ n,n=(x::L).length:=⟨_,rfl⟩;have hn0:((x::L).map Bx.d).length=n:=by rw [hn,List.length_map]
  rw [hn0] at hcap hr Mt ⊢;have hn1:0<n:=by rw [hn,List.length_cons];omega
  have O7:n<=1000001:=by rw [hn,List.length_cons];omega
  have Mv:m≠g:=by have:=(hr.own.lt g rfl).1;omega
  have hgw:g<w.heap.size:=(hr.own.lt g rfl).2;have Vj:Hid (∀ w',aN (fun b=>(Value.slice (some ⟨g,0,none⟩) n cap).ownBlock=some b) w w'->Reads w' w'.heap.size 1 ao own.length (own.map Value.string)):=fun w' hF=>by
    obtain ⟨A,c,rows,hv,-,-,hr,-,hR⟩:=(ho.fr hF Mt).Dh;have e:ao=A:=by simp at hv;exact hv.1
    subst e;rw [aH.jl _ _ hr,jm,List.length_map] at hR;exact hR
  have HM:=hid hm;have HF:=hid hf;have HN:=hid hn;have Aw:=hid (fun (va:YL) (wr w5:YJ) hr hF hg hown hat=>Ju (m:=m) (g:=g) (n:=n) (cap:=cap) (W:=W) (vp:=vp) (va:=va) (x:=x) (L:=L) (own:=own) (w:=w) (wr:=wr) (w5:=w5) hm hf Ll FL hr hn (han x (by simp)) (fun y hy=>han y (by simp [hy])) hF hg hown hat);have Xj:=hid han;have Sq:=hid (And.intro Ll FL);have c1:=hm.cb.cell 1 _ rfl;have c4:=hm.cb.cell 4 _ rfl;rw [hf] at c4;have R0:Hid (He m N st.groups (x::L) (.slice (some ⟨g,0,none⟩) n cap) w (.int .i64 0) w):=⟨0,Nat.zero_le _,rfl,hr.top,aN.refl _ _⟩;obtain ⟨G,hG⟩:∃ G,G=st.groups:=⟨_,rfl⟩;rw [<- hG] at R0 Aw c1 hg;have HG:=hid hG;clear hm hr hf hn hn0 ho han Ll FL hG Mt;go_enter Tryz.func64,Tryz.ntmps64;go_wp2
  go_loopw [15] (fun vi wr=>He m N G (x::L) (.slice (some ⟨g,0,none⟩) n cap) w vi wr) (fun vi _=>n-(intOf vi).toNat)
  case atStart=>exact R0.out
  case round=>
    clear R0;obtain ⟨k,hk,rfl,hrow,hfr⟩:=hrel;have hk':k<=n:=by have:=HN.out;omega
    have Hl:=HM.out.cb.fr hfr (fun e=>Mv (by simpa [Value.ownBlock] using e.symm));have d0:=Hl.cell 0 _ rfl;have d1:=Hl.cell 1 _ rfl;have d2:=Hl.cell 2 _ rfl;have d3:=Hl.cell 3 _ rfl;rw [<- HG.out] at d1;have mf:=rR Hl;have gf:=hrow.2.free (by omega);by_cases hlt:k<n
    · obtain ⟨y,hy⟩:∃ y,(x::L)[k]?=some y:=⟨_,List.getElem?_eq_getElem (by have:=HN.out;omega)⟩
      have hya:=FK G k _ y hy;have Qx:((jL G k (x::L)).map bH)[k]?=some (bH y):=by rw [List.getElem?_map,hya];rfl
      have Sr:((jL G k (x::L)).map Bx.d)[k]?=some y.d:=by rw [List.getElem?_map,hya];rfl
      have hget:=hrow.get Qx Sr;have e2:=hget.2 2 _ rfl;have hst:=hrow.store k 2 (bH y) (dX G y).d (.int .i64 (G:Int)) Qx (by decide) (Bx.mO (dX G y) (by
        obtain ⟨va,e,h⟩:=Bx.open_ hget.1;have e':va=.slice none 0 0:=by simp [bH,xG] at e;exact e.symm
        rw [e'] at h;exact h))
      rw [show ((jL G k (x::L)).map Bx.d).set k (dX G y).d=(jL G (k+1) (x::L)).map Bx.d from by rw [<- List.map_set,qK _ _ _ _ hy],
        show ((jL G k (x::L)).map bH).set k ((bH y).set 2 (.int .i64 (G:Int)))=(jL G (k+1) (x::L)).map bH from by rw [<- Db,<- List.map_set,qK _ _ _ _ hy]] at hst
      have hf2:=hfr.trans (aN.set wr g (k*6+2) (.int .i64 (G:Int))) (fun b _ e=>by rw [e];rfl);have HST:=hid hst;have Vk:=hid hf2;clear hst hf2 hget Qx Sr hya hy hrow hfr Hl;go_wp2;go_roundw;case rel=>exact ⟨k+1,by have:=HN.out;omega,by go_num,by simpa using HST.out,Vk.out⟩
      case measure=>simp [intOf];omega
    · have hkn:k=(x::L).length:=by have:=HN.out;omega
      rw [hkn,Da] at hrow;have hkn':k=n:=by omega
      have hRr:=Vj.out wr hfr;have hpr:wr.ownsRow m 9 1 vp st.pend.length (st.pend.map Value.string):=fK HM.out.own hfr (fun b e e'=>by
        have:=Sq.out.2 b e;have e1:g=b:=by simpa [Value.ownBlock] using e'
        have:=(hrow.own.lt g rfl).1;omega)
      have Az:vp.ownBlock≠some m:=bR HM.out.own HM.out.cb (by decide);have Qu:vp.ownBlock≠some g:=fun e=>by have:=Sq.out.2 g e;have:=(hrow.own.lt g rfl).1;omega
      have hx5:=(hrow.get (i:=0) (r:=bH (dX G x)) (d:=(dX G x).d) rfl rfl).2 5 _ rfl;have Vl:=hid hx5;have Vm:=hid gf;have Sv:=hid Hl;have HRW:=hid hrow;have OZ:=hid hfr;have O9:=hid Az;have Qy:=hid Qu;obtain ⟨ap,cp,rfl⟩:=HM.out.slice;obtain ⟨pl,hpl⟩:∃ pl,pl=st.pend.length:=⟨_,rfl⟩;rw [<- hpl] at hpr d2 hp Aw O9 Qy;rw [<- hpl];have Jz:=hid hpr;have HRR:=hid hRr;have Mj:=hid hpl;clear hkn hrow hfr Hl hpl Az Qu hx5 hpr hRr;go_wp2_with (at_builtin;(refine Lg _ rfl _ _ 35 rfl m 9 iS _ 1 16 Tryz.underlying35 Mf Jv Jw Jy rfl (by decide) _ _ _ rfl Jz.out wr.heap.size _ _ _ _ rfl HRR.out ?c1 ?c2 ?c3 ?c4 ?_))
      case c1=>
        intro u hu;obtain ⟨s,_,rfl⟩:=List.mem_map.1 hu;rfl
      case c2=>unfold maxLen;omega
      case c3=>omega
      case c4=>have:=Sv.out.lt;omega
      intro va w5 hown5 hg5 FH;obtain ⟨a5,c5,rfl⟩:=lu hown5;have Dc:=Sv.out.fr (aN.grown hg5) O9.out;have m1:=Dc.cell 1 _ rfl;have m2:=Dc.cell 2 _ rfl;have m3:=Dc.cell 3 _ rfl;rw [<- HG.out] at m1;have Xk:=rR Dc;have g5:w5.cell? ⟨g,5,none⟩=some (.slice none 0 0):=by have hgl:=(HRW.out.own.lt g rfl).2;exact (lF (hg5.block g hgl (fun e=>Qy.out e.symm)) 5).trans Vl.out
      have Xl:∀ j,w5.frozen? ⟨g,j,none⟩=false:=fun j=>by
        have hgl:=(HRW.out.own.lt g rfl).2;exact (CF (hg5.block g hgl (fun e=>Qy.out e.symm)) j).trans (Vm.out j)
      have HP:=hid (Aw.out _ wr w5 HRW.out OZ.out hg5 hown5 FH);clear Dc hown5 hg5 FH;go_wp2;go_ret;rw [<- Mj.out];exact HP.out
open Go.RowKit
theorem AA {st:St} {L:List Bx} {own:List ByteArray} (h:st.lq=true):q0z st L own=(L,st):=by unfold q0z;rw [if_pos h]
theorem jo (st:St) (L:List Bx) (own:List ByteArray):(q0z st L own).2.err=st.err:=by unfold q0z;split<;>rfl
theorem aI.basis {T:TypeId} {k n n' U:Nat} {ok:Nat->Prop} {w:YJ} {ds:List D} {rows:List (List YL)} {v:YL} (h:aI T k ok n U ds rows v w) (hn:n'<=n):aI T k ok n' U ds rows v w:=
  aI.mO (XV hn h.1) (kE h.own hn) (aH.keep (fun b hb _=>⟨⟨hb.1.imp id (fun h=>XV hn h),hb.2⟩,rfl⟩) _ _ h.red) h.2.len h.2.oU (XV hn h.le) h.2.Mh
def nR (m:Nat) (W:Int) (st:St) (vp:YL) (N:Nat) (v:YL) (L:List Bx) (own:List ByteArray) (w:YJ) (e:Ending) (w':YJ):Prop:=
  ∃ rows dZ,e=.returned v/\aI 37 6 (fun b=>vp.ownBlock=some b/\dZ.ownBlock≠some b) N w'.heap.size ((q0z st L own).1.map Bx.d) rows v w'/\nN m W (q0z st L own).2 dZ w'/\(dZ=vp\/dZ=.slice none 0 0) /\
    aN (fun b=>b=m\/vp.ownBlock=some b\/v.ownBlock=some b) w w'
theorem uH (m:Nat) (W:Int) (st:St) (vp:YL) (N U:Nat) (v vo:YL) (L:List Bx) (own:List ByteArray) (okO:Nat->Prop) (w:YJ) (hm:nN m W st vp w) (h0:L≠[]) (hr:aI 37 6 (fun _=>False) N U (L.map Bx.d) (L.map bH) v w) (han:∀ y∈L,y.an=[]) (ho:Rd okO w (dL own) [vo]) (Mt:∀ b,okO b->v.ownBlock≠some b) (hg:st.groups<=1000000000) (hc:st.count<=1000000000) (hL:L.length<=1000000) (hp:st.pend.length+own.length<=1000000) (Ll:m<N) (FL:∀ b,vp.ownBlock=some b->b<N) : Calls Tryz.prog 64 #[.pointer (some ⟨m,0,none⟩),v,vo] w (nR m W st vp N v L own w):=by
  by_cases hf:st.lq=true
  · refine (C9 m W st vp v vo w hm hf).mono ?_
    rintro e w' ⟨rfl,rfl⟩;rw [nR,AA hf];exact ⟨L.map bH,vp,rfl,hr.top.weaken (fun _ h=>h.elim),hm,.inl rfl,aN.refl _ _⟩
  · have hf:st.lq=false:=by simpa using hf
    cases L with
    | nil=>exact absurd rfl h0
    | cons x L=>
      refine (Df m W st vp N U v vo x L own okO w hm hf hr han ho Mt hg hc (by simp at hL;omega) hp Ll FL).mono ?_;rintro e w' ⟨rfl,va,h1,h2,h3,h4,h5⟩;exact ⟨_,.slice none 0 0,rfl,h1.weaken (fun b h=>⟨h,by simp [Value.ownBlock]⟩),h4,.inr rfl,h5⟩
theorem bT.of {m:Nat} {W:Int} {st:St} {vp:YL} {N:Nat} {v:YL} {L:List Bx} {own:List ByteArray} {w w1 w':YJ} {e:Ending} (h:nR m W st vp N v L own w1 e w') (hf:aN (fun b=>b=m\/vp.ownBlock=some b) w w1) (hN:w.heap.size<=N) : bT m W w vp (q0z st L own) e w':=by
  obtain ⟨rows,dZ,rfl,hr,hm,hv,hF⟩:=h;refine ⟨v,rows,dZ,rfl,hr.basis hN,hm,fun _=>hv,fun g e=>?_,hf.trans hF (fun b hb e=>?_)⟩
  · rcases hv with rfl | rfl
    · exact .inl e
    · simp [Value.ownBlock] at e
  · rcases e with e | e | e
    · exact .inl e
    · exact .inr e
    · have:=(hr.own.lt b e).1;omega
theorem bT.from_ {m:Nat} {W:Int} {vp:YL} {r:List Bx × St} {w w1 w':YJ} {e:Ending} (h:bT m W w1 vp r e w') (hb:Below w.heap.size w w1):bT m W w vp r e w':=by obtain ⟨v,rows,dZ,rfl,hr,hm,hv,ho,hF⟩:=h;exact ⟨v,rows,dZ,rfl,hr.basis hb.size,hm,hv,fun g e=>(ho g e).imp id (fun h=>XV hb.size h),(aN.of_below hb _).trans hF (fun _ _ e=>e)⟩
mutual
def aj.mg:aj->Nat
  | .mk k lv i t d ti a li ks=>30+i.size+2*t.size+2*(ah.aA li).length+(iy (ah.aD li)).length+aj.bg ks
def aj.bg:List aj->Nat
  | []=>0
  | x::l=>x.mg+aj.bg l
end
structure Fits (n:Nat) (st:St) (p:Px):Prop where
  f:p.first.size+n<=1000000
  r:p.rest.size+n<=1000000
  g:st.groups+n<=1000000
  c:st.count+n<=1000000
  p:st.pend.length+n<=1000000
structure dO (n:Nat) (st st':St):Prop where
  g:st'.groups<=st.groups+n
  c:st'.count<=st.count+n
  p:st'.pend.length<=st.pend.length+n
  f:st'.lq=st.lq
theorem dO.refl (n:Nat) (st:St):dO n st st:=⟨by omega,by omega,by omega,rfl⟩
theorem dO.trans {n n':Nat} {a b c:St} (h:dO n a b) (h2:dO n' b c):dO (n+n') a c:=⟨by have:=h.g;have:=h2.g;omega,by have:=h.c;have:=h2.c;omega,by have:=h.p;have:=h2.p;omega,h2.f.trans h.f⟩
theorem dO.mono {n n':Nat} {a b:St} (h:dO n a b) (hn:n<=n'):dO n' a b:=⟨by have:=h.g;omega,by have:=h.c;omega,by have:=h.p;omega,h.f⟩
theorem Fits.next {n n':Nat} {st st':St} {p p':Px} (h:Fits (n+n') st p) (hg:dO n st st') (h1:p'.first.size<=max p.first.size p.rest.size+n) (h2:p'.rest.size<=p.rest.size+n):Fits n' st' p':=by obtain ⟨a,b,c,d,e⟩:=h;obtain ⟨g1,g2,g3,g4⟩:=hg;exact ⟨by omega,by omega,by omega,by omega,by omega⟩
theorem Fits.mono {n n':Nat} {st:St} {p:Px} (h:Fits n st p) (hn:n'<=n):Fits n' st p:=by obtain ⟨a,b,c,d,e⟩:=h;exact ⟨by omega,by omega,by omega,by omega,by omega⟩
theorem gP (st:St) (L:List Bx) (own:List ByteArray) (n:Nat) (h1:1<=n) (h2:L.length<=n):dO n st (q0z st L own).2/\(q0z st L own).1.length=L.length:=by
  unfold q0z;split
  · exact ⟨dO.refl _ _,rfl⟩
  · refine ⟨⟨by simp only;omega,by simp only;omega,by simp,rfl⟩,?_⟩
    cases L<;>simp
theorem Di (st:St):dO 0 st st.lim:=by unfold St.lim;split<;>exact ⟨by simp,by simp,by simp,rfl⟩
end Go.Proofs.YtnmldmofggkoeaaGreatDoor

