/- The small case with which each statement of layer 34 ends: it answers true. The walk of publisherlaw34.HtmlPlain. -/
import Derived.Test.YtclikfjalmcoaaaGreatDoorJHtG
import Derived.Test.YtclikfjalmcoaaaGreatDoorJHrV
set_option maxHeartbeats 4000000
set_option maxRecDepth 100000
open Go.Lib (hid)
namespace Go.Proofs.YtclikfjalmcoaaaGreatDoor
open Go.RowKit.Below renaming refl->jc7
open Nat renaming le_refl->jc8
open Go.RowKit
set_option linter.unusedVariables false
set_option linter.unusedSimpArgs false
theorem GX (t:ByteArray) (w:World) : Calls Tryz.prog 46 #[.string t] w fun e w'=>e=.returned (.agg #[.int .i64 1,.string t,.string ⟨#[]⟩,.string ⟨#[]⟩,.string ⟨#[]⟩,.slice none 0 0,.slice none 0 0,.slice none 0 0,.slice none 0 0,.slice none 0 0])/\Below w.heap.size w w':=
 (Rx t w).mono fun e w' h=>⟨h.1,h.2⟩
theorem RA (w:World):Rd (·<(w.alloc (.cells #[.int .i64 1,.string ⟨#[97]⟩,.string ⟨#[]⟩,.string ⟨#[]⟩,.string ⟨#[]⟩,.slice none 0 0,.slice none 0 0,.slice none 0 0,.slice none 0 0,.slice none 0 0,.int .i64 2,.string ⟨#[]⟩,.string ⟨#[]⟩,.string ⟨#[]⟩,.string ⟨#[]⟩,.slice none 0 0,.slice none 0 0,.slice none 0 0,.slice none 0 0,.slice none 0 0,.int .i64 1,.string ⟨#[98]⟩,.string ⟨#[]⟩,.string ⟨#[]⟩,.string ⟨#[]⟩,.slice none 0 0,.slice none 0 0,.slice none 0 0,.slice none 0 0,.slice none 0 0] 51)).heap.size) (w.alloc (.cells #[.int .i64 1,.string ⟨#[97]⟩,.string ⟨#[]⟩,.string ⟨#[]⟩,.string ⟨#[]⟩,.slice none 0 0,.slice none 0 0,.slice none 0 0,.slice none 0 0,.slice none 0 0,.int .i64 2,.string ⟨#[]⟩,.string ⟨#[]⟩,.string ⟨#[]⟩,.string ⟨#[]⟩,.slice none 0 0,.slice none 0 0,.slice none 0 0,.slice none 0 0,.slice none 0 0,.int .i64 1,.string ⟨#[98]⟩,.string ⟨#[]⟩,.string ⟨#[]⟩,.string ⟨#[]⟩,.slice none 0 0,.slice none 0 0,.slice none 0 0,.slice none 0 0,.slice none 0 0] 51)) (bC eL) [.slice (some ⟨w.heap.size,0,none⟩) 3 3]:=by have kk:CB 51 w.heap.size (eC ⟨#[97]⟩++([.int .i64 2,.string ⟨#[]⟩,.string ⟨#[]⟩,.string ⟨#[]⟩,.string ⟨#[]⟩,.slice none 0 0,.slice none 0 0,.slice none 0 0,.slice none 0 0,.slice none 0 0]++eC ⟨#[98]⟩)) (w.alloc (.cells #[.int .i64 1,.string ⟨#[97]⟩,.string ⟨#[]⟩,.string ⟨#[]⟩,.string ⟨#[]⟩,.slice none 0 0,.slice none 0 0,.slice none 0 0,.slice none 0 0,.slice none 0 0,.int .i64 2,.string ⟨#[]⟩,.string ⟨#[]⟩,.string ⟨#[]⟩,.string ⟨#[]⟩,.slice none 0 0,.slice none 0 0,.slice none 0 0,.slice none 0 0,.slice none 0 0,.int .i64 1,.string ⟨#[98]⟩,.string ⟨#[]⟩,.string ⟨#[]⟩,.string ⟨#[]⟩,.slice none 0 0,.slice none 0 0,.slice none 0 0,.slice none 0 0,.slice none 0 0] 51)):=CB.new _ _ w;exact Rd.GV (l:=eL.map ah.d) (rows:=[eC ⟨#[97]⟩,[.int .i64 2,.string ⟨#[]⟩,.string ⟨#[]⟩,.string ⟨#[]⟩,.string ⟨#[]⟩,.slice none 0 0,.slice none 0 0,.slice none 0 0,.slice none 0 0,.slice none 0 0],eC ⟨#[98]⟩]) (by simp [eL]) (by unfold maxLen;decide) (aO.cons (KG _ _ _) (aO.cons (Ny _ _) (aO.one (KG _ _ _)))) (by simp [eC]) kk.lt kk.lt (fun j u hu=>kk.cell j u (by simpa using hu))
theorem RB (w:World):Rd (·<(w.alloc (.cells #[.int .i64 14,.string ⟨#[97]⟩,.string ⟨#[]⟩,.string ⟨#[]⟩,.string ⟨#[]⟩,.slice none 0 0,.slice none 0 0,.slice none 0 0,.slice none 0 0,.slice none 0 0] 51)).heap.size) (w.alloc (.cells #[.int .i64 14,.string ⟨#[97]⟩,.string ⟨#[]⟩,.string ⟨#[]⟩,.string ⟨#[]⟩,.slice none 0 0,.slice none 0 0,.slice none 0 0,.slice none 0 0,.slice none 0 0] 51)) (bC [zX]) [.slice (some ⟨w.heap.size,0,none⟩) 1 1]:=by have kk:CB 51 w.heap.size [.int .i64 14,.string ⟨#[97]⟩,.string ⟨#[]⟩,.string ⟨#[]⟩,.string ⟨#[]⟩,.slice none 0 0,.slice none 0 0,.slice none 0 0,.slice none 0 0,.slice none 0 0] (w.alloc (.cells #[.int .i64 14,.string ⟨#[97]⟩,.string ⟨#[]⟩,.string ⟨#[]⟩,.string ⟨#[]⟩,.slice none 0 0,.slice none 0 0,.slice none 0 0,.slice none 0 0,.slice none 0 0] 51)):=CB.new _ _ w;exact Rd.GV (l:=[zX].map ah.d) (rows:=[[.int .i64 14,.string ⟨#[97]⟩,.string ⟨#[]⟩,.string ⟨#[]⟩,.string ⟨#[]⟩,.slice none 0 0,.slice none 0 0,.slice none 0 0,.slice none 0 0,.slice none 0 0]]) (by simp) (by unfold maxLen;decide) (aO.one (Ry _ _)) (by simp) kk.lt kk.lt (fun j u hu=>kk.cell j u (by simpa using hu))
theorem bI.rd {w w':World} {L:List Nd} {v:Value} {U:Nat} {rows:List (List Value)} (h:aI 43 4 (fun _=>False) U w (L.map Nd.d) rows v w'):Rd (fun _=>True) w' (bU L) [v]:=h.eD.weaken (fun _ _=>trivial)
theorem tK (w:World) (ht:PT w):Calls Tryz.prog 16 #[] w (dJ (.bool true) w):=by
 have pG:Hid (∀ W,Below w.heap.size w W->PT W):=fun W hW=>ht.below hW
 clear ht;go_enter Tryz.func16,Tryz.ntmps16;go_wp2_with fail
 refine (GX _ _).mono ?_;rintro e w1 ⟨rfl,b1⟩;go_wp2_with fail
 refine (GX _ _).mono ?_;rintro e w2 ⟨rfl,b2⟩;have bb2:=aQ b1 b2;have bA:Below w2.heap.size w2 (w2.alloc (.cells #[.int .i64 1,.string ⟨#[97]⟩,.string ⟨#[]⟩,.string ⟨#[]⟩,.string ⟨#[]⟩,.slice none 0 0,.slice none 0 0,.slice none 0 0,.slice none 0 0,.slice none 0 0,.int .i64 2,.string ⟨#[]⟩,.string ⟨#[]⟩,.string ⟨#[]⟩,.string ⟨#[]⟩,.slice none 0 0,.slice none 0 0,.slice none 0 0,.slice none 0 0,.slice none 0 0,.int .i64 1,.string ⟨#[98]⟩,.string ⟨#[]⟩,.string ⟨#[]⟩,.string ⟨#[]⟩,.slice none 0 0,.slice none 0 0,.slice none 0 0,.slice none 0 0,.slice none 0 0] 51)):=(jc7 _ _).alloc (jc8 _) _;have h3:=zU eL _ _ (RA w2) KH (by decide +kernel);rw [YF,YG] at h3;have LC:=hid h3;have BA:=hid (aQ bb2 bA);clear b1 b2 bb2 bA h3;go_wp2_with fail
 (with_reducible refine LC.out.mono ?_)
 rintro e w3 ⟨dD,v3,rfl,hrow3⟩;have R3:=hid (bI.rd (L:=[yx ⟨#[97,32,98]⟩]) hrow3);obtain ⟨a3,c3,rfl,-,-⟩:=hrow3.cap (n:=1) rfl;have B3:=hid (aQ BA.out hrow3.aJ);have h4:=zL [Db] _ (w3.alloc (.cells #[.int .i64 5,.int .i64 0,.string ⟨#[]⟩,.string ⟨#[]⟩,.string ⟨#[]⟩,.string ⟨#[]⟩,.string ⟨#[]⟩,.slice none 0 0,.slice none 0 0,.slice none 0 0,.slice none 0 0] 30)) (EU 5 ⟨#[]⟩ [] (.slice none 0 0) w3 (Rd.ay _ _ _)) rZ (by decide +kernel) (by decide +kernel) (au.kS _ rZ) (pG.out _ (B3.out.alloc B3.out.size _));rw [YH,YI] at h4;have BC:=hid h4;have bA:Below w3.heap.size w3 (w3.alloc (.cells #[.int .i64 5,.int .i64 0,.string ⟨#[]⟩,.string ⟨#[]⟩,.string ⟨#[]⟩,.string ⟨#[]⟩,.string ⟨#[]⟩,.slice none 0 0,.slice none 0 0,.slice none 0 0,.slice none 0 0] 30)):=(jc7 _ _).alloc (jc8 _) _;have BA2:=hid (aQ B3.out bA);have U6:=hid (R3.out.aZ bA);clear hrow3 LC BA h4 bA R3;go_wp2_with fail
 (with_reducible refine BC.out.mono ?_)
 rintro e w4 ⟨dF,v4,rfl,hrow4⟩;have R4:=hid (bI.rd (L:=[aL Ug [] []]) hrow4);obtain ⟨a4,c4,rfl,-,-⟩:=hrow4.cap (n:=1) rfl;have B4:=hid (aQ BA2.out hrow4.aJ);have R34:=hid (U6.out.aZ hrow4.aJ);clear hrow4 BC BA2 U6;go_upto_region 3 with (fail)
 obtain ⟨p4,U7⟩:∃ p4,p4=w4.heap.size:=⟨_,rfl⟩;obtain ⟨w5,Im⟩:∃ w5,w5=w4.alloc (.cells #[.int .i64 14,.int .i64 0,.string ⟨#[120]⟩,.string ⟨#[]⟩,.string ⟨#[]⟩,.string ⟨#[]⟩,.string ⟨#[]⟩,.slice none 0 0,.slice none 0 0,.slice none 0 0,.slice none 0 0] 30):=⟨_,rfl⟩;have rd5:Rd (·<w5.heap.size) w5 (dB [GU]) [.slice (some ⟨p4,0,none⟩) 1 1]:=by rw [Im,U7];exact EU 14 ⟨#[120]⟩ [] (.slice none 0 0) w4 (Rd.ay _ _ _)
 have Xe:Below w4.heap.size w4 w5:=by rw [Im];exact (jc7 _ _).alloc (jc8 _) _
 have B5:=hid (aQ B4.out Xe);have z5:w5.heap.size=p4+1:=by rw [Im,World.size_alloc,U7]
 have Xf:Below w5.heap.size w5 (w5.alloc (.cells #[.int .i64 6,.int .i64 0,.string ⟨#[]⟩,.string ⟨#[]⟩,.string ⟨#[]⟩,.string ⟨#[]⟩,.string ⟨#[]⟩,.slice none 0 0,.slice none 0 0,.slice none 0 0,.slice (some ⟨p4,0,none⟩) 1 1] 30)):=(jc7 _ _).alloc (jc8 _) _;have h6:=zL [uY] _ (w5.alloc (.cells #[.int .i64 6,.int .i64 0,.string ⟨#[]⟩,.string ⟨#[]⟩,.string ⟨#[]⟩,.string ⟨#[]⟩,.string ⟨#[]⟩,.slice none 0 0,.slice none 0 0,.slice none 0 0,.slice (some ⟨p4,0,none⟩) 1 1] 30)) (EU 6 ⟨#[]⟩ [GU] (.slice (some ⟨p4,0,none⟩) 1 1) w5 rd5) pX (by decide +kernel) (by decide +kernel) (au.kS _ pX) (pG.out _ (B5.out.alloc B5.out.size _));rw [YJ,YK] at h6;have BC:=hid h6;have BA6:=hid (aQ B5.out Xf);have RB3:=hid ((R34.out.aZ Xe).aZ Xf);have RB4:=hid ((R4.out.aZ Xe).aZ Xf);have HZ5:=hid z5;have HW5:=hid Im;have GK:=hid U7;clear rd5 Xe Xf h6 R34 R4 z5 Im U7;go_wp2_with fail
 rw [<- GK.out,<- HW5.out];try rw [<- HZ5.out]
 (with_reducible refine BC.out.mono ?_)
 rintro e w6 ⟨UF,v6,rfl,dn⟩;have R6:=hid (bI.rd (L:=[aL uJ [] [],aL jc [⟨eY,jH⟩] [aL jS [⟨jX,⟨#[110,111,116,101,45,120]⟩⟩,⟨eY,dG⟩] []]]) dn);obtain ⟨a6,c6,rfl,-,-⟩:=dn.cap (n:=2) rfl;have B6:=hid (aQ BA6.out dn.aJ);have R63:=hid (RB3.out.aZ dn.aJ);have R64:=hid (RB4.out.aZ dn.aJ);have h7:=Ip [] [] ⟨#[84]⟩ ⟨#[101,110]⟩ (.slice none 0 0) (.slice none 0 0) w6 (Rd.ay _ _ _) (Rd.ay _ _ _) (by simp) (by simp) (by decide +kernel) (by unfold au.aC;trivial) (by decide +kernel) (by decide +kernel) (by unfold au.qI;trivial) (by decide) (by decide) (pG.out _ B6.out);rw [YL,YM] at h7;have PC:=hid h7;clear dn BC BA6 RB3 RB4 h7 HZ5 HW5 GK B5;go_wp2_with fail
 (with_reducible refine PC.out.mono ?_)
 rintro e w7 ⟨va,vk,he,hN,b7⟩;obtain ⟨aA,nA,cA,rfl⟩:=Rd.aj hN.at_
 obtain ⟨aK,cK,hvk,hsK⟩:=Rd.aD hN.ks;obtain rfl:vk=.slice aK 2 cK:=by have h:=hvk;simp only [List.cons.injEq,and_true] at h;exact h
 have he:e=.returned (.tuple #[.agg #[.string ⟨#[104,116,109,108]⟩,.string ⟨#[]⟩,.slice aA nA cA,.slice aK 2 cK],.int .i64 0]):=he;subst he;have B7:=hid (aQ B6.out b7);have RK7:=hid (show Rd (fun _=>True) w7 (bU [aL rV [] [aL nR [⟨Ir,j3⟩] [],aL kN [] [yx ⟨#[84]⟩]],aL uQ [] []]) [.slice aK 2 cK] from hN.ks.weaken (fun _ _=>trivial));have R73:=hid (R63.out.aZ b7);have R74:=hid (R64.out.aZ b7);have R76:=hid (R6.out.aZ b7);clear hN b7 hvk hsK PC R63 R64 R6;obtain ⟨Bp,GY⟩:∃ Bp,Bp=w7.heap.size:=⟨_,rfl⟩;obtain ⟨wP,Xg⟩:∃ wP,wP=w7.alloc (.cells #[.string ⟨#[104,116,109,108]⟩,.string ⟨#[]⟩,.slice aA nA cA,.slice aK 2 cK] 43):=⟨_,rfl⟩;have kP:CB 43 Bp [.string ⟨#[104,116,109,108]⟩,.string ⟨#[]⟩,.slice aA nA cA,.slice aK 2 cK] wP:=by rw [Xg,GY];exact CB.new _ _ _
 have bP:Below w7.heap.size w7 wP:=by rw [Xg];exact (jc7 _ _).alloc (jc8 _) _
 have BP:=hid (aQ B7.out bP);have h8:=zU [zX] _ _ (RB wP) KI (by decide +kernel);rw [e_r,show PG [zX]=[] from rfl] at h8;have LC:=hid h8;have bA:Below wP.heap.size wP (wP.alloc (.cells #[.int .i64 14,.string ⟨#[97]⟩,.string ⟨#[]⟩,.string ⟨#[]⟩,.string ⟨#[]⟩,.slice none 0 0,.slice none 0 0,.slice none 0 0,.slice none 0 0,.slice none 0 0] 51)):=(jc7 _ _).alloc (jc8 _) _;have wI:=hid bA;have U8:=hid bP;have KP:=hid kP;clear h8 bA bP kP;go_upto_region 5 with (fail)
 rw [<- Xg,<- GY];clear Xg GY;go_wp2_with fail
 (with_reducible refine LC.out.mono ?_)
 rintro e w8 ⟨ja8,v8,rfl,uX⟩;obtain ⟨a8,n8,c8,rfl⟩:=uX.slice3;have bT:Below wP.heap.size wP w8:=wI.out.trans (uX.aJ.mono wI.out.size);have BL:=hid (aQ BP.out bT);have YN:=KP.out.below bT;have r1:=((R73.out.aZ U8.out).aZ bT);have r2:=((R74.out.aZ U8.out).aZ bT);have r3:=((R76.out.aZ U8.out).aZ bT);have r4:=((RK7.out.aZ U8.out).aZ bT);obtain ⟨_,_,q1,s1⟩:=Rd.aD r1;obtain ⟨rfl,rfl⟩:_=a3/\_=c3:=by simp at q1;exact ⟨q1.1.symm,q1.2.symm⟩
 obtain ⟨g1,o1,va1,vk1,rfl,-,-,t10,t11,t12,t13,hN1⟩:=qQ (l:=[yx ⟨#[97,32,98]⟩]) s1 (k:=0) rfl;obtain ⟨_,_,q2,s2⟩:=Rd.aD r2;obtain ⟨rfl,rfl⟩:_=a4/\_=c4:=by simp at q2;exact ⟨q2.1.symm,q2.2.symm⟩
 obtain ⟨g2,o2,va2,vk2,rfl,-,-,t20,t21,t22,t23,-⟩:=qQ (l:=[aL Ug [] []]) s2 (k:=0) rfl;obtain ⟨_,_,q3,s3⟩:=Rd.aD r3;obtain ⟨rfl,rfl⟩:_=a6/\_=c6:=by simp at q3;exact ⟨q3.1.symm,q3.2.symm⟩
 obtain ⟨g3,o3,va3,vk3,rfl,-,-,t30,t31,t32,t33,-⟩:=qQ (l:=[aL uJ [] [],aL jc [⟨eY,jH⟩] [aL jS [⟨jX,⟨#[110,111,116,101,45,120]⟩⟩,⟨eY,dG⟩] []]]) s3 (k:=1) rfl;obtain ⟨_,_,q4,s4⟩:=Rd.aD r4;obtain ⟨rfl,rfl⟩:_=aK/\_=cK:=by simp at q4;exact ⟨q4.1.symm,q4.2.symm⟩
 obtain ⟨g4,o4,va4,vk4,rfl,-,-,t40,t41,t42,t43,hN4⟩:=qQ (l:=[aL rV [] [aL nR [⟨Ir,j3⟩] [],aL kN [] [yx ⟨#[84]⟩]],aL uQ [] []]) s4 (k:=1) rfl;obtain ⟨_,_,hv4,-⟩:=Rd.aD hN4.ks;obtain rfl:=(by simpa using hv4:vk4=_);obtain ⟨aA1,nA1,cA1,rfl⟩:=Rd.aj hN1.at_
 obtain ⟨aK1,nK1,cK1,rfl⟩:=Rd.aj hN1.ks;have AC:Hid (Calls Tryz.prog 28 #[.agg #[.string ⟨#[]⟩,.string ⟨#[97,32,98]⟩,.slice aA1 nA1 cA1,.slice aK1 nK1 cK1]] w8 (jW w8 ((yx ⟨#[97,32,98]⟩).vals jX))):=zH ⟨#[]⟩ ⟨#[97,32,98]⟩ [] [] (.slice aA1 nA1 cA1) (.slice aK1 nK1 cK1) w8 ⟨Rd.keep (fun b _ h2=>⟨h2,rfl⟩) _ _ hN1.at_,Rd.keep (fun b _ h2=>⟨h2,rfl⟩) _ _ hN1.ks⟩ (by decide +kernel);have p0:=YN.cell 0 _ rfl;have p3:=YN.cell 3 _ rfl;simp only [Nat.zero_mul,Nat.one_mul,Nat.add_zero] at t10 t11 t12 t13 t20 t30 t43
 replace t20:w8.cell? ⟨g2,o2,none⟩=some (.string ⟨#[104,114]⟩):=t20
 replace t30:w8.cell? ⟨g3,o3+4,none⟩=some (.string ⟨#[115,101,99,116,105,111,110]⟩):=t30
 clear uX bT YN r1 r2 r3 r4 q1 q2 q3 q4 s1 s2 s3 s4 hN1 hN4 hv4 t21 t22 t23 t31 t32 t33 t40 t41 t42 LC R73 R74 R76 RK7 wI U8 KP;go_wp2_with fail
 (with_reducible refine AC.out.mono ?_)
 rintro e w9 ⟨v9,rfl,PS,b9⟩;obtain ⟨a9,c9,hv9⟩:=qP PS;obtain rfl:v9=.slice a9 0 c9:=hv9;have HF:=hid (aQ BL.out b9);clear PS b9 AC;go_wp2;go_ret;exact ⟨rfl,HF.out⟩
open Go.RowKit
mutual
theorem ah.RD:∀ (x:ah),x.src->∀ y∈x.deep,1<=y.kd/\y.kd<=16
 | .mk k t d ti a ar ci ks,h,y,hy=>by
  rw [ah.src] at h;rw [ah.deep] at hy;rcases List.mem_cons.1 hy with rfl | hy
  ·have h1:=h.1;unfold rM at h1;split at h1
   ·cases h1
   ·rename_i h0
    have hf:BJ k t d ti a ar ci ks=true:=by simpa using h0
    exact vw hf
  ·exact ah.zZ ks h.2 y hy
theorem ah.zZ:∀ (l:List ah),ah.Ab l->∀ y∈ah.aM l,1<=y.kd/\y.kd<=16
 | [],_,y,hy=>by rw [ah.aM] at hy;cases hy
 | x::l,h,y,hy=>by
  rw [ah.Ab] at h;rw [ah.aM] at hy;rcases List.mem_append.1 hy with hy | hy
  ·exact ah.RD x h.1 y hy
  ·exact ah.zZ l h.2 y hy
end
theorem KM (l:List ah) (h:Mv l=0) (hk:∀ y∈ah.aM l,y.kd≠3/\y.kd≠10/\y.kd≠12):PG l=fA l/\(aL nP [] (fA l)).pl=ah.aB l:=by
 have hl:tJ l=0/\kR l=false:=by
  unfold Mv at h;split at h
  ·rename_i h1;exact absurd h h1
  ·rename_i h1
   split at h
   ·cases h
   ·rename_i h2
    exact ⟨Classical.not_not.1 h1,by simpa using h2⟩
 refine ⟨by unfold PG;rw [if_pos h],?_⟩;have hs:=ah.pY l 0 true 0 hl.1;have hkd:=ah.zZ l hs;rw [qc _ _ _ (by decide)];refine RF l ?_ hkd;rw [List.all_eq_true];intro y hy;have h1:=hk y hy;have hu:=hl.2;unfold kR at hu;rw [List.any_eq_false] at hu;have h2:=hu y hy;obtain ⟨k,t,d,ti,a,ar,ci,ks⟩:=y;have h3:¬ (k=15)/\¬ (k=13)/\¬ (k=14):=by unfold iw at h2;simp only [Bool.or_eq_true,decide_eq_true_eq,Bool.and_eq_true,not_or] at h2;exact ⟨h2.1.1.1,h2.1.1.2,h2.1.2⟩
 have h1:k≠3/\k≠10/\k≠12:=h1;unfold U9;show (!(decide (k=3)||decide (k=10)||decide (k=12)||decide (k=13)||decide (k=14)||decide (k=15)))=true;simp [h1.1,h1.2.1,h1.2.2,h3.1,h3.2.1,h3.2.2]
def KO (L:List ah) (vi:Value):Prop:=∃ k:Nat,k<=L.length/\vi=.int .i64 k/\∀ y∈L.take k,y.kd≠3/\y.kd≠10/\y.kd≠12
theorem NA (l:List ah) (v:Value) (w:World) (h:Rd (·<w.heap.size) w (bC l) [v]) (hwl:ah.sV l) (hll:l.length<=reachBytes) (ht:PT w) : Calls Tryz.prog 6 #[v] w (dJ (.bool true) w):=by
 obtain ⟨a,n,cap,rfl⟩:=Rd.aj h;have SM:=hid (zY l _ w h hwl hll);unfold Iw at SM;have H:=hid h;have pG:Hid (∀ W,Below w.heap.size w W->PT W):=fun W hW=>ht.below hW
 clear h ht;go_enter Tryz.func6,Tryz.ntmps6;go_wp2_with fail
 refine SM.out.mono ?_;rintro e w1 ⟨b,rfl,hsm,b1⟩;have B1:=hid b1;cases b with
 | false=>
  have AW:=hid (tK w1 (pG.out _ b1));clear hsm b1;go_wp2_with fail
  refine AW.out.mono ?_;rintro e w2 ⟨rfl,b2⟩;have HF:=hid (aQ B1.out b2);clear b2;go_wp2;go_ret;exact ⟨rfl,HF.out⟩
 | true=>
  obtain ⟨hil,hsz⟩:=hsm rfl;have HIL:=hid hil;have Gn:=hid hsz;have DC:=hid (KR _ l w.heap.size _ w1 (jc8 _) (by omega) (H.out.below b1) b1.size);obtain ⟨L,hL⟩:∃ L,L=ah.aM l:=⟨_,rfl⟩;have HL:=hid hL;rw [<- hL] at DC;have hLl:L.length<=120:=by rw [hL,ah.gq];exact hsz
  clear hsm b1 hil hsz SM hL;go_wp2_with fail
  refine DC.out.mono ?_;rintro e w2 ⟨v2,bg,rfl,hr2⟩;have b2:=hr2.aJ;have hE2:Rd (·<w2.heap.size) w2 (bC L) [v2]:=
   Rd.fZ (l:=L.map ah.d) (rows:=bg) (B:=w1.heap.size) (e:=51) hr2.own (aO.keep (fun b h1 h2=>⟨h2,rfl⟩) _ _ hr2.red) hr2.len (fun g hg=>(hr2.own.lt g hg).2)
  obtain ⟨a2,c2,hv2,hs2⟩:=Rd.aD hE2;obtain ⟨nL,Xh⟩:∃ nL,nL=L.length:=⟨_,rfl⟩;obtain rfl:v2=.slice a2 nL c2:=by rw [Xh];simpa using hv2
  have hc2:nL<=c2:=by rw [Xh];simpa using hs2.le
  have hm2:=hs2.max;unfold maxLen at hm2;have Ew:=hid Xh;have HS:=hid hs2;have B2:=hid (aQ B1.out b2);have R0:Hid (KO L (.int .i64 0)):=⟨0,Nat.zero_le _,rfl,fun y hy=>by simp at hy⟩;have AW:=hid (tK w2 (pG.out _ B2.out));clear hr2 b2 hE2 hv2 hs2 Xh DC;go_wp2
  go_loop [4] (fun i=>KO L i) (fun i=>nL-(intOf i).toNat)
  case atStart=>exact R0.out
  case round=>
   clear R0;obtain ⟨k,hk,rfl,hall⟩:=hrel;have oP:=hid hall;clear hall;by_cases hlt:k<nL
   ·obtain ⟨y,hy⟩:∃ y,L[k]?=some y:=⟨_,List.getElem?_eq_getElem (by have:=Ew.out;omega)⟩;have kE:=hid (show L.take (k+1)=L.take k++[y] by rw [List.take_add_one,hy];rfl);obtain ⟨yk,yt,yd,AX,ya,yar,yci,AZ⟩:=y;obtain ⟨g,off,vc,vp,va,vi,vk,rfl,-,-,hc,-⟩:=eF HS.out hy;have c0:=hc.c0;clear hc hy;by_cases h3:yk=3
    ·have q3:(yk==3)=true:=by rw [h3];rfl
     subst h3;go_wp2_with fail
     refine AW.out.mono ?_;rintro e w3 ⟨rfl,b3⟩;have HF:=hid (aQ B2.out b3);clear b3;go_wp2;go_ret;exact ⟨rfl,HF.out⟩
    have q3:(yk==3)=false:=by rw [beq_eq_false_iff_ne];exact h3
    by_cases h10:yk=10
    ·have XW:(yk==10)=true:=by rw [h10];rfl
     subst h10;go_wp2_with fail
     refine AW.out.mono ?_;rintro e w3 ⟨rfl,b3⟩;have HF:=hid (aQ B2.out b3);clear b3;go_wp2;go_ret;exact ⟨rfl,HF.out⟩
    have XW:(yk==10)=false:=by rw [beq_eq_false_iff_ne];exact h10
    by_cases h12:yk=12
    ·have q12:(yk==12)=true:=by rw [h12];rfl
     subst h12;go_wp2_with fail
     refine AW.out.mono ?_;rintro e w3 ⟨rfl,b3⟩;have HF:=hid (aQ B2.out b3);clear b3;go_wp2;go_ret;exact ⟨rfl,HF.out⟩
    have q12:(yk==12)=false:=by rw [beq_eq_false_iff_ne];exact h12
    have HR:Hid (KO L (.int .i64 ((k+1:Nat):Int))):=⟨k+1,by have:=Ew.out;omega,rfl,fun y hy=>by
     rw [kE.out] at hy;rcases List.mem_append.1 hy with hy | hy
     ·exact oP.out y hy
     ·obtain rfl:=List.mem_singleton.1 hy;exact ⟨h3,h10,h12⟩⟩
    clear h3 h10 h12;go_wp2
    go_round
    case rel=>exact HR.out
    case measure=>simp [intOf];omega
   ·have hkl:k=L.length:=by have:=Ew.out;omega
    have Il:=hid (show ∀ y∈ah.aM l,y.kd≠3/\y.kd≠10/\y.kd≠12 from fun y hy=>oP.out y (by rw [hkl,List.take_length,HL.out];exact hy));have TL:=zU l _ w2 (H.out.up B2.out) HIL.out (by have:=Gn.out;omega);obtain ⟨E,hE⟩:∃ E,E=Mv l:=⟨_,rfl⟩;obtain ⟨N,hN⟩:∃ N,N=PG l:=⟨_,rfl⟩;rw [<- hE,<- hN] at TL;have HE:=hid hE;have HN:=hid hN;have HTL:=hid TL;clear hkl TL hE hN;go_wp2_with fail
    refine HTL.out.mono ?_;rintro e w3 ⟨dD,v3,rfl,hrow3⟩;obtain ⟨a3,n3,c3,rfl⟩:=hrow3.slice3;have B3:=hid (aQ B2.out hrow3.aJ);have R3:=hid (bI.rd hrow3);clear hrow3 HTL;by_cases h0:E=0
    ·have q0:((E:Int) != 0)=false:=by rw [h0];rfl
     obtain ⟨g1,g2⟩:=KM l (HE.out.symm.trans h0) Il.out;have hpl:=ah.mW l HIL.out;have hsz:=Gn.out;have R3':Rd (fun _=>True) w3 (bU (fA l)) [.slice a3 n3 c3]:=by rw [<- g1,<- HN.out];exact R3.out
     have PC:Calls Tryz.prog 26 #[.agg #[.string ⟨#[112]⟩,.string ⟨#[]⟩,.slice none 0 0,.slice a3 n3 c3]] w3 (dJ (.string (A8 (aL nP [] (fA l)).pl)) w3):=
      zI _ (aL nP [] (fA l)) (.slice none 0 0) (.slice a3 n3 c3) w3 (jc8 _) (by rw [g2];omega) ⟨Rd.ay _ _ _,Rd.keep (fun b _ h2=>⟨h2,rfl⟩) _ _ R3'⟩
     rw [g2] at PC;obtain ⟨X,hX⟩:∃ X,X=A8 (ah.aB l):=⟨_,rfl⟩;rw [<- hX] at PC;have QC:Hid (∀ W:World,Below w.heap.size w W->Calls Tryz.prog 27 #[.slice a n cap] W (fun e w'=>e=.returned (.string X)/\W=w')):=fun W hW=>by
      rw [hX];exact EW _ l _ _ W (jc8 _) (H.out.up hW) (by omega)
     have HPC:=hid PC;have qX:(X.toList==X.toList)=true:=by simp
     clear g1 g2 hpl hsz R3' PC hX h0;go_wp2_with fail
     refine HPC.out.mono ?_;rintro e w4 ⟨rfl,b4⟩;have B4:=hid (aQ B3.out b4);have QC4:=hid (QC.out w4 B4.out);clear b4 HPC;go_wp2_with fail
     refine QC4.out.mono ?_;rintro e w5 ⟨rfl,Im⟩;rw [<- Im];clear Im w5 QC4;have AW4:=hid (tK w4 (pG.out _ B4.out));go_wp2_with fail
     refine AW4.out.mono ?_;rintro e w6 ⟨rfl,b6⟩;have HF:=hid (aQ B4.out b6);clear b6 AW4;go_wp2;go_ret;exact ⟨rfl,HF.out⟩
    ·have q0:((E:Int) != 0)=true:=by rw [bne_iff_ne];omega
     have AW3:=hid (tK w3 (pG.out _ B3.out));clear h0;go_wp2_with fail
     refine AW3.out.mono ?_;rintro e w4 ⟨rfl,b4⟩;have HF:=hid (aQ B3.out b4);clear b4;go_wp2;go_ret;exact ⟨rfl,HF.out⟩
end Go.Proofs.YtclikfjalmcoaaaGreatDoor

