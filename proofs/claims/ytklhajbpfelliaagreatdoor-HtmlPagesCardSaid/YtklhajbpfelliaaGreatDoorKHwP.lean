/- The small case with which each statement of layer 34 ends: it answers true. Contracts of publisherref34.line, Errors, Frame and Page. The walk of publisherlaw34.HtmlBlocks. The walk of publisherlaw34.HtmlPages. -/
import Derived.Test.YtklhajbpfelliaaGreatDoorKHtX
import Derived.Test.YtklhajbpfelliaaGreatDoorKHrB
set_option maxHeartbeats 4000000
set_option maxRecDepth 100000
open Go.Lib (hid)
namespace Go.Proofs.YtklhajbpfelliaaGreatDoor
open Go.Proofs.Tryz
open Go renaming World->jIq
open Go.RowKit.Below renaming refl->jFj
open Nat renaming le_refl->jFk
open Go.RowKit renaming Below->jIx
open Go.RowKit
set_option linter.unusedVariables false
set_option linter.unusedSimpArgs false
theorem Ny (t:ByteArray) (w:World) : Calls prog 11 #[.string t] w fun e w'=>e=.returned (.agg #[.int .i64 1,.string t,.string ⟨#[]⟩,.string ⟨#[]⟩,.string ⟨#[]⟩,.slice none 0 0,.slice none 0 0,.slice none 0 0,.slice none 0 0,.slice none 0 0])/\jIx w.heap.size w w':=
 (jox t w).mono fun e w' h=>⟨h.1,h.2⟩
theorem joz (w:World):Rd (·<(w.alloc (.cells #[.int .i64 1,.string ⟨#[97]⟩,.string ⟨#[]⟩,.string ⟨#[]⟩,.string ⟨#[]⟩,.slice none 0 0,.slice none 0 0,.slice none 0 0,.slice none 0 0,.slice none 0 0,.int .i64 2,.string ⟨#[]⟩,.string ⟨#[]⟩,.string ⟨#[]⟩,.string ⟨#[]⟩,.slice none 0 0,.slice none 0 0,.slice none 0 0,.slice none 0 0,.slice none 0 0,.int .i64 1,.string ⟨#[98]⟩,.string ⟨#[]⟩,.string ⟨#[]⟩,.string ⟨#[]⟩,.slice none 0 0,.slice none 0 0,.slice none 0 0,.slice none 0 0,.slice none 0 0] 47)).heap.size) (w.alloc (.cells #[.int .i64 1,.string ⟨#[97]⟩,.string ⟨#[]⟩,.string ⟨#[]⟩,.string ⟨#[]⟩,.slice none 0 0,.slice none 0 0,.slice none 0 0,.slice none 0 0,.slice none 0 0,.int .i64 2,.string ⟨#[]⟩,.string ⟨#[]⟩,.string ⟨#[]⟩,.string ⟨#[]⟩,.slice none 0 0,.slice none 0 0,.slice none 0 0,.slice none 0 0,.slice none 0 0,.int .i64 1,.string ⟨#[98]⟩,.string ⟨#[]⟩,.string ⟨#[]⟩,.string ⟨#[]⟩,.slice none 0 0,.slice none 0 0,.slice none 0 0,.slice none 0 0,.slice none 0 0] 47)) (bJ eL) [.slice (some ⟨w.heap.size,0,none⟩) 3 3]:=by have kk:CB 47 w.heap.size (eC ⟨#[97]⟩++([.int .i64 2,.string ⟨#[]⟩,.string ⟨#[]⟩,.string ⟨#[]⟩,.string ⟨#[]⟩,.slice none 0 0,.slice none 0 0,.slice none 0 0,.slice none 0 0,.slice none 0 0]++eC ⟨#[98]⟩)) (w.alloc (.cells #[.int .i64 1,.string ⟨#[97]⟩,.string ⟨#[]⟩,.string ⟨#[]⟩,.string ⟨#[]⟩,.slice none 0 0,.slice none 0 0,.slice none 0 0,.slice none 0 0,.slice none 0 0,.int .i64 2,.string ⟨#[]⟩,.string ⟨#[]⟩,.string ⟨#[]⟩,.string ⟨#[]⟩,.slice none 0 0,.slice none 0 0,.slice none 0 0,.slice none 0 0,.slice none 0 0,.int .i64 1,.string ⟨#[98]⟩,.string ⟨#[]⟩,.string ⟨#[]⟩,.string ⟨#[]⟩,.slice none 0 0,.slice none 0 0,.slice none 0 0,.slice none 0 0,.slice none 0 0] 47)):=CB.new _ _ w;exact Rd.TU (l:=eL.map aj.d) (rows:=[eC ⟨#[97]⟩,[.int .i64 2,.string ⟨#[]⟩,.string ⟨#[]⟩,.string ⟨#[]⟩,.string ⟨#[]⟩,.slice none 0 0,.slice none 0 0,.slice none 0 0,.slice none 0 0,.slice none 0 0],eC ⟨#[98]⟩]) (by simp [eL]) (by unfold maxLen;decide) (aU.cons (TV _ _ _) (aU.cons (Yi _ _) (aU.one (TV _ _ _)))) (by simp [eC]) kk.lt kk.lt (fun j u hu=>kk.cell j u (by simpa using hu))
theorem jp0 (w:World):Rd (·<(w.alloc (.cells #[.int .i64 14,.string ⟨#[97]⟩,.string ⟨#[]⟩,.string ⟨#[]⟩,.string ⟨#[]⟩,.slice none 0 0,.slice none 0 0,.slice none 0 0,.slice none 0 0,.slice none 0 0] 47)).heap.size) (w.alloc (.cells #[.int .i64 14,.string ⟨#[97]⟩,.string ⟨#[]⟩,.string ⟨#[]⟩,.string ⟨#[]⟩,.slice none 0 0,.slice none 0 0,.slice none 0 0,.slice none 0 0,.slice none 0 0] 47)) (bJ [E9]) [.slice (some ⟨w.heap.size,0,none⟩) 1 1]:=by have kk:CB 47 w.heap.size [.int .i64 14,.string ⟨#[97]⟩,.string ⟨#[]⟩,.string ⟨#[]⟩,.string ⟨#[]⟩,.slice none 0 0,.slice none 0 0,.slice none 0 0,.slice none 0 0,.slice none 0 0] (w.alloc (.cells #[.int .i64 14,.string ⟨#[97]⟩,.string ⟨#[]⟩,.string ⟨#[]⟩,.string ⟨#[]⟩,.slice none 0 0,.slice none 0 0,.slice none 0 0,.slice none 0 0,.slice none 0 0] 47)):=CB.new _ _ w;exact Rd.TU (l:=[E9].map aj.d) (rows:=[[.int .i64 14,.string ⟨#[97]⟩,.string ⟨#[]⟩,.string ⟨#[]⟩,.string ⟨#[]⟩,.slice none 0 0,.slice none 0 0,.slice none 0 0,.slice none 0 0,.slice none 0 0]]) (by simp) (by unfold maxLen;decide) (aU.one (jp2 _ _)) (by simp) kk.lt kk.lt (fun j u hu=>kk.cell j u (by simpa using hu))
theorem bM.rd {w w':World} {L:List Nd} {v:Value} {U:Nat} {rows:List (List Value)} (h:aG 30 4 (fun _=>False) U w (L.map Nd.d) rows v w'):Rd (fun _=>True) w' (gH L) [v]:=h.cu.weaken (fun _ _=>trivial)
theorem Nz (w:World) (ht:PT w):Calls prog 5 #[] w (dP (.bool true) w):=by
 have pJ:Hid (∀ W,jIx w.heap.size w W->PT W):=fun W hW=>ht.below hW
 clear ht;go_enter func5,ntmps5;go_wp2_with fail
 refine (Ny _ _).mono ?_;rintro e w1 ⟨rfl,b1⟩;go_wp2_with fail
 refine (Ny _ _).mono ?_;rintro e w2 ⟨rfl,b2⟩;have bb2:=q01 b1 b2;have bA:jIx w2.heap.size w2 (w2.alloc (.cells #[.int .i64 1,.string ⟨#[97]⟩,.string ⟨#[]⟩,.string ⟨#[]⟩,.string ⟨#[]⟩,.slice none 0 0,.slice none 0 0,.slice none 0 0,.slice none 0 0,.slice none 0 0,.int .i64 2,.string ⟨#[]⟩,.string ⟨#[]⟩,.string ⟨#[]⟩,.string ⟨#[]⟩,.slice none 0 0,.slice none 0 0,.slice none 0 0,.slice none 0 0,.slice none 0 0,.int .i64 1,.string ⟨#[98]⟩,.string ⟨#[]⟩,.string ⟨#[]⟩,.string ⟨#[]⟩,.slice none 0 0,.slice none 0 0,.slice none 0 0,.slice none 0 0,.slice none 0 0] 47)):=(jFj _ _).alloc (jFk _) _;have h3:=NA eL _ _ (joz w2) TW (by decide +kernel);rw [jzz,jA0] at h3;have LC:=hid h3;have BA:=hid (q01 bb2 bA);clear b1 b2 bb2 bA h3;go_wp2_with fail
 (with_reducible refine LC.out.mono ?_)
 rintro e w3 ⟨dH,v3,rfl,hrow3⟩;have R3:=hid (bM.rd (L:=[Da ⟨#[97,32,98]⟩]) hrow3);obtain ⟨a3,c3,rfl,-,-⟩:=hrow3.cap (n:=1) rfl;have B3:=hid (q01 BA.out hrow3.aO);have h4:=Fa [Ih] _ (w3.alloc (.cells #[.int .i64 5,.int .i64 0,.string ⟨#[]⟩,.string ⟨#[]⟩,.string ⟨#[]⟩,.string ⟨#[]⟩,.string ⟨#[]⟩,.slice none 0 0,.slice none 0 0,.slice none 0 0,.slice none 0 0] 51)) (KV 5 ⟨#[]⟩ [] (.slice none 0 0) w3 (Rd.aD _ _ _)) wo (by decide +kernel) (by decide +kernel) (ah.kW _ wo) (pJ.out _ (B3.out.alloc B3.out.size _));rw [jA1,jA2] at h4;have BC:=hid h4;have bA:jIx w3.heap.size w3 (w3.alloc (.cells #[.int .i64 5,.int .i64 0,.string ⟨#[]⟩,.string ⟨#[]⟩,.string ⟨#[]⟩,.string ⟨#[]⟩,.string ⟨#[]⟩,.slice none 0 0,.slice none 0 0,.slice none 0 0,.slice none 0 0] 51)):=(jFj _ _).alloc (jFk _) _;have BA2:=hid (q01 B3.out bA);have RA3:=hid (R3.out.aX bA);clear hrow3 LC BA h4 bA R3;go_wp2_with fail
 (with_reducible refine BC.out.mono ?_)
 rintro e w4 ⟨bG,v4,rfl,hrow4⟩;have R4:=hid (bM.rd (L:=[aH nHr [] []]) hrow4);obtain ⟨a4,c4,rfl,-,-⟩:=hrow4.cap (n:=1) rfl;have B4:=hid (q01 BA2.out hrow4.aO);have R34:=hid (RA3.out.aX hrow4.aO);clear hrow4 BC BA2 RA3;go_upto_region 3 with (fail)
 obtain ⟨p4,hp4⟩:∃ p4,p4=w4.heap.size:=⟨_,rfl⟩;obtain ⟨w5,Df⟩:∃ w5,w5=w4.alloc (.cells #[.int .i64 14,.int .i64 0,.string ⟨#[120]⟩,.string ⟨#[]⟩,.string ⟨#[]⟩,.string ⟨#[]⟩,.string ⟨#[]⟩,.slice none 0 0,.slice none 0 0,.slice none 0 0,.slice none 0 0] 51):=⟨_,rfl⟩;have rd5:Rd (·<w5.heap.size) w5 (lu [ND]) [.slice (some ⟨p4,0,none⟩) 1 1]:=by rw [Df,hp4];exact KV 14 ⟨#[120]⟩ [] (.slice none 0 0) w4 (Rd.aD _ _ _)
 have bA5:jIx w4.heap.size w4 w5:=by rw [Df];exact (jFj _ _).alloc (jFk _) _
 have B5:=hid (q01 B4.out bA5);have z5:w5.heap.size=p4+1:=by rw [Df,World.size_alloc,hp4]
 have bA6:jIx w5.heap.size w5 (w5.alloc (.cells #[.int .i64 6,.int .i64 0,.string ⟨#[]⟩,.string ⟨#[]⟩,.string ⟨#[]⟩,.string ⟨#[]⟩,.string ⟨#[]⟩,.slice none 0 0,.slice none 0 0,.slice none 0 0,.slice (some ⟨p4,0,none⟩) 1 1] 51)):=(jFj _ _).alloc (jFk _) _;have h6:=Fa [zK] _ (w5.alloc (.cells #[.int .i64 6,.int .i64 0,.string ⟨#[]⟩,.string ⟨#[]⟩,.string ⟨#[]⟩,.string ⟨#[]⟩,.string ⟨#[]⟩,.slice none 0 0,.slice none 0 0,.slice none 0 0,.slice (some ⟨p4,0,none⟩) 1 1] 51)) (KV 6 ⟨#[]⟩ [ND] (.slice (some ⟨p4,0,none⟩) 1 1) w5 rd5) tu (by decide +kernel) (by decide +kernel) (ah.kW _ tu) (pJ.out _ (B5.out.alloc B5.out.size _));rw [jA3,jA4] at h6;have BC:=hid h6;have BA6:=hid (q01 B5.out bA6);have RB3:=hid ((R34.out.aX bA5).aX bA6);have RB4:=hid ((R4.out.aX bA5).aX bA6);have HZ5:=hid z5;have HW5:=hid Df;have HP4:=hid hp4;clear rd5 bA5 bA6 h6 R34 R4 z5 Df hp4;go_wp2_with fail
 rw [<- HP4.out,<- HW5.out];try rw [<- HZ5.out]
 (with_reducible refine BC.out.mono ?_)
 rintro e w6 ⟨ja3,v6,rfl,dF⟩;have R6:=hid (bM.rd (L:=[aH rC [] [],aH R9 [⟨dD,eU⟩] [aH jW [⟨jX,⟨#[110,111,116,101,45,120]⟩⟩,⟨dD,dR⟩] []]]) dF);obtain ⟨a6,c6,rfl,-,-⟩:=dF.cap (n:=2) rfl;have B6:=hid (q01 BA6.out dF.aO);have R63:=hid (RB3.out.aX dF.aO);have R64:=hid (RB4.out.aX dF.aO);have h7:=Dz [] [] ⟨#[84]⟩ ⟨#[101,110]⟩ (.slice none 0 0) (.slice none 0 0) w6 (Rd.aD _ _ _) (Rd.aD _ _ _) (by simp) (by simp) (by decide +kernel) (by unfold ah.aC;trivial) (by decide +kernel) (by decide +kernel) (by unfold ah.uG;trivial) (by decide) (by decide) (pJ.out _ B6.out);rw [jA5,jA6] at h7;have PC:=hid h7;clear dF BC BA6 RB3 RB4 h7 HZ5 HW5 HP4 B5;go_wp2_with fail
 (with_reducible refine PC.out.mono ?_)
 rintro e w7 ⟨va,vk,he,hN,b7⟩;obtain ⟨aA,nA,cA,rfl⟩:=Rd.au hN.at_
 obtain ⟨aK,cK,hvk,hsK⟩:=Rd.ay hN.ks;obtain rfl:vk=.slice aK 2 cK:=by have h:=hvk;simp only [List.cons.injEq,and_true] at h;exact h
 have he:e=.returned (.tuple #[.agg #[.string ⟨#[104,116,109,108]⟩,.string ⟨#[]⟩,.slice aA nA cA,.slice aK 2 cK],.int .i64 0]):=he;subst he;have B7:=hid (q01 B6.out b7);have RK7:=hid (show Rd (fun _=>True) w7 (gH [aH jK [] [aH fI [⟨wu,dL⟩] [],aH Fb [] [Da ⟨#[84]⟩]],aH lQ [] []]) [.slice aK 2 cK] from hN.ks.weaken (fun _ _=>trivial));have R73:=hid (R63.out.aX b7);have R74:=hid (R64.out.aX b7);have R76:=hid (R6.out.aX b7);clear hN b7 hvk hsK PC R63 R64 R6;obtain ⟨Bp,F6⟩:∃ Bp,Bp=w7.heap.size:=⟨_,rfl⟩;obtain ⟨wP,hwP⟩:∃ wP,wP=w7.alloc (.cells #[.string ⟨#[104,116,109,108]⟩,.string ⟨#[]⟩,.slice aA nA cA,.slice aK 2 cK] 30):=⟨_,rfl⟩;have kP:CB 30 Bp [.string ⟨#[104,116,109,108]⟩,.string ⟨#[]⟩,.slice aA nA cA,.slice aK 2 cK] wP:=by rw [hwP,F6];exact CB.new _ _ _
 have bP:jIx w7.heap.size w7 wP:=by rw [hwP];exact (jFj _ _).alloc (jFk _) _
 have BP:=hid (q01 B7.out bP);have h8:=NA [E9] _ _ (jp0 wP) TY (by decide +kernel);rw [e_r,show lnN [E9]=[] from rfl] at h8;have LC:=hid h8;have bA:jIx wP.heap.size wP (wP.alloc (.cells #[.int .i64 14,.string ⟨#[97]⟩,.string ⟨#[]⟩,.string ⟨#[]⟩,.string ⟨#[]⟩,.slice none 0 0,.slice none 0 0,.slice none 0 0,.slice none 0 0,.slice none 0 0] 47)):=(jFj _ _).alloc (jFk _) _;have EK:=hid bA;have HbP:=hid bP;have KP:=hid kP;clear h8 bA bP kP;go_upto_region 5 with (fail)
 rw [<- hwP,<- F6];clear hwP F6;go_wp2_with fail
 (with_reducible refine LC.out.mono ?_)
 rintro e w8 ⟨jD7,v8,rfl,og⟩;obtain ⟨a8,n8,c8,rfl⟩:=og.slice3;have bT:jIx wP.heap.size wP w8:=EK.out.trans (og.aO.mono EK.out.size);have BL:=hid (q01 BP.out bT);have kP8:=KP.out.below bT;have r1:=((R73.out.aX HbP.out).aX bT);have r2:=((R74.out.aX HbP.out).aX bT);have r3:=((R76.out.aX HbP.out).aX bT);have r4:=((RK7.out.aX HbP.out).aX bT);obtain ⟨_,_,q1,s1⟩:=Rd.ay r1;obtain ⟨rfl,rfl⟩:_=a3/\_=c3:=by simp at q1;exact ⟨q1.1.symm,q1.2.symm⟩
 obtain ⟨g1,o1,va1,vk1,rfl,-,-,t10,t11,t12,t13,hN1⟩:=om (l:=[Da ⟨#[97,32,98]⟩]) s1 (k:=0) rfl;obtain ⟨_,_,q2,s2⟩:=Rd.ay r2;obtain ⟨rfl,rfl⟩:_=a4/\_=c4:=by simp at q2;exact ⟨q2.1.symm,q2.2.symm⟩
 obtain ⟨g2,o2,va2,vk2,rfl,-,-,t20,t21,t22,t23,-⟩:=om (l:=[aH nHr [] []]) s2 (k:=0) rfl;obtain ⟨_,_,q3,s3⟩:=Rd.ay r3;obtain ⟨rfl,rfl⟩:_=a6/\_=c6:=by simp at q3;exact ⟨q3.1.symm,q3.2.symm⟩
 obtain ⟨g3,o3,va3,vk3,rfl,-,-,t30,t31,t32,t33,-⟩:=om (l:=[aH rC [] [],aH R9 [⟨dD,eU⟩] [aH jW [⟨jX,⟨#[110,111,116,101,45,120]⟩⟩,⟨dD,dR⟩] []]]) s3 (k:=1) rfl;obtain ⟨_,_,q4,s4⟩:=Rd.ay r4;obtain ⟨rfl,rfl⟩:_=aK/\_=cK:=by simp at q4;exact ⟨q4.1.symm,q4.2.symm⟩
 obtain ⟨g4,o4,va4,vk4,rfl,-,-,t40,t41,t42,t43,hN4⟩:=om (l:=[aH jK [] [aH fI [⟨wu,dL⟩] [],aH Fb [] [Da ⟨#[84]⟩]],aH lQ [] []]) s4 (k:=1) rfl;obtain ⟨_,_,hv4,-⟩:=Rd.ay hN4.ks;obtain rfl:=(by simpa using hv4:vk4=_);obtain ⟨aA1,nA1,cA1,rfl⟩:=Rd.au hN1.at_
 obtain ⟨aK1,nK1,cK1,rfl⟩:=Rd.au hN1.ks;have AC:Hid (Calls prog 13 #[.agg #[.string ⟨#[]⟩,.string ⟨#[97,32,98]⟩,.slice aA1 nA1 cA1,.slice aK1 nK1 cK1]] w8 (lN w8 ((Da ⟨#[97,32,98]⟩).vals jX))):=EZ ⟨#[]⟩ ⟨#[97,32,98]⟩ [] [] (.slice aA1 nA1 cA1) (.slice aK1 nK1 cK1) w8 ⟨Rd.keep (fun b _ h2=>⟨h2,rfl⟩) _ _ hN1.at_,Rd.keep (fun b _ h2=>⟨h2,rfl⟩) _ _ hN1.ks⟩ (by decide +kernel);have p0:=kP8.cell 0 _ rfl;have p3:=kP8.cell 3 _ rfl;simp only [Nat.zero_mul,Nat.one_mul,Nat.add_zero] at t10 t11 t12 t13 t20 t30 t43
 replace t20:w8.cell? ⟨g2,o2,none⟩=some (.string ⟨#[104,114]⟩):=t20
 replace t30:w8.cell? ⟨g3,o3+4,none⟩=some (.string ⟨#[115,101,99,116,105,111,110]⟩):=t30
 clear og bT kP8 r1 r2 r3 r4 q1 q2 q3 q4 s1 s2 s3 s4 hN1 hN4 hv4 t21 t22 t23 t31 t32 t33 t40 t41 t42 LC R73 R74 R76 RK7 EK HbP KP;go_wp2_with fail
 (with_reducible refine AC.out.mono ?_)
 rintro e w9 ⟨v9,rfl,jd7,b9⟩;obtain ⟨a9,c9,hv9⟩:=kY jd7;obtain rfl:v9=.slice a9 0 c9:=hv9;have HF:=hid (q01 BL.out b9);clear jd7 b9 AC;go_wp2;go_ret;exact ⟨rfl,HF.out⟩
open Go.RowKit
theorem Ii (s:ByteArray) (w:World) (hs:s.size<=1000000000) : Calls prog 41 #[.string s] w (dP (.bool (dG s)) w):=by
 have VA:=hid (mq s w hs);have HL:Hid (dG s=(DF s&&xC s)):=rfl;have HN:=hid (zL s);obtain ⟨V,hV⟩:∃ V,V=dG s:=⟨_,rfl⟩;rw [<- hV] at HL ⊢;obtain ⟨U,hU⟩:∃ U,U=DF s:=⟨_,rfl⟩;rw [<- hU] at VA HL;have R0:Hid (NG s (.int .i64 0)):=⟨0,Nat.zero_le _,rfl,fun j hj=>by omega⟩;clear hV hU;go_enter func41,ntmps41;go_wp2
 go_loop [3] (fun i=>NG s i) (fun i=>s.size-(intOf i).toNat)
 case atStart=>exact R0.out
 case round=>
  clear R0;obtain ⟨k,hk,rfl,hall⟩:=hrel;have HA:=hid hall;clear hall;by_cases hlt:k<s.size
  ·have eb:=jh s k hlt;by_cases hc:bt s k=10
   ·have HE:Hid (V=false):=by
     show V=false;rw [HL.out];have h1:xC s=false:=by
      cases h2:xC s
      ·rfl
      ·exact absurd hc (HN.out.1 h2 k hlt)
     rw [h1,Bool.and_false]
    have hq:(((bt s k:Nat):Int)==10)=true:=by rw [hc];rfl
    rw [<- eb] at hq;clear hc eb;exact zM
   ·have HC:=hid hc;have hq:(((bt s k:Nat):Int)==10)=false:=by rw [beq_eq_false_iff_ne];omega
    rw [<- eb] at hq;clear hc eb;go_wp2
    go_round
    case rel=>
     refine ⟨k+1,by omega,by go_num,fun j hj=>?_⟩;rcases Nat.lt_or_ge j k with h | h
     ·exact HA.out j h
     ·obtain rfl:j=k:=by omega
      exact HC.out
    case measure=>simp [intOf];omega
  ·have HE:Hid (V=U):=by
    show V=U;rw [HL.out];have h1:xC s=true:=HN.out.2 (fun j hj=>HA.out j (by omega));rw [h1,Bool.and_true]
   go_wp2_with fail
   refine VA.out.mono ?_;rintro e w1 ⟨rfl,b1⟩;have HB:=hid b1;clear b1 VA;exact jd
theorem Po (me:List Pr) (l:List ah) (title lang:ByteArray) (vm vb:Value) (w:World) (hm:Rd (·<w.heap.size) w (fJ me) [vm]) (hb:Rd (·<w.heap.size) w (lu l) [vb]) (hme:me.length<=1000) (fQ:∀ p∈me,p.key.size<=1000/\p.val.size<=1000) (hall:ah.bX l<=32768) (hsm:ah.aC l) (hsz:ah.aY l<=900000) (hil:(ah.aR l).length<=1000) (hti:title.size<=300) (hla:lang.size<=300) : Calls prog 20 #[.agg #[vm,vb],.string title,.string lang] w (dP (.int .i64 (KY me l title lang:Nat)) w):=by
 obtain ⟨am,cm,T9,-⟩:=Rd.ay hm;obtain rfl:vm=.slice am me.length cm:=by simpa using T9
 obtain ⟨ab,nb,cb,rfl⟩:=Rd.au hb;clear T9;obtain ⟨S,hS⟩:∃ S,S=w.heap.size:=⟨_,rfl⟩;obtain ⟨W0,hW0⟩:∃ W0,W0=w.alloc (.cells #[.slice am me.length cm,.slice ab nb cb] 25):=⟨_,rfl⟩;have k0:CB 25 S [.slice am me.length cm,.slice ab nb cb] W0:=by rw [hW0,hS];exact CB.new _ _ w
 refine MV ?_;intro b0;have CK:=hid (KZ me l am ab cm nb cb W0 hme fQ hall hsm (hm.up b0) (hb.up b0));have hee:KY me l title lang=if Cw gG me l≠0 then Cw gG me l else if dG title=false then 17 else if dU lang=false then 6 else if (ah.aR l).any eB=true then 5 else 0:=rfl
 obtain ⟨EE,vV⟩:∃ EE,EE=KY me l title lang:=⟨_,rfl⟩;obtain ⟨E0,hE0⟩:∃ E0,E0=Cw gG me l:=⟨_,rfl⟩;obtain ⟨T,hT⟩:∃ T,T=dG title:=⟨_,rfl⟩;obtain ⟨G,hG⟩:∃ G,G=dU lang:=⟨_,rfl⟩;obtain ⟨u,hu⟩:∃ u,u=(ah.aR l).any eB:=⟨_,rfl⟩;have LC:Hid (∀ W:World,Calls prog 41 #[.string title] W (dP (.bool T) W)):=fun W=>by rw [hT];exact Ii title W (by omega)
 have NC:Hid (∀ W:World,Calls prog 42 #[.string lang] W (fun e w'=>e=.returned (.bool G)/\W=w')):=fun W=>by rw [hG];exact QS lang W (by omega)
 have IC:Hid (∀ W:World,jIx w.heap.size w W->Calls prog 44 #[.slice ab nb cb] W (fun e w'=>∃ v',e=.returned v'/\Rd (·<w'.heap.size) w' (bJ (ah.aR l)) [v']/\jIx W.heap.size W w')):=fun W hW=>CU l _ W (by omega) (by omega) (hb.up hW)
 have UC:Hid (∀ (W:World) (v:Value),Rd (·<W.heap.size) W (bJ (ah.aR l)) [v]->Calls prog 43 #[v] W (Kv W u)):=fun W v h=>by
  have:=y9 (ah.aR l) v W h (GU l hil);rw [CZ,<- hu] at this;exact this
 rw [<- vV,<- hE0,<- hT,<- hG,<- hu] at hee;rw [<- vV];rw [<- hE0] at CK;have BK:=hid hee;have B0:=hid b0;refine Ua ?_;intro X0 x0 x1;clear hm hb hme fQ hall hsm hsz hil hti hla hee vV hE0 hT hG hu k0 b0;go_enter func20,ntmps20;go_upto_region 1 with (fail)
 rw [<- hW0,<- hS];clear hW0 hS;go_wp2_with fail
 (with_reducible refine CK.out.mono ?_)
 rintro e w1 ⟨rfl,b1⟩;have B1:=hid b1;have B1w:=hid (q01 B0.out b1);clear b1 CK x0 x1;by_cases h0:E0=0
 ·have q1:((E0:Int) != 0)=false:=by rw [h0];rfl
  have NH:Hid (EE=if T=false then 17 else if G=false then 6 else if u=true then 5 else 0):=by show _=_;rw [BK.out,if_neg (by simp [h0])]
  have LT:=hid (LC.out w1);clear h0 BK;go_wp2_with fail
  (with_reducible refine LT.out.mono ?_)
  rintro e w2 ⟨rfl,b2⟩;have B2:=hid (q01 B1.out b2);have B2w:=hid (q01 B1w.out b2);clear b2 LT;cases T with
  | false=>
   have HF:Hid (dP (.int .i64 (EE:Nat)) w (.returned (.int .i64 17)) w2):=⟨by rw [NH.out];rfl,B2w.out⟩;go_wp2;go_ret;exact HF.out
  | true=>
   have NT:=hid (NC.out w2);go_wp2_with fail
   (with_reducible refine NT.out.mono ?_)
   rintro e w3 ⟨rfl,rfl⟩;clear NT;cases G with
   | false=>
    have HF:Hid (dP (.int .i64 (EE:Nat)) w (.returned (.int .i64 6)) w2):=⟨by rw [NH.out];rfl,B2w.out⟩;go_wp2;go_ret;exact HF.out
   | true=>
    have x1:=X0.out w2 B2.out;have IT:=hid (IC.out w2 B2w.out);go_wp2_with fail
    (with_reducible refine IT.out.mono ?_)
    rintro e w4 ⟨v4,rfl,jp3,b4⟩;have UT:=hid (UC.out w4 v4 jp3);obtain ⟨a4,n4,c4,rfl⟩:=Rd.au jp3;have B4w:=hid (q01 B2w.out b4);clear jp3 b4 IT x1;go_wp2_with fail
    (with_reducible refine UT.out.mono ?_)
    rintro e w5 ⟨rfl,b5⟩;have B5w:=hid (q01 B4w.out b5);clear b5 UT;cases u with
    | false=>
     have HF:Hid (dP (.int .i64 (EE:Nat)) w (.returned (.int .i64 0)) w5):=⟨by rw [NH.out];rfl,B5w.out⟩;go_wp2;go_ret;exact HF.out
    | true=>
     have HF:Hid (dP (.int .i64 (EE:Nat)) w (.returned (.int .i64 5)) w5):=⟨by rw [NH.out];rfl,B5w.out⟩;go_wp2;go_ret;exact HF.out
 ·have q1:((E0:Int) != 0)=true:=by rw [bne_iff_ne];omega
  have HF:Hid (dP (.int .i64 (EE:Nat)) w (.returned (.int .i64 (E0:Int))) w1):=⟨by rw [BK.out,if_pos h0],B1w.out⟩;clear h0;go_wp2;go_ret;exact HF.out
theorem K9 (title lang:ByteArray) (body:List Nd) (vb:Value) (m:Nat) (w:World) (hm:m<=w.heap.size) (hb:Rd (m<=·) w (gH body) [vb]) : Calls prog 22 #[.string title,.string lang,vb] w (fun e w'=>∃ va vk,e=.returned (.agg #[.string ⟨#[104,116,109,108]⟩,.string ⟨#[]⟩,va,vk])/\gP (m<=·) w' [⟨eY,lang⟩] [(aH jK [] [(aH fI [⟨wu,dL⟩] []),(aH Fb [] (bK title))]),(aH lQ [] body)] va vk/\jIx w.heap.size w w'):=by
 obtain ⟨ab,nb,cb,rfl⟩:=Rd.au hb;obtain ⟨S,hS⟩:∃ S,S=w.heap.size:=⟨_,rfl⟩;obtain ⟨W0,hW0⟩:∃ W0,W0=w.alloc (.cells Gc.toArray 30):=⟨_,rfl⟩;have k1:CB 30 S Gc W0:=by rw [hW0,hS];exact CB.new _ _ w
 refine MV ?_;intro b0;have z0:W0.heap.size=S+1:=by rw [hW0,World.size_alloc,hS]
 have P1:=aG.aF [⟨wu,dL⟩] (fun _=>False) W0 (by decide) (by decide);have b1:jIx W0.heap.size W0 (W0.alloc (.cells #[.string ⟨#[99,104,97,114,115,101,116]⟩,.string ⟨#[117,116,102,45,56]⟩] 37)):=P1.aO;have Ku:=hid (show Rd (fun b=>m<=b/\b≠S) (W0.alloc (.cells #[.string ⟨#[99,104,97,114,115,101,116]⟩,.string ⟨#[117,116,102,45,56]⟩] 37)) (fJ [⟨wu,dL⟩]) [.slice (some ⟨W0.heap.size,0,none⟩) 1 1] from P1.cu.weaken (fun b (hb:W0.heap.size<=b)=>⟨by omega,by omega⟩));have EC1:=hid (lY ⟨#[109,101,116,97]⟩ (some ⟨W0.heap.size,0,none⟩) none 1 0 1 0 (W0.alloc (.cells #[.string ⟨#[99,104,97,114,115,101,116]⟩,.string ⟨#[117,116,102,45,56]⟩] 37)));have BD1:=hid (show Rd (fun b=>m<=b/\b≠S) _ (gH body) [.slice ab nb cb] from Rd.keep (w:=w) (ok:=(m<=·)) (fun b (hb':m<=b) hlt=>⟨⟨hb',by omega⟩,(b0.trans (b1.mono b0.size)).block b hlt⟩) _ _ hb);have B1:=hid b1;have B0:=hid b0;have K1:=hid k1;have Z0:=hid z0;have HS:=hid hS;have HM:=hid (show m<=W0.heap.size by omega);have HMw:=hid hm;have HW0:=hid hW0;clear hb k1 b0 z0 P1 b1 hm hS hW0;go_enter func22,ntmps22;go_upto_region 1 with (fail)
 refine bO ?_;go_wp2_with fail
 (with_reducible refine EC1.out.mono ?_)
 rintro e w2 ⟨rfl,b2⟩;have B2:=hid (q01 B1.out b2);have XM2:=hid (show Rd (fun b=>m<=b/\b≠S) w2 (aH fI [⟨wu,dL⟩] []).d [.string ⟨#[109,101,116,97]⟩,.string ⟨#[]⟩,.slice (some ⟨W0.heap.size,0,none⟩) 1 1,.slice none 0 0] from Nd.dJ ⟨#[109,101,116,97]⟩ ⟨#[]⟩ ⟨Ku.out.aX b2,Rd.aD _ _ _⟩);have BD2:=hid (BD1.out.aX b2);have TC:=hid (WI title w2);clear b2 EC1 Ku BD1;go_wp2_with fail
 (with_reducible refine TC.out.mono ?_)
 rintro e w3 ⟨dH,v3,rfl,hrow3⟩;obtain ⟨a3,n3,c3,rfl⟩:=hrow3.slice3;have B3:=hid (q01 B2.out hrow3.aO);have XM3:=hid (XM2.out.aX hrow3.aO);have BD3:=hid (BD2.out.aX hrow3.aO);have KT3:=hid (show Rd (fun b=>m<=b/\b≠S) w3 (gH (bK title)) [.slice a3 n3 c3] from hrow3.cu.weaken (fun b (hb:w2.heap.size<=b)=>⟨by have:=B2.out.size;have:=HM.out;omega,by have:=B2.out.size;have:=Z0.out;omega⟩));have TA:=hid (lY ⟨#[116,105,116,108,101]⟩ none a3 0 n3 0 c3 w3);clear hrow3 TC XM2 BD2;go_wp2_with fail
 (with_reducible refine TA.out.mono ?_)
 rintro e w4 ⟨rfl,b4⟩;have B4:=hid (q01 B3.out b4);have KD4:=hid (xM (ok:=fun b=>m<=b/\b≠S) (w:=w4) (x:=(aH fI [⟨wu,dL⟩] [])) (y:=(aH Fb [] (bK title))) ⟨by have:=B4.out.size;have:=HM.out;omega,by have:=B4.out.size;have:=Z0.out;omega⟩ (XM3.out.aX b4) (Nd.dJ ⟨#[116,105,116,108,101]⟩ ⟨#[]⟩ ⟨Rd.aD _ _ _,KT3.out.aX b4⟩));have bA:jIx w4.heap.size w4 (w4.alloc (.cells #[.string ⟨#[109,101,116,97]⟩,.string ⟨#[]⟩,.slice (some ⟨W0.heap.size,0,none⟩) 1 1,.slice none 0 0,.string ⟨#[116,105,116,108,101]⟩,.string ⟨#[]⟩,.slice none 0 0,.slice a3 n3 c3] 30)):=(jFj _ _).alloc (jFk _) _;have P6:=aG.aF [⟨eY,lang⟩] (fun _=>False) (w4.alloc (.cells #[.string ⟨#[109,101,116,97]⟩,.string ⟨#[]⟩,.slice (some ⟨W0.heap.size,0,none⟩) 1 1,.slice none 0 0,.string ⟨#[116,105,116,108,101]⟩,.string ⟨#[]⟩,.slice none 0 0,.slice a3 n3 c3] 30)) (by show 0<1;decide) (by show 1<=1000;decide);have bP:jIx (w4.alloc (.cells #[.string ⟨#[109,101,116,97]⟩,.string ⟨#[]⟩,.slice (some ⟨W0.heap.size,0,none⟩) 1 1,.slice none 0 0,.string ⟨#[116,105,116,108,101]⟩,.string ⟨#[]⟩,.slice none 0 0,.slice a3 n3 c3] 30)).heap.size (w4.alloc (.cells #[.string ⟨#[109,101,116,97]⟩,.string ⟨#[]⟩,.slice (some ⟨W0.heap.size,0,none⟩) 1 1,.slice none 0 0,.string ⟨#[116,105,116,108,101]⟩,.string ⟨#[]⟩,.slice none 0 0,.slice a3 n3 c3] 30)) ((w4.alloc (.cells #[.string ⟨#[109,101,116,97]⟩,.string ⟨#[]⟩,.slice (some ⟨W0.heap.size,0,none⟩) 1 1,.slice none 0 0,.string ⟨#[116,105,116,108,101]⟩,.string ⟨#[]⟩,.slice none 0 0,.slice a3 n3 c3] 30)).alloc (.cells #[.string ⟨#[108,97,110,103]⟩,.string lang] 37)):=P6.aO;have Xu:Hid (Rd (fun b=>m<=b/\b≠S) ((w4.alloc (.cells #[.string ⟨#[109,101,116,97]⟩,.string ⟨#[]⟩,.slice (some ⟨W0.heap.size,0,none⟩) 1 1,.slice none 0 0,.string ⟨#[116,105,116,108,101]⟩,.string ⟨#[]⟩,.slice none 0 0,.slice a3 n3 c3] 30)).alloc (.cells #[.string ⟨#[108,97,110,103]⟩,.string lang] 37)) (fJ [⟨eY,lang⟩]) [.slice (some ⟨w4.heap.size+1,0,none⟩) 1 1]):=by have h:=P6.cu.weaken (ok':=fun b=>m<=b/\b≠S) (fun b (hb:(w4.alloc (.cells #[.string ⟨#[109,101,116,97]⟩,.string ⟨#[]⟩,.slice (some ⟨W0.heap.size,0,none⟩) 1 1,.slice none 0 0,.string ⟨#[116,105,116,108,101]⟩,.string ⟨#[]⟩,.slice none 0 0,.slice a3 n3 c3] 30)).heap.size<=b)=>⟨by have:=B4.out.size;have:=HM.out;have:=bA.size;omega,by have:=B4.out.size;have:=Z0.out;have:=bA.size;omega⟩);rw [World.size_alloc] at h;exact h
 have KD6:=hid (KD4.out.aX bP);have BD6:=hid (((BD3.out.aX b4).aX bA).aX bP);have B6:=hid (q01 (q01 B4.out bA) bP);have EC3:=hid (lY ⟨#[104,101,97,100]⟩ none (some ⟨w4.heap.size,0,none⟩) 0 2 0 2 ((w4.alloc (.cells #[.string ⟨#[109,101,116,97]⟩,.string ⟨#[]⟩,.slice (some ⟨W0.heap.size,0,none⟩) 1 1,.slice none 0 0,.string ⟨#[116,105,116,108,101]⟩,.string ⟨#[]⟩,.slice none 0 0,.slice a3 n3 c3] 30)).alloc (.cells #[.string ⟨#[108,97,110,103]⟩,.string lang] 37)));obtain ⟨p6,hp6⟩:∃ p6,p6=w4.heap.size+1:=⟨_,rfl⟩;have HP6:=hid hp6;rw [<- hp6] at Xu;clear b4 TA XM3 BD3 KT3 KD4 bA P6 bP hp6;go_wp2_with fail
 rw [<- HP6.out]
 (with_reducible refine EC3.out.mono ?_)
 rintro e w7 ⟨rfl,b7⟩;have B7:=hid (q01 B6.out b7);have PR7:=hid (Xu.out.aX b7);have XH7:=hid (show Rd (fun b=>m<=b/\b≠S) w7 (aH jK [] [(aH fI [⟨wu,dL⟩] []),(aH Fb [] (bK title))]).d [.string ⟨#[104,101,97,100]⟩,.string ⟨#[]⟩,.slice none 0 0,.slice (some ⟨w4.heap.size,0,none⟩) 2 2] from Nd.dJ ⟨#[104,101,97,100]⟩ ⟨#[]⟩ ⟨Rd.aD _ _ _,KD6.out.aX b7⟩);have BD7:=hid (BD6.out.aX b7);have EC4:=hid (lY ⟨#[98,111,100,121]⟩ none ab 0 nb 0 cb w7);clear b7 EC3 Xu KD6 BD6;go_wp2_with fail
 (with_reducible refine EC4.out.mono ?_)
 rintro e w8 ⟨rfl,b8⟩;have B8:=hid (q01 B7.out b8);have KD8:=hid (xM (ok:=fun b=>m<=b/\b≠S) (w:=w8) (x:=(aH jK [] [(aH fI [⟨wu,dL⟩] []),(aH Fb [] (bK title))])) (y:=(aH lQ [] body)) ⟨by have:=B8.out.size;have:=HM.out;omega,by have:=B8.out.size;have:=Z0.out;omega⟩ (XH7.out.aX b8) (Nd.dJ ⟨#[98,111,100,121]⟩ ⟨#[]⟩ ⟨Rd.aD _ _ _,BD7.out.aX b8⟩));have bA:jIx w8.heap.size w8 (w8.alloc (.cells #[.string ⟨#[104,101,97,100]⟩,.string ⟨#[]⟩,.slice none 0 0,.slice (some ⟨w4.heap.size,0,none⟩) 2 2,.string ⟨#[98,111,100,121]⟩,.string ⟨#[]⟩,.slice none 0 0,.slice ab nb cb] 30)):=(jFj _ _).alloc (jFk _) _;have PR9:=hid ((PR7.out.aX b8).aX bA);have B9:=hid (q01 B8.out bA);have EC5:=hid (lY ⟨#[104,116,109,108]⟩ (some ⟨p6,0,none⟩) (some ⟨w8.heap.size,0,none⟩) 1 2 1 2 (w8.alloc (.cells #[.string ⟨#[104,101,97,100]⟩,.string ⟨#[]⟩,.slice none 0 0,.slice (some ⟨w4.heap.size,0,none⟩) 2 2,.string ⟨#[98,111,100,121]⟩,.string ⟨#[]⟩,.slice none 0 0,.slice ab nb cb] 30)));obtain ⟨p8,hp8⟩:∃ p8,p8=w8.heap.size:=⟨_,rfl⟩;have HP8:=hid hp8;rw [<- hp8] at EC5 KD8;clear b8 EC4 PR7 XH7 BD7 bA hp8;go_wp2_with fail
 rw [<- HP8.out]
 (with_reducible refine EC5.out.mono ?_)
 rintro e w10 ⟨rfl,b10⟩;have BL:=hid (q01 B9.out b10);have HN:=hid (show gP (fun b=>m<=b/\b≠S) w10 [⟨eY,lang⟩] [(aH jK [] [(aH fI [⟨wu,dL⟩] []),(aH Fb [] (bK title))]),(aH lQ [] body)] (.slice (some ⟨p6,0,none⟩) 1 1) (.slice (some ⟨p8,0,none⟩) 2 2) from ⟨PR9.out.aX b10,KD8.out.aX b10⟩);obtain ⟨x0,x1,x2,x3,xf⟩:=pq (K1.out.below BL.out);obtain ⟨w9,bZ⟩:∃ w9,w9=jV w10 S (.string ⟨#[104,116,109,108]⟩) (.string ⟨#[]⟩) (.slice (some ⟨p6,0,none⟩) 1 1) (.slice (some ⟨p8,0,none⟩) 2 2):=⟨_,rfl⟩;have vT:Hid (CB 30 S [.string ⟨#[104,116,109,108]⟩,.string ⟨#[]⟩,.slice (some ⟨p6,0,none⟩) 1 1,.slice (some ⟨p8,0,none⟩) 2 2] w9):=by rw [bZ];exact EO (K1.out.below BL.out) _ _ _ _
 have sN:Hid (∃ va vk,(Ending.returned (.agg #[.string ⟨#[104,116,109,108]⟩,.string ⟨#[]⟩,.slice (some ⟨p6,0,none⟩) 1 1,.slice (some ⟨p8,0,none⟩) 2 2]))=.returned (.agg #[.string ⟨#[104,116,109,108]⟩,.string ⟨#[]⟩,va,vk])/\gP (m<=·) w9 [⟨eY,lang⟩] [(aH jK [] [(aH fI [⟨wu,dL⟩] []),(aH Fb [] (bK title))]),(aH lQ [] body)] va vk/\jIx w.heap.size w w9):=by
  refine ⟨_,_,rfl,?_,?_⟩
  ·rw [bZ];exact HN.out.keep (fun b hb hlt=>⟨hb.1,gq _ _ _ _ _ _ b hb.2⟩)
  ·rw [bZ];exact rD (B0.out.trans (BL.out.mono B0.out.size)) (by have:=HS.out;omega) _ _ _ _
 clear b10 EC5 PR9 KD8;have hw8:=bZ;simp only [jV] at hw8;clear bZ;go_wp2;refine lD ?_;intro r0 r1 r2 r3;exact bodyPost_ret (v:=.agg #[.string ⟨#[104,116,109,108]⟩,.string ⟨#[]⟩,.slice (some ⟨p6,0,none⟩) 1 1,.slice (some ⟨p8,0,none⟩) 2 2]) (by simp [results,results22,go_sem,r0,r1,r2,r3]) rfl sN.out
theorem Pp (me:List Pr) (l:List ah) (title lang:ByteArray) (vm vb:Value) (w:World) (hm:Rd (·<w.heap.size) w (fJ me) [vm]) (hb:Rd (·<w.heap.size) w (lu l) [vb]) (hme:me.length<=1000) (fQ:∀ p∈me,p.key.size<=1000/\p.val.size<=1000) (hall:ah.bX l<=32768) (hsm:ah.aC l) (hsz:ah.aY l<=900000) (hil:(ah.aR l).length<=1000) (hti:title.size<=300) (hla:lang.size<=300) : Calls prog 7 #[.agg #[vm,vb],.string title,.string lang] w (uV w (KY me l title lang) (NJ me l title lang)):=by
 obtain ⟨am,cm,T9,-⟩:=Rd.ay hm;obtain rfl:vm=.slice am me.length cm:=by simpa using T9
 obtain ⟨ab,nb,cb,rfl⟩:=Rd.au hb;clear T9;obtain ⟨S,W0,hS,hW0,z0,k0,k1,b0⟩:=uU 25 w [.slice am me.length cm,.slice ab nb cb];have Pq:jIx w.heap.size w W0:=by rw [<- hS];exact b0
 have EC:=hid (Po me l title lang (.slice am me.length cm) (.slice ab nb cb) W0 (hm.up Pq) (hb.up Pq) hme fQ hall hsm hsz hil hti hla);have BC:Hid (∀ W:World,jIx W0.heap.size W0 W->Calls prog 21 #[.slice ab nb cb] W (bM W (xK l) (O5 l))):=fun W hW=>Xq l _ W (hb.up (Pq.trans (hW.mono Pq.size))) hsm hsz hil
 obtain ⟨EE,vV⟩:∃ EE,EE=KY me l title lang:=⟨_,rfl⟩;have hpn:NJ me l title lang=if EE=0 then zO title lang (fZ l) else wE:=by rw [vV];rfl
 have hbs:EE=0->xK l=0/\O5 l=fZ l:=fun h=>by
  have h1:=jp4 (vV.symm.trans h);exact ⟨h1,by unfold O5;rw [if_pos h1]⟩
 rw [<- vV] at EC;rw [<- vV];have HPN:=hid hpn;have Ub:=hid hbs;refine Cy ?_;intro xq HW0 Z0 B0 K1;refine Ua ?_;intro X0 x0 x1;clear hm hb hme fQ hall hsm hsz hil hti hla vV hpn hbs hS hW0 z0 b0 k1 k0 Pq;go_enter func7,ntmps7;go_upto_region 1 with (fail)
 rw [<- xq.out];refine Cz ?_;go_wp2_with fail
 (with_reducible refine EC.out.mono ?_)
 rintro e w1 ⟨rfl,b1⟩;have B1:=hid b1;clear b1 EC x0 x1;by_cases h0:EE=0
 ·have q1:((EE:Int) != 0)=false:=by rw [h0];rfl
  obtain ⟨hb1,hb2⟩:=Ub.out h0;have HPF:=hid (show NJ me l title lang=zO title lang (fZ l) by rw [HPN.out,if_pos h0]);have BT:=BC.out w1 B1.out;rw [hb1,hb2] at BT;have HBT:=hid BT;have H0:=hid h0;have x1:=X0.out w1 B1.out;clear hb1 hb2 BT h0;go_wp2_with fail
  (with_reducible refine HBT.out.mono ?_)
  rintro e w2 ⟨bD,v2,rfl,hrow2⟩;obtain ⟨a2,n2,c2,rfl⟩:=hrow2.slice3;have B2:=hid (q01 B1.out hrow2.aO);have FC:=hid (K9 title lang (fZ l) (.slice a2 n2 c2) W0.heap.size w2 B2.out.size (hrow2.cu.weaken (fun b (hb:w1.heap.size<=b)=>Nat.le_trans B1.out.size hb)));clear hrow2 HBT x1;go_wp2_with fail
  (with_reducible refine FC.out.mono ?_)
  rintro e w3 ⟨va,vk,he,hN,b3⟩;obtain ⟨aA,nA,cA,rfl⟩:=Rd.au hN.at_
  obtain ⟨aK,nK,cK,rfl⟩:=Rd.au hN.ks;have he:e=.returned (.agg #[.string ⟨#[104,116,109,108]⟩,.string ⟨#[]⟩,.slice aA nA cA,.slice aK nK cK]):=he;subst he;have B3:=hid (q01 B2.out b3);have HN:=hid hN;clear hN b3 FC;obtain ⟨x0,x1,x2,x3,xf⟩:=pq (K1.out.below B3.out);obtain ⟨w9,bZ⟩:∃ w9,w9=jV w3 (S+1) (.string ⟨#[104,116,109,108]⟩) (.string ⟨#[]⟩) (.slice aA nA cA) (.slice aK nK cK):=⟨_,rfl⟩;have hf:=uP ⟨#[104,116,109,108]⟩ ⟨#[]⟩ [⟨eY,lang⟩] [aH jK [] [aH fI [⟨wu,dL⟩] [],aH Fb [] (bK title)],aH lQ [] (fZ l)] xq.out Z0.out B0.out K1.out B3.out HN.out;rw [<- bZ] at hf;refine qK ?_;clear hf bZ;intro vT sN hw8;go_wp2;refine lD ?_;intro r0 r1 r2 r3;exact bodyPost_ret (v:=.tuple #[.agg #[.string ⟨#[104,116,109,108]⟩,.string ⟨#[]⟩,.slice aA nA cA,.slice aK nK cK],.int .i64 (0)]) (by simp [results,results7,go_sem,r0,r1,r2,r3]) rfl (by rw [HPF.out,H0.out];exact uV.of sN.out (by simp))
 ·have q1:((EE:Int) != 0)=true:=by rw [bne_iff_ne];omega
  have Yj:=hid (show NJ me l title lang=wE by rw [HPN.out,if_neg h0]);refine jd8 ?_;intro x0 x1 x2 x3 xf w9 bZ hf;refine qK ?_;clear hf bZ;intro vT sN hw8;go_wp2;refine lD ?_;intro r0 r1 r2 r3;exact bodyPost_ret (v:=.tuple #[.agg #[.string ⟨#[]⟩,.string ⟨#[]⟩,.slice none 0 0,.slice none 0 0],.int .i64 (EE)]) (by simp [results,results7,go_sem,r0,r1,r2,r3]) rfl (by rw [Yj.out];exact uV.of sN.out (by simp))
open Go.RowKit
structure SmB (l:List ah):Prop where
 sm:ah.aC l
 sz:ah.aY l<=120
 il:(ah.aR l).length<=120
 al:ah.bX l<=120
theorem jp5 {me:List Pr} {l:List ah} (h:Uc me l):SmB l:=by have h1:=ah.Fe l;have h2:=h.all;exact ⟨h.blks,by omega,by omega,h2⟩
theorem Yk (me:List Pr) (l:List ah) (vm vb:Value) (w:World) (hm:Rd (·<w.heap.size) w (fJ me) [vm]) (hb:Rd (·<w.heap.size) w (lu l) [vb]) (hwm:∀ p∈me,p.wf) (hwl:ah.wF l) : Calls prog 4 #[.agg #[vm,vb]] w fun e w'=>∃ b,e=.returned (.bool b)/\(b=true->Uc me l/\SmB l)/\jIx w.heap.size w w':=
 (Pt me l vm vb w hm hb hwm hwl).mono fun e w' ⟨b,h1,h2,h3⟩=>⟨b,h1,fun h=>⟨h2 h,jp5 (h2 h)⟩,h3⟩
open Go.RowKit
theorem Ud{P:Prop}(h:P:=by
 clear hsm;go_wp2_with fail
 (with_reducible refine AW.out.mono ?_)
 rintro e w2 ⟨rfl,b2⟩;have HF:=hid (q01 B1w.out b2);clear b2;go_wp2;go_ret;exact ⟨rfl,HF.out⟩):P:=h
theorem Yl (me:List Pr) (l:List ah) (vm vb:Value) (title lang:ByteArray) (w:World) (hm:Rd (·<w.heap.size) w (fJ me) [vm]) (hb:Rd (·<w.heap.size) w (lu l) [vb]) (hwm:∀ p∈me,p.wf) (hwl:ah.wF l) (hml:me.length<=reachBytes) (hll:l.length<=reachBytes) (hti:title.size<=maxLen) (hla:lang.size<=maxLen) (ht:PT w) : Calls prog 3 #[.agg #[vm,vb],.string title,.string lang] w (dP (.bool true) w):=by
 obtain ⟨am,nm,cm,rfl⟩:=Rd.au hm;obtain ⟨ab,nb,cb,rfl⟩:=Rd.au hb;obtain ⟨S,hS⟩:∃ S,S=w.heap.size:=⟨_,rfl⟩;obtain ⟨W0,hW0⟩:∃ W0,W0=w.alloc (.cells #[.slice am nm cm,.slice ab nb cb] 25):=⟨_,rfl⟩;have k0:CB 25 S [.slice am nm cm,.slice ab nb cb] W0:=by rw [hW0,hS];exact CB.new _ _ w
 have b0:jIx w.heap.size w W0:=by rw [hW0];exact (jFj _ _).alloc (jFk _) _
 have SM:=hid (Yk me l _ _ W0 (hm.up b0) (hb.up b0) hwm hwl);have HM:=hid hm;have HB:=hid hb;have pJ:Hid (∀ W,jIx w.heap.size w W->PT W):=fun W hW=>ht.below hW
 have B0:=hid b0;have X0:Hid (∀ W:World,jIx W0.heap.size W0 W->W.cell? ⟨S,0,none⟩=some (.slice am nm cm)/\W.cell? ⟨S,1,none⟩=some (.slice ab nb cb)):=fun W hW=>⟨(k0.below hW).cell 0 _ rfl,(k0.below hW).cell 1 _ rfl⟩
 have x0:=k0.cell 0 _ rfl;have x1:=k0.cell 1 _ rfl;clear hm hb hwm hwl hml hll hti hla ht k0 b0;go_enter func3,ntmps3;go_upto_region 1 with (fail)
 rw [<- hW0,<- hS];clear hW0 hS;go_wp2_with fail
 (with_reducible refine SM.out.mono ?_)
 rintro e w1 ⟨b,rfl,hsm,b1⟩;have B1:=hid b1;have B1w:=hid (q01 B0.out b1);have AW:=hid (Nz w1 (pJ.out _ B1w.out));clear x0 x1 b1 SM;cases b with
 | false=>
  exact Ud
 | true=>
  by_cases ht3:300<title.size
  ·have t1:(300:Int)<(title.size:Int):=by omega
   exact Ud
  ·have t1:¬ (300:Int)<(title.size:Int):=by omega
   by_cases hl3:300<lang.size
   ·have t2:(300:Int)<(lang.size:Int):=by omega
    exact Ud
   ·have t2:¬ (300:Int)<(lang.size:Int):=by omega
    obtain ⟨hd,hs⟩:=hsm rfl;have fQ:∀ p∈me,p.key.size<=1000/\p.val.size<=1000:=fun p hp=>by have:=hd.jA7 p hp;omega
    have PC:=hid (Dz me l title lang _ _ w1 (HM.out.up B1w.out) (HB.out.up B1w.out) (by have:=hd.meta_;omega) fQ (by have:=hs.al;omega) hs.sm (by have:=hs.sz;omega) (by have:=hs.il;omega) (ah.kW l hs.sm) (by omega) (by omega) (pJ.out _ B1w.out));have RC:=hid (fun (w2:World) (h:jIx w.heap.size w w2)=>Pp me l title lang _ _ w2 (HM.out.up h) (HB.out.up h) (by have:=hd.meta_;omega) fQ (by have:=hs.al;omega) hs.sm (by have:=hs.sz;omega) (by have:=hs.il;omega) (by omega) (by omega));obtain ⟨x0,x1⟩:=X0.out w1 B1.out;obtain ⟨X,hX⟩:∃ X,X=NJ me l title lang:=⟨_,rfl⟩;obtain ⟨E,hE⟩:∃ E,E=KY me l title lang:=⟨_,rfl⟩;rw [<- hX,<- hE] at PC RC;obtain ⟨xn,xt,xa,xk⟩:=X;have t3:decide ((300:Int)<(title.size:Int))=false:=decide_eq_false t1;have t4:decide ((300:Int)<(lang.size:Int))=false:=decide_eq_false t2;clear hsm hd hs fQ hX hE AW;go_wp2_with fail
    (with_reducible refine PC.out.mono ?_)
    rintro e w2 ⟨va,vk,he,hN,b2⟩;obtain ⟨aA,nA,cA,rfl⟩:=Rd.au hN.at_
    obtain ⟨aK,nK,cK,rfl⟩:=Rd.au hN.ks;have he:e=.returned (.tuple #[.agg #[.string xn,.string xt,.slice aA nA cA,.slice aK nK cK],.int .i64 (E:Int)]):=he;subst he;obtain ⟨Bp,F6⟩:∃ Bp,Bp=w2.heap.size:=⟨_,rfl⟩;obtain ⟨w3,hw3⟩:∃ w3,w3=w2.alloc (.cells #[.string xn,.string xt,.slice aA nA cA,.slice aK nK cK] 30):=⟨_,rfl⟩;have k3:CB 30 Bp [.string xn,.string xt,.slice aA nA cA,.slice aK nK cK] w3:=by rw [hw3,F6];exact CB.new _ _ _
    have b23:jIx w2.heap.size w2 w3:=by rw [hw3];exact (jFj _ _).alloc (jFk _) _
    have B3:=hid (q01 (q01 B1.out b2) b23);have B3w:=hid (q01 B0.out B3.out);have N3:=hid (show gP (fun _=>True) w3 xa xk (.slice aA nA cA) (.slice aK nK cK) from ⟨(hN.at_.aX b23).weaken (fun _ _=>trivial),(hN.ks.aX b23).weaken (fun _ _=>trivial)⟩);have K3:=hid k3;have R5:=hid (RC.out w3 B3w.out);clear x0 x1;obtain ⟨x0,x1⟩:=X0.out w3 B3.out;clear hN b2 b23 k3 PC RC;go_upto_region 4 with (fail)
    rw [<- hw3,<- F6];clear hw3 F6;go_wp2_with fail
    (with_reducible refine R5.out.mono ?_)
    rintro e w4 ⟨va,vk,he,hN,b4⟩;obtain ⟨aB,mB,cB,rfl⟩:=Rd.au hN.at_
    obtain ⟨aL,mL,cL,rfl⟩:=Rd.au hN.ks;have he:e=.returned (.tuple #[.agg #[.string xn,.string xt,.slice aB mB cB,.slice aL mL cL],.int .i64 (E:Int)]):=he;subst he;obtain ⟨Bq,hBq⟩:∃ Bq,Bq=w4.heap.size:=⟨_,rfl⟩;obtain ⟨w5,Df⟩:∃ w5,w5=w4.alloc (.cells #[.string xn,.string xt,.slice aB mB cB,.slice aL mL cL] 30):=⟨_,rfl⟩;have k5:CB 30 Bq [.string xn,.string xt,.slice aB mB cB,.slice aL mL cL] w5:=by rw [Df,hBq];exact CB.new _ _ _
    have b45:jIx w4.heap.size w4 w5:=by rw [Df];exact (jFj _ _).alloc (jFk _) _
    have b35:jIx w3.heap.size w3 w5:=q01 b4 b45;have B5w:=hid (q01 B3w.out b35);have k35:=K3.out.below b35;have SC:Hid (Calls prog 8 #[.agg #[.string xn,.string xt,.slice aA nA cA,.slice aK nK cK],.agg #[.string xn,.string xt,.slice aB mB cB,.slice aL mL cL]] w5 (jo1 w5)):=
     KG _ (.mk xn xt xa xk) _ _ _ _ w5 (jFk _) ⟨Rd.keep (fun b _ h2=>⟨h2,rfl⟩) _ _ (N3.out.at_.aX b35),Rd.keep (fun b _ h2=>⟨h2,rfl⟩) _ _ (N3.out.ks.aX b35)⟩ ⟨Rd.keep (fun b _ h2=>⟨h2,rfl⟩) _ _ (hN.at_.aX b45),Rd.keep (fun b _ h2=>⟨h2,rfl⟩) _ _ (hN.ks.aX b45)⟩
    have p0:=k35.cell 0 _ rfl;have p1:=k35.cell 1 _ rfl;have p2:=k35.cell 2 _ rfl;have p3:=k35.cell 3 _ rfl;have r0:=k5.cell 0 _ rfl;have r1:=k5.cell 1 _ rfl;have r2:=k5.cell 2 _ rfl;have r3:=k5.cell 3 _ rfl;clear hN b4 b45 b35 k5 k35 K3 N3 R5 x0 x1;go_upto_region 5 with (fail)
    rw [<- Df,<- hBq];clear Df hBq;go_wp2_with fail
    (with_reducible refine SC.out.mono ?_)
    rintro e w6 ⟨rfl,b6⟩;have B6w:=hid (q01 B5w.out b6);have AW:=hid (Nz w6 (pJ.out _ B6w.out));clear b6 SC p0 p1 p2 p3 r0 r1 r2 r3;go_wp2_with fail
    (with_reducible refine AW.out.mono ?_)
    rintro e w7 ⟨rfl,b7⟩;have HF:=hid (q01 B6w.out b7);clear b7 AW;go_wp2;go_ret;exact ⟨rfl,HF.out⟩
end Go.Proofs.YtklhajbpfelliaaGreatDoor

