/- The walks of HtmlBlocks and what they use. -/
import Derived.Test.YtkfnkeflalcphaaGreatDoorKHtG
import Derived.Test.YtkfnkeflalcphaaGreatDoorKHtX
set_option maxHeartbeats 8000000
set_option maxRecDepth 100000
open Go.Lib (hid)
namespace Go.Proofs.YtkfnkeflalcphaaGreatDoor
open Go.RowKit.Below renaming refl->jD7
open Nat renaming le_refl->jD8,le_trans->jD9
open Go.RowKit renaming Below->jGj
open Go.RowKit
set_option linter.unusedVariables false
set_option linter.unusedSimpArgs false
theorem Nj (t:ByteArray) (w:World) : Calls Tryz.prog 33 #[.string t] w fun e w'=>e=.returned (.agg #[.int .i64 1,.string t,.string ⟨#[]⟩,.string ⟨#[]⟩,.string ⟨#[]⟩,.slice none 0 0,.slice none 0 0,.slice none 0 0,.slice none 0 0,.slice none 0 0])/\jGj w.heap.size w w':=
 (jk7 t w).mono fun e w' h=>⟨h.1,h.2⟩
theorem jn9 (w:World):Rd (·<(w.alloc (.cells #[.int .i64 1,.string ⟨#[97]⟩,.string ⟨#[]⟩,.string ⟨#[]⟩,.string ⟨#[]⟩,.slice none 0 0,.slice none 0 0,.slice none 0 0,.slice none 0 0,.slice none 0 0,.int .i64 2,.string ⟨#[]⟩,.string ⟨#[]⟩,.string ⟨#[]⟩,.string ⟨#[]⟩,.slice none 0 0,.slice none 0 0,.slice none 0 0,.slice none 0 0,.slice none 0 0,.int .i64 1,.string ⟨#[98]⟩,.string ⟨#[]⟩,.string ⟨#[]⟩,.string ⟨#[]⟩,.slice none 0 0,.slice none 0 0,.slice none 0 0,.slice none 0 0,.slice none 0 0] 66)).heap.size) (w.alloc (.cells #[.int .i64 1,.string ⟨#[97]⟩,.string ⟨#[]⟩,.string ⟨#[]⟩,.string ⟨#[]⟩,.slice none 0 0,.slice none 0 0,.slice none 0 0,.slice none 0 0,.slice none 0 0,.int .i64 2,.string ⟨#[]⟩,.string ⟨#[]⟩,.string ⟨#[]⟩,.string ⟨#[]⟩,.slice none 0 0,.slice none 0 0,.slice none 0 0,.slice none 0 0,.slice none 0 0,.int .i64 1,.string ⟨#[98]⟩,.string ⟨#[]⟩,.string ⟨#[]⟩,.string ⟨#[]⟩,.slice none 0 0,.slice none 0 0,.slice none 0 0,.slice none 0 0,.slice none 0 0] 66)) (bG eL) [.slice (some ⟨w.heap.size,0,none⟩) 3 3]:=by have kk:CB 66 w.heap.size (eC ⟨#[97]⟩++([.int .i64 2,.string ⟨#[]⟩,.string ⟨#[]⟩,.string ⟨#[]⟩,.string ⟨#[]⟩,.slice none 0 0,.slice none 0 0,.slice none 0 0,.slice none 0 0,.slice none 0 0]++eC ⟨#[98]⟩)) (w.alloc (.cells #[.int .i64 1,.string ⟨#[97]⟩,.string ⟨#[]⟩,.string ⟨#[]⟩,.string ⟨#[]⟩,.slice none 0 0,.slice none 0 0,.slice none 0 0,.slice none 0 0,.slice none 0 0,.int .i64 2,.string ⟨#[]⟩,.string ⟨#[]⟩,.string ⟨#[]⟩,.string ⟨#[]⟩,.slice none 0 0,.slice none 0 0,.slice none 0 0,.slice none 0 0,.slice none 0 0,.int .i64 1,.string ⟨#[98]⟩,.string ⟨#[]⟩,.string ⟨#[]⟩,.string ⟨#[]⟩,.slice none 0 0,.slice none 0 0,.slice none 0 0,.slice none 0 0,.slice none 0 0] 66)):=CB.new _ _ w;exact Rd.Ra (l:=eL.map aj.d) (rows:=[eC ⟨#[97]⟩,[.int .i64 2,.string ⟨#[]⟩,.string ⟨#[]⟩,.string ⟨#[]⟩,.string ⟨#[]⟩,.slice none 0 0,.slice none 0 0,.slice none 0 0,.slice none 0 0,.slice none 0 0],eC ⟨#[98]⟩]) (by simp [eL]) (by unfold maxLen;decide) (aR.cons (Rb _ _ _) (aR.cons (Wu _ _) (aR.one (Rb _ _ _)))) (by simp [eC]) kk.lt kk.lt (fun j u hu=>kk.cell j u (by simpa using hu))
theorem jnj (w:World):Rd (·<(w.alloc (.cells #[.int .i64 14,.string ⟨#[97]⟩,.string ⟨#[]⟩,.string ⟨#[]⟩,.string ⟨#[]⟩,.slice none 0 0,.slice none 0 0,.slice none 0 0,.slice none 0 0,.slice none 0 0] 66)).heap.size) (w.alloc (.cells #[.int .i64 14,.string ⟨#[97]⟩,.string ⟨#[]⟩,.string ⟨#[]⟩,.string ⟨#[]⟩,.slice none 0 0,.slice none 0 0,.slice none 0 0,.slice none 0 0,.slice none 0 0] 66)) (bG [Eo]) [.slice (some ⟨w.heap.size,0,none⟩) 1 1]:=by have kk:CB 66 w.heap.size [.int .i64 14,.string ⟨#[97]⟩,.string ⟨#[]⟩,.string ⟨#[]⟩,.string ⟨#[]⟩,.slice none 0 0,.slice none 0 0,.slice none 0 0,.slice none 0 0,.slice none 0 0] (w.alloc (.cells #[.int .i64 14,.string ⟨#[97]⟩,.string ⟨#[]⟩,.string ⟨#[]⟩,.string ⟨#[]⟩,.slice none 0 0,.slice none 0 0,.slice none 0 0,.slice none 0 0,.slice none 0 0] 66)):=CB.new _ _ w;exact Rd.Ra (l:=[Eo].map aj.d) (rows:=[[.int .i64 14,.string ⟨#[97]⟩,.string ⟨#[]⟩,.string ⟨#[]⟩,.string ⟨#[]⟩,.slice none 0 0,.slice none 0 0,.slice none 0 0,.slice none 0 0,.slice none 0 0]]) (by simp) (by unfold maxLen;decide) (aR.one (jk9 _ _)) (by simp) kk.lt kk.lt (fun j u hu=>kk.cell j u (by simpa using hu))
theorem bJ.rd {w w':World} {L:List Nd} {v:Value} {U:Nat} {rows:List (List Value)} (h:aF 35 4 (fun _=>False) U w (L.map Nd.d) rows v w'):Rd (fun _=>True) w' (gD L) [v]:=h.bZ.weaken (fun _ _=>trivial)
theorem Nk (w:World) (ht:PT w):Calls Tryz.prog 12 #[] w (eX (.bool true) w):=by
 have pJ:Hid (∀ W,jGj w.heap.size w W->PT W):=fun W hW=>ht.below hW
 clear ht;go_enter Tryz.func12,Tryz.ntmps12;go_wp2_with fail
 refine (Nj _ _).mono ?_;rintro e w1 ⟨rfl,b1⟩;go_wp2_with fail
 refine (Nj _ _).mono ?_;rintro e w2 ⟨rfl,b2⟩;have bb2:=q01 b1 b2;have bA:jGj w2.heap.size w2 (w2.alloc (.cells #[.int .i64 1,.string ⟨#[97]⟩,.string ⟨#[]⟩,.string ⟨#[]⟩,.string ⟨#[]⟩,.slice none 0 0,.slice none 0 0,.slice none 0 0,.slice none 0 0,.slice none 0 0,.int .i64 2,.string ⟨#[]⟩,.string ⟨#[]⟩,.string ⟨#[]⟩,.string ⟨#[]⟩,.slice none 0 0,.slice none 0 0,.slice none 0 0,.slice none 0 0,.slice none 0 0,.int .i64 1,.string ⟨#[98]⟩,.string ⟨#[]⟩,.string ⟨#[]⟩,.string ⟨#[]⟩,.slice none 0 0,.slice none 0 0,.slice none 0 0,.slice none 0 0,.slice none 0 0] 66)):=(jD7 _ _).alloc (jD8 _) _;have h3:=Mr eL _ _ (jn9 w2) Rc (by decide +kernel);rw [jw6,jw7] at h3;have LC:=hid h3;have BA:=hid (q01 bb2 bA);clear b1 b2 bb2 bA h3;go_wp2_with fail
 (with_reducible refine LC.out.mono ?_)
 rintro e w3 ⟨dD,v3,rfl,hrow3⟩;have R3:=hid (bJ.rd (L:=[Cm ⟨#[97,32,98]⟩]) hrow3);obtain ⟨a3,c3,rfl,-,-⟩:=hrow3.cap (n:=1) rfl;have B3:=hid (q01 BA.out hrow3.aM);have h4:=xw [Gm] _ (w3.alloc (.cells #[.int .i64 5,.int .i64 0,.string ⟨#[]⟩,.string ⟨#[]⟩,.string ⟨#[]⟩,.string ⟨#[]⟩,.string ⟨#[]⟩,.slice none 0 0,.slice none 0 0,.slice none 0 0,.slice none 0 0] 48)) (JR 5 ⟨#[]⟩ [] (.slice none 0 0) w3 (Rd.aC _ _ _)) vJ (by decide +kernel) (by decide +kernel) (ah.kR _ vJ) (pJ.out _ (B3.out.alloc B3.out.size _));rw [jw8,jw9] at h4;have BC:=hid h4;have bA:jGj w3.heap.size w3 (w3.alloc (.cells #[.int .i64 5,.int .i64 0,.string ⟨#[]⟩,.string ⟨#[]⟩,.string ⟨#[]⟩,.string ⟨#[]⟩,.string ⟨#[]⟩,.slice none 0 0,.slice none 0 0,.slice none 0 0,.slice none 0 0] 48)):=(jD7 _ _).alloc (jD8 _) _;have BA2:=hid (q01 B3.out bA);have RA3:=hid (R3.out.bC bA);clear hrow3 LC BA h4 bA R3;go_wp2_with fail
 (with_reducible refine BC.out.mono ?_)
 rintro e w4 ⟨bD,v4,rfl,hrow4⟩;have R4:=hid (bJ.rd (L:=[aJ nHr [] []]) hrow4);obtain ⟨a4,c4,rfl,-,-⟩:=hrow4.cap (n:=1) rfl;have B4:=hid (q01 BA2.out hrow4.aM);have R34:=hid (RA3.out.bC hrow4.aM);clear hrow4 BC BA2 RA3;go_upto_region 3 with (fail)
 obtain ⟨p4,hp4⟩:∃ p4,p4=w4.heap.size:=⟨_,rfl⟩;obtain ⟨w5,Kg⟩:∃ w5,w5=w4.alloc (.cells #[.int .i64 14,.int .i64 0,.string ⟨#[120]⟩,.string ⟨#[]⟩,.string ⟨#[]⟩,.string ⟨#[]⟩,.string ⟨#[]⟩,.slice none 0 0,.slice none 0 0,.slice none 0 0,.slice none 0 0] 48):=⟨_,rfl⟩;have rd5:Rd (·<w5.heap.size) w5 (nN [Mw]) [.slice (some ⟨p4,0,none⟩) 1 1]:=by rw [Kg,hp4];exact JR 14 ⟨#[120]⟩ [] (.slice none 0 0) w4 (Rd.aC _ _ _)
 have bA5:jGj w4.heap.size w4 w5:=by rw [Kg];exact (jD7 _ _).alloc (jD8 _) _
 have B5:=hid (q01 B4.out bA5);have z5:w5.heap.size=p4+1:=by rw [Kg,World.size_alloc,hp4]
 have bA6:jGj w5.heap.size w5 (w5.alloc (.cells #[.int .i64 6,.int .i64 0,.string ⟨#[]⟩,.string ⟨#[]⟩,.string ⟨#[]⟩,.string ⟨#[]⟩,.string ⟨#[]⟩,.slice none 0 0,.slice none 0 0,.slice none 0 0,.slice (some ⟨p4,0,none⟩) 1 1] 48)):=(jD7 _ _).alloc (jD8 _) _;have h6:=xw [yD] _ (w5.alloc (.cells #[.int .i64 6,.int .i64 0,.string ⟨#[]⟩,.string ⟨#[]⟩,.string ⟨#[]⟩,.string ⟨#[]⟩,.string ⟨#[]⟩,.slice none 0 0,.slice none 0 0,.slice none 0 0,.slice (some ⟨p4,0,none⟩) 1 1] 48)) (JR 6 ⟨#[]⟩ [Mw] (.slice (some ⟨p4,0,none⟩) 1 1) w5 rd5) sJ (by decide +kernel) (by decide +kernel) (ah.kR _ sJ) (pJ.out _ (B5.out.alloc B5.out.size _));rw [jwj,jwk] at h6;have BC:=hid h6;have BA6:=hid (q01 B5.out bA6);have RB3:=hid ((R34.out.bC bA5).bC bA6);have RB4:=hid ((R4.out.bC bA5).bC bA6);have HZ5:=hid z5;have HW5:=hid Kg;have HP4:=hid hp4;clear rd5 bA5 bA6 h6 R34 R4 z5 Kg hp4;go_wp2_with fail
 rw [<- HP4.out,<- HW5.out];try rw [<- HZ5.out]
 (with_reducible refine BC.out.mono ?_)
 rintro e w6 ⟨jb7,v6,rfl,dB⟩;have R6:=hid (bJ.rd (L:=[aJ qU [] [],aJ Q9 [⟨dx,eO⟩] [aJ jS [⟨jT,⟨#[110,111,116,101,45,120]⟩⟩,⟨dx,dO⟩] []]]) dB);obtain ⟨a6,c6,rfl,-,-⟩:=dB.cap (n:=2) rfl;have B6:=hid (q01 BA6.out dB.aM);have R63:=hid (RB3.out.bC dB.aM);have R64:=hid (RB4.out.bC dB.aM);have h7:=OI [] [] ⟨#[84]⟩ ⟨#[101,110]⟩ (.slice none 0 0) (.slice none 0 0) w6 (Rd.aC _ _ _) (Rd.aC _ _ _) (by simp) (by simp) (by decide +kernel) (by unfold ah.aB;trivial) (by decide +kernel) (by decide +kernel) (by unfold ah.uw;trivial) (by decide) (by decide) (pJ.out _ B6.out);rw [jwq,jwx] at h7;have PC:=hid h7;clear dB BC BA6 RB3 RB4 h7 HZ5 HW5 HP4 B5;go_wp2_with fail
 (with_reducible refine PC.out.mono ?_)
 rintro e w7 ⟨va,vk,he,hN,b7⟩;obtain ⟨aA,nA,cA,rfl⟩:=Rd.au hN.at_
 obtain ⟨aK,cK,hvk,hsK⟩:=Rd.ay hN.ks;obtain rfl:vk=.slice aK 2 cK:=by have h:=hvk;simp only [List.cons.injEq,and_true] at h;exact h
 have he:e=.returned (.tuple #[.agg #[.string ⟨#[104,116,109,108]⟩,.string ⟨#[]⟩,.slice aA nA cA,.slice aK 2 cK],.int .i64 0]):=he;subst he;have B7:=hid (q01 B6.out b7);have RK7:=hid (show Rd (fun _=>True) w7 (gD [aJ sI [] [aJ lu [⟨Jd,iY⟩] [],aJ iU [] [Cm ⟨#[84]⟩]],aJ vI [] []]) [.slice aK 2 cK] from hN.ks.weaken (fun _ _=>trivial));have R73:=hid (R63.out.bC b7);have R74:=hid (R64.out.bC b7);have R76:=hid (R6.out.bC b7);clear hN b7 hvk hsK PC R63 R64 R6;obtain ⟨Bp,Mk⟩:∃ Bp,Bp=w7.heap.size:=⟨_,rfl⟩;obtain ⟨wP,hwP⟩:∃ wP,wP=w7.alloc (.cells #[.string ⟨#[104,116,109,108]⟩,.string ⟨#[]⟩,.slice aA nA cA,.slice aK 2 cK] 35):=⟨_,rfl⟩;have kP:CB 35 Bp [.string ⟨#[104,116,109,108]⟩,.string ⟨#[]⟩,.slice aA nA cA,.slice aK 2 cK] wP:=by rw [hwP,Mk];exact CB.new _ _ _
 have bP:jGj w7.heap.size w7 wP:=by rw [hwP];exact (jD7 _ _).alloc (jD8 _) _
 have BP:=hid (q01 B7.out bP);have h8:=Mr [Eo] _ _ (jnj wP) Rf (by decide +kernel);rw [e_r,show lnN [Eo]=[] from rfl] at h8;have LC:=hid h8;have bA:jGj wP.heap.size wP (wP.alloc (.cells #[.int .i64 14,.string ⟨#[97]⟩,.string ⟨#[]⟩,.string ⟨#[]⟩,.string ⟨#[]⟩,.slice none 0 0,.slice none 0 0,.slice none 0 0,.slice none 0 0,.slice none 0 0] 66)):=(jD7 _ _).alloc (jD8 _) _;have Ew:=hid bA;have HbP:=hid bP;have KP:=hid kP;clear h8 bA bP kP;go_upto_region 5 with (fail)
 rw [<- hwP,<- Mk];clear hwP Mk;go_wp2_with fail
 (with_reducible refine LC.out.mono ?_)
 rintro e w8 ⟨jB3,v8,rfl,ou⟩;obtain ⟨a8,n8,c8,rfl⟩:=ou.slice3;have bT:jGj wP.heap.size wP w8:=Ew.out.trans (ou.aM.mono Ew.out.size);have BL:=hid (q01 BP.out bT);have kP8:=KP.out.below bT;have r1:=((R73.out.bC HbP.out).bC bT);have r2:=((R74.out.bC HbP.out).bC bT);have r3:=((R76.out.bC HbP.out).bC bT);have r4:=((RK7.out.bC HbP.out).bC bT);obtain ⟨_,_,q1,s1⟩:=Rd.ay r1;obtain ⟨rfl,rfl⟩:_=a3/\_=c3:=by simp at q1;exact ⟨q1.1.symm,q1.2.symm⟩
 obtain ⟨g1,o1,va1,vk1,rfl,-,-,t10,t11,t12,t13,hN1⟩:=nZ (l:=[Cm ⟨#[97,32,98]⟩]) s1 (k:=0) rfl;obtain ⟨_,_,q2,s2⟩:=Rd.ay r2;obtain ⟨rfl,rfl⟩:_=a4/\_=c4:=by simp at q2;exact ⟨q2.1.symm,q2.2.symm⟩
 obtain ⟨g2,o2,va2,vk2,rfl,-,-,t20,t21,t22,t23,-⟩:=nZ (l:=[aJ nHr [] []]) s2 (k:=0) rfl;obtain ⟨_,_,q3,s3⟩:=Rd.ay r3;obtain ⟨rfl,rfl⟩:_=a6/\_=c6:=by simp at q3;exact ⟨q3.1.symm,q3.2.symm⟩
 obtain ⟨g3,o3,va3,vk3,rfl,-,-,t30,t31,t32,t33,-⟩:=nZ (l:=[aJ qU [] [],aJ Q9 [⟨dx,eO⟩] [aJ jS [⟨jT,⟨#[110,111,116,101,45,120]⟩⟩,⟨dx,dO⟩] []]]) s3 (k:=1) rfl;obtain ⟨_,_,q4,s4⟩:=Rd.ay r4;obtain ⟨rfl,rfl⟩:_=aK/\_=cK:=by simp at q4;exact ⟨q4.1.symm,q4.2.symm⟩
 obtain ⟨g4,o4,va4,vk4,rfl,-,-,t40,t41,t42,t43,hN4⟩:=nZ (l:=[aJ sI [] [aJ lu [⟨Jd,iY⟩] [],aJ iU [] [Cm ⟨#[84]⟩]],aJ vI [] []]) s4 (k:=1) rfl;obtain ⟨_,_,hv4,-⟩:=Rd.ay hN4.ks;obtain rfl:=(by simpa using hv4:vk4=_);obtain ⟨aA1,nA1,cA1,rfl⟩:=Rd.au hN1.at_
 obtain ⟨aK1,nK1,cK1,rfl⟩:=Rd.au hN1.ks;have AC:Hid (Calls Tryz.prog 34 #[.agg #[.string ⟨#[]⟩,.string ⟨#[97,32,98]⟩,.slice aA1 nA1 cA1,.slice aK1 nK1 cK1]] w8 (lK w8 ((Cm ⟨#[97,32,98]⟩).vals jT))):=EL ⟨#[]⟩ ⟨#[97,32,98]⟩ [] [] (.slice aA1 nA1 cA1) (.slice aK1 nK1 cK1) w8 ⟨Rd.keep (fun b _ h2=>⟨h2,rfl⟩) _ _ hN1.at_,Rd.keep (fun b _ h2=>⟨h2,rfl⟩) _ _ hN1.ks⟩ (by decide +kernel);have p0:=kP8.cell 0 _ rfl;have p3:=kP8.cell 3 _ rfl;simp only [Nat.zero_mul,Nat.one_mul,Nat.add_zero] at t10 t11 t12 t13 t20 t30 t43
 replace t20:w8.cell? ⟨g2,o2,none⟩=some (.string ⟨#[104,114]⟩):=t20
 replace t30:w8.cell? ⟨g3,o3+4,none⟩=some (.string ⟨#[115,101,99,116,105,111,110]⟩):=t30
 clear ou bT kP8 r1 r2 r3 r4 q1 q2 q3 q4 s1 s2 s3 s4 hN1 hN4 hv4 t21 t22 t23 t31 t32 t33 t40 t41 t42 LC R73 R74 R76 RK7 Ew HbP KP;go_wp2_with fail
 (with_reducible refine AC.out.mono ?_)
 rintro e w9 ⟨v9,rfl,jc4,b9⟩;obtain ⟨a9,c9,hv9⟩:=kW jc4;obtain rfl:v9=.slice a9 0 c9:=hv9;have HF:=hid (q01 BL.out b9);clear jc4 b9 AC;go_wp2;go_ret;exact ⟨rfl,HF.out⟩
open Go.RowKit
def Nl (w1:World) (E:List ah) (v vi:Value) (wr:World):Prop:=
 ∃ (k:Nat) (rows:List (List Value)),k<=E.length/\vi=.int .i64 k/\aF 35 4 (fun _=>False) wr.heap.size w1 (((E.take k).flatMap qA).map Nd.d) rows v wr
theorem XF (l:List ah) (v:Value) (w:World) (hrd:Rd (·<w.heap.size) w (nN l) [v]) (hsm:ah.aB l) (hsz:ah.aY l<=900000) (hil:(ah.aS l).length<=1000) : Calls Tryz.prog 14 #[v] w (bJ w (Bo l) (Q7 l)):=by
 obtain ⟨iN,qB,fC,fD,fE⟩:=info_parts gY;obtain ⟨a,cap,hv,-⟩:=Rd.ay hrd;obtain rfl:v=.slice a l.length cap:=by simpa using hv
 clear hv;have LC:=hid (Ho l a cap w hsm hrd);have Oi:=hid hrd;have cO:=hid hsm;refine jb4 ?_;intro hee hnn;have HW:=hid (fun h:Bo l=0=>Ol l h hsm hsz);obtain ⟨E0,hE0⟩:∃ E0,E0=ah.aQ iT 0 0 l:=⟨_,rfl⟩;obtain ⟨EE,Jb⟩:∃ EE,EE=Bo l:=⟨_,rfl⟩;obtain ⟨NN,Jc⟩:∃ NN,NN=Q7 l:=⟨_,rfl⟩;rw [<- hE0] at LC hee;rw [<- Jb] at hee hnn HW;rw [<- Jc] at hnn;rw [<- Jb,<- Jc];have Gl:=hid hee;have Qh:=hid hnn;have HE0:=hid hE0;clear hrd hee hnn hE0 Jb Jc;go_enter Tryz.func14,Tryz.ntmps14;go_wp2_with fail
 (with_reducible refine LC.out.mono ?_)
 rintro e w1 ⟨rfl,b1⟩;have B1:=hid b1;clear b1 LC;by_cases h0:E0=0
 ·have q1:((E0:Int) != 0)=false:=by rw [h0];rfl
  have yu:Hid (EE=if (ah.aS l).any eH=true then 5 else 0):=by show _=_;rw [Gl.out,if_neg (by simp [h0])]
  have IL:=hid (OP l (.slice a l.length cap) w1 (by omega) (by omega) (Oi.out.up B1.out));clear h0;go_wp2_with fail
  (with_reducible refine IL.out.mono ?_)
  rintro e w2 ⟨v2,rfl,wK,b2⟩;have UC:=Kh (ah.aS l) v2 w2 wK (Tz l hil);rw [OQ] at UC;obtain ⟨a2,n2,c2,rfl⟩:=Rd.au wK;have UL:=hid UC;have B2:=hid (q01 B1.out b2);clear wK b2 UC IL;go_wp2_with fail
  (with_reducible refine UL.out.mono ?_)
  rintro e w3 ⟨rfl,b3⟩;have B3:=hid (q01 B2.out b3);obtain ⟨u,hu⟩:∃ u,u=(ah.aS l).any eH:=⟨_,rfl⟩;rw [<- hu] at yu;rw [<- hu];have HU:=hid hu;clear b3 UL hu;cases u with
  | true=>
   have HF:Hid (bJ w EE NN (.returned (.tuple #[.slice none 0 0,.int .i64 5])) w3):=by
    have h5:EE=5:=by rw [yu.out];rfl
    rw [h5];exact bJ.nil (by rw [Qh.out,h5];rfl) B3.out
   go_wp2
   go_ret2
   exact HF.out
  | false=>
   have hE:EE=0:=by rw [yu.out];rfl
   obtain ⟨hw2,hw3⟩:=HW.out hE;have SV:=hid (show NN=jB l by rw [Qh.out,hE];rfl);have HE:=hid hE;have HC:=hid (yT 900000 l (.slice a l.length cap) w3 hsz (by omega) (Oi.out.up B3.out) hw2);have HWN:=hid hw3;clear hE hw2 hw3;go_wp2_with fail
   (with_reducible refine HC.out.mono ?_)
   rintro e w4 ⟨bD,v4,rfl,hrow4⟩;obtain ⟨n4,hn4⟩:∃ n4,n4=((ah.aV l).map Nd.d).length:=⟨_,rfl⟩;have jC5:n4<=900000:=by have h:=nW l;have h2:=ah.fF l;rw [hn4,List.length_map];omega
   obtain ⟨a4,c4,rfl,-,-⟩:=hrow4.cap hn4.symm;have HN4:=hid hn4.symm;have jc5:=hid hrow4;have LS:=hid (Hq _ l w.heap.size (.slice a l.length cap) w4 (jD8 _) (by omega) (Oi.out.below (B3.out.trans (hrow4.aM.mono B3.out.size))) (by have:=B3.out.size;have:=hrow4.aM.size;omega));have B4:=hid (B3.out.trans (hrow4.aM.mono B3.out.size));obtain ⟨E,hEq⟩:∃ E,E=ah.aT l:=⟨_,rfl⟩;have hpg:jB l=ah.aV l++if (E.flatMap qA).isEmpty=true then [] else [aJ Q9 [⟨dx,eO⟩] (E.flatMap qA)]:=by rw [hEq];rfl
   have Ji:=hid hpg;have hEl:E.length<=900000:=by rw [hEq,o9];exact hsz
   have HIN:=hid (show ∀ x∈E,x.iOf.size<=300 from fun x hx=>by rw [hEq] at hx;exact yF (ah.iL l cO.out x hx));rw [<- hEq] at LS HWN;clear hrow4 hn4 HC hEq hpg;go_wp2_with fail
   (with_reducible refine LS.out.mono ?_)
   rintro e w5 ⟨v5,nY,rfl,hr5⟩;have b5:=hr5.aM;have hE5:Rd (·<w5.heap.size) w5 (nN E) [v5]:=
    Rd.fG (l:=E.map ah.d) (rows:=nY) (B:=w4.heap.size) (e:=48) hr5.own (aR.keep (fun b h1 h2=>⟨h2,rfl⟩) _ _ hr5.red) hr5.len (fun g hg=>(hr5.own.lt g hg).2)
   obtain ⟨a5,c5,hv5,hs5⟩:=Rd.ay hE5;obtain ⟨nE,hnE⟩:∃ nE,nE=E.length:=⟨_,rfl⟩;obtain rfl:v5=.slice a5 nE c5:=by rw [hnE];simpa using hv5
   have Qk:nE<=c5:=by rw [hnE];simpa using hs5.le
   have hm5:=hs5.max;unfold maxLen at hm5;have jC6:nE<=900000:=by rw [hnE];exact hEl
   have ZY:=hid hnE;have HS:=hid hs5;have B5:=hid (q01 B4.out b5);have HZ5:=hid b5.size;have HR5:=hid (jc5.out.below b5);have R0:Hid (Nl w5 E (.slice none 0 0) (.int .i64 0) w5):=⟨0,[],Nat.zero_le _,rfl,aF.nil _ _ _ _⟩;clear hr5 hE5 hv5 hs5 b5 LS hnE hEl jc5;go_wp2
   go_loopw [7,8] (fun v vi wr=>Nl w5 E v vi wr) (fun _ vi _=>nE-(intOf vi).toNat)
   case atStart=>exact R0.out
   case round=>
    clear R0;obtain ⟨j,rows,hj,rfl,hrow⟩:=hrel;obtain ⟨ds,hds⟩:∃ ds,ds=((E.take j).flatMap qA).map Nd.d:=⟨_,rfl⟩;rw [<- hds] at hrow;obtain ⟨m,hm⟩:∃ m,m=ds.length:=⟨_,rfl⟩;have Wz:m<=1000000:=by have h:=lW (E.take j);have h2:(E.take j).length<=E.length:=List.length_take_le' _ _;rw [hm,hds,List.length_map];have:=ZY.out;omega
    obtain ⟨av,cv,rfl,-,-⟩:=hrow.cap hm.symm;have HM:=hid hm.symm;have mZ:=hid hds.symm;have bg:=hid hrow;have HB:=hid hrow.aM;clear hrow hm hds;by_cases hlt:j<nE
    ·obtain ⟨y,hy⟩:∃ y,E[j]?=some y:=⟨_,List.getElem?_eq_getElem (by have:=ZY.out;omega)⟩;have hsn:=Gp E j y hy;have Qi:=HWN.out y (List.mem_of_getElem? hy);have hiy:=HIN.out y (List.mem_of_getElem? hy);obtain ⟨yk,Cq,yi,yt,yd,Cr,AQ,sN,lY⟩:=y;obtain ⟨ga,off,vc,vp,vl,vk,rfl,hok,hbl,hc,hR⟩:=Gr HS.out hy;obtain ⟨Oo,Oq,Ot,rfl⟩:=Rd.au hR.at_.cls
     obtain ⟨Ou,Ov,Ow,rfl⟩:=Rd.au hR.at_.aD
     obtain ⟨yM,yN,yO,rfl⟩:=Rd.au hR.line;obtain ⟨JY,JZ,J3,rfl⟩:=Rd.au hR.kids;have hiy:yi.size<=300:=hiy;have CY:Hid (∀ w':World,jGj w5.heap.size w5 w'->w'.cell? ⟨ga,off+j*11,none⟩=some (.int .i64 yk)/\w'.cell? ⟨ga,off+j*11+2,none⟩=some (.string yi)/\w'.cell? ⟨ga,off+j*11+10,none⟩=some (.slice JY JZ J3)):=fun w' hb=>by
      obtain ⟨c0,c1,c2,c3,c4,c5,c6,c7,c8,c9,c10⟩:=hc.at2 (w':=w') (hb.block ga hbl);exact ⟨c0,c2,c10⟩
     have e0:=(CY.out wr HB.out).1;by_cases Jg:yk=14
     ·obtain rfl:=Jg;obtain ⟨hk2,hk3⟩:=Qi rfl;have IC:Hid (∀ w':World,jGj w5.heap.size w5 w'->Calls Tryz.prog 46 #[.slice JY JZ J3] w' (aO w' (ah.aV lY))):=fun w' hb=>
       yT 900000 lY _ w' hk3 (by omega) (Rd.keep (w:=w5) (w':=w') (ok:=(·<w5.heap.size)) (fun b (hb':b<w5.heap.size) hlt=>⟨by show b<w'.heap.size;have:=hb.size;omega,hb.block b hlt⟩) _ _ hR.kids) hk2
      have gV:=hid (show ((E.take (j+1)).flatMap qA).map Nd.d=ds++[(aJ jS [⟨jT,Bw++yi⟩,⟨dx,dO⟩] (ah.aV lY)).d] by rw [hsn,List.map_append,mZ.out];rfl);have q5:(⟨#[110,111,116,101,45]⟩:ByteArray).size+yi.size<=9223372036854775807:=by have:(⟨#[110,111,116,101,45]⟩:ByteArray).size=5:=rfl;omega
      have q6:5+yi.size<=9223372036854775807:=by omega
      have hadd:∀ w:World,(Op.stringOp .add (⟨#[110,111,116,101,45]⟩:ByteArray) yi).run Tryz.prog w=.ok (.string (⟨#[110,111,116,101,45]⟩++yi)) w:=fun w=>run_string_add_sum w _ _ q5
      clear Qi hk2 hk3 hok hbl hc hR hsn hy;go_upto_region 13 with (fail)
      clear e0;refine Je 19 (fun w'=>jGj w5.heap.size w5 w') (by kernel_rfl) HB.out.drew ?_;intro hH;refine eY 0 rfl (by kernel_rfl) hH (by rfl) (by intro wv hSw;obtain ⟨c0,c2,c8⟩:=CY.out wv hSw;go_simp;try with_reducible rfl) ?_;refine eY 1 rfl (by kernel_rfl) hH (by rfl) (by intro wv hSw;obtain ⟨c0,c2,c8⟩:=CY.out wv hSw;go_simp;try with_reducible rfl) ?_;refine eY 2 rfl (by kernel_rfl) hH (by rfl) (by intro wv hSw;obtain ⟨c0,c2,c8⟩:=CY.out wv hSw;go_simp;try with_reducible rfl) ?_;refine eY 3 rfl (by kernel_rfl) hH (by rfl) (by intro wv hSw;obtain ⟨c0,c2,c8⟩:=CY.out wv hSw;go_simp;try with_reducible rfl) ?_;refine eY 4 rfl (by kernel_rfl) hH (by rfl) (by intro wv hSw;obtain ⟨c0,c2,c8⟩:=CY.out wv hSw;go_simp;try with_reducible rfl) ?_;refine eY 5 rfl (by kernel_rfl) hH (by rfl) (by intro wv hSw;obtain ⟨c0,c2,c8⟩:=CY.out wv hSw;go_simp;try with_reducible rfl) ?_;refine eY 6 rfl (by kernel_rfl) hH (by rfl) (by intro wv hSw;obtain ⟨c0,c2,c8⟩:=CY.out wv hSw;go_simp;try with_reducible rfl) ?_;refine eY 7 rfl (by kernel_rfl) hH (by rfl) (by intro wv hSw;obtain ⟨c0,c2,c8⟩:=CY.out wv hSw;go_simp;try with_reducible rfl) ?_;refine eY 8 rfl (by kernel_rfl) hH (by rfl) (by intro wv hSw;obtain ⟨c0,c2,c8⟩:=CY.out wv hSw;go_simp;try with_reducible rfl) ?_;refine eY 10 rfl (by kernel_rfl) hH (by rfl) (by intro wv hSw;obtain ⟨c0,c2,c8⟩:=CY.out wv hSw;go_simp;try with_reducible rfl) ?_;refine eY 11 rfl (by kernel_rfl) hH (by rfl) (by intro wv hSw;obtain ⟨c0,c2,c8⟩:=CY.out wv hSw;go_simp;try with_reducible rfl) ?_;refine eY 12 rfl (by kernel_rfl) hH (by rfl) (by intro wv hSw;obtain ⟨c0,c2,c8⟩:=CY.out wv hSw;go_simp;try with_reducible rfl) ?_;refine eY 13 rfl (by kernel_rfl) hH (by rfl) (by intro wv hSw;obtain ⟨c0,c2,c8⟩:=CY.out wv hSw;go_simp;try with_reducible rfl) ?_;refine eY 14 rfl (by kernel_rfl) hH (by rfl) (by intro wv hSw;obtain ⟨c0,c2,c8⟩:=CY.out wv hSw;go_simp;try with_reducible rfl) ?_;obtain ⟨y0,hy0⟩:∃ y0,y0=wr.drew:=⟨_,rfl⟩;have MG:jGj wr.heap.size wr y0:=by rw [hy0];exact (jD7 _ _).drew
      rw [<- hy0] at hH;rw [<- hy0];clear hy0;have pE:jGj w5.heap.size w5 y0:=hH;refine ML (i:=9) (j:=15) rfl rfl (by kernel_rfl) (fun KQ hK=>?_) (fun KQ hK=>?_)
      case' refine_1=>
       go_simp;obtain ⟨y1,hN⟩:∃ z,z=y0.alloc (.cells #[.string ⟨#[105,100]⟩,.string (⟨#[110,111,116,101,45]⟩++yi),.string ⟨#[99,108,97,115,115]⟩,.string ⟨#[110,111,116,101]⟩] 61):=⟨_,rfl⟩;obtain ⟨pp,hf⟩:∃ z,z=y0.heap.size:=⟨_,rfl⟩;have PRX:=(aF.aD [⟨jT,Bw++yi⟩,⟨dx,dO⟩] (fun _=>False) y0 (by simp) (by simp));have Hr:jGj y0.heap.size y0 y1/\Rd (y0.heap.size<=·) y1 (q32 [⟨jT,Bw++yi⟩,⟨dx,dO⟩]) [.slice (some ⟨pp,0,none⟩) 2 2]:=by rw [hN,hf];exact ⟨PRX.aM,PRX.bZ⟩
       clear PRX;rw [<- hN,<- hf];have Gw:jGj wr.heap.size wr y1:=MG.trans (Hr.1.mono MG.size);have B1:jGj w5.heap.size w5 y1:=HB.out.trans (Gw.mono HB.out.size);have jsq:=hid (Hr.2.weaken (ok':=(wr.heap.size<=·)) (fun b hb=>jD9 MG.size hb));clear Hr hN hf;refine hK.out _ _ (fun _ _=>B1) (fun hH2=>?_);clear hK KQ hH;refine aL ?_;clear hH2;intro hH;refine fH (i:=15) rfl (by kernel_rfl) (fun KQ hK=>?_);go_simp;go_at_call 46
       (with_reducible refine (IC.out y1 B1).mono ?_)
       rintro e y2 ⟨dD,v3,rfl,hrow3⟩;obtain ⟨a3,n3,c3,rfl⟩:=hrow3.slice3;have Xe:jGj wr.heap.size wr y2:=Gw.trans (hrow3.aM.mono Gw.size);have B2:jGj w5.heap.size w5 y2:=HB.out.trans (Xe.mono HB.out.size);have jc6:=hid (show Rd (wr.heap.size<=·) y2 (gD (ah.aV lY)) [.slice a3 n3 c3] from hrow3.bZ.weaken (fun b hb=>jD9 Gw.size hb));have Hl:=hid (jsq.out.bC hrow3.aM);clear hrow3
      case' refine_2=>
       go_simp;go_at_call 46
       (with_reducible refine (IC.out y0 pE).mono ?_)
       rintro e y1 ⟨dD,v3,rfl,hrow3⟩;obtain ⟨a3,n3,c3,rfl⟩:=hrow3.slice3;have Gw:jGj wr.heap.size wr y1:=MG.trans (hrow3.aM.mono MG.size);have B1:jGj w5.heap.size w5 y1:=HB.out.trans (Gw.mono HB.out.size);have jsx:=hid (show Rd (wr.heap.size<=·) y1 (gD (ah.aV lY)) [.slice a3 n3 c3] from hrow3.bZ.weaken (fun b hb=>jD9 MG.size hb));clear hrow3;refine hK.out _ _ (fun _ _=>B1) (fun hH2=>?_);clear hK KQ hH;refine aL ?_;clear hH2;intro hH;refine Co ?_;intro KQ hK;obtain ⟨y2,hN⟩:∃ z,z=y1.alloc (.cells #[.string ⟨#[105,100]⟩,.string (⟨#[110,111,116,101,45]⟩++yi),.string ⟨#[99,108,97,115,115]⟩,.string ⟨#[110,111,116,101]⟩] 61):=⟨_,rfl⟩;obtain ⟨pp,hf⟩:∃ z,z=y1.heap.size:=⟨_,rfl⟩;have PRX:=(aF.aD [⟨jT,Bw++yi⟩,⟨dx,dO⟩] (fun _=>False) y1 (by simp) (by simp));have Hr:jGj y1.heap.size y1 y2/\Rd (y1.heap.size<=·) y2 (q32 [⟨jT,Bw++yi⟩,⟨dx,dO⟩]) [.slice (some ⟨pp,0,none⟩) 2 2]:=by rw [hN,hf];exact ⟨PRX.aM,PRX.bZ⟩
       clear PRX;rw [<- hN,<- hf];have Xe:jGj wr.heap.size wr y2:=Gw.trans (Hr.1.mono Gw.size);have B2:jGj w5.heap.size w5 y2:=HB.out.trans (Xe.mono HB.out.size);have Hl:=hid (Hr.2.weaken (ok':=(wr.heap.size<=·)) (fun b hb=>jD9 Gw.size hb));have jc6:=hid (jsx.out.bC Hr.1);clear Hr hN hf
      all_goals
       refine hK.out _ _ (fun _ _=>B2) (fun hH2=>?_);clear hK KQ hH;refine aL ?_;clear hH2;intro hH;refine fH (i:=16) rfl (by kernel_rfl) (fun KQ hK=>?_);go_simp;go_at_call 48
       (with_reducible refine (nU ⟨#[100,105,118]⟩ (some ⟨pp,0,none⟩) a3 2 n3 2 c3 y2).mono ?_)
       rintro e y3 ⟨rfl,hb⟩;have B3r:jGj wr.heap.size wr y3:=Xe.trans (hb.mono Xe.size);have B3:jGj w5.heap.size w5 y3:=HB.out.trans (B3r.mono HB.out.size);have XD:=hid (show Rd (fun b=>False\/wr.heap.size<=b) y3 (aJ jS [⟨jT,Bw++yi⟩,⟨dx,dO⟩] (ah.aV lY)).d [.string ⟨#[100,105,118]⟩,.string ⟨#[]⟩,.slice (some ⟨pp,0,none⟩) 2 2,.slice a3 n3 c3] from (Nd.dJ ⟨#[100,105,118]⟩ ⟨#[]⟩ ⟨Hl.out.bC hb,jc6.out.bC hb⟩).weaken (fun b hb=>.inr hb));have U3:=hid (bg.out.below B3r);clear hb;refine hK.out _ _ (fun _ _=>B3) (fun hH2=>?_);clear hK KQ hH;refine aL ?_;clear hH2;intro hH;refine fH (i:=17) rfl (by kernel_rfl) (fun KQ hK=>?_);go_simp;refine hK.out _ _ (fun _ _=>B3.alloc B3.size _) (fun hH2=>?_);clear hK KQ hH;refine aL ?_;clear hH2;intro hH;refine fH (i:=18) rfl (by kernel_rfl) (fun KQ hK=>?_);refine lq rfl (.tmp 33) (.tmp 50) 28 rfl iN _ 80 Tryz.underlying28 qB fC fD fE rfl (by decide) U3.out (fun _=>False.elim) (aJ jS [⟨jT,Bw++yi⟩,⟨dx,dO⟩] (ah.aV lY)).d [.string ⟨#[100,105,118]⟩,.string ⟨#[]⟩,.slice (some ⟨pp,0,none⟩) 2 2,.slice a3 n3 c3] XD.out rfl Fz HM.out (by omega) (by decide) rfl rfl ?_;intro a6 c6 w6 dB hg6;have B6:jGj w5.heap.size w5 w6:=dB.aM;have HF:Hid (Nl w5 E (.slice a6 (m+1) c6) (.int .i64 ((j+1:Nat):Int)) w6):=⟨j+1,_,by have:=ZY.out;omega,rfl,by rw [gV.out];exact dB⟩;clear dB hg6;refine hK.out _ _ (fun _ _=>B6) (fun hH2=>?_);clear hK KQ hH;refine aL ?_;clear hH2;intro hH;refine fH (i:=19) rfl (by kernel_rfl) (fun KQ hK=>?_);refine nV ?_;clear hK KQ hH;refine Om (by kernel_rfl) ?_ _;clear XD U3;exact gF
     ·have q14:(yk==14)=false:=by rw [beq_eq_false_iff_ne];exact Jg
      have gV:=hid (show ((E.take (j+1)).flatMap qA).map Nd.d=ds by
       have hno:qA (.mk yk Cq yi yt yd Cr AQ sN lY)=[]:=by unfold qA;exact if_neg Jg
       rw [hsn,hno,List.append_nil,mZ.out])
      have HF:Hid (Nl w5 E (.slice av m cv) (.int .i64 ((j+1:Nat):Int)) wr):=⟨j+1,_,by have:=ZY.out;omega,rfl,by rw [gV.out];exact bg.out⟩;clear Qi hok hbl hc hR hsn hy;exact gF
    ·have hje:j=E.length:=by have:=ZY.out;omega
     have XG:=mZ.out;rw [hje,List.take_length] at XG;have jy9:=hid XG;have hm2:(E.flatMap qA).length=m:=by rw [<- HM.out,<- XG,List.length_map]
     have BB:=hid (q01 B5.out HB.out);have HO:=hid (HR5.out.below HB.out);clear hje XG;by_cases hm0:m=0
     ·have q8:¬ (0:Int)<(m:Int):=by omega
      have hN:NN=ah.aV l:=by rw [SV.out,Ji.out,if_pos (by rw [List.isEmpty_iff,<- List.length_eq_zero_iff,hm2];exact hm0),List.append_nil]
      have HF:Hid (bJ w EE NN (.returned (.tuple #[.slice a4 n4 c4,.int .i64 0])) wr):=by rw [HE.out,hN];exact ⟨_,_,rfl,(HO.out.lV B3.out.size BB.out).top⟩
      clear hN hm2;go_wp2
      go_ret2
      exact HF.out
     ·have q8:(0:Int)<(m:Int):=by omega
      have hN:NN=ah.aV l++[aJ Q9 [⟨dx,eO⟩] (E.flatMap qA)]:=by rw [SV.out,Ji.out,if_neg (by rw [List.isEmpty_iff,<- List.length_eq_zero_iff,hm2];exact hm0)]
      have HN:=hid hN;have SC:=Qm ⟨#[99,108,97,115,115]⟩ ⟨#[110,111,116,101,115]⟩ wr;rw [show bU ⟨#[99,108,97,115,115]⟩ ⟨#[110,111,116,101,115]⟩=[⟨dx,eO⟩] from rfl] at SC;have HSC:=hid SC;have ZQ:=hid (show Rd (w5.heap.size<=·) wr (gD (E.flatMap qA)) [.slice av m cv] by have h:=bg.out.bZ;rw [<- jy9.out] at h;exact h);clear hN hm2 SC;go_wp2_with fail
      (with_reducible refine HSC.out.mono ?_)
      rintro e w6 ⟨jb7,v6,rfl,dB⟩;obtain ⟨a6,c6,rfl,-,-⟩:=dB.cap (n:=1) rfl;have B6r:=hid dB.aM;have PR6:=hid (show Rd (wr.heap.size<=·) w6 (q32 [⟨dx,eO⟩]) [.slice a6 1 c6] from dB.bZ);have EC:=hid (nU ⟨#[115,101,99,116,105,111,110]⟩ a6 av 1 m c6 cv w6);clear dB HSC;go_wp2_with fail
      (with_reducible refine EC.out.mono ?_)
      rintro e w7 ⟨rfl,b7⟩;have B7r:=hid (q01 B6r.out b7);have XD:=hid (show Rd (fun b=>False\/w4.heap.size<=b) w7 (aJ Q9 [⟨dx,eO⟩] (E.flatMap qA)).d [.string ⟨#[115,101,99,116,105,111,110]⟩,.string ⟨#[]⟩,.slice a6 1 c6,.slice av m cv] from
       (Nd.dJ ⟨#[115,101,99,116,105,111,110]⟩ ⟨#[]⟩ ⟨(PR6.out.bC b7).weaken (fun b hb=>jD9 HB.out.size hb),ZQ.out.bC B7r.out⟩).weaken (fun b hb=>.inr (jD9 HZ5.out hb)))
      have U7:=hid (HO.out.below B7r.out);clear b7 EC;go_wp2_with (at_builtin;refine Oh (n:=n4) rfl _ _ 28 rfl iN _ 80 Tryz.underlying28 qB fC fD fE rfl (by decide) U7.out (fun _=>False.elim) (aJ Q9 [⟨dx,eO⟩] (E.flatMap qA)).d [.string ⟨#[115,101,99,116,105,111,110]⟩,.string ⟨#[]⟩,.slice a6 1 c6,.slice av m cv] XD.out rfl Fz HN4.out (by omega) (by decide) rfl rfl ?_)
      intro a8 c8 w8 ou hg8;have HF:Hid (bJ w EE NN (.returned (.tuple #[.slice a8 (n4+1) c8,.int .i64 0])) w8):=by rw [HE.out,HN.out];refine ⟨bD++[[.string ⟨#[115,101,99,116,105,111,110]⟩,.string ⟨#[]⟩,.slice a6 1 c6,.slice av m cv]],_,rfl,?_⟩;rw [List.map_append];exact ou.lV B3.out.size (q01 B3.out ou.aM)
      clear ou hg8 XD U7;go_wp2
      go_ret2
      exact HF.out
 ·have q1:((E0:Int) != 0)=true:=by rw [bne_iff_ne];omega
  have HF:Hid (bJ w EE NN (.returned (.tuple #[.slice none 0 0,.int .i64 (E0:Int)])) w1):=by exact Zo
  clear h0;go_wp2
  go_ret2
  exact HF.out
open Go.RowKit
open Go.RowKit
structure SmB (l:List ah):Prop where
 sm:ah.aB l
 sz:ah.aY l<=120
 il:(ah.aS l).length<=120
 al:ah.dA l<=120
theorem jnk {me:List Pr} {l:List ah} (h:TA me l):SmB l:=by have h1:=ah.EO l;have h2:=h.all;exact ⟨h.blks,by omega,by omega,h2⟩
theorem XH (me:List Pr) (l:List ah) (vm vb:Value) (w:World) (hm:Rd (·<w.heap.size) w (q32 me) [vm]) (hb:Rd (·<w.heap.size) w (nN l) [vb]) (hwm:∀ p∈me,p.wf) (hwl:ah.wT l) : Calls Tryz.prog 11 #[.agg #[vm,vb]] w fun e w'=>∃ b,e=.returned (.bool b)/\(b=true->TA me l/\SmB l)/\jGj w.heap.size w w':=
 (OT me l vm vb w hm hb hwm hwl).mono fun e w' ⟨b,h1,h2,h3⟩=>⟨b,h1,fun h=>⟨h2 h,jnk (h2 h)⟩,h3⟩
theorem XI (l:List ah) (v:Value) (w:World) (h:Rd (·<w.heap.size) w (nN l) [v]) (hwl:ah.wT l) (hll:l.length<=reachBytes) (ht:PT w) : Calls Tryz.prog 3 #[v] w (eX (.bool true) w):=by
 obtain ⟨a,n,cap,rfl⟩:=Rd.au h;have SM:=hid (XH [] l (.slice none 0 0) _ w (Rd.aC _ _ _) h (by simp) hwl);have H:=hid h;have pJ:Hid (∀ W,jGj w.heap.size w W->PT W):=fun W hW=>ht.below hW
 clear h ht;go_enter Tryz.func3,Tryz.ntmps3;go_wp2_with fail
 refine SM.out.mono ?_;rintro e w1 ⟨b,rfl,hsm,b1⟩;have B1:=hid b1;cases b with
 | false=>
  have AW:=hid (Nk w1 (pJ.out _ b1));clear hsm b1;go_wp2_with fail
  refine AW.out.mono ?_;rintro e w2 ⟨rfl,b2⟩;have HF:=hid (q01 B1.out b2);clear b2;go_wp2;go_ret;exact ⟨rfl,HF.out⟩
 | true=>
  have hd:=(hsm rfl).2;have TL:=hid (xw l _ w1 (H.out.up b1) hd.sm (by have:=hd.sz;omega) (by have:=hd.il;omega) (ah.kR l hd.sm) (pJ.out _ b1));have RL:=hid (fun (w2:World) (h:jGj w.heap.size w w2)=>XF l _ w2 (H.out.up h) hd.sm (by have:=hd.sz;omega) (by have:=hd.il;omega));clear hsm b1 hd SM;generalize Bo l=E at *;generalize Q7 l=N at *;go_wp2_with fail
  refine TL.out.mono ?_;rintro e w2 ⟨aZ,v2,rfl,hrow2⟩;obtain ⟨a2,n2,c2,rfl⟩:=hrow2.slice3;have B2:=hid (q01 B1.out hrow2.aM);have R2:=hid (bJ.rd hrow2);have RL2:=hid (RL.out w2 B2.out);clear hrow2 TL RL;go_wp2_with fail
  refine RL2.out.mono ?_;rintro e w3 ⟨dD,v3,rfl,hrow3⟩;obtain ⟨a3,n3,c3,rfl⟩:=hrow3.slice3;have B3:=hid (q01 B2.out hrow3.aM);have SC:=hid (jk8 N _ _ w3 (Rd.keep (fun b _ h2=>⟨h2,rfl⟩) _ _ (R2.out.bC hrow3.aM)) (Rd.keep (fun b _ h2=>⟨h2,rfl⟩) _ _ (bJ.rd hrow3)));clear hrow3 RL2 R2;go_wp2_with fail
  refine SC.out.mono ?_;rintro e w4 ⟨rfl,b4⟩;have B4:=hid (q01 B3.out b4);have AW:=hid (Nk w4 (pJ.out _ B4.out));clear b4 SC;go_wp2_with fail
  refine AW.out.mono ?_;rintro e w5 ⟨rfl,b5⟩;have HF:=hid (q01 B4.out b5);clear b5 AW;go_wp2;go_ret;exact ⟨rfl,HF.out⟩
end Go.Proofs.YtkfnkeflalcphaaGreatDoor

