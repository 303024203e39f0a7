/- The small case of layer 39: the walk. publisherlaw39.BoxesCheck: its argument read, the walk of 'short' and the law's own walk. -/
import Derived.Test.YtnmldmofggkoeaaGreatDoorKBxU
set_option maxHeartbeats 8000000
set_option maxRecDepth 100000
open Go.Lib (hid)
namespace Go.Proofs.YtnmldmofggkoeaaGreatDoor
open List renaming setIfInBounds_toArray->XO,set_cons_zero->XP,set_cons_succ->XQ,getElem?_eq_getElem->XR
open Go.RowKit.Below renaming refl->XT
open Nat renaming le_refl->XU
open Go.World renaming size_alloc->Ya
open Go.RowKit renaming Below->YK
open Go.RowKit
set_option linter.unusedVariables false
set_option linter.unusedSimpArgs false
theorem yw {ok:Nat->Prop} {w:World} {d:D} {cs:List Value} (h:Rd ok w d cs):Rd (·<w.heap.size) w d cs:=Rd.keep (fun b _ hlt=>⟨hlt,rfl⟩) _ _ h
theorem Gd (w5:World) (p:Nat) (k:CB 52 p (yE ⟨#[97]⟩) w5):∃ w9 wX,w9=(((w5.alloc (.cells (qc p).toArray 47)).alloc (.cells (iC 9 0 ⟨#[]⟩ (.slice none 0 0) (.slice (some ⟨w5.heap.size,0,none⟩) 1 1)).toArray 47)).alloc (.cells (iC 7 0 ⟨#[]⟩ (.slice none 0 0) (.slice (some ⟨w5.heap.size+1,0,none⟩) 1 1)).toArray 47)).alloc (.cells (iC 6 0 ⟨#[]⟩ (.slice none 0 0) (.slice (some ⟨w5.heap.size+1+1,0,none⟩) 1 1)).toArray 47) /\ wX=w9.alloc (.cells (iC 6 0 ⟨#[]⟩ (.slice none 0 0) (.slice (some ⟨w5.heap.size+1+1,0,none⟩) 1 1)).toArray 47)/\w9.heap.size=w5.heap.size+1+1+1+1/\CB 47 (w5.heap.size+1+1+1) (iC 6 0 ⟨#[]⟩ (.slice none 0 0) (.slice (some ⟨w5.heap.size+1+1,0,none⟩) 1 1)) w9/\YK w5.heap.size w5 w9/\YK w5.heap.size w5 wX /\ Rd (·<wX.heap.size) wX (aY Ie) [.slice (some ⟨w9.heap.size,0,none⟩) 1 1]:=by
 obtain ⟨w6,xk⟩:∃ w6,w6=w5.alloc (.cells (qc p).toArray 47):=⟨_,rfl⟩;have z6:w6.heap.size=w5.heap.size+1:=by rw [xk,Ya]
 obtain ⟨w7,hw7⟩:∃ w7,w7=w6.alloc (.cells (iC 9 0 ⟨#[]⟩ (.slice none 0 0) (.slice (some ⟨w5.heap.size,0,none⟩) 1 1)).toArray 47):=⟨_,rfl⟩;have z7:w7.heap.size=w5.heap.size+1+1:=by rw [hw7,Ya,z6]
 obtain ⟨w8,hw8⟩:∃ w8,w8=w7.alloc (.cells (iC 7 0 ⟨#[]⟩ (.slice none 0 0) (.slice (some ⟨w5.heap.size+1,0,none⟩) 1 1)).toArray 47):=⟨_,rfl⟩;have z8:w8.heap.size=w5.heap.size+1+1+1:=by rw [hw8,Ya,z7]
 obtain ⟨w9,AZ⟩:∃ w9,w9=w8.alloc (.cells (iC 6 0 ⟨#[]⟩ (.slice none 0 0) (.slice (some ⟨w5.heap.size+1+1,0,none⟩) 1 1)).toArray 47):=⟨_,rfl⟩;have z9:w9.heap.size=w5.heap.size+1+1+1+1:=by rw [AZ,Ya,z8]
 obtain ⟨wX,yx⟩:∃ wX,wX=w9.alloc (.cells (iC 6 0 ⟨#[]⟩ (.slice none 0 0) (.slice (some ⟨w5.heap.size+1+1,0,none⟩) 1 1)).toArray 47):=⟨_,rfl⟩;have b6:YK w5.heap.size w5 w6:=by rw [xk];exact (XT _ _).alloc (XU _) _
 have b7:YK w6.heap.size w6 w7:=by rw [hw7];exact (XT _ _).alloc (XU _) _
 have b8:YK w7.heap.size w7 w8:=by rw [hw8];exact (XT _ _).alloc (XU _) _
 have b9:YK w8.heap.size w8 w9:=by rw [AZ];exact (XT _ _).alloc (XU _) _
 have b10:YK w9.heap.size w9 wX:=by rw [yx];exact (XT _ _).alloc (XU _) _
 have k6:CB 47 w5.heap.size (qc p) w6:=by rw [xk];exact CB.new _ _ _
 have k7:CB 47 (w5.heap.size+1) (iC 9 0 ⟨#[]⟩ (.slice none 0 0) (.slice (some ⟨w5.heap.size,0,none⟩) 1 1)) w7:=by rw [hw7,<- z6];exact CB.new _ _ _
 have k8:CB 47 (w5.heap.size+1+1) (iC 7 0 ⟨#[]⟩ (.slice none 0 0) (.slice (some ⟨w5.heap.size+1,0,none⟩) 1 1)) w8:=by rw [hw8,<- z7];exact CB.new _ _ _
 have k9:CB 47 (w5.heap.size+1+1+1) (iC 6 0 ⟨#[]⟩ (.slice none 0 0) (.slice (some ⟨w5.heap.size+1+1,0,none⟩) 1 1)) w9:=by rw [AZ,<- z8];exact CB.new _ _ _
 have k10:CB 47 w9.heap.size (iC 6 0 ⟨#[]⟩ (.slice none 0 0) (.slice (some ⟨w5.heap.size+1+1,0,none⟩) 1 1)) wX:=by rw [yx];exact CB.new _ _ _
 have Nn:=aL (aL (aL (aL b6 b7) b8) b9) b10;have h1:Rd (fun _=>True) wX (aY Po) [.slice (some ⟨w5.heap.size,0,none⟩) 1 1]:=uU (jO 1 0 _ (rZ (k.below Nn) _ trivial) (Rd.aJ _ _ _)) rfl ((((k6.below b7).below b8).below b9).below b10) trivial;have h2:Rd (fun _=>True) wX (aY QM) [.slice (some ⟨w5.heap.size+1,0,none⟩) 1 1]:=uU (jO 9 0 _ (Rd.aJ _ _ _) h1) rfl (((k7.below b8).below b9).below b10) trivial;have h3:Rd (fun _=>True) wX (aY Pp) [.slice (some ⟨w5.heap.size+1+1,0,none⟩) 1 1]:=uU (jO 7 0 _ (Rd.aJ _ _ _) h2) rfl ((k8.below b9).below b10) trivial;have h4:Rd (fun _=>True) wX (aY Ie) [.slice (some ⟨w9.heap.size,0,none⟩) 1 1]:=uU (jO 6 0 _ (Rd.aJ _ _ _) h3) rfl k10 trivial;exact ⟨w9,wX,by rw [AZ,hw8,hw7,xk],yx,z9,k9,aL (aL (aL b6 b7) b8) b9,Nn,yw h4⟩
theorem Ki {ok:Nat->Prop} {w:World} {v:Value} (h:Rd ok w (.sl 6 (Fh.map Bx.d)) [v]):∃ b off c aa ca,v=.slice (some ⟨b,off,none⟩) 2 c/\2<=c/\c<=9223372036854775807 /\ ∀ w',YK w.heap.size w w'->(w'.cell? ⟨b,off,none⟩=some (.string ⟨#[65]⟩)/\w'.cell? ⟨b,off+1,none⟩=some (.int .i64 2)/\w'.cell? ⟨b,off+3,none⟩=some (.bool true)/\w'.cell? ⟨b,off+5,none⟩=some (.slice aa 1 ca)/\w'.cell? ⟨b,off+6+2,none⟩=some (.int .i64 1)):=by
 obtain ⟨a,c,hv,hs⟩:=Rd.aC h;obtain rfl:v=.slice a 2 c:=by simpa [Fh] using hv
 obtain ⟨b,off,va,rfl,-,-,⟨c0,c1,c2,c3,c4,c5⟩,hva⟩:=gM hs (k:=0) rfl;obtain ⟨b',off',Tk,ha,-,-,⟨d0,d1,d2,d3,d4,d5⟩,-⟩:=gM hs (k:=1) rfl;obtain ⟨rfl,rfl⟩:b=b'/\off=off':=by simpa using ha
 obtain ⟨aa,ca,hvv,hsa⟩:=Rd.aC hva;obtain rfl:va=.slice aa 1 ca:=by simpa using hvv
 simp only [Nat.zero_mul,Nat.add_zero,Nat.one_mul] at c0 c1 c3 c5 d2;have h1:=hs.le;have h2:=hs.max;unfold maxLen at h2;simp [Fh] at h1;refine ⟨b,off,c,aa,ca,rfl,h1,by omega,fun w' hb=>?_⟩;have e1:∀ j x,w.cell? ⟨b,j,none⟩=some x->w'.cell? ⟨b,j,none⟩=some x:=fun j x e=>by rw [hb.cell (p:=⟨b,j,none⟩) (fJ e)];exact e
 exact ⟨e1 _ _ c0,e1 _ _ c1,e1 _ _ c3,e1 _ _ c5,e1 _ _ d2⟩
theorem Kj {ok:Nat->Prop} {w:World} {v:Value} (h:Rd ok w (.sl 6 (Lu.map Bx.d)) [v]):∃ b off c,v=.slice (some ⟨b,off,none⟩) 1 c/\1<=c/\c<=9223372036854775807 /\ ∀ w',YK w.heap.size w w'->(w'.cell? ⟨b,off,none⟩=some (.string ⟨#[62,32,45,32,97]⟩)):=by
 obtain ⟨a,c,hv,hs⟩:=Rd.aC h;obtain rfl:v=.slice a 1 c:=by simpa [Lu] using hv
 obtain ⟨b,off,va,rfl,-,-,⟨c0,c1,c2,c3,c4,c5⟩,hva⟩:=gM hs (k:=0) rfl;simp only [Nat.zero_mul,Nat.add_zero] at c0;have h1:=hs.le;have h2:=hs.max;unfold maxLen at h2;simp [Lu] at h1;refine ⟨b,off,c,rfl,h1,by omega,fun w' hb=>?_⟩;rw [hb.cell (p:=⟨b,off,none⟩) (fJ c0)];exact c0
theorem Kk {ok:Nat->Prop} {w:World} {v:Value} (h:Rd ok w (.sl 6 (Lv.map Bx.d)) [v]):∃ b off c,v=.slice (some ⟨b,off,none⟩) 3 c/\3<=c/\c<=9223372036854775807 /\ ∀ w',YK w.heap.size w w'->(w'.cell? ⟨b,off+3,none⟩=some (.bool true)/\w'.cell? ⟨b,off+6+3,none⟩=some (.bool true)/\w'.cell? ⟨b,off+12+3,none⟩=some (.bool false)):=by
 obtain ⟨a,c,hv,hs⟩:=Rd.aC h;obtain rfl:v=.slice a 3 c:=by simpa [Lv] using hv
 obtain ⟨b,off,va,rfl,-,-,⟨c0,c1,c2,c3,c4,c5⟩,hva⟩:=gM hs (k:=0) rfl;obtain ⟨b',off',Tk,ha,-,-,⟨d0,d1,d2,d3,d4,d5⟩,-⟩:=gM hs (k:=1) rfl;obtain ⟨rfl,rfl⟩:b=b'/\off=off':=by simpa using ha
 obtain ⟨b',off',Tk,ha,-,-,⟨e0,e1,e2,e3,e4,e5⟩,-⟩:=gM hs (k:=2) rfl;obtain ⟨rfl,rfl⟩:b=b'/\off=off':=by simpa using ha
 simp only [Nat.zero_mul,Nat.add_zero,Nat.one_mul,show 2*6=12 from rfl] at c3 d3 e3;have h1:=hs.le;have h2:=hs.max;unfold maxLen at h2;simp [Lv] at h1;refine ⟨b,off,c,rfl,h1,by omega,fun w' hb=>?_⟩;have f:∀ j x,w.cell? ⟨b,j,none⟩=some x->w'.cell? ⟨b,j,none⟩=some x:=fun j x e=>by rw [hb.cell (p:=⟨b,j,none⟩) (fJ e)];exact e
 exact ⟨f _ _ c3,f _ _ d3,f _ _ e3⟩
theorem DZ:∀ x∈Fh,x.fine:=by
 intro x hx;simp [Fh] at hx;rcases hx with rfl | rfl
 ·exact ⟨by decide,by decide,fun s hs=>by simp at hs;subst hs;decide⟩
 ·exact ⟨by decide,by decide,fun s hs=>by simp at hs⟩
theorem D5:∀ x∈[(⟨⟨#[]⟩,0,0,false,false,[]⟩:Bx)],x.fine:=by intro x hx;simp at hx;subst hx;exact ⟨by decide,by decide,fun s hs=>by simp at hs⟩
theorem zJ (w:World) (ht:TabAt w) (hml:kG w):Calls Tryz.prog 7 #[] w (dA (.bool true) w):=by
 obtain ⟨S,hS⟩:∃ S,S=w.heap.size:=⟨_,rfl⟩;obtain ⟨wa,DI⟩:∃ wa,wa=w.alloc (.cells (yE ⟨#[65]⟩).toArray 52):=⟨_,rfl⟩;have za:wa.heap.size=S+1:=by rw [DI,Ya,hS]
 obtain ⟨w1,hw1⟩:∃ w1,w1=wa.alloc (.cells (iC 2 1 ⟨#[97]⟩ (.slice (some ⟨S,0,none⟩) 1 1) (.slice none 0 0)).toArray 47):=⟨_,rfl⟩;have ka:CB 52 S (yE ⟨#[65]⟩) wa:=by rw [DI,hS];exact CB.new _ _ _
 have k1:CB 47 (S+1) (iC 2 1 ⟨#[97]⟩ (.slice (some ⟨S,0,none⟩) 1 1) (.slice none 0 0)) w1:=by rw [hw1,<- za];exact CB.new _ _ _
 have ba:YK w.heap.size w wa:=by rw [DI];exact (XT _ _).alloc (XU _) _
 have b1:YK wa.heap.size wa w1:=by rw [hw1];exact (XT _ _).alloc (XU _) _
 have B1:=hid (aL ba b1);have KH:=hid k1;have KI:=hid (ka.below b1);have HT:=hid ht;have HM:=hid hml;have VF:=hid (fun w=>yu ⟨#[98]⟩ w);have Tm:=hid (fun w=>yu ⟨#[97]⟩ w);have Tp:=hid (fun w=>yu ⟨#[109,32,109,32,109]⟩ w);have SS:(fun w'=>CB 47 (S+1) (iC 2 1 ⟨#[97]⟩ (.slice (some ⟨S,0,none⟩) 1 1) (.slice none 0 0)) w') w1.drew:=k1;rw [hS] at SS KH KI;simp only [yE] at DI;simp only [iC,hS] at hw1;subst DI;clear hS ka k1 ba b1 ht hml za;go_enter Tryz.func7,Tryz.ntmps7;go_wp2_with fail
 rw [<- hw1];clear hw1;refine iO 9 (fun w'=>CB 47 (w.heap.size+1) (iC 2 1 ⟨#[97]⟩ (.slice (some ⟨w.heap.size,0,none⟩) 1 1) (.slice none 0 0)) w') (by kernel_rfl) SS ?_;intro hH;refine iE 0 rfl (by kernel_rfl) hH (by rfl) (by intro wv hSw;(have d0:=CB.cell hSw 0 _ rfl;have d1:=CB.cell hSw 1 _ rfl;have d2:=CB.cell hSw 2 _ rfl;have d3:=CB.cell hSw 3 _ rfl;have d4:=CB.cell hSw 4 _ rfl;have d5:=CB.cell hSw 5 _ rfl;have d6:=CB.cell hSw 6 _ rfl;have d7:=CB.cell hSw 7 _ rfl;have d8:=CB.cell hSw 8 _ rfl;have d9:=CB.cell hSw 9 _ rfl;have d10:=CB.cell hSw 10 _ rfl);go_simp;try with_reducible rfl) ?_;try simp only [Act.put,XO,XP,XQ]
 refine Fb (i:=1) rfl (by kernel_rfl) (fun KQ hK=>?_);go_simp;go_at_call 14
 (with_reducible refine (VF.out _).mono ?_)
 rintro e w2 ⟨p2,rfl,hp2,Tq,b2⟩;have B2:=hid (B1.out.drew.trans (b2.mono B1.out.size));have Tt:=hid (KH.out.below ((XT _ w1).drew.trans b2));have Tv:=KI.out.below ((XT _ w1).drew.trans b2);obtain ⟨s2,hs2⟩:∃ s2,s2=w2.heap.size:=⟨_,rfl⟩;obtain ⟨w3,hw3⟩:∃ w3,w3=w2.alloc (.cells ((iC 2 1 ⟨#[97]⟩ (.slice (some ⟨w.heap.size,0,none⟩) 1 1) (.slice none 0 0))++qc p2).toArray 47):=⟨_,rfl⟩;have k3:CB 47 s2 ((iC 2 1 ⟨#[97]⟩ (.slice (some ⟨w.heap.size,0,none⟩) 1 1) (.slice none 0 0))++qc p2) w3:=by rw [hw3,hs2];exact CB.new _ _ _
 have b3:YK w2.heap.size w2 w3:=by rw [hw3];exact (XT _ _).alloc (XU _) _
 have hd1:Rd (fun _=>True) w3 (aY Ke) [.slice (some ⟨s2,0,none⟩) 2 2]:=Nc (jO 2 1 _ (rZ (Tv.below b3) _ trivial) (Rd.aJ _ _ _)) rfl (jO 1 0 _ (rZ (Tq.below b3) _ trivial) (Rd.aJ _ _ _)) rfl k3 trivial;have B3:=hid (aL B2.out b3);have Tw:=hid (Ga w3 _ _ _ (yw hd1) (HT.out.below B3.out) (HM.out.below B3.out));have Tx:=hid (Tt.out.below b3);simp only [iC,qc,List.cons_append,List.nil_append] at hw3;clear hp2 Tq b2 Tv k3 b3 hd1;refine hK.out _ _ (fun _ _=>Tt.out) (fun hH2=>?_);clear hK KQ hH;have hH:=hH2 (by decide) (by kernel_rfl);clear hH2;try simp only [Act.put,XO,XP,XQ]
 try simp only [Act.put,XO,XP,XQ]
 refine Fb (i:=2) rfl (by kernel_rfl) (fun KQ hK=>?_);simp only [qc,iC];go_simp;rw [<- hw3,<- hs2];clear hw3 hs2;refine hK.out _ _ (fun _ _=>Tx.out) (fun hH2=>?_);clear hK KQ hH;have hH:=hH2 (by decide) (by kernel_rfl);clear hH2;try simp only [Act.put,XO,XP,XQ]
 refine iE 3 rfl (by kernel_rfl) hH (by rfl) (by intro wv hSw;(have d0:=CB.cell hSw 0 _ rfl;have d1:=CB.cell hSw 1 _ rfl;have d2:=CB.cell hSw 2 _ rfl;have d3:=CB.cell hSw 3 _ rfl;have d4:=CB.cell hSw 4 _ rfl;have d5:=CB.cell hSw 5 _ rfl;have d6:=CB.cell hSw 6 _ rfl;have d7:=CB.cell hSw 7 _ rfl;have d8:=CB.cell hSw 8 _ rfl;have d9:=CB.cell hSw 9 _ rfl;have d10:=CB.cell hSw 10 _ rfl);go_simp;try with_reducible rfl) ?_;try simp only [Act.put,XO,XP,XQ]
 refine Fb (i:=4) rfl (by kernel_rfl) (fun KQ hK=>?_);go_simp;go_at_call 11
 (with_reducible refine Tw.out.mono ?_)
 rintro e w4 ⟨v1,rfl,hr1,b4⟩;have B4:=hid (aL B3.out b4);have VG:=hid (Tx.out.below b4);have HR1:=hid (yw hr1);clear hr1 b4;refine hK.out _ _ (fun _ _=>VG.out) (fun hH2=>?_);clear hK KQ hH;have hH:=hH2 (by decide) (by kernel_rfl);clear hH2;try simp only [Act.put,XO,XP,XQ]
 refine iE 5 rfl (by kernel_rfl) hH (by rfl) (by intro wv hSw;(have d0:=CB.cell hSw 0 _ rfl;have d1:=CB.cell hSw 1 _ rfl;have d2:=CB.cell hSw 2 _ rfl;have d3:=CB.cell hSw 3 _ rfl;have d4:=CB.cell hSw 4 _ rfl;have d5:=CB.cell hSw 5 _ rfl;have d6:=CB.cell hSw 6 _ rfl;have d7:=CB.cell hSw 7 _ rfl;have d8:=CB.cell hSw 8 _ rfl;have d9:=CB.cell hSw 9 _ rfl;have d10:=CB.cell hSw 10 _ rfl);go_simp;try with_reducible rfl) ?_;refine iE 6 rfl (by kernel_rfl) hH (by rfl) (by intro wv hSw;(have d0:=CB.cell hSw 0 _ rfl;have d1:=CB.cell hSw 1 _ rfl;have d2:=CB.cell hSw 2 _ rfl;have d3:=CB.cell hSw 3 _ rfl;have d4:=CB.cell hSw 4 _ rfl;have d5:=CB.cell hSw 5 _ rfl;have d6:=CB.cell hSw 6 _ rfl;have d7:=CB.cell hSw 7 _ rfl;have d8:=CB.cell hSw 8 _ rfl;have d9:=CB.cell hSw 9 _ rfl;have d10:=CB.cell hSw 10 _ rfl);go_simp;try with_reducible rfl) ?_;refine iE 7 rfl (by kernel_rfl) hH (by rfl) (by intro wv hSw;(have d0:=CB.cell hSw 0 _ rfl;have d1:=CB.cell hSw 1 _ rfl;have d2:=CB.cell hSw 2 _ rfl;have d3:=CB.cell hSw 3 _ rfl;have d4:=CB.cell hSw 4 _ rfl;have d5:=CB.cell hSw 5 _ rfl;have d6:=CB.cell hSw 6 _ rfl;have d7:=CB.cell hSw 7 _ rfl;have d8:=CB.cell hSw 8 _ rfl;have d9:=CB.cell hSw 9 _ rfl;have d10:=CB.cell hSw 10 _ rfl);go_simp;try with_reducible rfl) ?_;refine iE 8 rfl (by kernel_rfl) hH (by rfl) (by intro wv hSw;(have d0:=CB.cell hSw 0 _ rfl;have d1:=CB.cell hSw 1 _ rfl;have d2:=CB.cell hSw 2 _ rfl;have d3:=CB.cell hSw 3 _ rfl;have d4:=CB.cell hSw 4 _ rfl;have d5:=CB.cell hSw 5 _ rfl;have d6:=CB.cell hSw 6 _ rfl;have d7:=CB.cell hSw 7 _ rfl;have d8:=CB.cell hSw 8 _ rfl;have d9:=CB.cell hSw 9 _ rfl;have d10:=CB.cell hSw 10 _ rfl);go_simp;try with_reducible rfl) ?_;try simp only [Act.put,XO,XP,XQ]
 refine Fb (i:=9) rfl (by kernel_rfl) (fun KQ hK=>?_);go_simp;refine hK.out _ _ (fun h _=>absurd rfl h) (fun _=>?_);clear hK KQ;refine iP (by kernel_rfl) ?_ _;go_wp2_with fail
 (with_reducible refine (Tm.out _).mono ?_)
 rintro e w5 ⟨p5,rfl,VH,Tz,b5⟩;obtain ⟨w9,wX,AZ,yx,z9,k9,b9,b10,Np⟩:=Gd w5 p5 Tz;have B5:=hid (aL B4.out b5);have VI:=hid b5;have B9:=hid b9;have B10:=hid b10;have TA:=hid (Gb wX _ _ _ Np (HT.out.below (aL B5.out b10)) (HM.out.below (aL B5.out b10)));have K9:=hid k9;obtain ⟨s5,hs5⟩:∃ s5,s5=w5.heap.size:=⟨_,rfl⟩;have Xo:=hid z9;have r0:=K9.out.cell 0 _ rfl;have r1:=K9.out.cell 1 _ rfl;have r2:=K9.out.cell 2 _ rfl;have r3:=K9.out.cell 3 _ rfl;have r4:=K9.out.cell 4 _ rfl;have r5:=K9.out.cell 5 _ rfl;have r6:=K9.out.cell 6 _ rfl;have r7:=K9.out.cell 7 _ rfl;have r8:=K9.out.cell 8 _ rfl;have r9:=K9.out.cell 9 _ rfl;have Nl:=K9.out.cell 10 _ rfl;simp only [qc,iC] at AZ yx;clear VH Tz b5 k9 b9 b10 Np z9;simp only [qc,iC];go_upto_region 4 with (fail)
 rw [<- AZ];clear AZ hs5;go_wp2_with fail
 rw [<- yx];clear yx r0 r1 r2 r3 r4 r5 r6 r7 r8 r9 Nl
 (with_reducible refine TA.out.mono ?_)
 rintro e Xp ⟨v2,rfl,hr2,b11⟩;have B11:=hid (aL (aL B5.out B10.out) b11);have QN:=hid (aL (aL VI.out B10.out) b11);have HR2:=hid (yw hr2);clear hr2 b11 TA Tw Tm;go_wp2_with fail
 (with_reducible refine (Tp.out _).mono ?_)
 rintro e Nq ⟨TD,rfl,QO,Nr,b12⟩;obtain ⟨LB,D6⟩:∃ LB,LB=Nq.alloc (.cells (qc TD).toArray 47):=⟨_,rfl⟩;have k13:CB 47 Nq.heap.size (qc TD) LB:=by rw [D6];exact CB.new _ _ _
 have b13:YK Nq.heap.size Nq LB:=by rw [D6];exact (XT _ _).alloc (XU _) _
 have hd3:Rd (fun _=>True) LB (aY Kg) [.slice (some ⟨Nq.heap.size,0,none⟩) 1 1]:=uU (jO 1 0 _ (rZ (Nr.below b13) _ trivial) (Rd.aJ _ _ _)) rfl k13 trivial;have QS:=hid (aL (aL B11.out b12) b13);have Ns:=hid (aL b12 b13);have TF:=hid (Gc LB _ _ _ (yw hd3) (HT.out.below QS.out) (HM.out.below QS.out));simp only [qc,iC] at D6;simp only [qc,iC];clear QO Nr b12 k13 b13 hd3 Tp;go_wp2_with fail
 rw [<- D6];clear D6
 (with_reducible refine TF.out.mono ?_)
 rintro e Pq ⟨v3,rfl,hr3,b14⟩;have VJ:=hid (aL QS.out b14);have Ih:=hid (aL Ns.out b14);have Nt:=hid (aL QN.out Ih.out);have HR3:=hid (yw hr3);clear hr3 b14 TF;obtain ⟨q1,o1,c1,aa,ca,rfl,x1,y1,F1⟩:=Ki HR1.out;obtain ⟨q2,o2,c2,rfl,x2,y2,F2⟩:=Kj HR2.out;obtain ⟨q3,o3,c3,rfl,x3,y3,F3⟩:=Kk HR3.out;obtain ⟨f0,f1,f2,f3,f4⟩:=F1 Pq Nt.out;have f5:=F2 Pq Ih.out;obtain ⟨f6,f7,f8⟩:=F3 Pq (XT _ _);have QT:=hid (iH Fh _ Pq (HR1.out.up Nt.out) DZ);rw [Na] at QT;clear F1 F2 F3;go_wp2_with fail
 (with_reducible refine QT.out.mono ?_)
 rintro e Nu ⟨rfl,b15⟩;obtain ⟨w16,hw16⟩:∃ w16,w16=Nu.alloc (.cells (bH ⟨⟨#[]⟩,0,0,false,false,[]⟩).toArray 37):=⟨_,rfl⟩;have k16:CB 37 Nu.heap.size (bH ⟨⟨#[]⟩,0,0,false,false,[]⟩) w16:=by rw [hw16];exact CB.new _ _ _
 have b16:YK Nu.heap.size Nu w16:=by rw [hw16];exact (XT _ _).alloc (XU _) _
 have hd:Rd (fun _=>True) w16 (.sl 6 ([(⟨⟨#[]⟩,0,0,false,false,[]⟩:Bx)].map Bx.d)) [.slice (some ⟨Nu.heap.size,0,none⟩) 1 1]:=
  Rd.zG (rows:=[bH ⟨⟨#[]⟩,0,0,false,false,[]⟩]) (by simp) (by unfold maxLen;decide) (aH.one (Bx.mO ⟨⟨#[]⟩,0,0,false,false,[]⟩ (Rd.aJ _ _ _))) (by simp [bH,xG]) trivial k16.lt (fun j u hu=>k16.cell j u (by simpa using hu))
 have TG:=hid (iH _ _ w16 (yw hd) D5);rw [Nb] at TG;have VK:=hid (aL (aL VJ.out b15) b16);simp only [bH,xG] at hw16;clear f0 f1 f2 f3 f4 f5 f6 f7 f8 b15 k16 b16 hd QT;go_wp2_with fail
 rw [<- hw16];clear hw16
 (with_reducible refine TG.out.mono ?_)
 rintro e Xq ⟨rfl,b17⟩;have VL:=hid (aL VK.out b17);clear b17;go_wp2;go_ret;exact ⟨rfl,VL.out⟩
open Go.RowKit
instance:Inhabited Bx:=⟨⟨⟨#[]⟩,0,0,false,false,[]⟩⟩
theorem QU {l:List Value} (h:l.length=6):∃ a b c d e f,l=[a,b,c,d,e,f]:=by obtain ⟨a,l,rfl⟩:=List.exists_cons_of_length_eq_add_one h;obtain ⟨b,l,rfl⟩:=List.exists_cons_of_length_eq_add_one (by simpa using h);obtain ⟨c,d,e,f,rfl⟩:=QV (l:=l) (by simpa using h);exact ⟨a,b,c,d,e,f,rfl⟩
section
variable {H:Type} {enc:TypeId × Value->H} {w:World} {base:Nat} {spare:Nat->Bool} {held:Bool} {fuel:Nat} {cs:List Value} {x:DataW H × List MemPlace}
theorem TH:Tryz.prog.cellsOf 37=6:=by kernel_rfl
theorem Kl (h:DataW.trod enc Tryz.prog w base spare held fuel 37 cs=some x) (hw:yA Tryz.prog 37 x.1):∃ p:Bx,True/\Rd (·<w.heap.size) w p.d cs:=by
 obtain ⟨xs,n,rfl,QW,hlen,hxl,hf⟩:=DataW.trod_struct Tryz.underlying37 h;rw [QW] at hw;have hwf:=fun i f d=>yB Tryz.underlying37 hw i f d
 rw [TH] at hlen;obtain ⟨c0,c1,c2,c3,c4,c5,rfl⟩:=QU hlen;have f0:=hf 0 _ rfl;have f1:=hf 1 _ rfl;have f2:=hf 2 _ rfl;have f3:=hf 3 _ rfl;have f4:=hf 4 _ rfl;have f5:=hf 5 _ rfl;have hx2:xs.length=6:=by rw [hxl];rfl
 rw [XR (by omega)] at f0 f1 f2 f3 f4 f5;simp only [cS,cI,cB,VN,List.getElem_toArray,List.getElem_cons_zero,List.getElem_cons_succ,List.drop_zero,List.drop_succ_cons,List.take_succ_cons,List.take_zero] at f0 f1 f2 f3 f4 f5;obtain ⟨s0,e0,x0,_⟩:=DataW.trod_string Tryz.underlying9 f0;obtain ⟨i1,e1,_,_⟩:=DataW.trod_int Tryz.underlying3 f1;obtain ⟨i2,e2,_,_⟩:=DataW.trod_int Tryz.underlying3 f2;obtain ⟨b3,e3,_⟩:=DataW.trod_bool Tryz.underlying4 f3;obtain ⟨b4,e4,_⟩:=DataW.trod_bool Tryz.underlying4 f4;obtain ⟨an,k1,k2,k3⟩:=Gf f5 (hwf 5 _ _ rfl (by rw [List.getElem?_map,XR (by omega)];rfl));cases e0;cases e1;cases e2;cases e3;cases e4
 obtain ⟨a,n,c,hv⟩:=Rd.au k3;subst hv;exact ⟨⟨s0,i1,i2,b3,b4,an⟩,trivial,Bx.mO ⟨s0,i1,i2,b3,b4,an⟩ k3⟩
theorem D7 (h:DataW.trod enc Tryz.prog w base spare held fuel 22 cs=some x) (hw:yA Tryz.prog 22 x.1):∃ l:List Bx,Rd (·<w.heap.size) w (.sl 6 (l.map Bx.d)) cs:=by obtain ⟨l,h1,h2,h3⟩:=uW Bx.d (fun _=>True) Tryz.underlying22 TH (by decide) (fun n cs' y _ hy QX=>Kl hy QX) h hw;exact ⟨l,h3⟩
end
def sw (s:ByteArray):Bool:=decide (s.size<=300)
def qo (x:Bx):Bool:=decide (x.text.size<=300)&&(decide (x.an.length<=50)&&x.an.all sw)
def kN (l:List Bx):Bool:=decide (l.length<=100)&&l.all qo
theorem uX (l:List Bx) (v:Value) (w:World) (h:Rd (·<w.heap.size) w (.sl 6 (l.map Bx.d)) [v]) : Calls Tryz.prog 6 #[v] w fun e w'=>e=.returned (.bool (kN l))/\w=w':=by
 obtain ⟨a,c,hv,hs⟩:=Rd.aC h;obtain ⟨n,hn⟩:∃ n,n=l.length:=⟨_,rfl⟩;obtain rfl:v=.slice a n c:=by rw [hn];simpa using hv
 have hcap:n<=c:=by have:=hs.le;rw [List.length_map] at this;omega
 have hmx:=hs.max;unfold maxLen at hmx;obtain ⟨V,hV⟩:∃ V,V=kN l:=⟨_,rfl⟩;have HE:Hid (V=(decide (n<=100)&&l.all qo)):=by show V=_;rw [hV,hn];rfl
 rw [<- hV];have HN:=hid hn;have HSL:=hid hs;clear h hv hn hs hV;by_cases hbig:100<n
 ·have q1:decide ((100:Int)<(n:Int))=true:=by simp;omega
  have HV:Hid (V=false):=by show V=false;rw [HE.out,decide_eq_false (by omega)];rfl
  clear hbig HE;go_enter Tryz.func6,Tryz.ntmps6;go_wp2;go_ret;exact ⟨by rw [HV.out];rfl,rfl⟩
 have q1:decide ((100:Int)<(n:Int))=false:=by simp;omega
 have zq:Hid (V=l.all qo):=by show V=_;rw [HE.out,decide_eq_true (by omega)];rfl
 clear HE;go_enter Tryz.func6,Tryz.ntmps6;go_wp2;clear q1
 go_loop [3] (fun vi=>∃ k:Nat,k<=n/\vi=.int .i64 k/\(l.take k).all qo=true) (fun vi=>n-(intOf vi).toNat)
 case atStart=>exact ⟨0,Nat.zero_le _,rfl,rfl⟩
 case round=>
  obtain ⟨k,hk,rfl,hall⟩:=hrel;by_cases hlt:k<n
  ·obtain ⟨y,hy⟩:∃ y,l[k]?=some y:=⟨_,XR (by have:=HN.out;omega)⟩;have hsn:=oC qo hy;rw [hall,Bool.true_and] at hsn;have hno:=fun hf=>yC qo hy hf
   obtain ⟨yt,yh,yg,yk,yf,ya⟩:=y;obtain ⟨b,off,va,rfl,-,hbl,⟨c0,c1,c2,c3,c4,c5⟩,hva⟩:=gM HSL.out hy;obtain ⟨aa,ca,ug,hsa⟩:=Rd.aC hva;obtain ⟨na,hna⟩:∃ na,na=ya.length:=⟨_,rfl⟩;obtain rfl:va=.slice aa na ca:=by rw [hna];simpa using ug
   have hca:na<=ca:=by have:=hsa.le;rw [List.length_map] at this;omega
   have Cw:=hsa.max;unfold maxLen at Cw;have Jj:=hid hsa;have tq:=hid hna;have uq:=hid hsn;have zx:=hid hno;have HB:Hid (qo ⟨yt,yh,yg,yk,yf,ya⟩=(decide (yt.size<=300)&&(decide (na<=50)&&ya.all sw))):=by show _=_;rw [hna];rfl
   clear hall hy hsn hno hva ug hsa hna hbl c1 c2 c3 c4;by_cases h1:300<yt.size
   ·have q1:decide ((300:Int)<(yt.size:Int))=true:=by simp;omega
    have HV:Hid (V=false):=by show V=false;rw [zq.out];exact zx.out (by rw [HB.out,decide_eq_false (by omega)];rfl)
    clear h1;go_wp2;go_ret;exact ⟨by rw [HV.out];rfl,rfl⟩
   have q1:decide ((300:Int)<(yt.size:Int))=false:=by simp;omega
   by_cases h2:50<na
   ·have q2:decide ((50:Int)<(na:Int))=true:=by simp;omega
    have HV:Hid (V=false):=by show V=false;rw [zq.out];exact zx.out (by rw [HB.out,decide_eq_false (p:=na<=50) (by omega),Bool.false_and,Bool.and_false])
    clear h2;go_wp2;go_ret;exact ⟨by rw [HV.out];rfl,rfl⟩
   have q2:decide ((50:Int)<(na:Int))=false:=by simp;omega
   have HB2:Hid (qo ⟨yt,yh,yg,yk,yf,ya⟩=ya.all sw):=by show _=_;rw [HB.out,decide_eq_true (p:=na<=50) (by omega),decide_eq_true (p:=yt.size<=300) (by omega),Bool.true_and,Bool.true_and]
   clear h1 h2 HB;go_wp2;clear q1 q2
   go_loop [4] (fun vi=>∃ j:Nat,j<=na/\vi=.int .i64 j/\(ya.take j).all sw=true) (fun vi=>na-(intOf vi).toNat)
   case atStart=>exact ⟨0,Nat.zero_le _,rfl,rfl⟩
   case round=>
    obtain ⟨j,hj,rfl,hall⟩:=hrel;by_cases hjt:j<na
    ·obtain ⟨x,hx⟩:∃ x,ya[j]?=some x:=⟨_,XR (by have:=tq.out;omega)⟩;obtain ⟨b2,off2,rfl,-,-,f0⟩:=kF Jj.out hx;have HS2:=hid (oC sw hx);have QY:=hid (fun hf=>yC sw hx hf);have FI:=hid hall;clear hall hx;by_cases h3:300<x.size
     ·have q3:decide ((300:Int)<(x.size:Int))=true:=by simp;omega
      have HV:Hid (V=false):=by show V=false;rw [zq.out];exact zx.out (by rw [HB2.out];exact QY.out (by unfold sw;rw [decide_eq_false (by omega)]))
      clear h3;go_wp2;go_ret;exact ⟨by rw [HV.out];rfl,rfl⟩
     ·have q3:decide ((300:Int)<(x.size:Int))=false:=by simp;omega
      have HA2:Hid ((ya.take (j+1)).all sw=true):=by show _=_;rw [HS2.out,FI.out];unfold sw;rw [decide_eq_true (by omega)];rfl
      clear h3;go_wp2
      go_round
      case rel=>exact ⟨j+1,by omega,by go_num,HA2.out⟩
      case measure=>simp [intOf];omega
    ·have hjn:j=na:=by omega
     have VO:Hid ((l.take (k+1)).all qo=true):=by show _=_;rw [uq.out,HB2.out];rw [hjn,tq.out,List.take_length] at hall;exact hall
     clear hall;go_wp2
     go_round
     case rel=>exact ⟨k+1,by omega,by go_num,VO.out⟩
     case measure=>simp [intOf];omega
  ·have hkn:k=n:=by omega
   have HV:Hid (V=true):=by show V=true;rw [zq.out];rw [hkn,HN.out,List.take_length] at hall;exact hall
   clear hall;go_wp2;go_ret;exact ⟨by rw [HV.out];rfl,rfl⟩
theorem yD {l:List Bx} (h:kN l=true):∀ x∈l,x.fine:=by intro x hx;unfold kN at h;rw [Bool.and_eq_true] at h;have h2:=List.all_eq_true.1 h.2 x hx;unfold qo at h2;rw [Bool.and_eq_true,Bool.and_eq_true] at h2;have h3:=of_decide_eq_true h2.1;have h4:=of_decide_eq_true h2.2.1;refine ⟨by omega,by omega,fun s hs=>?_⟩;have h5:=of_decide_eq_true (List.all_eq_true.1 h2.2.2 s hs);omega
theorem sD (l:List Bx) (v:Value) (w:World) (h:Rd (·<w.heap.size) w (.sl 6 (l.map Bx.d)) [v]) (hp:PT w) (ht:TabAt w) (hml:kG w) : Calls Tryz.prog 3 #[v] w fun e w'=>e=.returned (.bool true)/\YK w.heap.size w w':=by
 have SH:=hid (uX l v w h);cases hsh:kN l with
 | false=>
  rw [hsh] at SH;have AW:=hid (zJ w ht hml);clear h ht hml hsh;go_enter Tryz.func3,Tryz.ntmps3;go_wp2_with fail
  refine SH.out.mono ?_;rintro e w1 ⟨rfl,rfl⟩;go_wp2_with fail
  refine AW.out.mono ?_;rintro e w2 ⟨rfl,b2⟩;go_wp2;go_ret;exact ⟨rfl,b2⟩
 | true=>
  rw [hsh] at SH;have hf:=yD hsh;have C1:=hid (iH l v w h hf);have C2:=hid (fun (w':World) (hb:YK w.heap.size w w')=>rP l v w' (h.up hb) hf);have AW:=hid (fun (w':World) (hb:YK w.heap.size w w')=>zJ w' (ht.below hb) (hml.below hb));clear h ht hml hsh hf;generalize cO l=E at *;go_enter Tryz.func3,Tryz.ntmps3;go_wp2_with fail
  refine SH.out.mono ?_;rintro e w1 ⟨rfl,rfl⟩;go_wp2_with fail
  refine C1.out.mono ?_;rintro e w2 ⟨rfl,b2⟩;have c2:=C2.out w2 b2;have B2:=hid b2;clear b2;go_wp2_with fail
  refine c2.mono ?_;rintro e w3 ⟨rfl,b3⟩;have B3:=hid (aL B2.out b3);have aw:=AW.out w3 B3.out;clear b3 c2;go_wp2_with fail
  refine aw.mono ?_;rintro e w4 ⟨rfl,b4⟩;have B4:=hid (aL B3.out b4);clear b4 aw;go_wp2;go_ret;exact ⟨rfl,B4.out⟩
end Go.Proofs.YtnmldmofggkoeaaGreatDoor

