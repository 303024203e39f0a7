/- Contracts of the code point readers of publisherref01 and of white space, over this seat's translation. The contract of publisherref01.at: the code point at a byte is the one that UTF-8 decoding gives. Contracts of publisherref01.Lower, in, Letter, bytes, Text. Contracts of publisherref01.at and publisherref01.Next: the code point at a byte is the one that UTF-8 decoding gives. Contracts of font.Width, font.Wide, publisherref37.Width and publisherref37.Wide: the plain widths. The contract of font.Wide: the plain width of a string. Contracts of publisherref37.among, wide, Width and Wide. Contracts of wrap.Center and publisherref38.Center. Contracts of publisherref38.Words and wrap.Words: both give the plain words of a string. -/
import Derived.Test.YtnmldmofggkoeaaGreatDoorKName
import Derived.Test.YtnmldmofggkoeaaGreatDoorKPlLines
import Derived.Test.YtnmldmofggkoeaaGreatDoorKShelf
set_option maxHeartbeats 8000000
set_option maxRecDepth 100000
open Go.Lib (hid)
namespace Go.Proofs.YtnmldmofggkoeaaGreatDoor
open Go.RowKit.Below renaming refl->XT
open Nat renaming le_refl->XU
open Go renaming World->YJ
open Go.RowKit
set_option linter.unusedVariables false
set_option linter.unusedSimpArgs false
theorem lg {k:IntKind} {a b:Int} (h:a=b):Ending.returned (.int k a)=.returned (.int k b):=by rw [h]
theorem BK (c:Int) (w:YJ) : Calls Tryz.prog 125 #[.int .i64 c] w fun e w'=>e=.returned (.bool (c==32||c==10))/\w=w':=by
 by_cases h:(c==32)=true
 ·go_enter Tryz.func125,Tryz.ntmps125;go_wp2;go_ret;exact ⟨by simp [h],rfl⟩
 ·have h':(c==32)=false:=by simpa using h
  go_enter Tryz.func125,Tryz.ntmps125;go_wp2;go_ret;exact ⟨by simp [h'],rfl⟩
theorem E8 (s:ByteArray) (i low high:Nat) (w:YJ) (hs:s.size<=9223372036854775807) (hl:low<256) (hh:high<256) (hi:i<9223372036854775807) : Calls Tryz.prog 66 #[.string s,.int .i64 i,.int .i64 low,.int .i64 high] w fun e w'=>e=.returned (.int .i64 (iq s i low high))/\w=w':=by
 obtain ⟨V,hV⟩:∃ V,V=iq s i low high:=⟨_,rfl⟩;rw [<- hV];unfold iq at hV;have HV:=hid hV;clear hV;have hb:=bX s i;by_cases h1:i<s.size
 ·have hw:wrap64 (s[i].toNat:Int)=(bt s i:Int):=by rw [bC s i h1];exact IntWalk.wrap64_in _ ⟨by omega,by omega⟩
  by_cases h2:low<=bt s i
  ·by_cases h3:bt s i<=high
   ·go_enter Tryz.func66,Tryz.ntmps66;go_wp2;go_ret;exact ⟨lg (by rw [HV.out,if_pos ⟨h1,h2,h3⟩]),rfl⟩
   ·go_enter Tryz.func66,Tryz.ntmps66;go_wp2;go_ret;exact ⟨lg (by rw [HV.out,if_neg (by omega)]),rfl⟩
  ·go_enter Tryz.func66,Tryz.ntmps66;go_wp2;go_ret;exact ⟨lg (by rw [HV.out,if_neg (by omega)]),rfl⟩
 ·go_enter Tryz.func66,Tryz.ntmps66;go_wp2;go_ret;exact ⟨lg (by rw [HV.out,if_neg (by omega)]),rfl⟩
theorem pW {a b c d:Int} (h1:a=c) (h2:b=d):Ending.returned (.agg #[.int .i64 a,.int .i64 b])=.returned (.agg #[.int .i64 c,.int .i64 d]):=by rw [h1,h2]
def La (s:ByteArray) (i low high v:Int):Prop:=
 ∀ w:YJ,Calls Tryz.prog 66 #[.string s,.int .i64 i,.int .i64 low,.int .i64 high] w fun e w'=>e=.returned (.int .i64 v)/\w=w'
theorem jC (s:ByteArray) (i low high:Nat) (j:Int) (hj:j=(i:Int)) (hs:s.size<=140737488355328) (hl:low<256) (hh:high<256) (hi:i<9223372036854775807):La s j low high (iq s i low high):=by subst hj;exact fun w=>E8 s i low high w (by omega) hl hh hi
theorem BN (s:ByteArray) (i:Nat) (w:YJ) (hs:s.size<=140737488355328) (hi:i<s.size) (h1:224<=bt s i) (h2:bt s i<=239) : Calls Tryz.prog 67 #[.string s,.int .i64 i] w fun e w'=>e=.returned (.agg #[.int .i64 (Utf8.decode s i).1,.int .i64 (Utf8.decode s i).2])/\Below w.heap.size w w':=by
 obtain ⟨D1,D2⟩:=qY s i hi h1 h2;generalize hb:bt s i=b at *;have hw:wrap64 (s[i].toNat:Int)=(b:Int):=by rw [bC s i hi,hb];exact IntWalk.wrap64_in _ ⟨by omega,by omega⟩
 clear hb;have x1:=gI s (i+1) (dH b) (eu b) (by unfold dH;split<;>(try split)<;>omega);have y1:=gI s (i+2) 128 191 (by omega);have M1:=jC s (i+1) (dH b) (eu b) (↑i+1) (by omega) hs (by unfold dH;split<;>(try split)<;>omega) (by unfold eu;split<;>(try split)<;>omega) (by omega);have M2:=jC s (i+2) 128 191 (↑i+2) (by omega) hs (by omega) (by omega) (by omega);generalize iq s (i+1) (dH b) (eu b)=x at *;generalize iq s (i+2) 128 191=y at *;generalize Utf8.decode s i=d at *;obtain ⟨d1,d2⟩:=d;have k:(((b:Int)==224)=true/\((b:Int)==237)=false/\dH b=160/\eu b=191)\/(((b:Int)==224)=false/\((b:Int)==237)=true/\dH b=128/\eu b=159) \/
   (((b:Int)==224)=false/\((b:Int)==237)=false/\dH b=128/\eu b=191):=by
  unfold dH eu;by_cases k1:b=224
  ·left;subst k1;simp
  ·by_cases k2:b=237
   ·right;left;subst k2;simp
   ·right;right;refine ⟨by simp;omega,by simp;omega,?_,?_⟩<;>repeat (first | rw [if_neg (by omega)])
 have E1:=hid D1;have E2:=hid D2;clear D1 D2;rcases k with ⟨k1,k2,k3,k4⟩ | ⟨k1,k2,k3,k4⟩ | ⟨k1,k2,k3,k4⟩
 all_goals
  rw [k3,k4] at M1;clear k3 k4;go_enter Tryz.func67,Tryz.ntmps67;go_wp2_with fail
  refine (M1 _).mono ?_;rintro e w' ⟨rfl,rfl⟩;go_wp2_with fail
  refine (M2 _).mono ?_;rintro e w' ⟨rfl,rfl⟩;by_cases hx:x<0
  ·go_wp2;refine bodyPost_ret (v:=.agg #[.int .i64 65533,.int .i64 1]) (by simp [results,Tryz.results67,go_sem]) rfl ⟨?_,(XT _ _).alloc (XU _) _⟩;obtain ⟨rfl,rfl⟩:=Prod.mk.inj (E1.out (.inl hx));rfl
  ·by_cases hy:y<0
   ·go_wp2;refine bodyPost_ret (v:=.agg #[.int .i64 65533,.int .i64 1]) (by simp [results,Tryz.results67,go_sem]) rfl ⟨?_,(XT _ _).alloc (XU _) _⟩;obtain ⟨rfl,rfl⟩:=Prod.mk.inj (E1.out (.inr hy));rfl
   ·go_wp2;refine bodyPost_ret (v:=.agg #[.int .i64 ((b-224)*4096+x*64+y),.int .i64 3]) (by simp [results,Tryz.results67,go_sem]) rfl ⟨?_,(XT _ _).alloc (XU _) _⟩;obtain ⟨r1,r2⟩:=E2.out (by omega) (by omega);exact pW r1 (by simp only [r2];rfl)
theorem E9 (s:ByteArray) (i:Nat) (w:YJ) (hs:s.size<=140737488355328) (hi:i<s.size) (h1:240<=bt s i) (h2:bt s i<=244) : Calls Tryz.prog 68 #[.string s,.int .i64 i] w fun e w'=>e=.returned (.agg #[.int .i64 (Utf8.decode s i).1,.int .i64 (Utf8.decode s i).2])/\Below w.heap.size w w':=by
 obtain ⟨D1,D2⟩:=vv s i hi h1 h2;generalize hb:bt s i=b at *;have hw:wrap64 (s[i].toNat:Int)=(b:Int):=by rw [bC s i hi,hb];exact IntWalk.wrap64_in _ ⟨by omega,by omega⟩
 clear hb;have x1:=gI s (i+1) (dH b) (eu b) (by unfold dH;split<;>(try split)<;>omega);have y1:=gI s (i+2) 128 191 (by omega);have z1:=gI s (i+3) 128 191 (by omega);have M1:=jC s (i+1) (dH b) (eu b) (↑i+1) (by omega) hs (by unfold dH;split<;>(try split)<;>omega) (by unfold eu;split<;>(try split)<;>omega) (by omega);have M2:=jC s (i+2) 128 191 (↑i+2) (by omega) hs (by omega) (by omega) (by omega);have M3:=jC s (i+3) 128 191 (↑i+3) (by omega) hs (by omega) (by omega) (by omega);generalize iq s (i+1) (dH b) (eu b)=x at *;generalize iq s (i+2) 128 191=y at *;generalize iq s (i+3) 128 191=z at *;generalize Utf8.decode s i=d at *;obtain ⟨d1,d2⟩:=d;have k:(((b:Int)==240)=true/\((b:Int)==244)=false/\dH b=144/\eu b=191)\/(((b:Int)==240)=false/\((b:Int)==244)=true/\dH b=128/\eu b=143) \/
   (((b:Int)==240)=false/\((b:Int)==244)=false/\dH b=128/\eu b=191):=by
  unfold dH eu;by_cases k1:b=240
  ·left;subst k1;simp
  ·by_cases k2:b=244
   ·right;left;subst k2;simp
   ·right;right;refine ⟨by simp;omega,by simp;omega,?_,?_⟩<;>repeat (first | rw [if_neg (by omega)])
 have E1:=hid D1;have E2:=hid D2;clear D1 D2;rcases k with ⟨k1,k2,k3,k4⟩ | ⟨k1,k2,k3,k4⟩ | ⟨k1,k2,k3,k4⟩
 all_goals
  rw [k3,k4] at M1;clear k3 k4;go_enter Tryz.func68,Tryz.ntmps68;go_wp2_with fail
  refine (M1 _).mono ?_;rintro e w' ⟨rfl,rfl⟩;go_wp2_with fail
  refine (M2 _).mono ?_;rintro e w' ⟨rfl,rfl⟩;go_wp2_with fail
  refine (M3 _).mono ?_;rintro e w' ⟨rfl,rfl⟩;by_cases hn:x<0\/y<0\/z<0
  ·obtain ⟨rfl,rfl⟩:=Prod.mk.inj (E1.out hn);by_cases hx:x<0
   ·go_wp2;exact bodyPost_ret (v:=.agg #[.int .i64 65533,.int .i64 1]) (by simp [results,Tryz.results68,go_sem]) rfl ⟨rfl,(XT _ _).alloc (XU _) _⟩
   ·by_cases hy:y<0
    ·go_wp2;exact bodyPost_ret (v:=.agg #[.int .i64 65533,.int .i64 1]) (by simp [results,Tryz.results68,go_sem]) rfl ⟨rfl,(XT _ _).alloc (XU _) _⟩
    ·have hz:z<0:=by omega
     go_wp2;exact bodyPost_ret (v:=.agg #[.int .i64 65533,.int .i64 1]) (by simp [results,Tryz.results68,go_sem]) rfl ⟨rfl,(XT _ _).alloc (XU _) _⟩
  ·have hx:0<=x:=by omega
   have hy:0<=y:=by omega
   have hz:0<=z:=by omega
   clear hn;go_wp2;refine bodyPost_ret (v:=.agg #[.int .i64 ((b-240)*262144+x*4096+y*64+z),.int .i64 4]) (by simp [results,Tryz.results68,go_sem]) rfl ⟨?_,(XT _ _).alloc (XU _) _⟩;obtain ⟨r1,r2⟩:=E2.out hx hy hz;exact pW r1 (by simp only [r2];rfl)
open Go.RowKit
def Lb (f:Nat) (s:ByteArray) (i:Int) (d1 d2:Int):Prop:=
 ∀ w:YJ,Calls Tryz.prog f #[.string s,.int .i64 i] w fun e w'=>e=.returned (.agg #[.int .i64 d1,.int .i64 d2])/\Below w.heap.size w w'
theorem Ja {W w1:YJ} (hb:Below W.heap.size W w1):(∀ b o,b<W.heap.size->w1.cell? ⟨b,o,none⟩=W.cell? ⟨b,o,none⟩)/\(∀ b o,b<W.heap.size->w1.frozen? ⟨b,o,none⟩=W.frozen? ⟨b,o,none⟩):=
 ⟨fun b o h=>hb.cell (p:=⟨b,o,none⟩) h,fun b o h=>hb.frozen (p:=⟨b,o,none⟩) h⟩
theorem KZ (s:ByteArray) (i:Nat) (hs:s.size<=140737488355328) (hi:i<s.size) : Lb 48 s i (Utf8.decode s i).1 (Utf8.decode s i).2:=by
 intro w;have hbl:=bX s i;have hw:wrap64 (s[i].toNat:Int)=(bt s i:Int):=by rw [bC s i hi];exact IntWalk.wrap64_in _ ⟨by omega,by omega⟩
 by_cases c1:bt s i<128
 ·rw [nA s i c1];go_enter Tryz.func48,Tryz.ntmps48;go_wp2;exact bodyPost_ret (v:=.agg #[.int .i64 (bt s i),.int .i64 1]) (by simp [results,Tryz.results48,go_sem]) rfl ⟨rfl,(XT _ _).alloc (XU _) _⟩
 by_cases c2:bt s i<194
 ·rw [nC s i (by omega) (.inl c2)];go_enter Tryz.func48,Tryz.ntmps48;go_wp2;exact bodyPost_ret (v:=.agg #[.int .i64 65533,.int .i64 1]) (by simp [results,Tryz.results48,go_sem]) rfl ⟨rfl,(XT _ _).alloc (XU _) _⟩
 by_cases c3:bt s i<=223
 ·obtain ⟨D1,D2⟩:=ny s i hi (by omega) c3;have x1:=gI s (i+1) 128 191 (by omega);have M1:=jC s (i+1) 128 191 (↑i+1) (by omega) hs (by omega) (by omega) (by omega);generalize iq s (i+1) 128 191=x at *;generalize Utf8.decode s i=d at *;obtain ⟨d1,d2⟩:=d;have E1:=hid D1;have E2:=hid D2;clear D1 D2;go_enter Tryz.func48,Tryz.ntmps48;go_wp2_with fail
  refine (M1 _).mono ?_;rintro e w' ⟨rfl,rfl⟩;by_cases hx:x<0
  ·obtain ⟨rfl,rfl⟩:=Prod.mk.inj (E1.out hx);go_wp2;exact bodyPost_ret (v:=.agg #[.int .i64 65533,.int .i64 1]) (by simp [results,Tryz.results48,go_sem]) rfl ⟨rfl,(XT _ _).alloc (XU _) _⟩
  ·go_wp2;refine bodyPost_ret (v:=.agg #[.int .i64 ((bt s i-192)*64+x),.int .i64 2]) (by simp [results,Tryz.results48,go_sem]) rfl ⟨?_,(XT _ _).alloc (XU _) _⟩;obtain ⟨r1,r2⟩:=E2.out (by omega);exact pW r1 (by simp only [r2];rfl)
 by_cases c4:bt s i<=239
 ·have T:=(BN s i · hs hi (by omega) c4);generalize Utf8.decode s i=d at *;obtain ⟨d1,d2⟩:=d;have T:=hid T;go_enter Tryz.func48,Tryz.ntmps48;go_wp2_with fail
  refine (T.out _).mono ?_;rintro e w' ⟨rfl,hb⟩;obtain ⟨hc,hf⟩:=Ja hb;go_wp2;refine bodyPost_ret (v:=.agg #[.int .i64 d1,.int .i64 d2]) (by simp [results,Tryz.results48,go_sem,hc]) rfl ⟨rfl,?_⟩;exact ((((XT _ _).alloc (XU _) _).trans (hb.mono (by simp))).setCell (by simp) _).setCell (by simp) _
 by_cases c5:bt s i<=244
 ·have T:=(E9 s i · hs hi (by omega) c5);generalize Utf8.decode s i=d at *;obtain ⟨d1,d2⟩:=d;have T:=hid T;go_enter Tryz.func48,Tryz.ntmps48;go_wp2_with fail
  refine (T.out _).mono ?_;rintro e w' ⟨rfl,hb⟩;obtain ⟨hc,hf⟩:=Ja hb;go_wp2;refine bodyPost_ret (v:=.agg #[.int .i64 d1,.int .i64 d2]) (by simp [results,Tryz.results48,go_sem,hc]) rfl ⟨rfl,?_⟩;exact ((((XT _ _).alloc (XU _) _).trans (hb.mono (by simp))).setCell (by simp) _).setCell (by simp) _
 rw [nC s i (by omega) (.inr (by omega))];go_enter Tryz.func48,Tryz.ntmps48;go_wp2;exact bodyPost_ret (v:=.agg #[.int .i64 65533,.int .i64 1]) (by simp [results,Tryz.results48,go_sem]) rfl ⟨rfl,(XT _ _).alloc (XU _) _⟩
open Go.RowKit
open Go.RowKit
open Go.RowKit
def TabAt (w:YJ):Prop:=1<w.heap.size/\∀ k,k<95->w.cell? ⟨1,k,none⟩=some (.int .u8 ((gW.getD k 0:Nat):Int))
theorem TabAt.below {w w':YJ} (h:TabAt w) (hb:Below w.heap.size w w'):TabAt w':=
 ⟨Nat.lt_of_lt_of_le h.1 hb.size,fun k hk=>by rw [hb.cell (p:=⟨1,k,none⟩) h.1];exact h.2 k hk⟩
def mW (c lo hi:Int):Bool:=decide (lo<=c)&&decide (c<=hi)
theorem Lc (p:Nat) (c lo hi:Int) (w:YJ) (hc:w.cell? ⟨p,0,none⟩=some (.int .i64 c)) : Calls Tryz.prog 127 #[.int .i64 lo,.int .i64 hi,.pointer (some ⟨p,0,none⟩)] w fun e w'=>e=.returned (.bool (mW c lo hi))/\w=w':=by
 by_cases h1:lo<=c
 ·by_cases h2:c<=hi
  ·have hv:mW c lo hi=true:=by simp [mW,h1,h2]
   rw [hv];go_enter Tryz.func127,Tryz.ntmps127;go_wp2;go_ret;exact ⟨by simp,rfl⟩
  ·have hv:mW c lo hi=false:=by simp [mW,h2]
   rw [hv];go_enter Tryz.func127,Tryz.ntmps127;go_wp2;go_ret;exact ⟨by simp,rfl⟩
 ·have hv:mW c lo hi=false:=by simp [mW,h1]
  rw [hv];go_enter Tryz.func127,Tryz.ntmps127;go_wp2;go_ret;exact ⟨by simp,rfl⟩
theorem BO (c:Nat) (w:YJ) (hc:c<=1114111) (ht:TabAt w) : Calls Tryz.prog 101 #[.int .i64 c] w fun e w'=>e=.returned (.int .i64 (dQ c:Nat))/\Below w.heap.size w w':=by
 have hb1:Below w.heap.size w (w.alloc (.cells #[.int .i64 c] 3)):=(XT _ _).alloc (XU _) _;have IN:=hid (fun lo hi=>Lc w.heap.size c lo hi (w.alloc (.cells #[.int .i64 c] 3)) (by simp [go_sem]));have HT:=hid ht;clear ht;by_cases h1:c<32
 ·rw [jd c (.inl h1)];clear hb1;go_enter Tryz.func101,Tryz.ntmps101;go_wp2;go_ret;exact ⟨rfl,(XT _ _).alloc (XU _) _⟩
 by_cases h2:c=127
 ·rw [jd c (.inr (.inl h2))];have e1:((c:Int)==127)=true:=by simp;omega
  have H2:=hid h2;clear h2 hb1;go_enter Tryz.func101,Tryz.ntmps101;go_wp2;go_ret;exact ⟨rfl,(XT _ _).alloc (XU _) _⟩
 have e1:((c:Int)==127)=false:=by simp;omega
 by_cases h3:c<127
 ·rw [sU c (by omega) h3];have hi:mW c 55296 57343=false:=by simp [mW];omega
  have hg:=HT.out.1;have hcell:=HT.out.2 (c-32) (by omega);have hle:=vY ⟨c-32,by omega⟩;simp only at hle;generalize gW.getD (c-32) 0=y at *;have k1:(0:Int)<=(c:Int)-32:=by omega
  have k2:(c:Int)-32<95:=by omega
  have k3:((c:Int)-32).toNat=c-32:=by omega
  have k4:(32:Int)<=(c:Int):=by omega
  have hy:wrap64 (y:Int)=(y:Int):=IntWalk.wrap64_in _ ⟨by omega,by omega⟩;clear hb1 HT;go_enter Tryz.func101,Tryz.ntmps101;go_wp2_with fail
  refine (IN.out _ _).mono ?_;rintro e w' ⟨rfl,rfl⟩;go_wp2;go_ret;exact ⟨rfl,(XT _ _).alloc (XU _) _⟩
 cases hi:mW c 55296 57343
 ·have hns:¬ (55296<=c/\c<=57343):=by simp [mW] at hi;omega
  rw [vZ c (by omega) hns hc];clear hb1 HT;cases j0:mW c 4352 4447
  rotate_left
  ·have hw:dV c=true:=by simp [mW] at j0;simp [dV];omega
   rw [if_pos hw];clear hw;go_enter Tryz.func101,Tryz.ntmps101
   iterate 2 (go_wp2_with fail;refine (IN.out _ _).mono ?_;rintro e w' ⟨rfl,rfl⟩)
   go_wp2;go_ret;exact ⟨rfl,(XT _ _).alloc (XU _) _⟩
  cases j1:mW c 11904 42191
  rotate_left
  ·have hw:dV c=true:=by simp [mW] at j1;simp [dV];omega
   rw [if_pos hw];clear hw;go_enter Tryz.func101,Tryz.ntmps101
   iterate 3 (go_wp2_with fail;refine (IN.out _ _).mono ?_;rintro e w' ⟨rfl,rfl⟩)
   go_wp2;go_ret;exact ⟨rfl,(XT _ _).alloc (XU _) _⟩
  cases j2:mW c 44032 55203
  rotate_left
  ·have hw:dV c=true:=by simp [mW] at j2;simp [dV];omega
   rw [if_pos hw];clear hw;go_enter Tryz.func101,Tryz.ntmps101
   iterate 4 (go_wp2_with fail;refine (IN.out _ _).mono ?_;rintro e w' ⟨rfl,rfl⟩)
   go_wp2;go_ret;exact ⟨rfl,(XT _ _).alloc (XU _) _⟩
  cases j3:mW c 63744 64255
  rotate_left
  ·have hw:dV c=true:=by simp [mW] at j3;simp [dV];omega
   rw [if_pos hw];clear hw;go_enter Tryz.func101,Tryz.ntmps101
   iterate 5 (go_wp2_with fail;refine (IN.out _ _).mono ?_;rintro e w' ⟨rfl,rfl⟩)
   go_wp2;go_ret;exact ⟨rfl,(XT _ _).alloc (XU _) _⟩
  cases j4:mW c 65072 65103
  rotate_left
  ·have hw:dV c=true:=by simp [mW] at j4;simp [dV];omega
   rw [if_pos hw];clear hw;go_enter Tryz.func101,Tryz.ntmps101
   iterate 6 (go_wp2_with fail;refine (IN.out _ _).mono ?_;rintro e w' ⟨rfl,rfl⟩)
   go_wp2;go_ret;exact ⟨rfl,(XT _ _).alloc (XU _) _⟩
  cases j5:mW c 65281 65376
  rotate_left
  ·have hw:dV c=true:=by simp [mW] at j5;simp [dV];omega
   rw [if_pos hw];clear hw;go_enter Tryz.func101,Tryz.ntmps101
   iterate 7 (go_wp2_with fail;refine (IN.out _ _).mono ?_;rintro e w' ⟨rfl,rfl⟩)
   go_wp2;go_ret;exact ⟨rfl,(XT _ _).alloc (XU _) _⟩
  have hw:¬ dV c=true:=by simp [mW] at j0 j1 j2 j3 j4 j5;simp [dV];omega
  rw [if_neg hw];clear hw;go_enter Tryz.func101,Tryz.ntmps101
  iterate 7 (go_wp2_with fail;refine (IN.out _ _).mono ?_;rintro e w' ⟨rfl,rfl⟩)
  go_wp2;go_ret;exact ⟨rfl,(XT _ _).alloc (XU _) _⟩
 ·have hs:55296<=c/\c<=57343:=by simp [mW] at hi;omega
  rw [jd c (.inr (.inr (.inl hs)))];clear hb1 HT hs;go_enter Tryz.func101,Tryz.ntmps101;go_wp2_with fail
  refine (IN.out _ _).mono ?_;rintro e w' ⟨rfl,rfl⟩;go_wp2;go_ret;exact ⟨rfl,(XT _ _).alloc (XU _) _⟩
open Go.RowKit
theorem fT (s:ByteArray) (w:YJ) (hs2:s.size<=1099511627776) (ht:TabAt w) : Calls Tryz.prog 76 #[.string s] w fun e w'=>e=.returned (.int .i64 (dD s:Nat))/\Below w.heap.size w w':=by
 have HV:Hid (Cc s s.size 0=dD s):=rfl;generalize dD s=V at *;have HT:=hid ht;clear ht;go_enter Tryz.func76,Tryz.ntmps76;go_wp2
 go_loopw [3] (fun vs wr=>∃ k f sum:Nat,k<=s.size/\s.size<=k+f/\sum<=100*k/\sum+Cc s f k=V/\vs=.int .i64 sum/\wr.heap[w.heap.size]?=some (.stringIter s k)/\Below w.heap.size w wr) (fun _ wr=>s.size-wr.iterPos w.heap.size)
 case atStart=>
  refine ⟨0,s.size,0,Nat.zero_le _,by omega,by omega,by simpa using HV.out,rfl,?_,?_⟩
  ·exact World.iter_heap w s 0
  ·exact (XT _ w).alloc (XU _) _
 case round=>
  obtain ⟨k,f,sum,h1,h2,h3,h4,rfl,hit,hbel⟩:=hrel;have H4:=hid h4;clear h4;have hsz:w.heap.size<wr.heap.size:=(Array.getElem?_eq_some_iff.1 hit).1;by_cases hlt:k<s.size
  ·have hnx:∀ ty,(Instr.next (.pointer (some ⟨w.heap.size,0,none⟩)) true ty).run Tryz.prog wr=_:=fun ty=>Lib.run_next_any_at wr w.heap.size s k ty hit hlt
   have hd:=EJ s k hlt;have hw:=Lib.width_pos s k;have hr:=Lib.rune_le s k;have hon:=hid (wh s (f-1) k hlt);rw [show f-1+1=f from by omega] at hon;have hit2:=Lib.iterAt_heap wr w.heap.size s k (k+(Utf8.decode s k).2) hit;have gZ:=Lib.below_iterAt hbel (k:=w.heap.size) (XU _) s (k+(Utf8.decode s k).2);generalize Utf8.decode s k=d at *;obtain ⟨d1,d2⟩:=d;simp only at hd hw hr hnx hit2 gZ;have hle:=rC d1;have hwr:wrap64 (d1:Int)=d1:=IntWalk.wrap64_in _ ⟨by omega,by omega⟩;have WI:=hid (BO d1 (wr.iterAt w.heap.size s (k+d2)) hr (HT.out.below gZ));have R7:=hid hit2;have HIT:=hid hit;generalize dQ d1=y at *;clear hit hit2;go_wp2_with fail
   refine WI.out.mono ?_;rintro e w1 ⟨rfl,hb1⟩;have hit3:Hid (w1.heap[w.heap.size]?=some (.stringIter s (k+d2))):=by show w1.heap[w.heap.size]?=_;rw [hb1.block w.heap.size (by rw [Lib.iterAt_size];exact hsz)];exact R7.out
   have fQ:=aL gZ hb1;clear hnx hwr;go_wp2;go_roundw;case rel=>exact ⟨k+d2,f-1,sum+y,by omega,by omega,by omega,by rw [<- H4.out,hon.out];omega,by go_num,hit3.out,fQ⟩
   case measure=>
    simp only [World.iterPos,hit3.out,HIT.out];omega
  ·have hnx:∀ ty,(Instr.next (.pointer (some ⟨w.heap.size,0,none⟩)) true ty).run Tryz.prog wr=_:=fun ty=>Lib.run_next_end_at wr w.heap.size s k ty hit hlt
   have hE:=hid (sV s f k hlt);clear hit;go_wp2;go_ret;exact ⟨lg (by have:=H4.out;rw [hE.out] at this;omega),hbel⟩
open Go.RowKit
open Go.RowKit
theorem zT:dD ⟨#[32]⟩=30:=by decide +kernel
open Go.RowKit
theorem nL:(Tryz.prog.info? 9).map (fun i=>(i.zero,i.size,i.bytes))=some (some (.string ByteArray.empty),1,16):=by kernel_rfl
theorem Ld (W:YJ) (x:Nat) (hx:x<=1114111):FnGives Tryz.prog 124 #[] #[encR x] (.bool (pI x)) W:=by
 unfold FnGives;show Calls Tryz.prog 124 #[.int .i32 x] W _;have hx2:wrap64 (x:Int)=x:=IntWalk.wrap64_in _ ⟨by omega,by omega⟩;have S:=hid (BK x W);go_enter Tryz.func124,Tryz.ntmps124;go_wp2_with fail
 refine S.out.mono ?_;rintro e w' ⟨rfl,rfl⟩;go_wp2;go_ret;exact ⟨rfl,0,rfl⟩
theorem Bu (s:ByteArray) (w:YJ) (hs:s.size<=1048576) : Calls Tryz.prog 99 #[.string s] w fun e w'=>∃ v,e=.returned v/\w'.ownsRow w.heap.size 9 1 v (jh s).length ((jh s).map Value.string)/\Below w.heap.size w w':=by
 have F:=hid (Tryz.strings_FieldsFunc_runes 124 #[] (fun _ _=>by kernel_rfl) pI s w (by omega) (fun W x hx _=>Ld W x hx));rw [sS] at F;go_enter Tryz.func99,Tryz.ntmps99;go_wp2_with fail
 refine F.out.mono ?_;rintro e w' ⟨A,rfl,h1,h2,h3⟩;go_wp2;go_ret;exact ⟨_,rfl,h2,h3⟩
end Go.Proofs.YtnmldmofggkoeaaGreatDoor

