/- Contracts of chars.width, second, unclean, Next, Valid; of attr.cleanLine, tree.cleanLine, trimmed, cleanText. Contracts of attr.cleanLine, tree.cleanLine, trimmed, cleanText, address' first test; attr.Empty. -/
import Derived.Test.YtnmldmofggkoeaaGreatDoorKPlVd
set_option maxHeartbeats 4000000
set_option maxRecDepth 100000
open Go.Lib (hid)
namespace Go.Proofs.YtnmldmofggkoeaaGreatDoor
open Bool renaming eq_iff_iff->YL
open Go renaming World->Zu
open Go.RowKit
set_option linter.unusedVariables false
set_option linter.unusedSimpArgs false
def kV (b:Nat):Nat:=if b<128 then 1 else if 194<=b/\b<=223 then 2 else if 224<=b/\b<=239 then 3 else if 240<=b/\b<=244 then 4 else 0
theorem fE (c:Nat) (w:Zu) (hc:c<256) : Calls Tryz.prog 45 #[.int .u8 (c:Int)] w fun e w'=>e=.returned (.int .i64 (kV c:Nat))/\w=w':=by
 go_enter Tryz.func45,Tryz.ntmps45;go_wp2;all_goals
  go_ret;refine ⟨fF ?_,rfl⟩;unfold kV
  (repeat' split)<;>omega
theorem kW (c:Nat) (w:Zu) (hc:c<256) : Calls Tryz.prog 46 #[.int .u8 (c:Int)] w fun e w'=>e=.returned (.tuple #[.int .u8 (iK c:Nat),.int .u8 (jS c:Nat)])/\w=w':=by
 go_enter Tryz.func46,Tryz.ntmps46;go_wp2;all_goals
  go_ret2
  refine ⟨?_,rfl⟩
  (try simp only [beq_iff_eq,beq_eq_false_iff_ne,ne_eq] at *)
  unfold iK jS
  (repeat' split)<;>first | rfl | (exfalso;omega)
def Bg (c:Nat):Bool:=(decide (c<32)&&!decide (c=10))||decide (c=127)
theorem qC (c:Nat) (w:Zu) (hc:c<=1114111) : Calls Tryz.prog 26 #[.int .i64 (c:Int)] w fun e w'=>e=.returned (.bool (Bg c))/\w=w':=by
 go_enter Tryz.func26,Tryz.ntmps26;go_wp2;all_goals
  go_ret;refine ⟨u7 ?_,rfl⟩;unfold Bg
  (try simp only [beq_iff_eq,beq_eq_false_iff_ne,ne_eq,bne_iff_ne,bne_eq_false_iff_eq] at *)
  rw [YL];simp
  (try omega)
theorem jN (a:Nat) (ha:a<9223372036854775808):(BitVec.ofInt 64 (a:Int)).toNat=a:=by rw [BitVec.ofInt_natCast,BitVec.toNat_ofNat];exact Nat.mod_eq_of_lt (by omega)
theorem jd (a b:Nat) (ha:a<9223372036854775808) (hb:b<9223372036854775808):bits .and .i64 (a:Int) (b:Int)=((a &&& b:Nat):Int):=by have hx:a &&& b<2 ^ 63:=Nat.and_lt_two_pow _ (by omega);show IntKind.i64.wrap ((BitVec.ofInt 64 (a:Int) &&& BitVec.ofInt 64 (b:Int)).toNat:Int)=_;rw [BitVec.toNat_and,jN a ha,jN b hb,IntKind.wrap_i64];omega
theorem yA (a b:Nat) (ha:a<9223372036854775808) (hb:b<9223372036854775808):bits .or .i64 (a:Int) (b:Int)=((a ||| b:Nat):Int):=by
 have hx:a ||| b<2 ^ 63:=Nat.or_lt_two_pow (by omega) (by omega)
 show IntKind.i64.wrap ((BitVec.ofInt 64 (a:Int) ||| BitVec.ofInt 64 (b:Int)).toNat:Int)=_;rw [BitVec.toNat_or,jN a ha,jN b hb,IntKind.wrap_i64];omega
def fP (s:ByteArray):Nat->Nat->Nat->Option Nat
 | 0,_,c=>some c
 | r+1,p,c=>if p<s.size/\128<=bt s p/\bt s p<=191 then fP s r (p+1) (c*64+(bt s p-128)) else none
def Bh (s:ByteArray) (i:Nat) (n:Nat):Option Nat->Nat × Nat
 | none=>(65533,1)
 | some c=>(c,n)
theorem vv (s:ByteArray) (i:Nat) (hi:i<s.size) (h:194<=bt s i) (h':bt s i<=223):Utf8.decode s i=Bh s i 2 (fP s 1 (i+1) (bt s i%32)):=by
 obtain ⟨d1,d2⟩:=sM s i hi h h';unfold aZ at d1 d2;rw [fP,fP];split
 ·rename_i hc
  rw [if_pos hc] at d1 d2;obtain ⟨e1,e2⟩:=d2 (by omega);refine Prod.ext ?_ e2;show _=bt s i%32*64+(bt s (i+1)-128);omega
 ·rename_i hc
  rw [if_neg hc] at d1;exact d1 (by omega)
theorem vC (s:ByteArray) (i:Nat) (hi:i<s.size) (h:224<=bt s i) (h':bt s i<=239) : ((¬ (i+1<s.size/\iK (bt s i)<=bt s (i+1)/\bt s (i+1)<=jS (bt s i))\/s.size<i+3)->Utf8.decode s i=(65533,1)) /\ (iK (bt s i)<=bt s (i+1)->bt s (i+1)<=jS (bt s i)->Utf8.decode s i=Bh s i 3 (fP s 2 (i+1) (bt s i%16))):=by
 obtain ⟨d1,d2⟩:=Bj s i hi h h';have hl:128<=iK (bt s i):=by unfold iK;split<;>(try split)<;>omega
 have hh:jS (bt s i)<=191:=by unfold jS;split<;>(try split)<;>omega
 unfold aZ at d1 d2;constructor
 ·rintro (hc | hc)
  ·rw [if_neg hc] at d1;exact d1 (.inl (by omega))
  ·rw [if_neg (c:=i+2<s.size/\_) (by omega)] at d1;exact d1 (.inr (by omega))
 ·intro h1 h2;rw [fP,fP,fP,show i+1+1=i+2 from rfl];by_cases k1:i+1<s.size
  ·have hc:i+1<s.size/\iK (bt s i)<=bt s (i+1)/\bt s (i+1)<=jS (bt s i):=⟨k1,h1,h2⟩;rw [if_pos hc] at d1 d2;rw [if_pos ⟨k1,by omega,by omega⟩];split
   ·rename_i hc2
    rw [if_pos hc2] at d2;obtain ⟨e1,e2⟩:=d2 (by omega) (by omega);refine Prod.ext ?_ e2;show _=(bt s i%16*64+(bt s (i+1)-128))*64+(bt s (i+2)-128);omega
   ·rename_i hc2
    rw [if_neg (c:=i+2<s.size/\_) hc2] at d1;exact d1 (.inr (by omega))
  ·rw [if_neg (c:=i+1<s.size/\iK _<=_/\_) (by omega)] at d1;rw [if_neg (by omega)];exact d1 (.inl (by omega))
theorem vD (s:ByteArray) (i:Nat) (hi:i<s.size) (h:240<=bt s i) (h':bt s i<=244) : ((¬ (i+1<s.size/\iK (bt s i)<=bt s (i+1)/\bt s (i+1)<=jS (bt s i))\/s.size<i+4)->Utf8.decode s i=(65533,1)) /\ (iK (bt s i)<=bt s (i+1)->bt s (i+1)<=jS (bt s i)->Utf8.decode s i=Bh s i 4 (fP s 3 (i+1) (bt s i%8))):=by
 obtain ⟨d1,d2⟩:=D6 s i hi h h';have hl:128<=iK (bt s i):=by unfold iK;split<;>(try split)<;>omega
 have hh:jS (bt s i)<=191:=by unfold jS;split<;>(try split)<;>omega
 unfold aZ at d1 d2;constructor
 ·rintro (hc | hc)
  ·rw [if_neg hc] at d1;exact d1 (.inl (by omega))
  ·rw [if_neg (c:=i+3<s.size/\_) (by omega)] at d1;exact d1 (.inr (.inr (by omega)))
 ·intro h1 h2;rw [fP,fP,fP,fP,show i+1+1=i+2 from rfl,show i+2+1=i+3 from rfl];by_cases k1:i+1<s.size
  ·have hc:i+1<s.size/\iK (bt s i)<=bt s (i+1)/\bt s (i+1)<=jS (bt s i):=⟨k1,h1,h2⟩;rw [if_pos hc] at d1 d2;rw [if_pos ⟨k1,by omega,by omega⟩];by_cases hc2:i+2<s.size/\128<=bt s (i+2)/\bt s (i+2)<=191
   ·rw [if_pos hc2] at d1 d2;rw [if_pos (by exact hc2)];split
    ·rename_i hc3
     rw [if_pos hc3] at d2;obtain ⟨e1,e2⟩:=d2 (by omega) (by omega) (by omega);refine Prod.ext ?_ e2;show _=((bt s i%8*64+(bt s (i+1)-128))*64+(bt s (i+2)-128))*64+(bt s (i+3)-128);omega
    ·rename_i hc3
     rw [if_neg (c:=i+3<s.size/\_) hc3] at d1;exact d1 (.inr (.inr (by omega)))
   ·rw [if_neg hc2] at d1;rw [if_neg (by exact hc2)];exact d1 (.inr (.inl (by omega)))
  ·rw [if_neg (c:=i+1<s.size/\iK _<=_/\_) (by omega)] at d1;rw [if_neg (by omega)];exact d1 (.inl (by omega))
theorem KF (c b:Nat) (hb:b<64):(c*64) ||| b=c*64+b:=by rw [show 64=2 ^ 6 from rfl] at *;rw [Nat.mul_comm,<- Nat.two_pow_add_eq_or_of_lt hb]
theorem yB (c bk:Nat) (hc:c<262144) (h1:128<=bk) (h2:bk<=191):bits .or .i64 ((c:Int)*64) ((bk:Int)%64)=((c*64+(bk-128):Nat):Int):=by
 have hw:((c:Int)*64)=((c*64:Nat):Int):=by omega
 have hm:((bk:Int)%64)=((bk%64:Nat):Int):=by omega
 rw [hw,hm,yA _ _ (by omega) (by omega),KF _ _ (by omega)];omega
def zI (s:ByteArray) (i n:Nat) (R:Option Nat) (vc vk:Value):Prop:=∃ k c:Nat,k<=n-1/\c<64 ^ (k+1)/\vk=.int .i64 k/\vc=.int .i64 c/\fP s (n-1-k) (i+1+k) c=R
theorem kg (s:ByteArray) (i n b1:Nat) (w:Zu) (hs:s.size<=1000000000) (hn:i+n<=s.size) (h2:2<=n) (h4:n<=4) (hw:kV (bt s i)=n) (hb1:bt s (i+1)=b1) (hl:iK (bt s i)<=b1) (hh:b1<=jS (bt s i)) : Calls Tryz.prog 25 #[.string s,.int .i64 (i:Int)] w fun e w'=>e=.returned (.tuple #[.int .i64 (Bh s i n (fP s (n-1) (i+1) (bt s i%2 ^ (7-n)))).1,.int .i64 (Bh s i n (fP s (n-1) (i+1) (bt s i%2 ^ (7-n)))).2])/\∃ q,w'=w.drewN q:=by
 have hb:=dJ s i;have hi:i<s.size:=by omega
 have hi1:i+1<s.size:=by omega
 have e0:=dh s i hi;have e1:=dh s (i+1) hi1;rw [hb1] at e1;obtain ⟨b0,hb0⟩:∃ b0,bt s i=b0:=⟨_,rfl⟩;rw [hb0] at e0 hb hw hl hh ⊢;have WD:=hid (fun w=>fE b0 w hb);rw [hw] at WD;have SD:=hid (fun w=>kW b0 w hb);generalize iK b0=lo at *;generalize jS b0=P9 at *;clear hb0 hw hb1;have a31:bits .and .i64 (b0:Int) 31=((b0%32:Nat):Int):=by rw [show (31:Int)=((31:Nat):Int) from rfl,jd b0 31 (by omega) (by omega),show 31=2 ^ 5-1 from rfl,Nat.and_two_pow_sub_one_eq_mod]
 have Qa:bits .and .i64 (b0:Int) 15=((b0%16:Nat):Int):=by rw [show (15:Int)=((15:Nat):Int) from rfl,jd b0 15 (by omega) (by omega),show 15=2 ^ 4-1 from rfl,Nat.and_two_pow_sub_one_eq_mod]
 have a7:bits .and .i64 (b0:Int) 7=((b0%8:Nat):Int):=by rw [show (7:Int)=((7:Nat):Int) from rfl,jd b0 7 (by omega) (by omega),show 7=2 ^ 3-1 from rfl,Nat.and_two_pow_sub_one_eq_mod]
 obtain ⟨R,hR⟩:∃ R,fP s (n-1) (i+1) (b0%2 ^ (7-n))=R:=⟨_,rfl⟩;obtain ⟨c0,hc0⟩:∃ c0,b0%2 ^ (7-n)=c0:=⟨_,rfl⟩;have Rz:c0<64:=by rw [<- hc0];have:=Nat.mod_lt b0 (show 0<2 ^ (7-n) by exact Nat.two_pow_pos _);have h:=Nat.pow_le_pow_right (show 0<2 by omega) (show 7-n<=5 by omega);omega
 rw [hR];rw [hc0] at hR;have R0:Hid (zI s i n R (.int .i64 c0) (.int .i64 0)):=⟨0,c0,Nat.zero_le _,by simpa using Rz,rfl,rfl,hR⟩;clear hR;obtain rfl | rfl | rfl:n=2\/n=3\/n=4:=by omega
 ·have hc0:b0%32=c0:=hc0;rw [hc0] at a31;clear Qa a7;have Uf:=hid hc0;clear hc0;have q2:decide ((s.size:Int)-(i:Int)<2)=false:=by simp;omega
  have q1:decide ((i:Int)<0)=false:=by simp
  have q3:decide (b1<lo)=false:=by simp;omega
  have q4:decide (P9<b1)=false:=by simp;omega
  go_enter Tryz.func25,Tryz.ntmps25;go_wp2_with (first | (go_at_call 45;refine (WD.out _).mono ?_;rintro e w1 ⟨rfl,rfl⟩) | (go_at_call 46;refine (SD.out _).mono ?_;rintro e w1 ⟨rfl,rfl⟩))
  go_quiet (fail)
  go_wp2
  go_loop [4,71] (fun c k=>zI s i 2 R c k) (fun _ k=>2-(intOf k).toNat)
  case atStart=>exact R0.out
  case round=>
   clear R0 a31;obtain ⟨k,c,hk,hc,rfl,rfl,hg⟩:=hrel;have HG:=hid hg;clear hg;by_cases hk1:k<1
   ·have hik:i+1+k<s.size:=by omega
    have ek:=dh s (i+1+k) hik;have hbk:=dJ s (i+1+k);have hcc:c<262144:=by have h:=Nat.pow_le_pow_right (show 0<64 by omega) (show k+1<=3 by omega);omega
    have hst:fP s (2-1-k) (i+1+k) c=if i+1+k<s.size/\128<=bt s (i+1+k)/\bt s (i+1+k)<=191 then fP s (2-1-(k+1)) (i+1+(k+1)) (c*64+(bt s (i+1+k)-128)) else none:=by rw [show 2-1-k=(2-1-(k+1))+1 by omega,fP];rfl
    obtain ⟨bk,hbe⟩:∃ bk,bt s (i+1+k)=bk:=⟨_,rfl⟩;rw [hbe] at ek hbk hst;have HST:=hid hst;clear hst hbe;by_cases hgd:128<=bk/\bk<=191
    ·have hor:=yB c bk hcc hgd.1 hgd.2;have HR2:Hid (fP s (2-1-(k+1)) (i+1+(k+1)) (c*64+(bk-128))=R):=by
      show _=_;rw [<- HG.out,HST.out,if_pos ⟨hik,hgd⟩]
     have hcn:c*64+(bk-128)<64 ^ (k+1+1):=by rw [Nat.pow_succ];omega
     obtain ⟨cn,vE⟩:∃ cn,c*64+(bk-128)=cn:=⟨_,rfl⟩;rw [vE] at hor HR2 hcn;have Nz:=hid hcn;obtain ⟨g1,g2⟩:=hgd;clear hc hcn vE HST HG;go_wp2
     go_round
     case rel=>exact ⟨k+1,cn,by omega,Nz.out,by go_num,rfl,HR2.out⟩
     case measure=>simp [intOf];omega
    ·have HR2:Hid (R=none):=by
      show _=_;rw [<- HG.out,HST.out,if_neg (fun h=>hgd h.2)]
     have hgd:bk<128\/191<bk:=by omega
     clear hc HST HG;rcases hgd with hgd | hgd
     all_goals
      go_wp2
      go_ret2
      exact ⟨by rw [HR2.out];rfl,_,rfl⟩
   ·obtain rfl:k=1:=by omega
    have HR2:Hid (R=some c):=by show _=_;rw [<- HG.out];rfl
    clear hc HG hk1;go_wp2
    go_ret2
    exact ⟨by rw [HR2.out];rfl,_,rfl⟩
 ·have hc0:b0%16=c0:=hc0;rw [hc0] at Qa;clear a31 a7;have Uf:=hid hc0;clear hc0;have q2:decide ((s.size:Int)-(i:Int)<3)=false:=by simp;omega
  have q1:decide ((i:Int)<0)=false:=by simp
  have q3:decide (b1<lo)=false:=by simp;omega
  have q4:decide (P9<b1)=false:=by simp;omega
  go_enter Tryz.func25,Tryz.ntmps25;go_wp2_with (first | (go_at_call 45;refine (WD.out _).mono ?_;rintro e w1 ⟨rfl,rfl⟩) | (go_at_call 46;refine (SD.out _).mono ?_;rintro e w1 ⟨rfl,rfl⟩))
  go_quiet (fail)
  go_wp2
  go_loop [4,71] (fun c k=>zI s i 3 R c k) (fun _ k=>3-(intOf k).toNat)
  case atStart=>exact R0.out
  case round=>
   clear R0 Qa;obtain ⟨k,c,hk,hc,rfl,rfl,hg⟩:=hrel;have HG:=hid hg;clear hg;by_cases hk1:k<2
   ·have hik:i+1+k<s.size:=by omega
    have ek:=dh s (i+1+k) hik;have hbk:=dJ s (i+1+k);have hcc:c<262144:=by have h:=Nat.pow_le_pow_right (show 0<64 by omega) (show k+1<=3 by omega);omega
    have hst:fP s (3-1-k) (i+1+k) c=if i+1+k<s.size/\128<=bt s (i+1+k)/\bt s (i+1+k)<=191 then fP s (3-1-(k+1)) (i+1+(k+1)) (c*64+(bt s (i+1+k)-128)) else none:=by rw [show 3-1-k=(3-1-(k+1))+1 by omega,fP];rfl
    obtain ⟨bk,hbe⟩:∃ bk,bt s (i+1+k)=bk:=⟨_,rfl⟩;rw [hbe] at ek hbk hst;have HST:=hid hst;clear hst hbe;by_cases hgd:128<=bk/\bk<=191
    ·have hor:=yB c bk hcc hgd.1 hgd.2;have HR2:Hid (fP s (3-1-(k+1)) (i+1+(k+1)) (c*64+(bk-128))=R):=by
      show _=_;rw [<- HG.out,HST.out,if_pos ⟨hik,hgd⟩]
     have hcn:c*64+(bk-128)<64 ^ (k+1+1):=by rw [Nat.pow_succ];omega
     obtain ⟨cn,vE⟩:∃ cn,c*64+(bk-128)=cn:=⟨_,rfl⟩;rw [vE] at hor HR2 hcn;have Nz:=hid hcn;obtain ⟨g1,g2⟩:=hgd;clear hc hcn vE HST HG;go_wp2
     go_round
     case rel=>exact ⟨k+1,cn,by omega,Nz.out,by go_num,rfl,HR2.out⟩
     case measure=>simp [intOf];omega
    ·have HR2:Hid (R=none):=by
      show _=_;rw [<- HG.out,HST.out,if_neg (fun h=>hgd h.2)]
     have hgd:bk<128\/191<bk:=by omega
     clear hc HST HG;rcases hgd with hgd | hgd
     all_goals
      go_wp2
      go_ret2
      exact ⟨by rw [HR2.out];rfl,_,rfl⟩
   ·obtain rfl:k=2:=by omega
    have HR2:Hid (R=some c):=by show _=_;rw [<- HG.out];rfl
    clear hc HG hk1;go_wp2
    go_ret2
    exact ⟨by rw [HR2.out];rfl,_,rfl⟩
 ·have hc0:b0%8=c0:=hc0;rw [hc0] at a7;clear a31 Qa;have Uf:=hid hc0;clear hc0;have q2:decide ((s.size:Int)-(i:Int)<4)=false:=by simp;omega
  have q1:decide ((i:Int)<0)=false:=by simp
  have q3:decide (b1<lo)=false:=by simp;omega
  have q4:decide (P9<b1)=false:=by simp;omega
  go_enter Tryz.func25,Tryz.ntmps25;go_wp2_with (first | (go_at_call 45;refine (WD.out _).mono ?_;rintro e w1 ⟨rfl,rfl⟩) | (go_at_call 46;refine (SD.out _).mono ?_;rintro e w1 ⟨rfl,rfl⟩))
  go_quiet (fail)
  go_wp2
  go_loop [4,71] (fun c k=>zI s i 4 R c k) (fun _ k=>4-(intOf k).toNat)
  case atStart=>exact R0.out
  case round=>
   clear R0 a7;obtain ⟨k,c,hk,hc,rfl,rfl,hg⟩:=hrel;have HG:=hid hg;clear hg;by_cases hk1:k<3
   ·have hik:i+1+k<s.size:=by omega
    have ek:=dh s (i+1+k) hik;have hbk:=dJ s (i+1+k);have hcc:c<262144:=by have h:=Nat.pow_le_pow_right (show 0<64 by omega) (show k+1<=3 by omega);omega
    have hst:fP s (4-1-k) (i+1+k) c=if i+1+k<s.size/\128<=bt s (i+1+k)/\bt s (i+1+k)<=191 then fP s (4-1-(k+1)) (i+1+(k+1)) (c*64+(bt s (i+1+k)-128)) else none:=by rw [show 4-1-k=(4-1-(k+1))+1 by omega,fP];rfl
    obtain ⟨bk,hbe⟩:∃ bk,bt s (i+1+k)=bk:=⟨_,rfl⟩;rw [hbe] at ek hbk hst;have HST:=hid hst;clear hst hbe;by_cases hgd:128<=bk/\bk<=191
    ·have hor:=yB c bk hcc hgd.1 hgd.2;have HR2:Hid (fP s (4-1-(k+1)) (i+1+(k+1)) (c*64+(bk-128))=R):=by
      show _=_;rw [<- HG.out,HST.out,if_pos ⟨hik,hgd⟩]
     have hcn:c*64+(bk-128)<64 ^ (k+1+1):=by rw [Nat.pow_succ];omega
     obtain ⟨cn,vE⟩:∃ cn,c*64+(bk-128)=cn:=⟨_,rfl⟩;rw [vE] at hor HR2 hcn;have Nz:=hid hcn;obtain ⟨g1,g2⟩:=hgd;clear hc hcn vE HST HG;go_wp2
     go_round
     case rel=>exact ⟨k+1,cn,by omega,Nz.out,by go_num,rfl,HR2.out⟩
     case measure=>simp [intOf];omega
    ·have HR2:Hid (R=none):=by
      show _=_;rw [<- HG.out,HST.out,if_neg (fun h=>hgd h.2)]
     have hgd:bk<128\/191<bk:=by omega
     clear hc HST HG;rcases hgd with hgd | hgd
     all_goals
      go_wp2
      go_ret2
      exact ⟨by rw [HR2.out];rfl,_,rfl⟩
   ·obtain rfl:k=3:=by omega
    have HR2:Hid (R=some c):=by show _=_;rw [<- HG.out];rfl
    clear hc HG hk1;go_wp2
    go_ret2
    exact ⟨by rw [HR2.out];rfl,_,rfl⟩
def Dr (v:Value) (w:Zu) (e:Ending) (w':Zu):Prop:=e=.returned v/\∃ q,w'=w.drewN q
theorem yC (s:ByteArray) (i:Nat) (w:Zu) (hs:s.size<=1000000000) (hi:i<s.size) : Calls Tryz.prog 25 #[.string s,.int .i64 (i:Int)] w (Dr (.tuple #[.int .i64 (Utf8.decode s i).1,.int .i64 (Utf8.decode s i).2]) w):=by
 have hb:=dJ s i;have e0:=dh s i hi;have q1:decide ((i:Int)<0)=false:=by simp
 by_cases c1:bt s i<128
 ·rw [sN s i c1];obtain ⟨b0,hb0⟩:∃ b0,bt s i=b0:=⟨_,rfl⟩;rw [hb0] at e0 hb c1 ⊢;have hw:kV b0=1:=by unfold kV;rw [if_pos c1]
  have WD:=hid (fun w=>fE b0 w hb);rw [hw] at WD;clear hw hb0;go_enter Tryz.func25,Tryz.ntmps25;go_wp2_with ((go_at_call 45;refine (WD.out _).mono ?_;rintro e w1 ⟨rfl,rfl⟩))
  go_ret2
  exact ⟨rfl,0,rfl⟩
 by_cases c2:bt s i<194\/244<bt s i
 ·rw [zJ s i (by omega) c2];obtain ⟨b0,hb0⟩:∃ b0,bt s i=b0:=⟨_,rfl⟩;rw [hb0] at e0 hb c1 c2;have hw:kV b0=0:=by unfold kV;(repeat' split)<;>omega
  have WD:=hid (fun w=>fE b0 w hb);rw [hw] at WD;clear hw hb0 c2;go_enter Tryz.func25,Tryz.ntmps25;go_wp2_with ((go_at_call 45;refine (WD.out _).mono ?_;rintro e w1 ⟨rfl,rfl⟩))
  go_ret2
  exact ⟨rfl,0,rfl⟩
 have bad:∀ n:Nat,2<=n->n<=4->kV (bt s i)=n->(s.size<i+n\/bt s (i+1)<iK (bt s i)\/jS (bt s i)<bt s (i+1)) ->
   Calls Tryz.prog 25 #[.string s,.int .i64 (i:Int)] w (Dr (.tuple #[.int .i64 65533,.int .i64 1]) w):=by
  intro n h2 h4 hw hbad;obtain ⟨b0,hb0⟩:∃ b0,bt s i=b0:=⟨_,rfl⟩;rw [hb0] at e0 hb hw hbad;have WD:=hid (fun w=>fE b0 w hb);rw [hw] at WD;have hn0:((n:Int)==0)=false:=by rw [beq_eq_false_iff_ne];omega
  have hn1:((n:Int)==1)=false:=by rw [beq_eq_false_iff_ne];omega
  by_cases hsz:s.size<i+n
  ·have q2:decide ((s.size:Int)-(i:Int)<(n:Int))=true:=by simp;omega
   clear hw hb0 hbad;go_enter Tryz.func25,Tryz.ntmps25;go_wp2_with ((go_at_call 45;refine (WD.out _).mono ?_;rintro e w1 ⟨rfl,rfl⟩))
   go_ret2
   exact ⟨rfl,0,rfl⟩
  ·have q2:decide ((s.size:Int)-(i:Int)<(n:Int))=false:=by simp;omega
   have hi1:i+1<s.size:=by omega
   have e1:=dh s (i+1) hi1;have SD:=hid (fun w=>kW b0 w hb);have hbad:bt s (i+1)<iK b0\/jS b0<bt s (i+1):=by omega
   generalize iK b0=lo at *;generalize jS b0=P9 at *;generalize bt s (i+1)=b1 at *;clear hw hb0 hsz;rcases hbad with hbad | hbad
   all_goals
    go_enter Tryz.func25,Tryz.ntmps25;go_wp2_with (first | (go_at_call 45;refine (WD.out _).mono ?_;rintro e w1 ⟨rfl,rfl⟩) | (go_at_call 46;refine (SD.out _).mono ?_;rintro e w1 ⟨rfl,rfl⟩))
    all_goals
     go_ret2
     exact ⟨rfl,0,rfl⟩
 by_cases c3:bt s i<=223
 ·have hw:kV (bt s i)=2:=by unfold kV;(repeat' split)<;>omega
  by_cases hbd:s.size<i+2\/bt s (i+1)<iK (bt s i)\/jS (bt s i)<bt s (i+1)
  ·have hd:Utf8.decode s i=(65533,1):=by
    refine (sM s i hi (by omega) c3).1 ?_;have hl:iK (bt s i)=128:=by unfold iK;(repeat' split)<;>omega
    have hh:jS (bt s i)=191:=by unfold jS;(repeat' split)<;>omega
    unfold aZ;rw [if_neg (by omega)];omega
   rw [hd];exact bad 2 (by omega) (by omega) hw hbd
  ·rw [vv s i hi (by omega) c3];exact kg s i 2 _ w hs (by omega) (by omega) (by omega) hw rfl (by omega) (by omega)
 by_cases c4:bt s i<=239
 ·have hw:kV (bt s i)=3:=by unfold kV;(repeat' split)<;>omega
  obtain ⟨d1,d2⟩:=vC s i hi (by omega) c4;by_cases hbd:s.size<i+3\/bt s (i+1)<iK (bt s i)\/jS (bt s i)<bt s (i+1)
  ·rw [d1 (by omega)];exact bad 3 (by omega) (by omega) hw hbd
  ·rw [d2 (by omega) (by omega)];exact kg s i 3 _ w hs (by omega) (by omega) (by omega) hw rfl (by omega) (by omega)
 ·have hw:kV (bt s i)=4:=by unfold kV;(repeat' split)<;>omega
  obtain ⟨d1,d2⟩:=vD s i hi (by omega) (by omega);by_cases hbd:s.size<i+4\/bt s (i+1)<iK (bt s i)\/jS (bt s i)<bt s (i+1)
  ·rw [d1 (by omega)];exact bad 4 (by omega) (by omega) hw hbd
  ·rw [d2 (by omega) (by omega)];exact kg s i 4 _ w hs (by omega) (by omega) (by omega) hw rfl (by omega) (by omega)
def IJ (s:ByteArray) (V:Bool) (w:Zu) (vi:Value) (wr:Zu):Prop:=∃ i f q:Nat,i<=s.size/\s.size<=i+f/\vi=.int .i64 i/\(je s f i).all vF=V/\wr=w.drewN q
theorem fu (s:ByteArray) (w:Zu) (hs:s.size<=1000000000) : Calls Tryz.prog 15 #[.string s] w (Dr (.bool (dx s)) w):=by
 obtain ⟨V,hV⟩:∃ V,V=dx s:=⟨_,rfl⟩;rw [<- hV];have R0:Hid (IJ s V w (.int .i64 0) w):=⟨0,s.size,0,Nat.zero_le _,by omega,rfl,by rw [hV];rfl,rfl⟩;clear hV;go_enter Tryz.func15,Tryz.ntmps15;go_wp2
 go_loopw [3] (fun i wr=>IJ s V w i wr) (fun i _=>s.size-(intOf i).toNat)
 case atStart=>exact R0.out
 case round=>
  clear R0;obtain ⟨i,f,q,hi,hf,rfl,hall,rfl⟩:=hrel;by_cases hlt:i<s.size
  ·have NX:=hid (yC s i (w.drewN q) hs hlt);have hd:=nC s i hlt;have hp:=jy s i;have hc:(Utf8.decode s i).1<=1114111:=zK s 1 i (Utf8.decode s i) (by rw [je,if_pos hlt];simp);have hst:(vF (Utf8.decode s i)&&(je s (f-1) (i+(Utf8.decode s i).2)).all vF)=V:=by
    rw [<- hall];obtain ⟨f',rfl⟩:∃ f',f=f'+1:=⟨f-1,by omega⟩;rw [je,if_pos hlt];rfl
   have HST:=hid hst;clear hst hall;generalize Utf8.decode s i=d at *;obtain ⟨c,n⟩:=d;simp only at hd hp hc NX HST;have UN:=hid (fun w=>qC c w hc);by_cases hA:c=65533/\n=1
   ·obtain ⟨rfl,rfl⟩:=hA;have HV:Hid (V=false):=by show V=false;rw [<- HST.out];rfl
    clear HST;go_wp2_with fail
    refine NX.out.mono ?_;rintro e w1 ⟨rfl,q1,rfl⟩;go_wp2;go_ret;exact ⟨by rw [HV.out];rfl,_,rfl⟩
   ·have hok:vF (c,n)=!Bg c:=by
     unfold vF Bg;rw [YL];simp;omega
    have zF:=hid hok;clear hok;have k1:((c:Int)==65533)=decide (c=65533):=by rw [YL];simp;omega
    have k2:((n:Int)==1)=decide (n=1):=by rw [YL];simp;omega
    by_cases NA:c=65533
    ·have hn1:n≠1:=fun h=>hA ⟨NA,h⟩
     have l1:((c:Int)==65533)=true:=by rw [k1];simpa using NA
     have l2:((n:Int)==1)=false:=by rw [k2];simpa using hn1
     clear hn1;cases hu:Bg c
     all_goals
      rw [hu] at UN zF;clear hA k1 k2 hu NA;go_wp2_with fail
      refine NX.out.mono ?_;rintro e w1 ⟨rfl,q1,rfl⟩;go_wp2_with fail
      refine (UN.out _).mono ?_;rintro e w1 ⟨rfl,rfl⟩;go_wp2
     ·go_roundw;case rel=>exact ⟨i+n,f-1,q+q1,hd,by omega,by go_num,by rw [<- HST.out,zF.out];simp,rfl⟩
      case measure=>simp [intOf];omega
     ·go_ret;exact ⟨by rw [<- HST.out,zF.out];rfl,_,rfl⟩
    ·have l1:((c:Int)==65533)=false:=by rw [k1];simpa using NA
     cases hu:Bg c
     all_goals
      rw [hu] at UN zF;clear hA k1 k2 hu NA;go_wp2_with fail
      refine NX.out.mono ?_;rintro e w1 ⟨rfl,q1,rfl⟩;go_wp2_with fail
      refine (UN.out _).mono ?_;rintro e w1 ⟨rfl,rfl⟩;go_wp2
     ·go_roundw;case rel=>exact ⟨i+n,f-1,q+q1,hd,by omega,by go_num,by rw [<- HST.out,zF.out];simp,rfl⟩
      case measure=>simp [intOf];omega
     ·go_ret;exact ⟨by rw [<- HST.out,zF.out];rfl,_,rfl⟩
  ·have HV:Hid (V=true):=by
    show V=true;rw [<- hall,vG s f i hlt];rfl
   clear hall;go_wp2;go_ret;exact ⟨by rw [HV.out];rfl,q,rfl⟩
open Go.RowKit
theorem jO:∀ (l:List UInt8) (c:UInt8),decide (Lib.indexByte l c<0)=l.all fun x=>!decide (x=c)
 | [],c=>rfl
 | b::l,c=>by
  have ih:=jO l c;have hge:=Lib.indexByte_ge l c;rw [Lib.indexByte,List.all_cons,<- ih];by_cases h:b=c
  ·subst h;simp
  ·have h1:(b==c)=false:=by simpa using h
   rw [h1];by_cases h2:Lib.indexByte l c=-1
   ·simp [h2,h]
   ·have h3:(Lib.indexByte l c==-1)=false:=by simpa using h2
    simp only [Bool.false_eq_true,if_false,h3];rw [YL];simp [h];omega
theorem Bl (s:ByteArray):decide (Lib.indexByte s.data.toList ((10:Int).toNat.toUInt8)<0)=KG s:=jO _ _
theorem vH (s:ByteArray):gL s=(dx s&&decide (Lib.indexByte s.data.toList ((10:Int).toNat.toUInt8)<0)):=by rw [Bl];rfl
theorem bI (s:ByteArray):s.toList.isEmpty=dR s:=by rw [Lib.toList_data,YL];simp [dR]
theorem D7 (s:ByteArray):dR s=decide (s.size=0):=by
 have h:s.data.toList.length=s.size:=by simp
 unfold dR;rw [YL,decide_eq_true_iff,decide_eq_true_iff,<- h,List.length_eq_zero_iff]
theorem KJ (s:ByteArray):dR s=decide (s=ByteArray.empty):=by
 unfold dR;rw [YL,decide_eq_true_iff,decide_eq_true_iff];constructor
 ·intro h;exact ByteArray.ext (Array.ext' h)
 ·rintro rfl;rfl
theorem eT (s:ByteArray):s=ByteArray.empty\/(s≠ByteArray.empty/\0<s.size/\s.toList.isEmpty=false/\dR s=false):=by
 by_cases h:s=ByteArray.empty
 ·exact .inl h
 ·have h1:dR s=false:=by rw [KJ];simpa using h
  refine .inr ⟨h,?_,by rw [bI];exact h1,h1⟩;rw [D7] at h1;have:s.size≠0:=by simpa using h1
  omega
theorem Bn (s:ByteArray) (w:Zu) (hs:s.size<=1000000000) : Calls Tryz.prog 118 #[.string s] w (Dr (.bool (gL s)) w):=by
 have VA:=hid (fu s w hs);have IB:=hid (fun w=>Tryz.strings_IndexByte s 10 w);have HL:=hid (vH s);generalize gL s=V at *;generalize Lib.indexByte s.data.toList ((10:Int).toNat.toUInt8)=n at *;cases hv:dx s with
 | false=>
  rw [hv] at VA HL;clear hv;go_enter Tryz.func118,Tryz.ntmps118;go_wp2_with fail
  refine VA.out.mono ?_;rintro e w1 ⟨rfl,q,rfl⟩;go_wp2;go_ret;exact ⟨by rw [HL.out];rfl,_,rfl⟩
 | true=>
  rw [hv] at VA HL;clear hv;go_enter Tryz.func118,Tryz.ntmps118;go_wp2_with fail
  refine VA.out.mono ?_;rintro e w1 ⟨rfl,q,rfl⟩;go_wp2_with fail
  refine (IB.out _).mono ?_;rintro e w1 ⟨rfl,rfl⟩;go_wp2;go_ret;exact ⟨by rw [HL.out];rfl,_,rfl⟩
theorem D8 (s:ByteArray) (w:Zu) (hs:s.size<=1000000000) : Calls Tryz.prog 36 #[.string s] w (Dr (.bool (gL s)) w):=by
 have VA:=hid (fu s w hs);have IB:=hid (fun w=>Tryz.strings_IndexByte s 10 w);have HL:=hid (vH s);generalize gL s=V at *;generalize Lib.indexByte s.data.toList ((10:Int).toNat.toUInt8)=n at *;cases hv:dx s with
 | false=>
  rw [hv] at VA HL;clear hv;go_enter Tryz.func36,Tryz.ntmps36;go_wp2_with fail
  refine VA.out.mono ?_;rintro e w1 ⟨rfl,q,rfl⟩;go_wp2;go_ret;exact ⟨by rw [HL.out];rfl,_,rfl⟩
 | true=>
  rw [hv] at VA HL;clear hv;go_enter Tryz.func36,Tryz.ntmps36;go_wp2_with fail
  refine VA.out.mono ?_;rintro e w1 ⟨rfl,q,rfl⟩;go_wp2_with fail
  refine (IB.out _).mono ?_;rintro e w1 ⟨rfl,rfl⟩;go_wp2;go_ret;exact ⟨by rw [HL.out];rfl,_,rfl⟩
theorem Gt (s:ByteArray) (c:UInt8) (h:0<s.size):decide (s.data.toList.head?=some c)=decide (bt s 0=c.toNat):=by
 have h1:s.data.toList.head?=some s[0]:=by rw [<- dK s 0 h];exact List.head?_eq_getElem?
 rw [h1,<- dh s 0 h,YL];simp [UInt8.toNat_inj]
theorem zL (s:ByteArray) (c:UInt8) (h:0<s.size):decide (s.data.toList.getLast?=some c)=decide (bt s (s.size-1)=c.toNat):=by
 have h1:s.data.toList.getLast?=some s[s.size-1]:=by rw [<- dK s (s.size-1) (by omega),List.getLast?_eq_getElem?];congr 1
 rw [h1,<- dh s (s.size-1) (by omega),YL];simp [UInt8.toNat_inj]
theorem dZ (s:ByteArray) (w:Zu) (hs:s.size<=1000000000) : Calls Tryz.prog 37 #[.string s] w fun e w'=>e=.returned (.bool (trimS s))/\w=w':=by
 rcases eT s with rfl | ⟨hne,hp,hie,hes⟩
 ·go_enter Tryz.func37,Tryz.ntmps37;go_wp2;go_ret;exact ⟨rfl,rfl⟩
 ·have hv:trimS s=(!decide (bt s 0=32)&&!decide (bt s (s.size-1)=32)):=by
   unfold trimS;unfold dR at hes;rw [hes,Gt s 32 hp,zL s 32 hp];rfl
  rw [hv];have e0:=dh s 0 hp;have e1:=dh s (s.size-1) (by omega);generalize bt s 0=b0 at *;generalize bt s (s.size-1)=b1 at *;have hsub:((s.size:Int)-1).toNat=s.size-1:=by omega
  clear hv hes;go_enter Tryz.func37,Tryz.ntmps37;go_wp2;all_goals
   go_ret;refine ⟨u7 ?_,rfl⟩
   (try simp only [beq_iff_eq,beq_eq_false_iff_ne,ne_eq,bne_iff_ne,bne_eq_false_iff_eq] at *)
   rw [YL];simp
   (try omega)
theorem qD (s:ByteArray) (w:Zu) (hs:s.size<=1000000000) : Calls Tryz.prog 90 #[.string s] w (Dr (.bool (mI s)) w):=by
 rcases eT s with rfl | ⟨hne,hp,hie,hes⟩
 ·go_enter Tryz.func90,Tryz.ntmps90;go_wp2;go_ret;exact ⟨rfl,0,rfl⟩
 ·have hv:mI s=(dx s&&decide (bt s (s.size-1)=10)):=by
   unfold mI;rw [hes,zL s 10 hp];rfl
  rw [hv];have e1:=dh s (s.size-1) (by omega);have VA:=hid (fu s w hs);generalize bt s (s.size-1)=b1 at *;generalize dx s=V at *;have hsub:((s.size:Int)-1).toNat=s.size-1:=by omega
  clear hv hes;cases V
  all_goals
   go_enter Tryz.func90,Tryz.ntmps90;go_wp2_with fail
   refine VA.out.mono ?_;rintro e w1 ⟨rfl,q,rfl⟩;go_wp2;all_goals
    go_ret;refine ⟨u7 ?_,_,rfl⟩
    (try simp only [beq_iff_eq,beq_eq_false_iff_ne,ne_eq,bne_iff_ne,bne_eq_false_iff_eq] at *)
    (try rw [YL])
    (try simp)
    (try omega)
end Go.Proofs.YtnmldmofggkoeaaGreatDoor

