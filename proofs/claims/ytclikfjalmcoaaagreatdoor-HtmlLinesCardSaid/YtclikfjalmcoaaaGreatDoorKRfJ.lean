/- Contracts of publisherref01.Next and publisherref04.Label. Contracts of publisherref04.cites, named. Contracts of publisherref04.target, one. Contracts of publisherref04.list, Line: the first error of inlines. -/
import Derived.Test.YtclikfjalmcoaaaGreatDoorKRfE
import Derived.Test.YtclikfjalmcoaaaGreatDoorKChU
set_option maxHeartbeats 8000000
set_option maxRecDepth 100000
open Go.Lib (hid)
namespace Go.Proofs.YtclikfjalmcoaaaGreatDoor
open List renaming getElem?_eq_getElem->jh0,cons_append->ji0,nil_append->ji1
open Go.RowKit.Below renaming refl->jh1
open Nat renaming le_refl->jh2
open Bool renaming eq_iff_iff->jh5
open Go.RowKit renaming Below->jk4
open Go.RowKit
set_option linter.unusedVariables false
set_option linter.unusedSimpArgs false
theorem LW (s:ByteArray) (i:Nat) (w:World) (hs:s.size<=140737488355328) (hi:i<s.size) : Calls Tryz.prog 234 #[.string s,.int .i64 i] w fun e w'=>e=.returned (.tuple #[.int .i64 (Utf8.decode s i).1,.int .i64 (Utf8.decode s i).2])/\jk4 w.heap.size w w':=by
 have T:=OZ s i hs hi;generalize Utf8.decode s i=d at *;obtain ⟨d1,d2⟩:=d;go_enter Tryz.func234,Tryz.ntmps234;go_wp2_with fail
 refine (T _).mono ?_;rintro e w' ⟨rfl,hb⟩;obtain ⟨hc,hf⟩:=OY hb;go_wp2_with fail
 go_quiet (fail)
 go_wp2
 go_ret2
 refine ⟨rfl,?_⟩;exact eD (hb.alloc hb.size _) nq
theorem one_byte (s:ByteArray) (i:Nat) (hi:i<s.size):(s.extract i (i+1)).data.toList=[s[i]]:=by
 have h1:(s.extract i (i+1)).data.toList=(s.data.toList.take (i+1)).drop i:=by simp [ByteArray.data_extract,Array.toList_extract,List.drop_take]
 rw [h1,List.take_add_one,BI s i hi,Option.toList_some,List.drop_append_of_le_length (by simp;omega),List.drop_of_length_le (by simp;omega)];rfl
theorem Kl (b:UInt8) (n:Nat) (h:b.toNat=n):([32,45,95,46,58]:List UInt8).contains b=([32,45,95,46,58]:List Nat).contains n:=by subst h;rw [jh5];simp [<- UInt8.toNat_inj]
theorem Sk (s:ByteArray) (i:Nat) (hi:i<s.size):oG (s.extract i (i+1)) [32,45,95,46,58]=([32,45,95,46,58]:List Nat).contains (Utf8.decode s i).1:=by
 unfold oG;rw [one_byte s i hi];simp only [List.any_cons,List.any_nil,Bool.or_false];rcases zZ s i hi with ⟨h1,h2⟩ | ⟨h1,h2⟩
 ·rw [h2];exact Kl _ _ (jh s i hi)
 ·have h3:=h2 0 (iB s i);rw [Nat.add_zero] at h3;rw [Kl _ _ (jh s i hi)];generalize (Utf8.decode s i).1=c at *;generalize bt s i=b at *;rw [jh5];simp;omega
def Um (s:ByteArray) (V:Bool) (w:World) (vi:Value) (wr:World):Prop:=∃ i f:Nat,i<=s.size/\s.size<=i+f/\vi=.int .i64 i/\(iK s f i).all jU=V/\jk4 w.heap.size w wr
theorem I8 (s:ByteArray) (w:World) (hs:s.size<=1000000000) : Calls Tryz.prog 207 #[.string s] w (bR (.bool (tV s)) w):=by
 by_cases h0:s.size<1
 ·have hv:tV s=false:=by unfold tV;simp;omega
  rw [hv];have q1:decide ((s.size:Int)<(1:Int))=true:=by simp;omega
  clear hv;go_enter Tryz.func207,Tryz.ntmps207;go_wp2;go_ret;exact ⟨rfl,jh1 _ _⟩
 have q0:decide ((s.size:Int)<(1:Int))=false:=by simp;omega
 by_cases h60:60<s.size
 ·have hv:tV s=false:=by unfold tV;simp;omega
  rw [hv];have q1:decide ((60:Int)<(s.size:Int))=true:=by simp;omega
  clear hv;go_enter Tryz.func207,Tryz.ntmps207;go_wp2;go_ret;exact ⟨rfl,jh1 _ _⟩
 have q1:decide ((60:Int)<(s.size:Int))=false:=by simp;omega
 have FO:=hid (LJ s w hs);by_cases Gs:nu s=s;case neg=>
  have hv:tV s=false:=by unfold tV;simp [Gs]
  rw [hv];have hb1:=BM Gs;have hb2:=Jt Gs;generalize nu s=fs at *;clear hv Gs;go_enter Tryz.func207,Tryz.ntmps207;go_wp2_with fail
  refine FO.out.mono ?_;rintro e w1 ⟨rfl,hb⟩;have HB:=hid hb;clear hb;go_wp2;go_ret;exact ⟨rfl,HB.out⟩
 rw [Gs] at FO;have hv:tV s=(pts s).all jU:=by unfold tV;rw [Gs,decide_eq_true (show 1<=s.size by omega),decide_eq_true (show s.size<=60 by omega)];simp
 rw [hv];obtain ⟨V,hV⟩:∃ V,(pts s).all jU=V:=⟨_,rfl⟩;rw [hV];have HV:Hid ((iK s s.size 0).all jU=V):=hV;have hb1:(s.toList != s.toList)=false:=by simp
 clear hv Gs hV;go_enter Tryz.func207,Tryz.ntmps207;go_wp2_with fail
 refine FO.out.mono ?_;rintro e w1 ⟨rfl,hb⟩;have R0:Hid (Um s V w (.int .i64 0) w1):=⟨0,s.size,Nat.zero_le _,by omega,rfl,HV.out,hb⟩;clear hb FO;go_wp2
 go_loopw [3] (fun vi wr=>Um s V w vi wr) (fun i _=>s.size-(intOf i).toNat)
 case atStart=>exact R0.out
 case round=>
  clear R0;obtain ⟨i,f,hi,hf,rfl,hall,hbel⟩:=hrel;have HB:=hid hbel;by_cases hlt:i<s.size
  ·have NX:=hid (LW s i wr (by omega) hlt);have hd:=Lib.rune_le s i;have hwd:=iB s i;have hle:=oC s i hlt;have hst:=zX s f i hlt hf;have HST:Hid ((jU (Utf8.decode s i)&&(iK s (f-1) (i+(Utf8.decode s i).2)).all jU)=V):=by
    show _=V;rw [<- hall,hst,List.all_cons]
   have HH:=hid (fun w=>lI (s.extract i (i+1)) ⟨#[32,45,95,46,58]⟩ w (by rw [ByteArray.size_extract];omega) (by decide));have Xw:Hid (oG (s.extract i (i+1)) (⟨#[32,45,95,46,58]⟩:ByteArray).data.toList=([32,45,95,46,58]:List Nat).contains (Utf8.decode s i).1):=Sk s i hlt;rw [Xw.out] at HH;clear hst hall hbel Xw;generalize Utf8.decode s i=d at *;obtain ⟨d1,d2⟩:=d;simp only at hd hwd hle NX HST HH;have CL:=hid (fun w=>FH d1 w hd);have CD:=hid (fun w=>IZ d1 w hd);have Qi:Hid (jU (d1,d2)=(iD d1||BQ d1||([32,45,95,46,58]:List Nat).contains d1)):=rfl;generalize ([32,45,95,46,58]:List Nat).contains d1=bo at *;generalize iD d1=bl at *;generalize BQ d1=bd at *;have q2:decide ((d2:Int)<(1:Int))=false:=by simp;omega
   go_wp2_with fail
   refine NX.out.mono ?_;rintro e w2 ⟨rfl,b2⟩;have HB2:=hid (aM HB.out b2);clear b2 NX;go_wp2_with fail
   refine (CL.out _).mono ?_;rintro e w3 ⟨rfl,b3⟩;have HB3:=hid (aM HB2.out b3);clear b3;cases bl with
   | true=>
    go_wp2;go_roundw;case rel=>exact ⟨i+d2,f-1,hle,by omega,by go_num,by rw [<- HST.out,Qi.out];rfl,HB3.out⟩
    case measure=>simp [intOf];omega
   | false=>
    go_wp2_with fail
    refine (CD.out _).mono ?_;rintro e w4 ⟨rfl,rfl⟩;cases bd with
    | true=>
     go_wp2;go_roundw;case rel=>exact ⟨i+d2,f-1,hle,by omega,by go_num,by rw [<- HST.out,Qi.out];rfl,HB3.out⟩
     case measure=>simp [intOf];omega
    | false=>
     go_wp2_with fail
     refine (HH.out _).mono ?_;rintro e w5 ⟨rfl,b5⟩;have tY:=hid (aM HB3.out b5);clear b5;cases bo with
     | true=>
      go_wp2;go_roundw;case rel=>exact ⟨i+d2,f-1,hle,by omega,by go_num,by rw [<- HST.out,Qi.out];rfl,tY.out⟩
      case measure=>simp [intOf];omega
     | false=>
      have HE:Hid (V=false):=by show V=false;rw [<- HST.out,Qi.out];rfl
      go_wp2;go_ret;exact ⟨by rw [HE.out];rfl,tY.out⟩
  ·have HE:Hid (V=true):=by
    show V=true;rw [<- hall,qM s f i hlt];rfl
   clear hall hbel;go_wp2;go_ret;exact ⟨by rw [HE.out];rfl,HB.out⟩
open Go.RowKit
def Un (l:List Ci) (E:Nat) (w:World) (vi:Value) (wr:World):Prop:=∃ k:Nat,k<=l.length/\vi=.int .i64 k/\jk4 w.heap.size w wr/\eU (l.drop k)=E
theorem Br (s:ByteArray):gW s=(!eB s||!trimS s||oG s [91,93,59,64,123,36,96]):=rfl
theorem I9 (l:List Ci) (a:Option Addr) (cap:Nat) (w:World) (h:Rd (·<w.heap.size) w (KF l) [.slice a l.length cap]) (hsz:∀ c∈l,c.key.size<=5000/\c.pre.size<=5000/\c.suf.size<=5000) : Calls Tryz.prog 192 #[.slice a l.length cap] w (bR (.int .i64 (MO l:Nat)) w):=by
 obtain ⟨a',c',hv,hs⟩:=Rd.aB h;obtain ⟨rfl,rfl⟩:a'=a/\c'=cap:=by simp at hv;exact ⟨hv.1.symm,hv.2.symm⟩
 have hcap:l.length<=c':=by simpa using hs.le
 have hmx:=hs.max;unfold maxLen at hmx;have HS:=hid hs;have SZ:=hid hsz;clear hs hv h hsz;by_cases h0:l.length=0
 ·have hv:MO l=8:=by
   obtain rfl:=List.eq_nil_of_length_eq_zero h0;rfl
  rw [hv];have e0:((l.length:Int)==0)=true:=by rw [h0];rfl
  clear hv h0;go_enter Tryz.func192,Tryz.ntmps192;go_wp2;go_ret;exact ⟨rfl,jh1 _ _⟩
 have hv:MO l=eU l:=by
  cases l with
  | nil=>simp at h0
  | cons x l=>rfl
 rw [hv];have e0:((l.length:Int)==0)=false:=by rw [beq_eq_false_iff_ne];omega
 obtain ⟨E,hE⟩:∃ E,eU l=E:=⟨_,rfl⟩;rw [hE];have R0:Hid (Un l E w (.int .i64 0) w):=⟨0,Nat.zero_le _,rfl,jh1 _ _,hE⟩;clear hv hE h0;go_enter Tryz.func192,Tryz.ntmps192
 (try simp only [List.append_eq,ji0,ji1])
 go_wp2
 go_loopw [3] (fun i wr=>Un l E w i wr) (fun i _=>l.length-(intOf i).toNat)
 case atStart=>exact R0.out
 case round=>
  clear R0;obtain ⟨k,hk,rfl,hbel,aQ⟩:=hrel;have HB:=hid hbel;by_cases hlt:k<l.length
  ·obtain ⟨x,hx⟩:∃ x,l[k]?=some x:=⟨_,jh0 hlt⟩;have hxs:=SZ.out x (List.mem_of_getElem? hx);obtain ⟨b,off,rfl,-,-,c0,c1,c2,c3⟩:=Gv HS.out hx;have c0:wr.cell? ⟨b,off+k*4,none⟩=some (.string x.key):=by rw [hbel.cell (p:=⟨b,off+k*4,none⟩) (mJ c0)];exact c0
   have c1:wr.cell? ⟨b,off+k*4+1,none⟩=some (.string x.pre):=by rw [hbel.cell (p:=⟨b,off+k*4+1,none⟩) (mJ c1)];exact c1
   have c2:wr.cell? ⟨b,off+k*4+2,none⟩=some (.string x.suf):=by rw [hbel.cell (p:=⟨b,off+k*4+2,none⟩) (mJ c2)];exact c2
   have c3:wr.cell? ⟨b,off+k*4+3,none⟩=some (.bool x.bare):=by rw [hbel.cell (p:=⟨b,off+k*4+3,none⟩) (mJ c3)];exact c3
   rw [Eh l k x hx,eU] at aQ;obtain ⟨key,pre,suf,bare⟩:=x;dsimp only at c0 c1 c2 c3 hxs aQ;have bO:=hid aQ;have CN:=hid (fun w=>lJ key w (by omega));have CLp:=hid (fun w=>iA pre w (by omega));have CTp:=hid (fun w=>Bo pre w (by omega));have CHp:=hid (fun w=>lI pre ⟨#[91,93,59,64,123,36,96]⟩ w (by omega) (by decide));change Hid (∀ w,Calls Tryz.prog 224 #[.string pre,.string ⟨#[91,93,59,64,123,36,96]⟩] w (bR (.bool (oG pre [91,93,59,64,123,36,96])) w)) at CHp;have CLs:=hid (fun w=>iA suf w (by omega));have CTs:=hid (fun w=>Bo suf w (by omega));have CHs:=hid (fun w=>lI suf ⟨#[91,93,59,64,123,36,96]⟩ w (by omega) (by decide));change Hid (∀ w,Calls Tryz.prog 224 #[.string suf,.string ⟨#[91,93,59,64,123,36,96]⟩] w (bR (.bool (oG suf [91,93,59,64,123,36,96])) w)) at CHs;have HBP:=hid (Br pre);have Q7:=hid (Br suf);obtain ⟨wi,hwi⟩:∃ wi,wi=wr.alloc (.cells #[.string key,.string pre,.string suf,.bool bare] 125):=⟨_,rfl⟩;have k2:CB 125 wr.heap.size [.string key,.string pre,.string suf,.bool bare] wi:=by rw [hwi];exact CB.new _ _ _
   have HB2:Hid (jk4 w.heap.size w wi):=by show jk4 _ _ _;rw [hwi];exact HB.out.alloc HB.out.size _
   have i0:=k2.cell 0 _ rfl;have i1:=k2.cell 1 _ rfl;have i2:=k2.cell 2 _ rfl;have K2:=hid k2;clear aQ hx hbel k2;generalize eB pre=Lp at *;generalize trimS pre=Tp at *;generalize oG pre [91,93,59,64,123,36,96]=Hp at *;generalize eB suf=Ls at *;generalize trimS suf=Ts at *;generalize oG suf [91,93,59,64,123,36,96]=Hs at *;go_upto_region 7 with (fail)
   rw [<- hwi];clear hwi c0 c1 c2 c3;cases hn:fP key with
   | false=>
    rw [hn] at CN;have HE:Hid (E=6):=by show E=6;have:=bO.out;rw [if_pos hn] at this;exact this.symm
    clear hn;go_wp2_with fail
    refine (CN.out _).mono ?_;rintro e w3 ⟨rfl,rfl⟩;go_wp2;go_ret;exact ⟨by rw [HE.out];rfl,HB2.out⟩
   | true=>
    rw [hn] at CN;have fC:Hid ((if gW pre=true\/gW suf=true then 17 else eU (l.drop (k+1)))=E):=by show _=_;have:=bO.out;rw [if_neg (by rw [hn];decide)] at this;exact this
    clear hn bO;go_wp2_with fail
    refine (CN.out _).mono ?_;rintro e w3 ⟨rfl,rfl⟩;go_wp2_with fail
    refine (CLp.out _).mono ?_;rintro e w3 ⟨rfl,b3⟩;have K3:=hid (K2.out.below b3);have HB3:=hid (aM HB2.out b3);have i1:=K3.out.cell 1 _ rfl;have i2:=K3.out.cell 2 _ rfl;clear b3;cases Lp
    case false=>
     have HE:Hid (E=17):=by show E=17;have:=fC.out;rw [if_pos (.inl (by rw [HBP.out];rfl))] at this;exact this.symm
     go_wp2;go_ret;exact ⟨by rw [HE.out];rfl,HB3.out⟩
    case true=>
     go_wp2_with fail
     refine (CTp.out _).mono ?_;rintro e wt ⟨rfl,rfl⟩;cases Tp
     case false=>
      have HE:Hid (E=17):=by show E=17;have:=fC.out;rw [if_pos (.inl (by rw [HBP.out];rfl))] at this;exact this.symm
      go_wp2;go_ret;exact ⟨by rw [HE.out];rfl,HB3.out⟩
     case true=>
      go_wp2_with fail
      refine (CHp.out _).mono ?_;rintro e w4 ⟨rfl,b4⟩;have K4:=hid (K3.out.below b4);have mP:=hid (aM HB3.out b4);have i1:=K4.out.cell 1 _ rfl;have i2:=K4.out.cell 2 _ rfl;clear b4;cases Hp
      case true=>
       have HE:Hid (E=17):=by show E=17;have:=fC.out;rw [if_pos (.inl (by rw [HBP.out];rfl))] at this;exact this.symm
       go_wp2;go_ret;exact ⟨by rw [HE.out];rfl,mP.out⟩
      case false=>
       have PB:Hid (gW pre=false):=by show _=_;rw [HBP.out];rfl
       go_wp2_with fail
       refine (CLs.out _).mono ?_;rintro e w5 ⟨rfl,b5⟩;have K5:=hid (K4.out.below b5);have tY:=hid (aM mP.out b5);have i1:=K5.out.cell 1 _ rfl;have i2:=K5.out.cell 2 _ rfl;clear b5;cases Ls
       case false=>
        have HE:Hid (E=17):=by show E=17;have:=fC.out;rw [if_pos (.inr (by rw [Q7.out];rfl))] at this;exact this.symm
        go_wp2;go_ret;exact ⟨by rw [HE.out];rfl,tY.out⟩
       case true=>
        go_wp2_with fail
        refine (CTs.out _).mono ?_;rintro e wt ⟨rfl,rfl⟩;cases Ts
        case false=>
         have HE:Hid (E=17):=by show E=17;have:=fC.out;rw [if_pos (.inr (by rw [Q7.out];rfl))] at this;exact this.symm
         go_wp2;go_ret;exact ⟨by rw [HE.out];rfl,tY.out⟩
        case true=>
         go_wp2_with fail
         refine (CHs.out _).mono ?_;rintro e w6 ⟨rfl,b6⟩;have K6:=hid (K5.out.below b6);have HB6:=hid (aM tY.out b6);have i1:=K6.out.cell 1 _ rfl;have i2:=K6.out.cell 2 _ rfl;clear b6;cases Hs
         case true=>
          have HE:Hid (E=17):=by show E=17;have:=fC.out;rw [if_pos (.inr (by rw [Q7.out];rfl))] at this;exact this.symm
          go_wp2;go_ret;exact ⟨by rw [HE.out];rfl,HB6.out⟩
         case false=>
          have SB:Hid (gW suf=false):=by show _=_;rw [Q7.out];rfl
          have Eo:Hid (eU (l.drop (k+1))=E):=by show _=E;have:=fC.out;rw [if_neg (by rw [PB.out,SB.out];decide)] at this;exact this
          go_wp2;go_roundw;case rel=>exact ⟨k+1,by omega,by go_num,HB6.out,Eo.out⟩
          case measure=>simp [intOf];omega
  ·have HE:Hid (E=0):=by
    show E=0;rw [<- aQ,List.drop_of_length_le (by omega),eU]
   clear aQ hbel;go_wp2;go_ret;exact ⟨by rw [HE.out];rfl,HB.out⟩
theorem LX (s:ByteArray):uS s=(!eB s||oG s [124,123,125]):=rfl
theorem Ja (w:World) (k:Int) (t d ti:ByteArray) (at_:At) (ar:List ByteArray) (ci:List Ci) (ks:List aj) (ac ap aa ai ak:Option Addr) (cc cp ca gF ck:Nat) (h:dQ (·<w.heap.size) w at_ ar ci ks (.slice ac at_.cls.length cc) (.slice ap at_.aF.length cp) (.slice aa ar.length ca) (.slice ai ci.length gF) (.slice ak ks.length ck)) (hs:SQ t d ti at_ ar ci) : Calls Tryz.prog 191 #[.agg #[.int .i64 k,.string t,.string d,.string ti,.string at_.id,.slice ac at_.cls.length cc,.slice ap at_.aF.length cp,.slice aa ar.length ca,.slice ai ci.length gF,.slice ak ks.length ck]] w (bR (.int .i64 (MP k t ti ar:Nat)) w):=by
 obtain ⟨a',c',hv,hsl⟩:=Rd.aB h.args;obtain ⟨rfl,rfl⟩:aa=a'/\ca=c':=by simp at hv;exact hv
 have hcap:ar.length<=ca:=by simpa using hsl.le
 have hmx:=hsl.max;unfold maxLen at hmx;have HS:=hid hsl;have SZ:=hid hs.ars;have NT:=hid (fun w=>lJ t w (by have:=hs.t;omega));obtain ⟨w1,hw1⟩:∃ w1,w1=w.alloc (.cells #[.int .i64 k,.string t,.string d,.string ti,.string at_.id,.slice ac at_.cls.length cc,.slice ap at_.aF.length cp,.slice aa ar.length ca,.slice ai ci.length gF,.slice ak ks.length ck] 51):=⟨_,rfl⟩;have k1:CB 51 w.heap.size [.int .i64 k,.string t,.string d,.string ti,.string at_.id,.slice ac at_.cls.length cc,.slice ap at_.aF.length cp,.slice aa ar.length ca,.slice ai ci.length gF,.slice ak ks.length ck] w1:=by rw [hw1];exact CB.new _ _ _
 have b1:jk4 w.heap.size w w1:=by rw [hw1];exact (jh1 _ _).alloc (jh2 _) _
 have p0:=k1.cell 0 _ rfl;have p1:=k1.cell 1 _ rfl;have p3:=k1.cell 3 _ rfl;have p5:=k1.cell 7 _ rfl;have K1:=hid k1;have B1:=hid b1;have R0:Hid (UQ ar w1 (.int .i64 0) w1):=⟨0,Nat.zero_le _,rfl,jh1 _ _,by simp⟩;clear hv hsl h hs k1 b1;have HE:Hid (MP k t ti ar=if fP t=false then 6 else if k=14/\aT ti=false/\ti.data.toList≠nI then 5 else if 8<ar.length then 3 else if ar.any uS then 17 else 0):=rfl;obtain ⟨V,hV⟩:∃ V,V=MP k t ti ar:=⟨_,rfl⟩;rw [<- hV] at HE ⊢;clear hV;go_enter Tryz.func191,Tryz.ntmps191
 (try simp only [List.append_eq,ji0,ji1])
 go_upto_region 1 with (fail)
 rw [<- hw1];clear hw1;cases hn:fP t with
 | false=>
  rw [hn] at NT;have HV:Hid (V=6):=by show V=6;rw [HE.out,if_pos hn]
  clear hn R0;go_wp2_with fail
  refine (NT.out _).mono ?_;rintro e w3 ⟨rfl,rfl⟩;go_wp2;go_ret;exact ⟨by rw [HV.out];rfl,B1.out⟩
 | true=>
 rw [hn] at NT;have HE2:Hid (V=if k=14/\aT ti=false/\ti.data.toList≠nI then 5 else if 8<ar.length then 3 else if ar.any uS then 17 else 0):=by show V=_;rw [HE.out,if_neg (by rw [hn];decide)]
 clear hn HE;go_wp2_with fail
 refine (NT.out _).mono ?_;rintro e w3 ⟨rfl,rfl⟩;clear NT;go_upto_region 3 with (fail)
 have hemp:=sD ti;have hpg:(ti.toList==[112,97,103,101])=decide (ti.data.toList=nI):=by rw [Lib.toList_data,jh5,beq_iff_eq,decide_eq_true_iff];rfl
 go_cut [20] (fun s wx=>s=.bool (decide (k=14/\aT ti=false/\ti.data.toList≠nI))/\w1=wx)
 case first=>
  clear R0 HE2;by_cases hk:k=14;case neg=>
   have hq:=beq_false_of_ne hk;go_wp2_with fail
   go_meet
   exact ⟨by simp [hk],rfl⟩
  subst hk;cases he:aT ti with
  | true=>
   rw [he] at hemp;go_wp2_with fail
   go_meet
   exact ⟨by simp [he],rfl⟩
  | false=>
   rw [he] at hemp;by_cases hp:ti.data.toList=nI
   ·have hpp:(ti.toList != [112,97,103,101])=false:=by unfold bne;rw [hpg,decide_eq_true hp];rfl
    rw [decide_eq_true hp] at hpg;have HP:=hid hp;clear hp;go_wp2_with fail
    go_meet
    exact ⟨by simp [HP.out],rfl⟩
   ·have hpp:(ti.toList != [112,97,103,101])=true:=by unfold bne;rw [hpg,decide_eq_false hp];rfl
    rw [decide_eq_false hp] at hpg;have HP:=hid hp;have DK:=hid he;clear hp he;go_wp2_with fail
    go_meet
    exact ⟨by simp [HP.out,DK.out],rfl⟩
 case rest=>
  obtain ⟨rfl,rfl⟩:=hcut;clear hemp hpg;by_cases Xx:k=14/\aT ti=false/\ti.data.toList≠nI
  ·have HV:Hid (V=5):=by show V=5;rw [HE2.out,if_pos Xx]
   rw [decide_eq_true Xx];clear Xx R0;go_wp2;go_ret;exact ⟨by rw [HV.out];rfl,B1.out⟩
  have Dy:Hid (V=if 8<ar.length then 3 else if ar.any uS then 17 else 0):=by show V=_;rw [HE2.out,if_neg Xx]
  rw [decide_eq_false Xx];clear Xx HE2;by_cases h8:8<ar.length
  ·have q1:decide ((8:Int)<(ar.length:Int))=true:=by simp;omega
   have HV:Hid (V=3):=by show V=3;rw [Dy.out,if_pos h8]
   clear R0;go_wp2;go_ret;exact ⟨by rw [HV.out];rfl,B1.out⟩
  have q1:decide ((8:Int)<(ar.length:Int))=false:=by simp;omega
  have HL:Hid (V=if ar.any uS then 17 else 0):=by show V=_;rw [Dy.out,if_neg h8]
  clear Dy;go_wp2
  go_loopw [3] (fun i wr=>UQ ar w1 i wr) (fun i _=>ar.length-(intOf i).toNat)
  case atStart=>exact R0.out
  case round=>
   clear R0 p0 p1 p3 p5;obtain ⟨j,hj,rfl,hbel,hno⟩:=hrel;have HB:=hid (aM B1.out hbel);have HBW:=hid hbel;have yZ:=hid hno;have p5:=(K1.out.below hbel).cell 7 _ rfl;by_cases hlt:j<ar.length
   ·obtain ⟨x,hx⟩:∃ x,ar[j]?=some x:=⟨_,jh0 hlt⟩;have hxs:=SZ.out x (List.mem_of_getElem? hx);obtain ⟨b2,off,rfl,-,-,x0⟩:=eF HS.out hx;have x0:wr.cell? ⟨b2,off+j,none⟩=some (.string x):=by rw [HB.out.cell (p:=⟨b2,off+j,none⟩) (mJ x0)];exact x0
    have CL:=hid (iA x wr (by omega));have CH:=hid (fun w=>lI x ⟨#[124,123,125]⟩ w (by omega) (by decide));change Hid (∀ w,Calls Tryz.prog 224 #[.string x,.string ⟨#[124,123,125]⟩] w (bR (.bool (oG x [124,123,125])) w)) at CH;have HAB:=hid (LX x);have iE:=hid (kR uS hx);have HBAD:Hid (uS x=true->V=17):=fun hb=>by rw [HL.out,sM uS hx hb];rfl
    clear hx hbel hno;generalize eB x=L at *;generalize oG x [124,123,125]=Hh at *;cases L with
    | false=>
     have HV:Hid (V=17):=HBAD.out (by rw [HAB.out];rfl);go_wp2_with fail
     refine CL.out.mono ?_;rintro e w4 ⟨rfl,b4⟩;have mP:=hid (aM HB.out b4);clear b4;go_wp2;go_ret;exact ⟨by rw [HV.out];rfl,mP.out⟩
    | true=>
     go_wp2_with fail
     refine CL.out.mono ?_;rintro e w4 ⟨rfl,b4⟩;have mP:=hid (aM HB.out b4);have HW4:=hid (aM HBW.out b4);have p5:=(K1.out.below HW4.out).cell 7 _ rfl;have x0:w4.cell? ⟨b2,off+j,none⟩=some (.string x):=by rw [b4.cell (p:=⟨b2,off+j,none⟩) (mJ x0)];exact x0
     clear b4;go_wp2_with fail
     refine (CH.out _).mono ?_;rintro e w5 ⟨rfl,b5⟩;have tY:=hid (aM mP.out b5);have HW5:=hid (aM HW4.out b5);clear b5;cases Hh with
     | true=>
      have HV:Hid (V=17):=HBAD.out (by rw [HAB.out];rfl);go_wp2;go_ret;exact ⟨by rw [HV.out];rfl,tY.out⟩
     | false=>
      go_wp2;go_roundw;case rel=>exact ⟨j+1,by omega,by go_num,HW5.out,by rw [iE.out,yZ.out,HAB.out];rfl⟩
      case measure=>simp [intOf];omega
   ·have HV:Hid (V=0):=by
     show V=0;have:=yZ.out;rw [List.take_of_length_le (by omega)] at this;rw [HL.out,this];rfl
    clear hbel hno;go_wp2;go_ret;exact ⟨by rw [HV.out];rfl,HB.out⟩
open Go.RowKit
theorem FR (w:World) (k:Int) (t d ti:ByteArray) (at_:At) (ar:List ByteArray) (ci:List Ci) (ks:List aj) (ac ap aa ai ak:Option Addr) (cc cp ca gF ck:Nat) (h:dQ (·<w.heap.size) w at_ ar ci ks (.slice ac at_.cls.length cc) (.slice ap at_.aF.length cp) (.slice aa ar.length ca) (.slice ai ci.length gF) (.slice ak ks.length ck)) (hs:SQ t d ti at_ ar ci) (hk:k=9\/k=10) : Calls Tryz.prog 188 #[.agg #[.int .i64 k,.string t,.string d,.string ti,.string at_.id,.slice ac at_.cls.length cc,.slice ap at_.aF.length cp,.slice aa ar.length ca,.slice ai ci.length gF,.slice ak ks.length ck]] w (bR (.int .i64 (q1z k t d ti at_ ks:Nat)) w):=by
 obtain ⟨s1,s2,s3,s4,-,-⟩:=hs;have LT:=hid (fun w=>I8 t w (by omega));have CD:=hid (fun w=>iA d w (by omega));have CT:=hid (fun w=>iA ti w (by omega));have AC:=hid (fun wx (hb:jk4 w.heap.size w wx)=>uO at_ ac ap cc cp wx (h.at_.up hb) s4);have AK:=hid (fun wx (hb:jk4 w.heap.size w wx)=>I7 _ ks (.slice ak ks.length ck) false wx (jh2 _) (h.kids.up hb));change Hid (∀ wx,jk4 w.heap.size w wx->Calls Tryz.prog 220 #[.slice ak ks.length ck,.bool false] wx (bR (.bool (aj.cO bX ks)) wx)) at AK;have HE:Hid (q1z k t d ti at_ ks=if aT t=false/\(aT d=false\/aT ti=false) then 5
 else if aT t=false/\tV t=false then 6
 else if eB d=false\/eB ti=false then 17
 else if k=9/\aj.cO bX ks=true then 5
 else if k=10 then at_.err else 0):=rfl
 obtain ⟨V,hV⟩:∃ V,V=q1z k t d ti at_ ks:=⟨_,rfl⟩
 rw [<- hV] at HE ⊢;have HD:=hid (sD d).symm;have HT:=hid (sD t).symm;have UJ:=hid (sD ti).symm;generalize tV t=L at *;generalize eB d=L1 at *;generalize eB ti=L2 at *;generalize aj.cO bX ks=A at *;generalize at_.err=E at *
 obtain ⟨w1,hw1⟩:∃ w1,w1=w.alloc (.cells #[.int .i64 k,.string t,.string d,.string ti,.string at_.id,.slice ac at_.cls.length cc,.slice ap at_.aF.length cp,.slice aa ar.length ca,.slice ai ci.length gF,.slice ak ks.length ck] 51):=⟨_,rfl⟩;have k1:CB 51 w.heap.size [.int .i64 k,.string t,.string d,.string ti,.string at_.id,.slice ac at_.cls.length cc,.slice ap at_.aF.length cp,.slice aa ar.length ca,.slice ai ci.length gF,.slice ak ks.length ck] w1:=by rw [hw1];exact CB.new _ _ _
 have b1:jk4 w.heap.size w w1:=by rw [hw1];exact (jh1 _ _).alloc (jh2 _) _
 have p0:=k1.cell 0 _ rfl;have p1:=k1.cell 1 _ rfl;have p2:=k1.cell 2 _ rfl;have p3:=k1.cell 3 _ rfl;have p4:=k1.cell 4 _ rfl;have p5:=k1.cell 5 _ rfl;have p6:=k1.cell 6 _ rfl;have p7:=k1.cell 7 _ rfl;have p8:=k1.cell 8 _ rfl;have p9:=k1.cell 9 _ rfl;have K1:=hid k1;have B1:=hid b1;clear hV h k1 b1 s1 s2 s3 s4;go_enter Tryz.func188,Tryz.ntmps188
 (try simp only [List.append_eq,ji0,ji1])
 go_upto_region 1 with (fail)
 rw [<- hw1];clear hw1;cases hT:t.toList.isEmpty<;>cases hD:d.toList.isEmpty<;>cases hTI:ti.toList.isEmpty<;>rcases hk with rfl | rfl
 all_goals
  go_wp2_with (first
   | (go_at_call 207;refine (LT.out _).mono ?_;rintro e w2 ⟨rfl,hb2⟩;have K2:=K1.out.below hb2;have HB2:=hid (aM B1.out hb2);have p0:=K2.cell 0 _ rfl;have p2:=K2.cell 2 _ rfl;have p3:=K2.cell 3 _ rfl;have p4:=K2.cell 4 _ rfl;have p5:=K2.cell 5 _ rfl;have p6:=K2.cell 6 _ rfl;have p9:=K2.cell 9 _ rfl)
   | (go_at_call 131;(with_reducible refine (CD.out _).mono ?_);rintro e w3 ⟨rfl,hb3⟩;have K3:=(by first | exact K2.below hb3 | exact K1.out.below hb3:CB 51 w.heap.size _ w3);have HB3:Hid (jk4 w.heap.size w w3):=(by first | exact hid (aM HB2.out hb3) | exact hid (aM B1.out hb3));have p0:=K3.cell 0 _ rfl;have p3:=K3.cell 3 _ rfl;have p4:=K3.cell 4 _ rfl;have p5:=K3.cell 5 _ rfl;have p6:=K3.cell 6 _ rfl;have p9:=K3.cell 9 _ rfl)
   | (go_at_call 131;(with_reducible refine (CT.out _).mono ?_);rintro e w4 ⟨rfl,hb4⟩;have K4:=K3.below hb4;have mP:=hid (aM HB3.out hb4);have p0:=K4.cell 0 _ rfl;have p4:=K4.cell 4 _ rfl;have p5:=K4.cell 5 _ rfl;have p6:=K4.cell 6 _ rfl;have p9:=K4.cell 9 _ rfl)
   | (go_at_call 220;refine (AK.out _ mP.out).mono ?_;rintro e w5 ⟨rfl,hb5⟩;have K5:=K4.below hb5;have tY:=hid (aM mP.out hb5);have p0:=K5.cell 0 _ rfl;have p4:=K5.cell 4 _ rfl;have p5:=K5.cell 5 _ rfl;have p6:=K5.cell 6 _ rfl;have p9:=K5.cell 9 _ rfl)
   | (go_at_call 190;refine (AC.out _ (by first | exact tY.out | exact mP.out)).mono ?_;rintro e w6 ⟨rfl,hb6⟩;have HB6:Hid (jk4 w.heap.size w w6):=(by first | exact hid (aM tY.out hb6) | exact hid (aM mP.out hb6))))
  all_goals
   go_ret;refine ⟨gD ?_,?_⟩
   ·(try simp only [Bool.not_eq_true',Bool.not_eq_false'] at *)
    rw [HE.out,HD.out,HT.out,UJ.out,hT,hD,hTI];simp [*]
   ·first | exact HB6.out | exact tY.out | exact mP.out | exact HB3.out | exact HB2.out | exact B1.out
theorem Ph (w:World) (k:Int) (t d ti:ByteArray) (at_:At) (ar:List ByteArray) (ci:List Ci) (ks:List aj) (ac ap aa ai ak:Option Addr) (cc cp ca gF ck:Nat) (bf:Int) (fi la:Bool) (h:dQ (·<w.heap.size) w at_ ar ci ks (.slice ac at_.cls.length cc) (.slice ap at_.aF.length cp) (.slice aa ar.length ca) (.slice ai ci.length gF) (.slice ak ks.length ck)) (hs:SQ t d ti at_ ar ci) : Calls Tryz.prog 154 #[.agg #[.int .i64 k,.string t,.string d,.string ti,.string at_.id,.slice ac at_.cls.length cc,.slice ap at_.aF.length cp,.slice aa ar.length ca,.slice ai ci.length gF,.slice ak ks.length ck],.int .i64 bf,.bool fi,.bool la] w (bR (.int .i64 (oI bf fi la k t d ti at_ ar ci ks:Nat)) w):=by
 have l1:=(yY h.at_.cls).2;have l2:=(yY h.at_.aF).2;obtain ⟨-,l5,m5⟩:=yY h.kids;have AE:=hid (fun w=>uN at_ ac ap cc cp w (by omega) (by omega));unfold maxLen at m5;clear l1 l2;have CL:=hid (fun w=>iA t w (by have:=hs.t;omega));have AC:=hid (fun wx (hb:jk4 w.heap.size w wx)=>uO at_ ac ap cc cp wx (h.at_.up hb) hs.at_);have LK:=hid (fun wx (hb:jk4 w.heap.size w wx) hk=>FR wx k t d ti at_ ar ci ks ac ap aa ai ak cc cp ca gF ck (h.up hb) hs hk);have NM:=hid (fun wx (hb:jk4 w.heap.size w wx)=>Ja wx k t d ti at_ ar ci ks ac ap aa ai ak cc cp ca gF ck (h.up hb) hs);have CC:=hid (fun wx (hb:jk4 w.heap.size w wx)=>I9 ci ai gF wx (h.bg.up hb) hs.cis);have AD:=hid (fun w=>LV d w (by have:=hs.d;omega));have FD:=hid (fun wx (hb:jk4 w.heap.size w wx)=>rZ wx k t d ti at_ ar ci ks ac ap aa ai ak cc cp ca gF ck (h.up hb));have e3:=nE ks;have HE:Hid (oI bf fi la k t d ti at_ ar ci ks=if vW k t d ti at_ ar ci ks=false then 5
 else if k=1\/k=4\/k=5 then (if aT t=true\/eB t=false then 17 else if k≠5/\bf=k then 5 else 0)
 else if k=2 then (if bf=2\/bf=3\/fi=true\/la=true then 5 else 0)
 else if k=3 then (if la=true then 5 else 0)
 else if k=6\/k=7\/k=8 then (if ks.isEmpty=true then 8 else 0)
 else if k=9\/k=10 then q1z k t d ti at_ ks
 else if k=11 then (if at_.none=true then 8 else at_.err)
 else if k=12\/k=14\/k=15 then MP k t ti ar
 else if k=13 then MO ci
 else if mI d=true then 0 else 5):=rfl
 have HF:=hid (fun hf=>(wu (k:=k) (t:=t) (d:=d) (ti:=ti) (a:=at_) (ar:=ar) (ci:=ci) (ks:=ks) hf));obtain ⟨V,hV⟩:∃ V,V=oI bf fi la k t d ti at_ ar ci ks:=⟨_,rfl⟩
 rw [<- hV] at HE ⊢;have HT:=hid (sD t).symm;generalize eB t=L at *;generalize q1z k t d ti at_ ks=E1 at *
 generalize at_.none=bn at *
 generalize at_.err=E2 at *
 generalize MP k t ti ar=E3 at *;generalize MO ci=E4 at *;generalize mI d=bu at *;generalize ks.isEmpty=bk at *;generalize vW k t d ti at_ ar ci ks=bf0 at *
 obtain ⟨w1,hw1⟩:∃ w1,w1=w.alloc (.cells #[.int .i64 k,.string t,.string d,.string ti,.string at_.id,.slice ac at_.cls.length cc,.slice ap at_.aF.length cp,.slice aa ar.length ca,.slice ai ci.length gF,.slice ak ks.length ck] 51):=⟨_,rfl⟩;have k1:CB 51 w.heap.size [.int .i64 k,.string t,.string d,.string ti,.string at_.id,.slice ac at_.cls.length cc,.slice ap at_.aF.length cp,.slice aa ar.length ca,.slice ai ci.length gF,.slice ak ks.length ck] w1:=by rw [hw1];exact CB.new _ _ _
 have b1:jk4 w.heap.size w w1:=by rw [hw1];exact (jh1 _ _).alloc (jh2 _) _
 have p0:=k1.cell 0 _ rfl;have p1:=k1.cell 1 _ rfl;have p2:=k1.cell 2 _ rfl;have p3:=k1.cell 3 _ rfl;have p4:=k1.cell 4 _ rfl;have p5:=k1.cell 5 _ rfl;have p6:=k1.cell 6 _ rfl;have p7:=k1.cell 7 _ rfl;have p8:=k1.cell 8 _ rfl;have p9:=k1.cell 9 _ rfl;have K1:=hid k1;have B1:=hid b1;clear hV h hs k1 b1;go_enter Tryz.func154,Tryz.ntmps154
 (try simp only [List.append_eq,ji0,ji1])
 go_upto_region 1 with (fail)
 rw [<- hw1];clear hw1;go_wp2_with fail
 refine (FD.out _ B1.out).mono ?_;rintro e w2 ⟨rfl,hb2⟩;have K2:=hid (K1.out.below hb2);have B2:=hid (aM B1.out hb2);clear p0 p1 p2 p3 p4 p5 p6 p7 p8 p9 hb2 FD K1 B1;have p0:=K2.out.cell 0 _ rfl;have p1:=K2.out.cell 1 _ rfl;have p2:=K2.out.cell 2 _ rfl;have p3:=K2.out.cell 3 _ rfl;have p4:=K2.out.cell 4 _ rfl;have p5:=K2.out.cell 5 _ rfl;have p6:=K2.out.cell 6 _ rfl;have p7:=K2.out.cell 7 _ rfl;have p8:=K2.out.cell 8 _ rfl;have p9:=K2.out.cell 9 _ rfl;cases bf0 with
 | false=>
  have HV:Hid (V=5):=HE.out;clear p0 p1 p2 p3 p4 p5 p6 p7 p8 p9;go_wp2;go_ret;exact ⟨by rw [HV.out];rfl,B2.out⟩
 | true=>
 obtain ⟨f1,f2,-⟩:=HF.out rfl;clear HF;rcases qN k with rfl | rfl | rfl | rfl | rfl | rfl | rfl | rfl | rfl | rfl | rfl | rfl | rfl | rfl | rfl | rfl | hk
 case inr.inr.inr.inr.inr.inr.inr.inr.inr.inr.inr.inr.inr.inr.inr.inr=>omega
 all_goals
  go_wp2_with (first
   | (go_at_call 131;refine (CL.out _).mono ?_;rintro e w3 ⟨rfl,hb3⟩;have K3:=K2.out.below hb3;have HB3:=hid (aM B2.out hb3);have p0:=K3.cell 0 _ rfl)
   | (go_at_call 188;refine (LK.out _ B2.out (by simp)).mono ?_;rintro e w3 ⟨rfl,hb3⟩;have HB3:=hid (aM B2.out hb3))
   | (go_at_call 189;refine (AE.out _).mono ?_;rintro e w3 ⟨rfl,hb3⟩;have K3:=K2.out.below hb3;have HB3:=hid (aM B2.out hb3);have p4:=K3.cell 4 _ rfl;have p5:=K3.cell 5 _ rfl;have p6:=K3.cell 6 _ rfl)
   | (go_at_call 190;refine (AC.out _ HB3.out).mono ?_;rintro e w4 ⟨rfl,hb4⟩;have mP:=hid (aM HB3.out hb4))
   | (go_at_call 191;refine (NM.out _ B2.out).mono ?_;rintro e w3 ⟨rfl,hb3⟩;have HB3:=hid (aM B2.out hb3))
   | (go_at_call 192;refine (CC.out _ B2.out).mono ?_;rintro e w3 ⟨rfl,hb3⟩;have HB3:=hid (aM B2.out hb3))
   | (go_at_call 193;refine (AD.out _).mono ?_;rintro e w3 ⟨rfl,hb3⟩;have HB3:=hid (aM B2.out hb3)))
  all_goals
   go_ret;refine ⟨gD ?_,?_⟩
   ·(try simp only [Bool.not_eq_true',Bool.not_eq_false',beq_iff_eq,beq_eq_false_iff_ne,ne_eq] at *)
    rw [HE.out,HT.out];simp [*]
   ·first | exact mP.out | exact HB3.out | exact B2.out
open Go.RowKit
def Uo (l:List aj) (dp:Nat) (E:Nat) (w:World) (vb vi:Value) (wr:World):Prop:=∃ k:Nat,k<=l.length/\vi=.int .i64 k/\vb=.int .i64 (qP l k)/\jk4 w.heap.size w wr/\aj.aS (qP l k) (decide (k=0)) dp (l.drop k)=E
theorem LY (bf:Int) (st:Bool) (dp:Nat) (k:Int) (t d ti:ByteArray) (a:At) (ar:List ByteArray) (ci:List Ci) (ks:List aj) (l:List aj) (qg:¬ 15<dp) (fi la:Bool) (hfi:fi=(decide (dp=0)&&st)) (hla:la=(decide (dp=0)&&l.isEmpty)) : aj.aS bf st dp (aj.mk k t d ti a ar ci ks::l)=if oI bf fi la k t d ti a ar ci ks≠0 then oI bf fi la k t d ti a ar ci ks else if aj.aS 0 true (dp+1) ks≠0 then aj.aS 0 true (dp+1) ks else aj.aS k false dp l:=by
 subst hfi hla;rw [aj.aS,if_neg qg,aj.err];by_cases h1:oI bf (decide (dp=0)&&st) (decide (dp=0)&&l.isEmpty) k t d ti a ar ci ks=0
 ·simp only [h1,ne_eq,not_true_eq_false,if_false];rfl
 ·simp only [ne_eq,h1,not_false_eq_true,if_true]
theorem LZ (n:Nat):∀ (l:List aj) (dp:Nat) (a:Option Addr) (cap:Nat) (w:World),aj.aZ l<=n->dp<=1000000->aj.aC l->Rd (·<w.heap.size) w (bC l) [.slice a l.length cap] -> Calls Tryz.prog 102 #[.slice a l.length cap,.int .i64 (dp:Int)] w (bR (.int .i64 (aj.aS 0 true dp l:Nat)) w):=by
 induction n using Nat.strongRecOn with
 | _ n ih=>
  intro l dp a cap w hn hdp hsm h;obtain ⟨a',c',hv,hs⟩:=Rd.aB h;obtain ⟨rfl,rfl⟩:a'=a/\c'=cap:=by simp at hv;exact ⟨hv.1.symm,hv.2.symm⟩
  have hcap:l.length<=c':=by simpa using hs.le
  have hmx:=hs.max;unfold maxLen at hmx;have HS:=hid hs;have IH:=hid ih;have SM:=hid hsm;obtain ⟨E,hE⟩:∃ E,aj.aS 0 true dp l=E:=⟨_,rfl⟩;rw [hE];have R0:Hid (Uo l dp E w (.int .i64 0) (.int .i64 0) w):=⟨0,Nat.zero_le _,rfl,rfl,jh1 _ _,hE⟩;clear hs hv h ih hsm hE;go_enter Tryz.func102,Tryz.ntmps102
  (try simp only [List.append_eq,ji0,ji1])
  go_wp2
  go_loopw [5,6] (fun b i wr=>Uo l dp E w b i wr) (fun _ i _=>l.length-(intOf i).toNat)
  case atStart=>exact R0.out
  case round=>
   clear R0;obtain ⟨k,hk,rfl,rfl,hbel,aQ⟩:=hrel;have HB:=hid hbel;by_cases hlt:k<l.length
   ·obtain ⟨x,hx⟩:∃ x,l[k]?=some x:=⟨_,jh0 hlt⟩;by_cases qg:15<dp
    ·have PV:decide ((15:Int)<(dp:Int))=true:=by simp;omega
     have HE:Hid (E=11):=by show E=11;rw [<- aQ,Eh l k x hx,aj.aS,if_pos qg]
     clear aQ hx hbel;generalize qP l k=bf at *;go_wp2;go_ret;exact ⟨by rw [HE.out];rfl,HB.out⟩
    have PV:decide ((15:Int)<(dp:Int))=false:=by simp;omega
    have hbs:=Ad hx;have hxs:x.small:=aj.wE SM.out hx;have hsz:=aj.bE l k _ hx;rw [Eh l k x hx] at aQ;have hle:(l.drop (k+1)).isEmpty=((k:Int)==(l.length:Int)-1):=by rw [jh5];simp;omega
    obtain ⟨kd,t,d,ti,at_,ar,ci,ks⟩:=x;rw [aj.sz] at hsz;obtain ⟨hins,hks⟩:=UR hxs;have hz0:decide (dp=0)=((dp:Int)==0):=by rw [jh5];simp
    have hzk:decide (k=0)=((k:Int)==0):=by rw [jh5];simp
    obtain ⟨fi,hfi⟩:∃ fi,fi=(decide (dp=0)&&decide (k=0)):=⟨_,rfl⟩;obtain ⟨la,hla⟩:∃ la,la=(decide (dp=0)&&(l.drop (k+1)).isEmpty):=⟨_,rfl⟩;rw [LY _ _ _ _ _ _ _ _ _ _ _ _ qg fi la hfi hla] at aQ;rw [hz0,hzk] at hfi;rw [hz0,hle] at hla;obtain ⟨b,off,ac,ap,aa,ai,ak,cc,cp,ca,gF,ck,ha,SV⟩:=Gx HS.out hx;have hP:=SV.up hbel;subst ha;obtain ⟨c0,c1,c2,c3,c4,c5,c6,c7,c8,c9⟩:=hP.cells;have HP:=hid hP;have ONE:=hid (fun bf fi la=>Ph wr kd t d ti at_ ar ci ks ac ap aa ai ak cc cp ca gF ck bf fi la hP.rd hins);have KID:=hid (fun wx (hb:jk4 wr.heap.size wr wx)=>IH.out (aj.aZ ks) (by omega) ks (dp+1) ak ck wx (jh2 _) (by omega) hks (hP.up hb).rd.kids);simp only [Int.natCast_add,Int.natCast_one] at KID;have Q7:=hid hbs;have ZU:=hid hfi;have ZV:=hid hla;have bO:=hid aQ;clear hx hbs hxs hsz aQ hle hins hks hz0 hzk hfi hla SV hP hbel;generalize qP l k=bf at *;obtain ⟨E1,hE1⟩:∃ E1,E1=oI bf fi la kd t d ti at_ ar ci ks:=⟨_,rfl⟩
    rw [<- hE1] at bO;have N7:=hid hE1;clear hE1;go_upto_region 7 with (fail)
    go_cut [7] (fun s wx=>s=.int .i64 (E1:Int)/\jk4 wr.heap.size wr wx)
    case first=>
     cases hz:((dp:Int)==0) with
     | false=>
      rw [hz] at ZU ZV;have h1:fi=false:=ZU.out;have h2:la=false:=ZV.out;have HE2:Hid (E1=oI bf false false kd t d ti at_ ar ci ks):=by show E1=_;rw [N7.out,h1,h2]
      clear h1 h2;go_wp2_with fail
      refine (ONE.out _ _ _).mono ?_;rintro e w3 ⟨rfl,b3⟩;have HB3:=hid b3;clear b3;go_wp2_with fail
      go_meet
      exact ⟨by rw [HE2.out],HB3.out⟩
     | true=>
      cases hk0:((k:Int)==0)<;>cases hkl:((k:Int)==(l.length:Int)-1)
      all_goals
       rw [hz,hk0] at ZU;rw [hz,hkl] at ZV;have h1:=ZU.out;have h2:=ZV.out;simp only [Bool.and_true,Bool.and_false,Bool.true_and] at h1 h2;have HE2:=N7;rw [h1,h2] at HE2;clear h1 h2;go_wp2_with fail
       refine (ONE.out _ _ _).mono ?_;rintro e w3 ⟨rfl,b3⟩;have HB3:=hid b3;clear b3;go_wp2_with fail
       go_meet
       exact ⟨by rw [HE2.out],HB3.out⟩
    case rest=>
     obtain ⟨rfl,hbc⟩:=hcut;have HPC:=hid (HP.out.up hbc);have zH:=hid hbc;have zy:=hid (aM HB.out hbc);clear c0 c1 c2 c3 c4 c5 c6 c7 c8 c9 hbc ONE ZU ZV N7;have c0:=HPC.out.cells.c0;have c9:=HPC.out.cells.c9;by_cases he1:E1=0;case neg=>
      have hn1:((E1:Int) != 0)=true:=by rw [bne_iff_ne];omega
      have HV:Hid (E=E1):=by show E=E1;rw [<- bO.out,if_pos he1]
      clear he1;go_wp2;go_ret;exact ⟨by rw [HV.out];rfl,zy.out⟩
     subst he1;have fC:Hid ((if aj.aS 0 true (dp+1) ks≠0 then aj.aS 0 true (dp+1) ks else aj.aS kd false dp (l.drop (k+1)))=E):=by show _=E;exact (if_neg (by simp)).symm.trans bO.out
     clear bO;obtain ⟨E2,hE2⟩:∃ E2,E2=aj.aS 0 true (dp+1) ks:=⟨_,rfl⟩;rw [<- hE2] at fC KID;clear hE2;go_wp2_with fail
     refine (KID.out _ zH.out).mono ?_;rintro e w4 ⟨rfl,b4⟩;have Gc:=hid (HPC.out.up b4);have mP:=hid (aM zy.out b4);clear b4 c0 c9;have c0:=Gc.out.cells.c0;by_cases he2:E2=0;case neg=>
      have hn2:((E2:Int) != 0)=true:=by rw [bne_iff_ne];omega
      have HV:Hid (E=E2):=by show E=E2;rw [<- fC.out,if_pos he2]
      clear he2;go_wp2;go_ret;exact ⟨by rw [HV.out];rfl,mP.out⟩
     subst he2;have HN:Hid (aj.aS kd false dp (l.drop (k+1))=E):=by show _=E;exact (if_neg (by simp)).symm.trans fC.out
     clear fC;go_wp2;go_roundw;case rel=>exact ⟨k+1,by omega,by go_num,by rw [Q7.out];rfl,mP.out,by rw [Q7.out,decide_eq_false (by omega)];exact HN.out⟩
     case measure=>simp [intOf];omega
   ·have HE:Hid (E=0):=by
     show E=0;rw [<- aQ,List.drop_of_length_le (by omega),aj.aS]
    clear aQ hbel;generalize qP l k=bf at *;go_wp2;go_ret;exact ⟨by rw [HE.out];rfl,HB.out⟩
theorem C8 (l:List aj) (a:Option Addr) (cap:Nat) (w:World) (hsm:aj.aC l) (h:Rd (·<w.heap.size) w (bC l) [.slice a l.length cap]) : Calls Tryz.prog 51 #[.slice a l.length cap] w (bR (.int .i64 (qh l:Nat)) w):=by
 have CK:=hid (LZ _ l 0 a cap w (jh2 _) (by omega) hsm h);change Hid (Calls _ _ _ _ (bR (.int .i64 (qh l:Nat)) w)) at CK;generalize qh l=E at *;clear h hsm;go_enter Tryz.func51,Tryz.ntmps51;go_wp2_with fail
 refine CK.out.mono ?_;rintro e w1 ⟨rfl,b1⟩;have HB:=hid b1;clear b1;go_wp2;go_ret;exact ⟨rfl,HB.out⟩
end Go.Proofs.YtclikfjalmcoaaaGreatDoor

