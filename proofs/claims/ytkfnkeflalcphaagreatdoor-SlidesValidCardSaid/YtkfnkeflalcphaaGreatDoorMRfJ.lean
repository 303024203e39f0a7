/- Contracts of publisherref01.Next and publisherref04.Label. Contracts of publisherref04.cites, named. Contracts of publisherref04.target, one. Contracts of publisherref04.list, Line: the first error of inlines. -/
import Derived.Test.YtkfnkeflalcphaaGreatDoorMChU
set_option maxHeartbeats 8000000
set_option maxRecDepth 100000
open Go.Lib (hid)
namespace Go.Proofs.YtkfnkeflalcphaaGreatDoor
open Tryz
open Go.RowKit.Below renaming refl->jK7
open Nat renaming le_refl->jK8
open Bool renaming eq_iff_iff->jKk
open Go.RowKit renaming Below->jNj
open Go.RowKit
set_option linter.unusedVariables false
set_option linter.unusedSimpArgs false
theorem Si (s:ByteArray) (i:Nat) (w:World) (hs:s.size<=140737488355328) (hi:i<s.size) : Calls prog 217 #[.string s,.int .i64 i] w fun e w'=>e=.returned (.tuple #[.int .i64 (Utf8.decode s i).1,.int .i64 (Utf8.decode s i).2])/\jNj w.heap.size w w':=by
 have T:=Xj s i hs hi;generalize Utf8.decode s i=d at *;obtain ⟨d1,d2⟩:=d;go_enter func217,ntmps217;go_wp2_with fail
 refine (T _).mono ?_;rintro e w' ⟨rfl,hb⟩;obtain ⟨hc,hf⟩:=jjz hb;go_wp2_with fail
 go_quiet (fail)
 go_wp2
 go_ret2
 refine ⟨rfl,?_⟩;exact gQ (hb.alloc hb.size _) nq
theorem one_byte (s:ByteArray) (i:Nat) (hi:i<s.size):(s.extract i (i+1)).data.toList=[s[i]]:=by
 have h1:(s.extract i (i+1)).data.toList=(s.data.toList.take (i+1)).drop i:=by simp [ByteArray.data_extract,Array.toList_extract,List.drop_take]
 rw [h1,List.take_add_one,CY s i hi,Option.toList_some,List.drop_append_of_le_length (by simp;omega),List.drop_of_length_le (by simp;omega)];rfl
theorem Qh (b:UInt8) (n:Nat) (h:b.toNat=n):([32,45,95,46,58]:List UInt8).contains b=([32,45,95,46,58]:List Nat).contains n:=by subst h;rw [jKk];simp [<- UInt8.toNat_inj]
theorem jb9 (s:ByteArray) (i:Nat) (hi:i<s.size):nI (s.extract i (i+1)) [32,45,95,46,58]=([32,45,95,46,58]:List Nat).contains (Utf8.decode s i).1:=by
 unfold nI;rw [one_byte s i hi];simp only [List.any_cons,List.any_nil,Bool.or_false];rcases Ee s i hi with ⟨h1,h2⟩ | ⟨h1,h2⟩
 ·rw [h2];exact Qh _ _ (jE s i hi)
 ·have h3:=h2 0 (iU s i);rw [Nat.add_zero] at h3;rw [Qh _ _ (jE s i hi)];generalize (Utf8.decode s i).1=c at *;generalize bt s i=b at *;rw [jKk];simp;omega
def jkx (s:ByteArray) (V:Bool) (w:World) (vi:Value) (wr:World):Prop:=∃ i f:Nat,i<=s.size/\s.size<=i+f/\vi=.int .i64 i/\(dD s f i).all kL=V/\jNj w.heap.size w wr
theorem jkz{P:Prop}(h:P:=by
 go_wp2;go_roundw;case rel=>exact ⟨i+d2,f-1,hle,by omega,by go_num,by rw [<- HST.out,HLP.out];rfl,HB3.out⟩
 case measure=>simp [intOf];omega):P:=h
theorem Ck (s:ByteArray) (w:World) (hs:s.size<=1000000000) : Calls prog 182 #[.string s] w (dF (.bool (vF s)) w):=by
 by_cases h0:s.size<1
 ·have hv:vF s=false:=by unfold vF;simp;omega
  rw [hv];have q1:decide ((s.size:Int)<(1:Int))=true:=by simp;omega
  clear hv;go_enter func182,ntmps182;exact xA
 have q0:decide ((s.size:Int)<(1:Int))=false:=by simp;omega
 by_cases h60:60<s.size
 ·have hv:vF s=false:=by unfold vF;simp;omega
  rw [hv];have q1:decide ((60:Int)<(s.size:Int))=true:=by simp;omega
  clear hv;go_enter func182,ntmps182;exact xA
 have q1:decide ((60:Int)<(s.size:Int))=false:=by simp;omega
 have FO:=hid (RY s w hs);by_cases OH:nU s=s;case neg=>
  have hv:vF s=false:=by unfold vF;simp [OH]
  rw [hv];have hb1:=F8 OH;have hb2:=OI OH;generalize nU s=fs at *;clear hv OH;go_enter func182,ntmps182;go_wp2_with fail
  refine FO.out.mono ?_;rintro e w1 ⟨rfl,hb⟩;have HB:=hid hb;clear hb;go_wp2;go_ret;exact ⟨rfl,HB.out⟩
 rw [OH] at FO;have hv:vF s=(pts s).all kL:=by exact jd7
 rw [hv];obtain ⟨V,hV⟩:∃ V,(pts s).all kL=V:=⟨_,rfl⟩;rw [hV];have HV:Hid ((dD s s.size 0).all kL=V):=hV;have hb1:(s.toList != s.toList)=false:=by simp
 clear hv OH hV;go_enter func182,ntmps182;go_wp2_with fail
 refine FO.out.mono ?_;rintro e w1 ⟨rfl,hb⟩;have R0:Hid (jkx s V w (.int .i64 0) w1):=⟨0,s.size,Nat.zero_le _,by omega,rfl,HV.out,hb⟩;clear hb FO;go_wp2
 go_loopw [3] (fun vi wr=>jkx s V w vi wr) (fun i _=>s.size-(intOf i).toNat)
 case atStart=>exact R0.out
 case round=>
  clear R0;obtain ⟨i,f,hi,hf,rfl,hall,hbel⟩:=hrel;have HB:=hid hbel;by_cases hlt:i<s.size
  ·have NX:=hid (Si s i wr (by omega) hlt);have hd:=Lib.rune_le s i;have hwd:=iU s i;have hle:=pF s i hlt;have hst:=Ec s f i hlt hf;have HST:Hid ((kL (Utf8.decode s i)&&(dD s (f-1) (i+(Utf8.decode s i).2)).all kL)=V):=by
    show _=V;rw [<- hall,hst,List.all_cons]
   have HH:=hid (fun w=>jP (s.extract i (i+1)) ⟨#[32,45,95,46,58]⟩ w (by rw [ByteArray.size_extract];omega) (by decide));have HHD:Hid (nI (s.extract i (i+1)) (⟨#[32,45,95,46,58]⟩:ByteArray).data.toList=([32,45,95,46,58]:List Nat).contains (Utf8.decode s i).1):=jb9 s i hlt;rw [HHD.out] at HH;clear hst hall hbel HHD;generalize Utf8.decode s i=d at *;obtain ⟨d1,d2⟩:=d;simp only at hd hwd hle NX HST HH;have CL:=hid (fun w=>Ku d1 w hd);have CD:=hid (fun w=>NG d1 w hd);have HLP:Hid (kL (d1,d2)=(iV d1||Ga d1||([32,45,95,46,58]:List Nat).contains d1)):=rfl;generalize ([32,45,95,46,58]:List Nat).contains d1=bo at *;generalize iV d1=bl at *;generalize Ga d1=bd at *;have q2:decide ((d2:Int)<(1:Int))=false:=by simp;omega
   go_wp2_with fail
   refine NX.out.mono ?_;rintro e w2 ⟨rfl,b2⟩;have HB2:=hid (q01 HB.out b2);clear b2 NX;go_wp2_with fail
   refine (CL.out _).mono ?_;rintro e w3 ⟨rfl,b3⟩;have HB3:=hid (q01 HB2.out b3);clear b3;cases bl with
   | true=>
    exact jkz
   | false=>
    go_wp2_with fail
    refine (CD.out _).mono ?_;rintro e w4 ⟨rfl,rfl⟩;cases bd with
    | true=>
     exact jkz
    | false=>
     go_wp2_with fail
     refine (HH.out _).mono ?_;rintro e w5 ⟨rfl,b5⟩;have pJ:=hid (q01 HB3.out b5);clear b5;cases bo with
     | true=>
      go_wp2;go_roundw;case rel=>exact ⟨i+d2,f-1,hle,by omega,by go_num,by rw [<- HST.out,HLP.out];rfl,pJ.out⟩
      case measure=>simp [intOf];omega
     | false=>
      have HE:Hid (V=false):=by show V=false;rw [<- HST.out,HLP.out];rfl
      go_wp2;go_ret;exact ⟨by rw [HE.out];rfl,pJ.out⟩
  ·have HE:Hid (V=true):=by
    show V=true;rw [<- hall,jR s f i hlt];rfl
   clear hall hbel;exact jy
open Go.RowKit
def jl0 (l:List Ci) (E:Nat) (w:World) (vi:Value) (wr:World):Prop:=∃ k:Nat,k<=l.length/\vi=.int .i64 k/\jNj w.heap.size w wr/\eU (l.drop k)=E
theorem Fz (s:ByteArray):iw s=(!cZ s||!trimS s||nI s [91,93,59,64,123,36,96]):=rfl
theorem Xw{P:Prop}(h:P:=by
 show E=17;have:=fu.out;rw [if_pos (.inl (by rw [HBP.out];rfl))] at this;exact this.symm):P:=h
theorem Xx{P:Prop}(h:P:=by
 show E=17;have:=fu.out;rw [if_pos (.inr (by rw [W9.out];rfl))] at this;exact this.symm):P:=h
theorem NH (l:List Ci) (a:Option Addr) (cap:Nat) (w:World) (h:Rd (·<w.heap.size) w (Mg l) [.slice a l.length cap]) (hsz:∀ c∈l,c.key.size<=5000/\c.pre.size<=5000/\c.suf.size<=5000) : Calls prog 285 #[.slice a l.length cap] w (dF (.int .i64 (Uf l:Nat)) w):=by
 obtain ⟨a',c',hv,hs⟩:=Rd.aB h;obtain ⟨rfl,rfl⟩:a'=a/\c'=cap:=by simp at hv;exact ⟨hv.1.symm,hv.2.symm⟩
 have hcap:l.length<=c':=by simpa using hs.le
 have hmx:=hs.max;unfold maxLen at hmx;have HS:=hid hs;have SZ:=hid hsz;clear hs hv h hsz;by_cases h0:l.length=0
 ·have hv:Uf l=8:=by
   obtain rfl:=List.eq_nil_of_length_eq_zero h0;rfl
  rw [hv];have e0:((l.length:Int)==0)=true:=by rw [h0];rfl
  clear hv h0;go_enter func285,ntmps285;exact xA
 have hv:Uf l=eU l:=by
  cases l with
  | nil=>simp at h0
  | cons x l=>rfl
 rw [hv];have e0:((l.length:Int)==0)=false:=by rw [beq_eq_false_iff_ne];omega
 obtain ⟨E,hE⟩:∃ E,eU l=E:=⟨_,rfl⟩;rw [hE];have R0:Hid (jl0 l E w (.int .i64 0) w):=⟨0,Nat.zero_le _,rfl,jK7 _ _,hE⟩;clear hv hE h0;go_enter func285,ntmps285;refine kZ ?_;go_wp2
 go_loopw [3] (fun i wr=>jl0 l E w i wr) (fun i _=>l.length-(intOf i).toNat)
 case atStart=>exact R0.out
 case round=>
  clear R0;obtain ⟨k,hk,rfl,hbel,aX⟩:=hrel;have HB:=hid hbel;by_cases hlt:k<l.length
  ·obtain ⟨x,hx⟩:∃ x,l[k]?=some x:=⟨_,List.getElem?_eq_getElem hlt⟩;have hxs:=SZ.out x (List.mem_of_getElem? hx);obtain ⟨b,off,rfl,-,-,c0,c1,c2,c3⟩:=Mh HS.out hx;have c0:wr.cell? ⟨b,off+k*4,none⟩=some (.string x.key):=by rw [hbel.cell (p:=⟨b,off+k*4,none⟩) (nX c0)];exact c0
   have c1:wr.cell? ⟨b,off+k*4+1,none⟩=some (.string x.pre):=by rw [hbel.cell (p:=⟨b,off+k*4+1,none⟩) (nX c1)];exact c1
   have c2:wr.cell? ⟨b,off+k*4+2,none⟩=some (.string x.suf):=by rw [hbel.cell (p:=⟨b,off+k*4+2,none⟩) (nX c2)];exact c2
   have c3:wr.cell? ⟨b,off+k*4+3,none⟩=some (.bool x.bare):=by rw [hbel.cell (p:=⟨b,off+k*4+3,none⟩) (nX c3)];exact c3
   rw [IU l k x hx,eU] at aX;obtain ⟨key,pre,suf,bare⟩:=x;dsimp only at c0 c1 c2 c3 hxs aX;have bS:=hid aX;have CN:=hid (fun w=>TS key w (by omega));have CLp:=hid (fun w=>Xt pre w (by omega));have CTp:=hid (fun w=>qj pre w (by omega));have CHp:=hid (fun w=>jP pre ⟨#[91,93,59,64,123,36,96]⟩ w (by omega) (by decide));change Hid (∀ w,Calls prog 215 #[.string pre,.string ⟨#[91,93,59,64,123,36,96]⟩] w (dF (.bool (nI pre [91,93,59,64,123,36,96])) w)) at CHp;have CLs:=hid (fun w=>Xt suf w (by omega));have CTs:=hid (fun w=>qj suf w (by omega));have CHs:=hid (fun w=>jP suf ⟨#[91,93,59,64,123,36,96]⟩ w (by omega) (by decide));change Hid (∀ w,Calls prog 215 #[.string suf,.string ⟨#[91,93,59,64,123,36,96]⟩] w (dF (.bool (nI suf [91,93,59,64,123,36,96])) w)) at CHs;have HBP:=hid (Fz pre);have W9:=hid (Fz suf);obtain ⟨wi,hwi⟩:∃ wi,wi=wr.alloc (.cells #[.string key,.string pre,.string suf,.bool bare] 121):=⟨_,rfl⟩;have k2:CB 121 wr.heap.size [.string key,.string pre,.string suf,.bool bare] wi:=by rw [hwi];exact CB.new _ _ _
   have HB2:Hid (jNj w.heap.size w wi):=by show jNj _ _ _;rw [hwi];exact HB.out.alloc HB.out.size _
   have i0:=k2.cell 0 _ rfl;have i1:=k2.cell 1 _ rfl;have i2:=k2.cell 2 _ rfl;have K2:=hid k2;clear aX hx hbel k2;generalize cZ pre=Lp at *;generalize trimS pre=Tp at *;generalize nI pre [91,93,59,64,123,36,96]=Hp at *;generalize cZ suf=Ls at *;generalize trimS suf=Ts at *;generalize nI suf [91,93,59,64,123,36,96]=Hs at *;go_upto_region 7 with (fail)
   rw [<- hwi];clear hwi c0 c1 c2 c3;cases hn:dQ key with
   | false=>
    rw [hn] at CN;have HE:Hid (E=6):=by show E=6;have:=bS.out;rw [if_pos hn] at this;exact this.symm
    clear hn;go_wp2_with fail
    refine (CN.out _).mono ?_;rintro e w3 ⟨rfl,rfl⟩;exact Qg
   | true=>
    rw [hn] at CN;have fu:Hid ((if iw pre=true\/iw suf=true then 17 else eU (l.drop (k+1)))=E):=by show _=_;have:=bS.out;rw [if_neg (by rw [hn];decide)] at this;exact this
    clear hn bS;go_wp2_with fail
    refine (CN.out _).mono ?_;rintro e w3 ⟨rfl,rfl⟩;go_wp2_with fail
    refine (CLp.out _).mono ?_;rintro e w3 ⟨rfl,b3⟩;have K3:=hid (K2.out.below b3);have HB3:=hid (q01 HB2.out b3);have i1:=K3.out.cell 1 _ rfl;have i2:=K3.out.cell 2 _ rfl;clear b3;cases Lp
    case false=>
     have HE:Hid (E=17):=by exact Xw
     go_wp2;go_ret;exact ⟨by rw [HE.out];rfl,HB3.out⟩
    case true=>
     go_wp2_with fail
     refine (CTp.out _).mono ?_;rintro e wt ⟨rfl,rfl⟩;cases Tp
     case false=>
      have HE:Hid (E=17):=by exact Xw
      go_wp2;go_ret;exact ⟨by rw [HE.out];rfl,HB3.out⟩
     case true=>
      go_wp2_with fail
      refine (CHp.out _).mono ?_;rintro e w4 ⟨rfl,b4⟩;have K4:=hid (K3.out.below b4);have lC:=hid (q01 HB3.out b4);have i1:=K4.out.cell 1 _ rfl;have i2:=K4.out.cell 2 _ rfl;clear b4;cases Hp
      case true=>
       have HE:Hid (E=17):=by exact Xw
       go_wp2;go_ret;exact ⟨by rw [HE.out];rfl,lC.out⟩
      case false=>
       have PB:Hid (iw pre=false):=by show _=_;rw [HBP.out];rfl
       go_wp2_with fail
       refine (CLs.out _).mono ?_;rintro e w5 ⟨rfl,b5⟩;have K5:=hid (K4.out.below b5);have pJ:=hid (q01 lC.out b5);have i1:=K5.out.cell 1 _ rfl;have i2:=K5.out.cell 2 _ rfl;clear b5;cases Ls
       case false=>
        have HE:Hid (E=17):=by exact Xx
        go_wp2;go_ret;exact ⟨by rw [HE.out];rfl,pJ.out⟩
       case true=>
        go_wp2_with fail
        refine (CTs.out _).mono ?_;rintro e wt ⟨rfl,rfl⟩;cases Ts
        case false=>
         have HE:Hid (E=17):=by exact Xx
         go_wp2;go_ret;exact ⟨by rw [HE.out];rfl,pJ.out⟩
        case true=>
         go_wp2_with fail
         refine (CHs.out _).mono ?_;rintro e w6 ⟨rfl,b6⟩;have K6:=hid (K5.out.below b6);have Y8:=hid (q01 pJ.out b6);have i1:=K6.out.cell 1 _ rfl;have i2:=K6.out.cell 2 _ rfl;clear b6;cases Hs
         case true=>
          have HE:Hid (E=17):=by exact Xx
          go_wp2;go_ret;exact ⟨by rw [HE.out];rfl,Y8.out⟩
         case false=>
          have SB:Hid (iw suf=false):=by show _=_;rw [W9.out];rfl
          have Ej:Hid (eU (l.drop (k+1))=E):=by show _=E;have:=fu.out;rw [if_neg (by rw [PB.out,SB.out];decide)] at this;exact this
          go_wp2;go_roundw;case rel=>exact ⟨k+1,by omega,by go_num,Y8.out,Ej.out⟩
          case measure=>simp [intOf];omega
  ·have HE:Hid (E=0):=by
    show E=0;rw [<- aX,List.drop_of_length_le (by omega),eU]
   clear aX hbel;exact jy
theorem Sj (s:ByteArray):q2z s=(!cZ s||nI s [124,123,125]):=rfl
theorem NJ (w:World) (k:Int) (t d ti:ByteArray) (at_:At) (ar:List ByteArray) (ci:List Ci) (ks:List aj) (ac ap aa ai ak:Option Addr) (cc cp ca gD ck:Nat) (h:vD (·<w.heap.size) w at_ ar ci ks (.slice ac at_.cls.length cc) (.slice ap at_.aD.length cp) (.slice aa ar.length ca) (.slice ai ci.length gD) (.slice ak ks.length ck)) (hs:InS t d ti at_ ar ci) : Calls prog 284 #[.agg #[.int .i64 k,.string t,.string d,.string ti,.string at_.id,.slice ac at_.cls.length cc,.slice ap at_.aD.length cp,.slice aa ar.length ca,.slice ai ci.length gD,.slice ak ks.length ck]] w (dF (.int .i64 (Tn k t ti ar:Nat)) w):=by
 obtain ⟨a',c',hv,hsl⟩:=Rd.aB h.args;obtain ⟨rfl,rfl⟩:aa=a'/\ca=c':=by simp at hv;exact hv
 have hcap:ar.length<=ca:=by simpa using hsl.le
 have hmx:=hsl.max;unfold maxLen at hmx;have HS:=hid hsl;have SZ:=hid hs.ars;have NT:=hid (fun w=>TS t w (by have:=hs.t;omega));obtain ⟨w1,hw1⟩:∃ w1,w1=w.alloc (.cells #[.int .i64 k,.string t,.string d,.string ti,.string at_.id,.slice ac at_.cls.length cc,.slice ap at_.aD.length cp,.slice aa ar.length ca,.slice ai ci.length gD,.slice ak ks.length ck] 66):=⟨_,rfl⟩;have k1:CB 66 w.heap.size [.int .i64 k,.string t,.string d,.string ti,.string at_.id,.slice ac at_.cls.length cc,.slice ap at_.aD.length cp,.slice aa ar.length ca,.slice ai ci.length gD,.slice ak ks.length ck] w1:=by rw [hw1];exact CB.new _ _ _
 have b1:jNj w.heap.size w w1:=by rw [hw1];exact (jK7 _ _).alloc (jK8 _) _
 have p0:=k1.cell 0 _ rfl;have p1:=k1.cell 1 _ rfl;have p3:=k1.cell 3 _ rfl;have p5:=k1.cell 7 _ rfl;have K1:=hid k1;have B1:=hid b1;have R0:Hid (NmR ar w1 (.int .i64 0) w1):=⟨0,Nat.zero_le _,rfl,jK7 _ _,by simp⟩;clear hv hsl h hs k1 b1;have HE:Hid (Tn k t ti ar=if dQ t=false then 6 else if k=14/\aV ti=false/\ti.data.toList≠nZ then 5 else if 8<ar.length then 3 else if ar.any q2z then 17 else 0):=rfl;obtain ⟨V,hV⟩:∃ V,V=Tn k t ti ar:=⟨_,rfl⟩;rw [<- hV] at HE ⊢;clear hV;go_enter func284,ntmps284
 (try simp only [List.append_eq,List.cons_append,List.nil_append])
 go_upto_region 1 with (fail)
 rw [<- hw1];clear hw1;cases hn:dQ t with
 | false=>
  rw [hn] at NT;have HV:Hid (V=6):=by show V=6;rw [HE.out,if_pos hn]
  clear hn R0;go_wp2_with fail
  refine (NT.out _).mono ?_;rintro e w3 ⟨rfl,rfl⟩;exact qH
 | true=>
 rw [hn] at NT;have HE2:Hid (V=if k=14/\aV ti=false/\ti.data.toList≠nZ then 5 else if 8<ar.length then 3 else if ar.any q2z then 17 else 0):=by show V=_;rw [HE.out,if_neg (by rw [hn];decide)]
 clear hn HE;go_wp2_with fail
 refine (NT.out _).mono ?_;rintro e w3 ⟨rfl,rfl⟩;clear NT;go_upto_region 3 with (fail)
 have hemp:=pI ti;have hpg:(ti.toList==[112,97,103,101])=decide (ti.data.toList=nZ):=by rw [Lib.toList_data,jKk,beq_iff_eq,decide_eq_true_iff];rfl
 go_cut [20] (fun s wx=>s=.bool (decide (k=14/\aV ti=false/\ti.data.toList≠nZ))/\w1=wx)
 case first=>
  clear R0 HE2;by_cases hk:k=14;case neg=>
   have hq:=beq_false_of_ne hk;go_wp2_with fail
   go_meet
   exact ⟨by simp [hk],rfl⟩
  subst hk;cases he:aV ti with
  | true=>
   rw [he] at hemp;go_wp2_with fail
   go_meet
   exact ⟨by simp [he],rfl⟩
  | false=>
   rw [he] at hemp;by_cases hp:ti.data.toList=nZ
   ·have hpp:(ti.toList != [112,97,103,101])=false:=by unfold bne;rw [hpg,decide_eq_true hp];rfl
    rw [decide_eq_true hp] at hpg;have HP:=hid hp;clear hp;go_wp2_with fail
    go_meet
    exact ⟨by simp [HP.out],rfl⟩
   ·have hpp:(ti.toList != [112,97,103,101])=true:=by unfold bne;rw [hpg,decide_eq_false hp];rfl
    rw [decide_eq_false hp] at hpg;have HP:=hid hp;have LZ:=hid he;clear hp he;go_wp2_with fail
    go_meet
    exact ⟨by simp [HP.out,LZ.out],rfl⟩
 case rest=>
  obtain ⟨rfl,rfl⟩:=hcut;clear hemp hpg;by_cases Y9:k=14/\aV ti=false/\ti.data.toList≠nZ
  ·have HV:Hid (V=5):=by show V=5;rw [HE2.out,if_pos Y9]
   rw [decide_eq_true Y9];clear Y9 R0;exact qH
  have yw:Hid (V=if 8<ar.length then 3 else if ar.any q2z then 17 else 0):=by show V=_;rw [HE2.out,if_neg Y9]
  rw [decide_eq_false Y9];clear Y9 HE2;by_cases h8:8<ar.length
  ·have q1:decide ((8:Int)<(ar.length:Int))=true:=by simp;omega
   have HV:Hid (V=3):=by show V=3;rw [yw.out,if_pos h8]
   clear R0;exact qH
  have q1:decide ((8:Int)<(ar.length:Int))=false:=by simp;omega
  have HL:Hid (V=if ar.any q2z then 17 else 0):=by show V=_;rw [yw.out,if_neg h8]
  clear yw;go_wp2
  go_loopw [3] (fun i wr=>NmR ar w1 i wr) (fun i _=>ar.length-(intOf i).toNat)
  case atStart=>exact R0.out
  case round=>
   clear R0 p0 p1 p3 p5;obtain ⟨j,hj,rfl,hbel,hno⟩:=hrel;have HB:=hid (q01 B1.out hbel);have Kw:=hid hbel;have Ib:=hid hno;have p5:=(K1.out.below hbel).cell 7 _ rfl;by_cases hlt:j<ar.length
   ·obtain ⟨x,hx⟩:∃ x,ar[j]?=some x:=⟨_,List.getElem?_eq_getElem hlt⟩;have hxs:=SZ.out x (List.mem_of_getElem? hx);obtain ⟨b2,off,rfl,-,-,x0⟩:=kM HS.out hx;have x0:wr.cell? ⟨b2,off+j,none⟩=some (.string x):=by rw [HB.out.cell (p:=⟨b2,off+j,none⟩) (nX x0)];exact x0
    have CL:=hid (Xt x wr (by omega));have CH:=hid (fun w=>jP x ⟨#[124,123,125]⟩ w (by omega) (by decide));change Hid (∀ w,Calls prog 215 #[.string x,.string ⟨#[124,123,125]⟩] w (dF (.bool (nI x [124,123,125])) w)) at CH;have HAB:=hid (Sj x);have kg:=hid (zI q2z hx);have HBAD:Hid (q2z x=true->V=17):=fun hb=>by rw [HL.out,Mi q2z hx hb];rfl
    clear hx hbel hno;generalize cZ x=L at *;generalize nI x [124,123,125]=Hh at *;cases L with
    | false=>
     have HV:Hid (V=17):=HBAD.out (by rw [HAB.out];rfl);go_wp2_with fail
     refine CL.out.mono ?_;rintro e w4 ⟨rfl,b4⟩;have lC:=hid (q01 HB.out b4);clear b4;go_wp2;go_ret;exact ⟨by rw [HV.out];rfl,lC.out⟩
    | true=>
     go_wp2_with fail
     refine CL.out.mono ?_;rintro e w4 ⟨rfl,b4⟩;have lC:=hid (q01 HB.out b4);have HW4:=hid (q01 Kw.out b4);have p5:=(K1.out.below HW4.out).cell 7 _ rfl;have x0:w4.cell? ⟨b2,off+j,none⟩=some (.string x):=by rw [b4.cell (p:=⟨b2,off+j,none⟩) (nX x0)];exact x0
     clear b4;go_wp2_with fail
     refine (CH.out _).mono ?_;rintro e w5 ⟨rfl,b5⟩;have pJ:=hid (q01 lC.out b5);have HW5:=hid (q01 HW4.out b5);clear b5;cases Hh with
     | true=>
      have HV:Hid (V=17):=HBAD.out (by rw [HAB.out];rfl);go_wp2;go_ret;exact ⟨by rw [HV.out];rfl,pJ.out⟩
     | false=>
      go_wp2;go_roundw;case rel=>exact ⟨j+1,by omega,by go_num,HW5.out,by rw [kg.out,Ib.out,HAB.out];rfl⟩
      case measure=>simp [intOf];omega
   ·have HV:Hid (V=0):=by
     show V=0;have:=Ib.out;rw [List.take_of_length_le (by omega)] at this;rw [HL.out,this];rfl
    clear hbel hno;go_wp2;go_ret;exact ⟨by rw [HV.out];rfl,HB.out⟩
open Go.RowKit
theorem KE (w:World) (k:Int) (t d ti:ByteArray) (at_:At) (ar:List ByteArray) (ci:List Ci) (ks:List aj) (ac ap aa ai ak:Option Addr) (cc cp ca gD ck:Nat) (h:vD (·<w.heap.size) w at_ ar ci ks (.slice ac at_.cls.length cc) (.slice ap at_.aD.length cp) (.slice aa ar.length ca) (.slice ai ci.length gD) (.slice ak ks.length ck)) (hs:InS t d ti at_ ar ci) (hk:k=9\/k=10) : Calls prog 283 #[.agg #[.int .i64 k,.string t,.string d,.string ti,.string at_.id,.slice ac at_.cls.length cc,.slice ap at_.aD.length cp,.slice aa ar.length ca,.slice ai ci.length gD,.slice ak ks.length ck]] w (dF (.int .i64 (Tq k t d ti at_ ks:Nat)) w):=by
 obtain ⟨s1,s2,s3,s4,-,-⟩:=hs;have LT:=hid (fun w=>Ck t w (by omega));have CD:=hid (fun w=>Xt d w (by omega));have CT:=hid (fun w=>Xt ti w (by omega));have AC:=hid (fun wx (hb:jNj w.heap.size w wx)=>lg at_ ac ap cc cp wx (h.at_.up hb) s4);have AK:=hid (fun wx (hb:jNj w.heap.size w wx)=>Cg _ ks (.slice ak ks.length ck) false wx (jK8 _) (h.kids.up hb));change Hid (∀ wx,jNj w.heap.size w wx->Calls prog 209 #[.slice ak ks.length ck,.bool false] wx (dF (.bool (aj.cO dh ks)) wx)) at AK;have HE:Hid (Tq k t d ti at_ ks=if aV t=false/\(aV d=false\/aV ti=false) then 5
 else if aV t=false/\vF t=false then 6
 else if cZ d=false\/cZ ti=false then 17
 else if k=9/\aj.cO dh ks=true then 5
 else if k=10 then at_.err else 0):=rfl
 obtain ⟨V,hV⟩:∃ V,V=Tq k t d ti at_ ks:=⟨_,rfl⟩
 rw [<- hV] at HE ⊢;have HD:=hid (pI d).symm;have HT:=hid (pI t).symm;have HTI:=hid (pI ti).symm;generalize vF t=L at *;generalize cZ d=L1 at *;generalize cZ ti=L2 at *;generalize aj.cO dh ks=A at *;generalize at_.err=E at *
 obtain ⟨w1,hw1⟩:∃ w1,w1=w.alloc (.cells #[.int .i64 k,.string t,.string d,.string ti,.string at_.id,.slice ac at_.cls.length cc,.slice ap at_.aD.length cp,.slice aa ar.length ca,.slice ai ci.length gD,.slice ak ks.length ck] 66):=⟨_,rfl⟩;have k1:CB 66 w.heap.size [.int .i64 k,.string t,.string d,.string ti,.string at_.id,.slice ac at_.cls.length cc,.slice ap at_.aD.length cp,.slice aa ar.length ca,.slice ai ci.length gD,.slice ak ks.length ck] w1:=by rw [hw1];exact CB.new _ _ _
 have b1:jNj w.heap.size w w1:=by rw [hw1];exact (jK7 _ _).alloc (jK8 _) _
 have p0:=k1.cell 0 _ rfl;have p1:=k1.cell 1 _ rfl;have p2:=k1.cell 2 _ rfl;have p3:=k1.cell 3 _ rfl;have p4:=k1.cell 4 _ rfl;have p5:=k1.cell 5 _ rfl;have p6:=k1.cell 6 _ rfl;have p7:=k1.cell 7 _ rfl;have p8:=k1.cell 8 _ rfl;have p9:=k1.cell 9 _ rfl;have K1:=hid k1;have B1:=hid b1;clear hV h k1 b1 s1 s2 s3 s4;go_enter func283,ntmps283
 (try simp only [List.append_eq,List.cons_append,List.nil_append])
 go_upto_region 1 with (fail)
 rw [<- hw1];clear hw1;cases hT:t.toList.isEmpty<;>cases hD:d.toList.isEmpty<;>cases hTI:ti.toList.isEmpty<;>rcases hk with rfl | rfl
 all_goals
  go_wp2_with (first
   | (go_at_call 182;refine (LT.out _).mono ?_;rintro e w2 ⟨rfl,hb2⟩;have K2:=K1.out.below hb2;have HB2:=hid (q01 B1.out hb2);have p0:=K2.cell 0 _ rfl;have p2:=K2.cell 2 _ rfl;have p3:=K2.cell 3 _ rfl;have p4:=K2.cell 4 _ rfl;have p5:=K2.cell 5 _ rfl;have p6:=K2.cell 6 _ rfl;have p9:=K2.cell 9 _ rfl)
   | (go_at_call 111;(with_reducible refine (CD.out _).mono ?_);rintro e w3 ⟨rfl,hb3⟩;have K3:=(by first | exact K2.below hb3 | exact K1.out.below hb3:CB 66 w.heap.size _ w3);have HB3:Hid (jNj w.heap.size w w3):=(by first | exact hid (q01 HB2.out hb3) | exact hid (q01 B1.out hb3));have p0:=K3.cell 0 _ rfl;have p3:=K3.cell 3 _ rfl;have p4:=K3.cell 4 _ rfl;have p5:=K3.cell 5 _ rfl;have p6:=K3.cell 6 _ rfl;have p9:=K3.cell 9 _ rfl)
   | (go_at_call 111;(with_reducible refine (CT.out _).mono ?_);rintro e w4 ⟨rfl,hb4⟩;have K4:=K3.below hb4;have lC:=hid (q01 HB3.out hb4);have p0:=K4.cell 0 _ rfl;have p4:=K4.cell 4 _ rfl;have p5:=K4.cell 5 _ rfl;have p6:=K4.cell 6 _ rfl;have p9:=K4.cell 9 _ rfl)
   | (go_at_call 209;refine (AK.out _ lC.out).mono ?_;rintro e w5 ⟨rfl,hb5⟩;have K5:=K4.below hb5;have pJ:=hid (q01 lC.out hb5);have p0:=K5.cell 0 _ rfl;have p4:=K5.cell 4 _ rfl;have p5:=K5.cell 5 _ rfl;have p6:=K5.cell 6 _ rfl;have p9:=K5.cell 9 _ rfl)
   | (go_at_call 180;refine (AC.out _ (by first | exact pJ.out | exact lC.out)).mono ?_;rintro e w6 ⟨rfl,hb6⟩;have Y8:Hid (jNj w.heap.size w w6):=(by first | exact hid (q01 pJ.out hb6) | exact hid (q01 lC.out hb6))))
  all_goals
   go_ret;refine ⟨Mj ?_,?_⟩
   ·exact je1
   ·first | exact Y8.out | exact pJ.out | exact lC.out | exact HB3.out | exact HB2.out | exact B1.out
theorem Xy (w:World) (k:Int) (t d ti:ByteArray) (at_:At) (ar:List ByteArray) (ci:List Ci) (ks:List aj) (ac ap aa ai ak:Option Addr) (cc cp ca gD ck:Nat) (bf:Int) (fi la:Bool) (h:vD (·<w.heap.size) w at_ ar ci ks (.slice ac at_.cls.length cc) (.slice ap at_.aD.length cp) (.slice aa ar.length ca) (.slice ai ci.length gD) (.slice ak ks.length ck)) (hs:InS t d ti at_ ar ci) : Calls prog 268 #[.agg #[.int .i64 k,.string t,.string d,.string ti,.string at_.id,.slice ac at_.cls.length cc,.slice ap at_.aD.length cp,.slice aa ar.length ca,.slice ai ci.length gD,.slice ak ks.length ck],.int .i64 bf,.bool fi,.bool la] w (dF (.int .i64 (og bf fi la k t d ti at_ ar ci ks:Nat)) w):=by
 have l1:=(sS h.at_.cls).2;have l2:=(sS h.at_.aD).2;obtain ⟨-,l5,m5⟩:=sS h.kids;have AE:=hid (fun w=>o8 at_ ac ap cc cp w (by omega) (by omega));unfold maxLen at m5;clear l1 l2;have CL:=hid (fun w=>Xt t w (by have:=hs.t;omega));have AC:=hid (fun wx (hb:jNj w.heap.size w wx)=>lg at_ ac ap cc cp wx (h.at_.up hb) hs.at_);have LK:=hid (fun wx (hb:jNj w.heap.size w wx) hk=>KE wx k t d ti at_ ar ci ks ac ap aa ai ak cc cp ca gD ck (h.up hb) hs hk);have NM:=hid (fun wx (hb:jNj w.heap.size w wx)=>NJ wx k t d ti at_ ar ci ks ac ap aa ai ak cc cp ca gD ck (h.up hb) hs);have CC:=hid (fun wx (hb:jNj w.heap.size w wx)=>NH ci ai gD wx (h.dH.up hb) hs.cis);have AD:=hid (fun w=>Sg d w (by have:=hs.d;omega));have FD:=hid (fun wx (hb:jNj w.heap.size w wx)=>uR wx k t d ti at_ ar ci ks ac ap aa ai ak cc cp ca gD ck (h.up hb));have e3:=kF ks;have HE:Hid (og bf fi la k t d ti at_ ar ci ks=if zL k t d ti at_ ar ci ks=false then 5
 else if k=1\/k=4\/k=5 then (if aV t=true\/cZ t=false then 17 else if k≠5/\bf=k then 5 else 0)
 else if k=2 then (if bf=2\/bf=3\/fi=true\/la=true then 5 else 0)
 else if k=3 then (if la=true then 5 else 0)
 else if k=6\/k=7\/k=8 then (if ks.isEmpty=true then 8 else 0)
 else if k=9\/k=10 then Tq k t d ti at_ ks
 else if k=11 then (if at_.none=true then 8 else at_.err)
 else if k=12\/k=14\/k=15 then Tn k t ti ar
 else if k=13 then Uf ci
 else if jS d=true then 0 else 5):=rfl
 have HF:=hid (fun hf=>(zK (k:=k) (t:=t) (d:=d) (ti:=ti) (a:=at_) (ar:=ar) (ci:=ci) (ks:=ks) hf));obtain ⟨V,hV⟩:∃ V,V=og bf fi la k t d ti at_ ar ci ks:=⟨_,rfl⟩
 rw [<- hV] at HE ⊢;have HT:=hid (pI t).symm;generalize cZ t=L at *;generalize Tq k t d ti at_ ks=E1 at *
 generalize at_.none=bn at *
 generalize at_.err=E2 at *
 generalize Tn k t ti ar=E3 at *;generalize Uf ci=E4 at *;generalize jS d=bu at *;generalize ks.isEmpty=bk at *;generalize zL k t d ti at_ ar ci ks=bf0 at *
 obtain ⟨w1,hw1⟩:∃ w1,w1=w.alloc (.cells #[.int .i64 k,.string t,.string d,.string ti,.string at_.id,.slice ac at_.cls.length cc,.slice ap at_.aD.length cp,.slice aa ar.length ca,.slice ai ci.length gD,.slice ak ks.length ck] 66):=⟨_,rfl⟩;have k1:CB 66 w.heap.size [.int .i64 k,.string t,.string d,.string ti,.string at_.id,.slice ac at_.cls.length cc,.slice ap at_.aD.length cp,.slice aa ar.length ca,.slice ai ci.length gD,.slice ak ks.length ck] w1:=by rw [hw1];exact CB.new _ _ _
 have b1:jNj w.heap.size w w1:=by rw [hw1];exact (jK7 _ _).alloc (jK8 _) _
 have p0:=k1.cell 0 _ rfl;have p1:=k1.cell 1 _ rfl;have p2:=k1.cell 2 _ rfl;have p3:=k1.cell 3 _ rfl;have p4:=k1.cell 4 _ rfl;have p5:=k1.cell 5 _ rfl;have p6:=k1.cell 6 _ rfl;have p7:=k1.cell 7 _ rfl;have p8:=k1.cell 8 _ rfl;have p9:=k1.cell 9 _ rfl;have K1:=hid k1;have B1:=hid b1;clear hV h hs k1 b1;go_enter func268,ntmps268
 (try simp only [List.append_eq,List.cons_append,List.nil_append])
 go_upto_region 1 with (fail)
 rw [<- hw1];clear hw1;go_wp2_with fail
 refine (FD.out _ B1.out).mono ?_;rintro e w2 ⟨rfl,hb2⟩;have K2:=hid (K1.out.below hb2);have B2:=hid (q01 B1.out hb2);clear p0 p1 p2 p3 p4 p5 p6 p7 p8 p9 hb2 FD K1 B1;have p0:=K2.out.cell 0 _ rfl;have p1:=K2.out.cell 1 _ rfl;have p2:=K2.out.cell 2 _ rfl;have p3:=K2.out.cell 3 _ rfl;have p4:=K2.out.cell 4 _ rfl;have p5:=K2.out.cell 5 _ rfl;have p6:=K2.out.cell 6 _ rfl;have p7:=K2.out.cell 7 _ rfl;have p8:=K2.out.cell 8 _ rfl;have p9:=K2.out.cell 9 _ rfl;cases bf0 with
 | false=>
  have HV:Hid (V=5):=HE.out;clear p0 p1 p2 p3 p4 p5 p6 p7 p8 p9;go_wp2;go_ret;exact ⟨by rw [HV.out];rfl,B2.out⟩
 | true=>
 obtain ⟨f1,f2,-⟩:=HF.out rfl;clear HF;rcases sU k with rfl | rfl | rfl | rfl | rfl | rfl | rfl | rfl | rfl | rfl | rfl | rfl | rfl | rfl | rfl | rfl | hk
 case inr.inr.inr.inr.inr.inr.inr.inr.inr.inr.inr.inr.inr.inr.inr.inr=>omega
 all_goals
  go_wp2_with (first
   | (go_at_call 111;refine (CL.out _).mono ?_;rintro e w3 ⟨rfl,hb3⟩;have K3:=K2.out.below hb3;have HB3:=hid (q01 B2.out hb3);have p0:=K3.cell 0 _ rfl)
   | (go_at_call 283;refine (LK.out _ B2.out (by simp)).mono ?_;rintro e w3 ⟨rfl,hb3⟩;have HB3:=hid (q01 B2.out hb3))
   | (go_at_call 176;refine (AE.out _).mono ?_;rintro e w3 ⟨rfl,hb3⟩;have K3:=K2.out.below hb3;have HB3:=hid (q01 B2.out hb3);have p4:=K3.cell 4 _ rfl;have p5:=K3.cell 5 _ rfl;have p6:=K3.cell 6 _ rfl)
   | (go_at_call 180;refine (AC.out _ HB3.out).mono ?_;rintro e w4 ⟨rfl,hb4⟩;have lC:=hid (q01 HB3.out hb4))
   | (go_at_call 284;refine (NM.out _ B2.out).mono ?_;rintro e w3 ⟨rfl,hb3⟩;have HB3:=hid (q01 B2.out hb3))
   | (go_at_call 285;refine (CC.out _ B2.out).mono ?_;rintro e w3 ⟨rfl,hb3⟩;have HB3:=hid (q01 B2.out hb3))
   | (go_at_call 286;refine (AD.out _).mono ?_;rintro e w3 ⟨rfl,hb3⟩;have HB3:=hid (q01 B2.out hb3)))
  all_goals
   go_ret;refine ⟨Mj ?_,?_⟩
   ·exact je2
   ·first | exact lC.out | exact HB3.out | exact B2.out
open Go.RowKit
def jl1 (l:List aj) (dp:Nat) (E:Nat) (w:World) (vb vi:Value) (wr:World):Prop:=∃ k:Nat,k<=l.length/\vi=.int .i64 k/\vb=.int .i64 (sV l k)/\jNj w.heap.size w wr/\aj.aQ (sV l k) (decide (k=0)) dp (l.drop k)=E
theorem Sk (bf:Int) (st:Bool) (dp:Nat) (k:Int) (t d ti:ByteArray) (a:At) (ar:List ByteArray) (ci:List Ci) (ks:List aj) (l:List aj) (qF:¬ 15<dp) (fi la:Bool) (hfi:fi=(decide (dp=0)&&st)) (hla:la=(decide (dp=0)&&l.isEmpty)) : aj.aQ bf st dp (aj.mk k t d ti a ar ci ks::l)=if og bf fi la k t d ti a ar ci ks≠0 then og bf fi la k t d ti a ar ci ks else if aj.aQ 0 true (dp+1) ks≠0 then aj.aQ 0 true (dp+1) ks else aj.aQ k false dp l:=by
 subst hfi hla;rw [aj.aQ,if_neg qF,aj.err];by_cases h1:og bf (decide (dp=0)&&st) (decide (dp=0)&&l.isEmpty) k t d ti a ar ci ks=0
 ·simp only [h1,ne_eq,not_true_eq_false,if_false];rfl
 ·simp only [ne_eq,h1,not_false_eq_true,if_true]
theorem jl2{P:Prop}(h:P:=by
 clear h1 h2;go_wp2_with fail
 refine (ONE.out _ _ _).mono ?_;rintro e w3 ⟨rfl,b3⟩;have HB3:=hid b3;clear b3;go_wp2_with fail
 go_meet
 exact ⟨by rw [HE2.out],HB3.out⟩):P:=h
theorem Sm (n:Nat):∀ (l:List aj) (dp:Nat) (a:Option Addr) (cap:Nat) (w:World),aj.aU l<=n->dp<=1000000->aj.ay l->Rd (·<w.heap.size) w (aZ l) [.slice a l.length cap] -> Calls prog 244 #[.slice a l.length cap,.int .i64 (dp:Int)] w (dF (.int .i64 (aj.aQ 0 true dp l:Nat)) w):=by
 induction n using Nat.strongRecOn with
 | _ n ih=>
  intro l dp a cap w hn hdp hsm h;obtain ⟨a',c',hv,hs⟩:=Rd.aB h;obtain ⟨rfl,rfl⟩:a'=a/\c'=cap:=by simp at hv;exact ⟨hv.1.symm,hv.2.symm⟩
  have hcap:l.length<=c':=by simpa using hs.le
  refine IZ ?_;intro hmx HS IH;have SM:=hid hsm;obtain ⟨E,hE⟩:∃ E,aj.aQ 0 true dp l=E:=⟨_,rfl⟩;rw [hE];have R0:Hid (jl1 l dp E w (.int .i64 0) (.int .i64 0) w):=⟨0,Nat.zero_le _,rfl,rfl,jK7 _ _,hE⟩;clear hs hv h ih hsm hE;go_enter func244,ntmps244;refine kZ ?_;go_wp2
  go_loopw [5,6] (fun b i wr=>jl1 l dp E w b i wr) (fun _ i _=>l.length-(intOf i).toNat)
  case atStart=>exact R0.out
  case round=>
   clear R0;obtain ⟨k,hk,rfl,rfl,hbel,aX⟩:=hrel;have HB:=hid hbel;by_cases hlt:k<l.length
   ·refine kK ?_;intro x hx;by_cases qF:15<dp
    ·have Tt:decide ((15:Int)<(dp:Int))=true:=by simp;omega
     have HE:Hid (E=11):=by show E=11;rw [<- aX,IU l k x hx,aj.aQ,if_pos qF]
     clear aX hx hbel;generalize sV l k=bf at *;exact jy
    have Tt:decide ((15:Int)<(dp:Int))=false:=by simp;omega
    have hbs:=Eh hx;have hxs:x.small:=aj.jT SM.out hx;have hsz:=aj.bK l k _ hx;rw [IU l k x hx] at aX;have hle:(l.drop (k+1)).isEmpty=((k:Int)==(l.length:Int)-1):=by rw [jKk];simp;omega
    obtain ⟨kd,t,d,ti,at_,ar,ci,ks⟩:=x;rw [aj.sz] at hsz;obtain ⟨hins,hks⟩:=jq7 hxs;have hz0:decide (dp=0)=((dp:Int)==0):=by rw [jKk];simp
    have hzk:decide (k=0)=((k:Int)==0):=by rw [jKk];simp
    obtain ⟨fi,hfi⟩:∃ fi,fi=(decide (dp=0)&&decide (k=0)):=⟨_,rfl⟩;obtain ⟨la,hla⟩:∃ la,la=(decide (dp=0)&&(l.drop (k+1)).isEmpty):=⟨_,rfl⟩;rw [Sk _ _ _ _ _ _ _ _ _ _ _ _ qF fi la hfi hla] at aX;rw [hz0,hzk] at hfi;rw [hz0,hle] at hla;obtain ⟨b,off,ac,ap,aa,ai,ak,cc,cp,ca,gD,ck,ha,Uo⟩:=Ml HS.out hx;have hP:=Uo.up hbel;subst ha;obtain ⟨c0,c1,c2,c3,c4,c5,c6,c7,c8,c9⟩:=hP.cells;have HP:=hid hP;have ONE:=hid (fun bf fi la=>Xy wr kd t d ti at_ ar ci ks ac ap aa ai ak cc cp ca gD ck bf fi la hP.rd hins);have KID:=hid (fun wx (hb:jNj wr.heap.size wr wx)=>IH.out (aj.aU ks) (by omega) ks (dp+1) ak ck wx (jK8 _) (by omega) hks (hP.up hb).rd.kids);simp only [Int.natCast_add,Int.natCast_one] at KID;have W9:=hid hbs;have HFI:=hid hfi;have HLA:=hid hla;have bS:=hid aX;clear hx hbs hxs hsz aX hle hins hks hz0 hzk hfi hla Uo hP hbel;generalize sV l k=bf at *;obtain ⟨E1,hE1⟩:∃ E1,E1=og bf fi la kd t d ti at_ ar ci ks:=⟨_,rfl⟩
    rw [<- hE1] at bS;have TN:=hid hE1;clear hE1;go_upto_region 7 with (fail)
    go_cut [7] (fun s wx=>s=.int .i64 (E1:Int)/\jNj wr.heap.size wr wx)
    case first=>
     cases hz:((dp:Int)==0) with
     | false=>
      rw [hz] at HFI HLA;have h1:fi=false:=HFI.out;have h2:la=false:=HLA.out;have HE2:Hid (E1=og bf false false kd t d ti at_ ar ci ks):=by show E1=_;rw [TN.out,h1,h2]
      exact jl2
     | true=>
      cases hk0:((k:Int)==0)<;>cases hkl:((k:Int)==(l.length:Int)-1)
      all_goals
       rw [hz,hk0] at HFI;rw [hz,hkl] at HLA;have h1:=HFI.out;have h2:=HLA.out;simp only [Bool.and_true,Bool.and_false,Bool.true_and] at h1 h2;have HE2:=TN;rw [h1,h2] at HE2;exact jl2
    case rest=>
     obtain ⟨rfl,hbc⟩:=hcut;have HPC:=hid (HP.out.up hbc);have vL:=hid hbc;have zS:=hid (q01 HB.out hbc);clear c0 c1 c2 c3 c4 c5 c6 c7 c8 c9 hbc ONE HFI HLA TN;have c0:=HPC.out.cells.c0;have c9:=HPC.out.cells.c9;by_cases he1:E1=0;case neg=>
      have hn1:((E1:Int) != 0)=true:=by rw [bne_iff_ne];omega
      have HV:Hid (E=E1):=by show E=E1;rw [<- bS.out,if_pos he1]
      clear he1;go_wp2;go_ret;exact ⟨by rw [HV.out];rfl,zS.out⟩
     subst he1;have fu:Hid ((if aj.aQ 0 true (dp+1) ks≠0 then aj.aQ 0 true (dp+1) ks else aj.aQ kd false dp (l.drop (k+1)))=E):=by show _=E;exact (if_neg (by simp)).symm.trans bS.out
     clear bS;obtain ⟨E2,hE2⟩:∃ E2,E2=aj.aQ 0 true (dp+1) ks:=⟨_,rfl⟩;rw [<- hE2] at fu KID;clear hE2;go_wp2_with fail
     refine (KID.out _ vL.out).mono ?_;rintro e w4 ⟨rfl,b4⟩;have HP4:=hid (HPC.out.up b4);have lC:=hid (q01 zS.out b4);clear b4 c0 c9;have c0:=HP4.out.cells.c0;by_cases he2:E2=0;case neg=>
      have hn2:((E2:Int) != 0)=true:=by rw [bne_iff_ne];omega
      have HV:Hid (E=E2):=by show E=E2;rw [<- fu.out,if_pos he2]
      clear he2;go_wp2;go_ret;exact ⟨by rw [HV.out];rfl,lC.out⟩
     subst he2;have HN:Hid (aj.aQ kd false dp (l.drop (k+1))=E):=by show _=E;exact (if_neg (by simp)).symm.trans fu.out
     clear fu;go_wp2;go_roundw;case rel=>exact ⟨k+1,by omega,by go_num,by rw [W9.out];rfl,lC.out,by rw [W9.out,decide_eq_false (by omega)];exact HN.out⟩
     case measure=>simp [intOf];omega
   ·have HE:Hid (E=0):=by
     exact Ul
    clear aX hbel;generalize sV l k=bf at *;exact jy
theorem Hf (l:List aj) (a:Option Addr) (cap:Nat) (w:World) (hsm:aj.ay l) (h:Rd (·<w.heap.size) w (aZ l) [.slice a l.length cap]) : Calls prog 210 #[.slice a l.length cap] w (dF (.int .i64 (q0z l:Nat)) w):=by
 have CK:=hid (Sm _ l 0 a cap w (jK8 _) (by omega) hsm h);change Hid (Calls _ _ _ _ (dF (.int .i64 (q0z l:Nat)) w)) at CK;generalize q0z l=E at *;clear h hsm;go_enter func210,ntmps210;go_wp2_with fail
 refine CK.out.mono ?_;rintro e w1 ⟨rfl,b1⟩;have HB:=hid b1;clear b1;go_wp2;go_ret;exact ⟨rfl,HB.out⟩
end Go.Proofs.YtkfnkeflalcphaaGreatDoor

