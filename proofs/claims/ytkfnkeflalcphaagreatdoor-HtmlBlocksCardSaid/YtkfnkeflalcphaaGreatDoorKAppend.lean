/- The contract of chars.Fold. Contracts of tree.writePlain and tree.Plain. Appends onto rows of the call's own, the source nil or not (after the kit's page of words for memory), and how data read behind them. -/
import Derived.Test.YtkfnkeflalcphaaGreatDoorKRPlainR
import Derived.Test.YtkfnkeflalcphaaGreatDoorKHtB
import Derived.Lib.FieldsP
import Derived.Deep.DeepCutAuto
import Derived.Deep.AppendLies
set_option maxHeartbeats 4000000
set_option maxRecDepth 100000
open Go.Lib (hid)
namespace Go.Proofs.YtkfnkeflalcphaaGreatDoor
open Go renaming World->jG9,Value->jGk
open Go.RowKit
set_option linter.unusedVariables false
set_option linter.unusedSimpArgs false
theorem oL (s:ByteArray) (i:Nat) (h:i<s.size):i+(Utf8.decode s i).2<=s.size:=by have:=Lib.decodeN_le_n' (s.size-i) (s.get! i).toNat (s.get! (i+1)).toNat (s.get! (i+2)).toNat (s.get! (i+3)).toNat (by omega);rw [Lib.decode_at];omega
theorem BX (c:Nat) (h:c<=1114111):fV c<=1114111:=by unfold fV;(repeat' split)<;>omega
theorem Qt (c:Nat) (h:¬ YQ c=true):YQ c=false:=by simpa using h
theorem Qu (acc:List Nat):(dI acc).length=0↔acc=[]:=by
 have:=ng acc;constructor
 ·intro h;exact List.length_eq_zero_iff.1 (by omega)
 ·rintro rfl;rfl
def kY (w:jG9) (k:Nat) (s:ByteArray) (pos:Nat) (l:List UInt8) (wr:jG9):Prop:=
 Lib.IsBuilderF 104 5 w.heap.size w.heap.size (Lib.byteCells l) wr/\wr.heap[k]?=some (.stringIter s pos)/\Below w.heap.size w wr/\w.heap.size<k
section
variable {w:jG9} {k:Nat} {s:ByteArray} {pos:Nat} {l l':List UInt8} {wr w':jG9}
theorem kY.wrote (h:kY w k s pos l wr) (hw:Wrote w.heap.size w.heap.size (Lib.byteCells l++Lib.byteCells l') wr w'):kY w k s pos (l++l') w':=
 ⟨by rw [Lib.byteCells_append];exact hw.1,hw.2.2.iter h.2.1 (by have:=h.2.2.2;omega),h.2.2.1.trans hw.2.1,h.2.2.2⟩
theorem kY.next (h:kY w k s pos l wr) (p:Nat):kY w k s p l (wr.iterAt k s p):=
 ⟨h.1.iterAt h.2.1 p,Lib.iterAt_heap wr k s pos p h.2.1,Lib.below_iterAt h.2.2.1 (k:=k) (by have:=h.2.2.2;omega) s p,h.2.2.2⟩
theorem kY.size (h:kY w k s pos l wr):w.heap.size<=wr.heap.size:=h.2.2.1.size
theorem kY.start (w:jG9) (s:ByteArray):kY w (w.heap.size+1) s 0 [] ((w.alloc (.cells #[.pointer none,.slice none 0 0] 104)).iter s 0):=by refine ⟨(Lib.IsBuilderF.of (Lib.fresh_isBuilder 104 5 w)).alloc _,?_,((Below.refl _ w).alloc (Nat.le_refl _) _).alloc (by simp) _,by omega⟩;have:=World.iter_heap (w.alloc (.cells #[.pointer none,.slice none 0 0] 104)) s 0;simpa using this
theorem kY.A8 (h:kY w k s pos l wr):wr.iterPos k=pos:=by simp only [World.iterPos,h.2.1]
end
def jw0 (w:jG9) (s:ByteArray) (R:List Nat) (vg:jGk) (wr:jG9):Prop:=
 ∃ (pos:Nat) (acc:List Nat) (gap:Bool),kY w (w.heap.size+1) s pos (dI acc) wr/\nu (lT s pos) gap acc=R/\acc.length<=2*pos/\pos<=s.size/\vg=.bool gap
theorem Jl (s:ByteArray) (w:jG9) (hs:s.size<=1000000000) : Calls Tryz.prog 204 #[.string s] w fun e w'=>e=.returned (.string (ny s))/\Below w.heap.size w w':=by
 obtain ⟨R,hR⟩:∃ R,R=Qv s:=⟨_,rfl⟩;have HS:Hid (ny s=⟨(dI R).toArray⟩):=by rw [hR];rfl
 have HR:Hid (nu (lT s 0) false []=R):=by rw [hR];rfl
 clear hR;generalize ny s=V at *;go_enter Tryz.func204,Tryz.ntmps204;go_wp2
 go_loopw [4] (fun vg wr=>jw0 w s R vg wr) (fun _ wr=>s.size-wr.iterPos (w.heap.size+1))
 case atStart=>exact ⟨0,[],false,kY.start w s,HR.out,by simp,by omega,rfl⟩
 case round=>
  obtain ⟨pos,acc,gap,hI,hacc,hal,hps,rfl⟩:=hrel;have HA:=hid hacc;have HI:=hid hI;have hel:=(ng acc).2;clear hacc;by_cases hp:pos<s.size
  ·have hnx:∀ ty,(Instr.next (.pointer (some ⟨w.heap.size+1,0,none⟩)) true ty).run Tryz.prog wr=_:=fun ty=>Lib.run_next_any_at wr (w.heap.size+1) s pos ty hI.2.1 hp
   have hd:=Lib.rune_le s pos;have hwd:=iB s pos;have hle:=oL s pos hp;have hst:=hid (DZ s pos hp);have HI2:=hid (hI.next (pos+(Utf8.decode s pos).2));clear hI;generalize Utf8.decode s pos=d at *;obtain ⟨d1,d2⟩:=d;simp only at hd hwd hle hnx hst HI2;have hwr:wrap64 (d1:Int)=d1:=IntWalk.wrap64_in _ ⟨by omega,by omega⟩;have CS:=hid (fun w=>FJ d1 w hd);by_cases hsp:YQ d1=true
   ·rw [hsp] at CS;have VO:=hid hsp;clear hsp;go_wp2_with fail
    refine (CS.out _).mono ?_;rintro e w1 ⟨rfl,rfl⟩;clear hnx hwr;go_wp2;go_roundw;case rel=>exact ⟨pos+d2,acc,true,HI2.out,by rw [<- HA.out,hst.out,nu,if_pos VO.out],by omega,by omega,rfl⟩
    case measure=>rw [HI2.out.A8,HI.out.A8];omega
   ·have hsp:=Qt d1 hsp;rw [hsp] at CS;have VO:=hid hsp;have LN:=hid (fun wi (h:kY w (w.heap.size+1) s (pos+d2) (dI acc) wi)=>(Tryz.Builder_Len_f w.heap.size w.heap.size (Lib.byteCells (dI acc)) wi h.1).mono fun _ _ ⟨he,hw⟩=>(⟨he,hw.symm⟩:_/\wi=_));have hbl:(Lib.byteCells (dI acc)).length=(dI acc).length:=Lib.byteCells_length _;rw [hbl] at LN;have WB:=hid (fun wi (h:kY w (w.heap.size+1) s (pos+d2) (dI acc) wi)=>(jW w.heap.size w.heap.size (Lib.byteCells (dI acc)) 32 wi h.1 (by rw [hbl];omega) h.size).mono fun _ _ ⟨he,hw⟩=>(⟨he,h.wrote (l':=[32]) hw⟩:_/\kY w (w.heap.size+1) s (pos+d2) (dI acc++[32]) _));have hlo:=BX d1 hd;have CL:=hid (fun w=>FM d1 w hd);obtain ⟨A,hA⟩:∃ A,A=if gap&&!acc.isEmpty then acc++[32] else acc:=⟨_,rfl⟩
    have HAE:=hid hA;have hAl:A.length<=acc.length+1:=by rw [hA];split<;>simp
    have jB5:=(ng A).2;have WR:=hid (fun wi (h:kY w (w.heap.size+1) s (pos+d2) (dI A) wi)=>(FN w.heap.size w.heap.size (Lib.byteCells (dI A)) (fV d1:Nat) (by omega) (by omega) wi h.1 (by rw [Lib.byteCells_length];omega) h.size).mono fun _ _ ⟨he,hw⟩=>(⟨he,h.wrote (l':=Lib.encodeRune (fV d1:Nat)) (by rw [Lib.byteCells_encodeRune];exact hw)⟩:_/\kY w (w.heap.size+1) s (pos+d2) (dI A++Lib.encodeRune (fV d1:Nat)) _));have HFA:Hid (rU gap acc d1=A++[fV d1]):=by rw [hA];rfl
    have hAZ:(dI acc).length=0↔acc=[]:=Qu acc;have HAZ:=hid hAZ;clear hsp hA hAZ hbl;generalize fV d1=lc at *;go_wp2_with fail
    refine (CS.out _).mono ?_;rintro e w1 ⟨rfl,rfl⟩;clear hnx CS;obtain ⟨wi,hwi⟩:∃ wi,wi=wr.iterAt (w.heap.size+1) s (pos+d2):=⟨_,rfl⟩;rw [<- hwi] at HI2 ⊢;clear hwi;go_upto_region 8 with (fail)
    go_cut [19] (fun s19 wx=>s19=.bool (gap&&!acc.isEmpty)/\wi=wx)
    case first=>
     cases gap with
     | false=>
      go_wp2_with fail
      go_meet
      exact ⟨rfl,rfl⟩
     | true=>
      go_wp2_with fail
      refine (LN.out _ HI2.out).mono ?_;rintro e w1 ⟨rfl,rfl⟩;go_wp2_with fail
      go_meet
      refine ⟨?_,rfl⟩;cases acc with
      | nil=>rfl
      | cons x l=>
       have hx:0<(dI (x::l)).length:=by have:=(ng (x::l)).1;simp at this ⊢;omega
       simp [hx]
    case rest=>
     obtain ⟨rfl,rfl⟩:=hcut
     go_upto_if 19 with (fail)
     go_cut [] (fun wx=>kY w (w.heap.size+1) s (pos+d2) (dI A) wx)
     case first=>
      by_cases hga:(gap&&!acc.isEmpty)=true
      ·have hA2:A=acc++[32]:=by rw [HAE.out,if_pos hga]
       have HA2:=hid hA2;clear hA2;rw [hga];go_wp2_with fail
       refine (WB.out _ HI2.out).mono ?_;rintro e w1 ⟨rfl,b1⟩;go_wp2_with fail
       go_meet
       rw [HA2.out,xG,xH];exact b1
      ·have hA2:A=acc:=by rw [HAE.out,if_neg hga]
       have HA2:=hid hA2;have hga:(gap&&!acc.isEmpty)=false:=by simpa using hga
       clear hA2;rw [hga];go_wp2_with fail
       go_meet
       rw [HA2.out];exact HI2.out
     case rest=>
      have HC:=hid hcut;clear hcut;go_wp2_with fail
      refine (CL.out _).mono ?_;rintro e w1 ⟨rfl,rfl⟩;go_wp2_with fail
      refine (WR.out _ HC.out).mono ?_;rintro e w2 ⟨rfl,b2⟩;have B2:=hid b2;clear b2;go_wp2;go_roundw;case rel=>
       refine ⟨pos+d2,A++[lc],false,by rw [xG,xH];exact B2.out,?_,by simp;omega,by omega,rfl⟩;rw [<- HA.out,hst.out,nu,if_neg (by rw [VO.out];decide),HFA.out]
      case measure=>rw [B2.out.A8,HI.out.A8];omega
  ·have hnx:∀ ty,(Instr.next (.pointer (some ⟨w.heap.size+1,0,none⟩)) true ty).run Tryz.prog wr=_:=fun ty=>Lib.run_next_end_at wr (w.heap.size+1) s pos ty hI.2.1 hp
   have ST:=hid (Tryz.Builder_String_any_k w.heap.size w.heap.size (dI acc) wr hI.1 hI.size);have hE:=FP s pos hp;have HE:Hid (acc=R):=by rw [<- HA.out,hE];rfl
   have hb:=hI.2.2.1;clear hI hE;go_wp2_with fail
   refine ST.out.mono ?_;rintro e w1 ⟨rfl,-,b1,-⟩;go_wp2;go_ret;exact ⟨by rw [HS.out,<- HE.out];rfl,hb.trans b1⟩
open Go.RowKit
theorem Rd.below {B:Nat} {w w':jG9} {d:D} {cs:List jGk} (h:Rd (·<B) w d cs) (hb:Below B w w'):Rd (·<B) w' d cs:=
 Rd.keep (fun b hb1 _=>⟨hb1,hb.block b hb1⟩) d cs h
theorem qI.below {B:Nat} {w w':jG9} {k:Nat} {l:List D} {a:Option Addr} {cap:Nat} (h:qI (·<B) w k l a cap) (hb:Below B w w'):qI (·<B) w' k l a cap:=by
 refine ⟨h.le,h.max,fun hp=>?_⟩;obtain ⟨b,off,h1,h2,h3,h4⟩:=h.at_ hp
 refine ⟨b,off,h1,h2,L8 (hb.block b h2) h3,fun i d hd=>?_⟩;obtain ⟨r,hr,hl,hc⟩:=h4 i d hd;exact ⟨r,hr.below hb,hl,fun j u hu=>by rw [jq (hb.block b h2)];exact hc j u hu⟩
theorem xI (s:ByteArray):Lib.strCells s=Lib.byteCells s.data.toList:=by simp [Lib.strCells,Lib.byteCells]
def Bd (B b:Nat) (l:List UInt8) (w:jG9):Prop:=Lib.IsBuilderF 104 5 B b (Lib.byteCells l) w/\B<=w.heap.size
def jq1 (B b:Nat) (pre:List UInt8) (l:List aj) (w:jG9) (vi:jGk) (wr:jG9):Prop:=
 ∃ k:Nat,k<=l.length/\vi=.int .i64 k/\Bd B b (pre++aj.aG (l.take k)) wr/\Below B w wr
def jjk (B b:Nat) (out:List UInt8) (w:jG9) (e:Ending) (w':jG9):Prop:=e=.returned (.tuple #[])/\Bd B b out w'/\Below B w w'
theorem mG{P:Prop}(h:P:=by
 go_wp2_with fail
 refine W1.out.mono ?_;rintro e w1 ⟨rfl,B1,b1⟩;have HB1:=hid B1;clear B1;go_wp2;go_roundw;case rel=>exact ⟨k+1,by omega,by go_num,by rw [YR.out,HT.out,<- List.append_assoc,<- HP.out];exact HB1.out,hbel.trans b1⟩
 case measure=>simp [intOf];omega):P:=h
theorem xJ (B b:Nat) (n:Nat):∀ (l:List aj) (pre:List UInt8) (v:jGk) (w:jG9),aj.aY l<=n->Rd (·<B) w (bG l) [v]->pre.length+(aj.aG l).length<=1000000000->Bd B b pre w -> Calls Tryz.prog 199 #[.pointer (some ⟨b,0,none⟩),v] w (jjk B b (pre++aj.aG l) w):=by
 induction n using Nat.strongRecOn with
 | _ n ih=>
  intro l pre v w hn hrd hlen hbd;obtain ⟨a,cap,hv,hs⟩:=Rd.ay hrd;obtain rfl:v=.slice a l.length cap:=by simpa using hv
  have hcap:l.length<=cap:=by simpa using hs.le
  have hmx:=hs.max;have HS:=hid hs;have HZ:Hid (pre++aj.aG (l.take 0)=pre):=by show pre++aj.aG []=pre;rw [aj.aG,List.append_nil]
  have IH:=hid ih;have HB:=hid hbd;clear hs hv hrd ih hbd;unfold maxLen at hmx;go_enter Tryz.func199,Tryz.ntmps199;go_wp2
  go_loopw [8] (fun vi wr=>jq1 B b pre l w vi wr) (fun i _=>l.length-(intOf i).toNat)
  case atStart=>exact ⟨0,Nat.zero_le _,rfl,by rw [HZ.out];exact HB.out,Below.refl _ _⟩
  case round=>
   obtain ⟨k,hk,rfl,hbd,hbel⟩:=hrel;have nC:=hid hbd;clear hbd;by_cases hlt:k<l.length
   ·refine iX ?_;intro x hx;obtain ⟨kd,t,d,ti,at_,ar,ci,ks⟩:=x;obtain ⟨g,off,vc,vp,va,vi,vk,rfl,hok,hbl,hc,hR⟩:=L9 (HS.out.below hbel) hx;obtain ⟨c0,c1,c2,-,-,-,-,-,-,c9⟩:=hc;have xK:=hR.kids;have hsz:=aj.bE l k _ hx;rw [aj.sz] at hsz;have HT:=hid (aj.nD l k _ hx);have hle:=aj.FQ l k _ hx;have ik:=fun p h1 h2=>IH.out (aj.aY ks) (by omega) ks p vk wr (Nat.le_refl _) xK h1 h2
    have IK:=hid ik;clear hx xK hR ik;have hpl:(pre++aj.aG (l.take k)).length=pre.length+(aj.aG (l.take k)).length:=by simp
    generalize hacc:aj.aG (l.take k)=acc at *;generalize hacc':aj.aG (l.take (k+1))=acc' at *;have YR:=hid hacc';clear hacc hacc';obtain ⟨P,hP⟩:∃ P,P=pre++acc:=⟨_,rfl⟩;have HP:=hid hP;rw [<- hP] at nC hpl;clear hP;have WS:=hid (fun (s:ByteArray) (h:P.length+s.size<=1000000000)=>(A9 B b (Lib.byteCells P) s wr nC.out.1 (by rw [Lib.byteCells_length];omega) nC.out.2).mono fun _ w' ⟨he,hw⟩=>(⟨he,⟨by rw [Lib.byteCells_append,<- xI];exact hw.1,Nat.le_trans nC.out.2 hw.2.1.size⟩,hw.2.1⟩:_/\Bd B b (P++s.data.toList) w'/\Below B wr w'));have WB:=hid (fun (h:P.length+1<=1000000000)=>(jW B b (Lib.byteCells P) 32 wr nC.out.1 (by rw [Lib.byteCells_length];omega) nC.out.2).mono fun _ w' ⟨he,hw⟩=>(⟨he,⟨by rw [Lib.byteCells_append];exact hw.1,Nat.le_trans nC.out.2 hw.2.1.size⟩,hw.2.1⟩:_/\Bd B b (P++[32]) w'/\Below B wr w'));have Ba:=hid (fun h=>IK.out P h nC.out);clear IK;rcases vw kd with (rfl | rfl | rfl) | (rfl | rfl) | (rfl | rfl | rfl | rfl | rfl | rfl) | rfl | h
    ·have hp:(aj.mk 1 t d ti at_ ar ci ks).plain=t.data.toList:=by rw [aj.plain];simp
     rw [hp] at HT hle;have W1:=hid (WS.out t (by rw [Lib.size_eq];omega));clear hp hle WS WB Ba;exact mG
    ·have hp:(aj.mk 4 t d ti at_ ar ci ks).plain=t.data.toList:=by rw [aj.plain];simp
     rw [hp] at HT hle;have W1:=hid (WS.out t (by rw [Lib.size_eq];omega));clear hp hle WS WB Ba;exact mG
    ·have hp:(aj.mk 5 t d ti at_ ar ci ks).plain=t.data.toList:=by rw [aj.plain];simp
     rw [hp] at HT hle;have W1:=hid (WS.out t (by rw [Lib.size_eq];omega));clear hp hle WS WB Ba;exact mG
    ·have hp:(aj.mk 2 t d ti at_ ar ci ks).plain=[32]:=by rw [aj.plain];simp
     rw [hp] at HT hle;simp only [List.length_cons,List.length_nil] at hle;have W1:=hid (WB.out (by omega));clear hp hle WS WB Ba;exact mG
    ·have hp:(aj.mk 3 t d ti at_ ar ci ks).plain=[32]:=by rw [aj.plain];simp
     rw [hp] at HT hle;simp only [List.length_cons,List.length_nil] at hle;have W1:=hid (WB.out (by omega));clear hp hle WS WB Ba;exact mG
    ·have hp:(aj.mk 6 t d ti at_ ar ci ks).plain=aj.aG ks:=by rw [aj.plain];simp
     rw [hp] at HT hle;have W1:=hid (Ba.out (by omega));clear hp hle WS WB Ba;generalize aj.aG ks=pk at *;exact mG
    ·have hp:(aj.mk 7 t d ti at_ ar ci ks).plain=aj.aG ks:=by rw [aj.plain];simp
     rw [hp] at HT hle;have W1:=hid (Ba.out (by omega));clear hp hle WS WB Ba;generalize aj.aG ks=pk at *;exact mG
    ·have hp:(aj.mk 8 t d ti at_ ar ci ks).plain=aj.aG ks:=by rw [aj.plain];simp
     rw [hp] at HT hle;have W1:=hid (Ba.out (by omega));clear hp hle WS WB Ba;generalize aj.aG ks=pk at *;exact mG
    ·have hp:(aj.mk 9 t d ti at_ ar ci ks).plain=aj.aG ks:=by rw [aj.plain];simp
     rw [hp] at HT hle;have W1:=hid (Ba.out (by omega));clear hp hle WS WB Ba;generalize aj.aG ks=pk at *;exact mG
    ·have hp:(aj.mk 10 t d ti at_ ar ci ks).plain=aj.aG ks:=by rw [aj.plain];simp
     rw [hp] at HT hle;have W1:=hid (Ba.out (by omega));clear hp hle WS WB Ba;generalize aj.aG ks=pk at *;exact mG
    ·have hp:(aj.mk 11 t d ti at_ ar ci ks).plain=aj.aG ks:=by rw [aj.plain];simp
     rw [hp] at HT hle;have W1:=hid (Ba.out (by omega));clear hp hle WS WB Ba;generalize aj.aG ks=pk at *;exact mG
    ·have hp:(aj.mk 16 t d ti at_ ar ci ks).plain=d.data.toList:=by rw [aj.plain];simp
     rw [hp] at HT hle;have W1:=hid (WS.out d (by rw [Lib.size_eq];omega));clear hp hle WS WB Ba;exact mG
    ·obtain ⟨h1,h4,h5,h2,h3,h6,h7,h8,h9,h10,h11,h16⟩:=h;have hp:(aj.mk kd t d ti at_ ar ci ks).plain=[]:=by rw [aj.plain];simp [h1,h2,h3,h4,h5,h6,h7,h8,h9,h10,h11,h16]
     rw [hp] at HT;refine YS ?_;intro f1 f2 f3 f4 f5 f6 f7 f8 f9 f10 f11 f16;clear hp h1 h2 h3 h4 h5 h6 h7 h8 h9 h10 h11 h16 hle WS WB Ba;go_wp2;go_roundw;case rel=>exact ⟨k+1,by omega,by go_num,by rw [YR.out,HT.out,List.append_nil,<- HP.out];exact nC.out,hbel⟩
     case measure=>simp [intOf];omega
   ·have hkl:k=l.length:=by omega
    have hE:aj.aG (l.take k)=aj.aG l:=by rw [hkl,List.take_length]
    rw [hE] at nC;clear hkl hE;go_wp2
    go_end0
    exact ⟨rfl,nC.out,hbel⟩
theorem Jm (l:List aj) (v:jGk) (w:jG9) (h:Rd (·<w.heap.size) w (bG l) [v]) (hlen:(aj.aG l).length<=1000000000) : Calls Tryz.prog 164 #[v] w fun e w'=>e=.returned (.string ⟨(aj.aG l).toArray⟩)/\Below w.heap.size w w':=by
 have b0:Below w.heap.size w (w.alloc (.cells #[.pointer none,.slice none 0 0] 104)):=(Below.refl _ w).alloc (Nat.le_refl _) _;have WP:=hid (xJ w.heap.size w.heap.size _ l [] v _ (Nat.le_refl _) (h.below b0) (by simpa using hlen) ⟨Lib.IsBuilderF.of (Lib.fresh_isBuilder 104 5 w),by simp⟩);have B0:=hid b0;clear h b0;go_enter Tryz.func164,Tryz.ntmps164;go_wp2_with fail
 refine WP.out.mono ?_;rintro e w1 ⟨rfl,hB,hb⟩;have ST:=hid (Tryz.Builder_String_any_k w.heap.size w.heap.size _ w1 hB.1 hB.2);clear hB WP;go_wp2_with fail
 refine ST.out.mono ?_;rintro e w2 ⟨rfl,-,b2,-⟩;go_wp2;go_ret;exact ⟨rfl,(B0.out.trans hb).trans b2⟩
open Go.RowKit
theorem D5 (a:Addr) (n:Nat):(a.add n).block=a.block:=by unfold Addr.add;split<;>rfl
def Reads (w:jG9) (B size:Nat) (A:Option Addr) (n:Nat) (xs:List jGk):Prop:=
 xs.length=n*size/\(0<n->∃ ad,A=some ad/\ad.block<B/\∀ j u,xs[j]?=some u->w.cell? (ad.add j)=some u)
section
variable {w w':jG9} {B B' size n:Nat} {A:Option Addr} {xs:List jGk}
theorem Reads.keep (h:Reads w B size A n xs) (hk:∀ p:Addr,p.block<B->w'.cell? p=w.cell? p):Reads w' B size A n xs:=
 ⟨h.1,fun hn=>by
  obtain ⟨ad,e,hb,hc⟩:=h.2 hn;exact ⟨ad,e,hb,fun j u hu=>(hk _ (by rw [D5];exact hb)).trans (hc j u hu)⟩⟩
theorem Reads.more (h:Reads w B size A n xs) (hB:B<=B'):Reads w B' size A n xs:=
 ⟨h.1,fun hn=>by
  obtain ⟨ad,e,hb,hc⟩:=h.2 hn;exact ⟨ad,e,by omega,hc⟩⟩
theorem Reads.below (h:Reads w B size A n xs) (hb:Below B w w'):Reads w' B size A n xs:=h.keep fun _ hp=>hb.cell hp
theorem Reads.qJ {base:Nat} {e:TypeId} {c:Nat} (h:w.ownsRow base e size (.slice A n c) n xs):Reads w w.heap.size size A n xs:=by
 refine ⟨h.1,fun hn=>?_⟩;obtain ⟨g,cap,hv,_,hlt⟩:=h.form hn;have hA:A=some ⟨g,0,none⟩:=by injection hv
 subst hA;exact ⟨_,rfl,hlt,h.cells (g:=g) rfl⟩
end
section
variable {P:Program} (w:jG9)
theorem rV (base:Nat) (t ty e:TypeId) (i:TypeInfo) (size:Nat) (ht:P.underlying t=some (.slice e)) (hi:P.info? e=some i) (v:jGk) (n:Nat) (xs:List jGk) (hown:w.ownsRow base e size v n xs) (c:Nat):(Builtin.append_ #[t,t] ty #[v,.slice none 0 c]).run P w=.ok v w:=by
 rcases hown.2 with ⟨rfl,rfl⟩ | ⟨g,cap,cur,rfl,_,_,hnc,_⟩
 ·simp [Builtin.append_,run_underlying ht,sizeOf,typeInfo,hi,Builtin.lenOf,Builtin.firstCells]
 ·simp [Builtin.append_,run_underlying ht,sizeOf,typeInfo,hi,Builtin.lenOf,Builtin.firstCells,hnc,storeCells]
theorem xL (base:Nat) (t ty e:TypeId) (i:TypeInfo) (z:jGk) (size bytes:Nat) (ht:P.underlying t=some (.slice e)) (hi:P.info? e=some i) (hz:i.zero=some z) (hsize:i.size=size) (hby:i.bytes=bytes) (hzs:z.cells.size=size) (hsz:0<size) (v:jGk) (n:Nat) (xs:List jGk) (hown:w.ownsRow base e size v n xs) (B:Nat) (A:Option Addr) (m c:Nat) (news:List jGk) (hr:Reads w B size A m news) (h1:∀ u∈news,u.oneCell'=true) (h63:n+m<=maxLen) (hbytes:(n+m)*bytes<=140737488355328) (hbase:base<=w.heap.size) : ∃ v' w',(Builtin.append_ #[t,t] ty #[v,.slice A m c]).run P w=.ok v' w'/\w'.ownsRow base e size v' (n+m) (xs++news)/\w.grownBy w' v.ownBlock /\ (v'.ownBlock=v.ownBlock\/v'.ownBlock=some w.heap.size):=by
 rcases A with _ | ad
 ·have hm:m=0:=by
   rcases Nat.eq_zero_or_pos m with h0 | h0
   ·exact h0
   ·obtain ⟨ad,h,_⟩:=hr.2 h0;cases h
  subst hm;have hn:news=[]:=List.eq_nil_of_length_eq_zero (by simpa using hr.1);subst hn;exact ⟨v,w,rV w base t ty e i size ht hi v n xs hown c,by simpa using hown,World.grownBy.refl w _,.inl rfl⟩
 ·have hcells:∀ j u,news[j]?=some u->w.cell? (ad.add j)=some u:=by
   intro j u hu;rcases Nat.eq_zero_or_pos m with h0 | h0
   ·subst h0;have hn:news=[]:=List.eq_nil_of_length_eq_zero (by simpa using hr.1);subst hn;simp at hu
   ·obtain ⟨ad',h,_,hc⟩:=hr.2 h0;injection h with h
    subst h;exact hc j u hu
  obtain ⟨v',w',hrun,h2,h3,_,h5⟩:=run_append_own_at (P:=P) w base t ty e i z size bytes ht hi hz hsize hby hzs hsz v n xs hown ad m c news hr.1 hcells h1 h63 hbytes hbase;exact ⟨v',w',hrun,h2,h3,h5⟩
theorem qp {o:Oper} {a:Act} {K:Act->jG9->Prop} {Q:Exit->Act->jG9->Prop} (s x:Operand) (t:TypeId) (ho:o.op=.call { callee:=.builtin .append,args:=#[s,x],argTypes:=#[t,t] }) (base:Nat) (e:TypeId) (i:TypeInfo) (z:jGk) (size bytes:Nat) (ht:P.underlying t=some (.slice e)) (hi:P.info? e=some i) (hz:i.zero=some z) (hsize:i.size=size) (hby:i.bytes=bytes) (hzs:z.cells.size=size) (hsz:0<size) (v:jGk) (n:Nat) (xs:List jGk) (hs:a.eval s=v) (hown:w.ownsRow base e size v n xs) (B:Nat) (A:Option Addr) (m c:Nat) (news:List jGk) (hx:a.eval x=.slice A m c) (hr:Reads w B size A m news) (h1:∀ u∈news,u.oneCell'=true) (h63:n+m<=maxLen) (hbytes:(n+m)*bytes<=140737488355328) (hbase:base<=w.heap.size) (h:∀ v' w',w'.ownsRow base e size v' (n+m) (xs++news)->w.grownBy w' v.ownBlock->(v'.ownBlock=v.ownBlock\/v'.ownBlock=some w.heap.size)->K (a.put o.dst v') w'):o.wp P a w K Q:=by obtain ⟨v',w',hrun,h2,h3,h4⟩:=xL (P:=P) w base t o.type e i z size bytes ht hi hz hsize hby hzs hsz v n xs hown B A m c news hr h1 h63 hbytes hbase;unfold Oper.wp execOp;simp only [ho,resolve,invoke,builtin,Sem.run_bind,Sem.run_pure,Result.andThen_ok,List.map_toArray,List.map_cons,List.map_nil,hs,hx,hrun];exact h v' w' h2 h3 h4
theorem Ma {ops:Array Oper} {rest:List Oper} {o:Oper} {a:Act} {Q:Exit->Act->jG9->Prop} (hgd:o.guard=none) (s x:Operand) (t:TypeId) (ho:o.op=.call { callee:=.builtin .append,args:=#[s,x],argTypes:=#[t,t] }) (base:Nat) (e:TypeId) (i:TypeInfo) (z:jGk) (size bytes:Nat) (ht:P.underlying t=some (.slice e)) (hi:P.info? e=some i) (hz:i.zero=some z) (hsize:i.size=size) (hby:i.bytes=bytes) (hzs:z.cells.size=size) (hsz:0<size) (v:jGk) (n:Nat) (xs:List jGk) (hs:a.eval s=v) (hown:w.ownsRow base e size v n xs) (B:Nat) (A:Option Addr) (m c:Nat) (news:List jGk) (hx:a.eval x=.slice A m c) (hr:Reads w B size A m news) (h1:∀ u∈news,u.oneCell'=true) (h63:n+m<=maxLen) (hbytes:(n+m)*bytes<=140737488355328) (hbase:base<=w.heap.size) (h:∀ v' w',w'.ownsRow base e size v' (n+m) (xs++news)->w.grownBy w' v.ownBlock->(v'.ownBlock=v.ownBlock\/v'.ownBlock=some w.heap.size)->wpList P ops Q rest (a.put o.dst v') w'):wpList P ops Q (o::rest) a w:=
 wpList_plain hgd fun _ hK=>qp w s x t ho base e i z size bytes ht hi hz hsize hby hzs hsz v n xs hs hown B A m c news hx hr h1 h63 hbytes hbase fun v' w' h2 h3 h4=>hK _ _ (h v' w' h2 h3 h4)
theorem wE {ops:Array Oper} {o:Oper} {a:Act} {K:Act->jG9->Prop} {Q:Exit->Act->jG9->Prop} {E:Prop} (hgd:o.guard=none) (s x:Operand) (t:TypeId) (ho:o.op=.call { callee:=.builtin .append,args:=#[s,x],argTypes:=#[t,t] }) (base:Nat) (e:TypeId) (i:TypeInfo) (z:jGk) (size bytes:Nat) (ht:P.underlying t=some (.slice e)) (hi:P.info? e=some i) (hz:i.zero=some z) (hsize:i.size=size) (hby:i.bytes=bytes) (hzs:z.cells.size=size) (hsz:0<size) (v:jGk) (n:Nat) (xs:List jGk) (hs:a.eval s=v) (hown:w.ownsRow base e size v n xs) (B:Nat) (A:Option Addr) (m c:Nat) (news:List jGk) (hx:a.eval x=.slice A m c) (hr:Reads w B size A m news) (h1:∀ u∈news,u.oneCell'=true) (h63:n+m<=maxLen) (hbytes:(n+m)*bytes<=140737488355328) (hbase:base<=w.heap.size) (h:∀ v' w',w'.ownsRow base e size v' (n+m) (xs++news)->w.grownBy w' v.ownBlock->(v'.ownBlock=v.ownBlock\/v'.ownBlock=some w.heap.size)->K (a.put o.dst v') w') : if Region.wanted o (yielded ops a.tmps)=true then Oper.wp P o a w K Q else E:=by
 have hw:Region.wanted o (yielded ops a.tmps)=true:=by simp [Region.wanted,hgd]
 rw [if_pos hw];exact qp w s x t ho base e i z size bytes ht hi hz hsize hby hzs hsz v n xs hs hown B A m c news hx hr h1 h63 hbytes hbase h
end
theorem YT{P:Prop}(h:P:=by
 have e:((⟨b,off,none⟩:Addr).add j)=⟨b,off+j,none⟩:=by unfold Addr.add;split<;>simp_all
 rw [e];exact h9 j u hu):P:=h
theorem Rd.reads {B:Nat} {w:jG9} {k:Nat} {l:List D} {v:jGk} (h:Rd (·<B) w (.sl k l) [v]):∃ A cap rows,v=.slice A l.length cap/\l.length<=cap/\cap<=maxLen/\aR (·<B) w l rows/\(∀ r∈rows,r.length=k)/\Reads w B k A l.length rows.flatten:=by
 unfold Rd at h;obtain ⟨a,cap,rows,h1,h2,h3,h4,h5,h6⟩:=h;refine ⟨a,cap,rows,by simpa using h1,h2,h3,h4,h5,?_,fun hp=>?_⟩
 ·rw [kZ k rows h5,h4.len]
 ·rcases h6 with h6 | ⟨b,off,h7,h8,hb,h9⟩
  ·omega
  ·refine ⟨⟨b,off,none⟩,h7,h8,fun j u hu=>?_⟩;exact YT
end Go.Proofs.YtkfnkeflalcphaaGreatDoor

