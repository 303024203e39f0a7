/- The contract of chars.Fold. Contracts of tree.writePlain and tree.Plain. Appends onto rows of the call's own, the source nil or not (after the kit's page of words for memory), and how data read behind them. -/
import Derived.Test.YtkfnkeflalcphaaGreatDoorMRPlainR
import Derived.Test.YtkfnkeflalcphaaGreatDoorMHtB
import Derived.Lib.FieldsP
import Derived.Deep.DeepCutAuto
import Derived.Deep.AppendLies
set_option maxHeartbeats 4000000
set_option maxRecDepth 100000
open Go.Lib (hid)
namespace Go.Proofs.YtkfnkeflalcphaaGreatDoor
open Tryz
open Go renaming World->jN9,Value->jNk
open Go.RowKit
set_option linter.unusedVariables false
set_option linter.unusedSimpArgs false
theorem pF (s:ByteArray) (i:Nat) (h:i<s.size):i+(Utf8.decode s i).2<=s.size:=by have:=Lib.decodeN_le_n' (s.size-i) (s.get! i).toNat (s.get! (i+1)).toNat (s.get! (i+2)).toNat (s.get! (i+3)).toNat (by omega);rw [Lib.decode_at];omega
theorem Eb (c:Nat) (h:c<=1114111):gq c<=1114111:=by unfold gq;(repeat' split)<;>omega
theorem TU (c:Nat) (h:¬ spC c=true):spC c=false:=by simpa using h
theorem TV (acc:List Nat):(dM acc).length=0↔acc=[]:=by
 have:=nR acc;constructor
 ·intro h;exact List.length_eq_zero_iff.1 (by omega)
 ·rintro rfl;rfl
def lH (w:jN9) (k:Nat) (s:ByteArray) (pos:Nat) (l:List UInt8) (wr:jN9):Prop:=
 Lib.IsBuilderF 104 5 w.heap.size w.heap.size (Lib.byteCells l) wr/\wr.heap[k]?=some (.stringIter s pos)/\Below w.heap.size w wr/\w.heap.size<k
section
variable {w:jN9} {k:Nat} {s:ByteArray} {pos:Nat} {l l':List UInt8} {wr w':jN9}
theorem lH.wrote (h:lH w k s pos l wr) (hw:Wrote w.heap.size w.heap.size (Lib.byteCells l++Lib.byteCells l') wr w'):lH w k s pos (l++l') w':=
 ⟨by rw [Lib.byteCells_append];exact hw.1,hw.2.2.iter h.2.1 (by have:=h.2.2.2;omega),h.2.2.1.trans hw.2.1,h.2.2.2⟩
theorem lH.next (h:lH w k s pos l wr) (p:Nat):lH w k s p l (wr.iterAt k s p):=
 ⟨h.1.iterAt h.2.1 p,Lib.iterAt_heap wr k s pos p h.2.1,Lib.below_iterAt h.2.2.1 (k:=k) (by have:=h.2.2.2;omega) s p,h.2.2.2⟩
theorem lH.size (h:lH w k s pos l wr):w.heap.size<=wr.heap.size:=h.2.2.1.size
theorem lH.start (w:jN9) (s:ByteArray):lH w (w.heap.size+1) s 0 [] ((w.alloc (.cells #[.pointer none,.slice none 0 0] 104)).iter s 0):=by refine ⟨(Lib.IsBuilderF.of (Lib.fresh_isBuilder 104 5 w)).alloc _,?_,((Below.refl _ w).alloc (Nat.le_refl _) _).alloc (by simp) _,by omega⟩;have:=World.iter_heap (w.alloc (.cells #[.pointer none,.slice none 0 0] 104)) s 0;simpa using this
theorem lH.Df (h:lH w k s pos l wr):wr.iterPos k=pos:=by simp only [World.iterPos,h.2.1]
end
def jD8 (w:jN9) (s:ByteArray) (R:List Nat) (vg:jNk) (wr:jN9):Prop:=
 ∃ (pos:Nat) (acc:List Nat) (gap:Bool),lH w (w.heap.size+1) s pos (dM acc) wr/\nT (mq s pos) gap acc=R/\acc.length<=2*pos/\pos<=s.size/\vg=.bool gap
theorem Mc (s:ByteArray) (w:jN9) (hs:s.size<=1000000000) : Calls prog 204 #[.string s] w fun e w'=>e=.returned (.string (nU s))/\Below w.heap.size w w':=by
 obtain ⟨R,hR⟩:∃ R,R=TW s:=⟨_,rfl⟩;have HS:Hid (nU s=⟨(dM R).toArray⟩):=by rw [hR];rfl
 have HR:Hid (nT (mq s 0) false []=R):=by rw [hR];rfl
 clear hR;generalize nU s=V at *;go_enter func204,ntmps204;go_wp2
 go_loopw [4] (fun vg wr=>jD8 w s R vg wr) (fun _ wr=>s.size-wr.iterPos (w.heap.size+1))
 case atStart=>exact ⟨0,[],false,lH.start w s,HR.out,by simp,by omega,rfl⟩
 case round=>
  obtain ⟨pos,acc,gap,hI,hacc,hal,hps,rfl⟩:=hrel;have HA:=hid hacc;have HI:=hid hI;have hel:=(nR acc).2;clear hacc;by_cases hp:pos<s.size
  ·have hnx:∀ ty,(Instr.next (.pointer (some ⟨w.heap.size+1,0,none⟩)) true ty).run prog wr=_:=fun ty=>Lib.run_next_any_at wr (w.heap.size+1) s pos ty hI.2.1 hp
   have hd:=Lib.rune_le s pos;have hwd:=iU s pos;have hle:=pF s pos hp;have hst:=hid (F5 s pos hp);have HI2:=hid (hI.next (pos+(Utf8.decode s pos).2));clear hI;generalize Utf8.decode s pos=d at *;obtain ⟨d1,d2⟩:=d;simp only at hd hwd hle hnx hst HI2;have hwr:wrap64 (d1:Int)=d1:=IntWalk.wrap64_in _ ⟨by omega,by omega⟩;have CS:=hid (fun w=>Im d1 w hd);by_cases hsp:spC d1=true
   ·rw [hsp] at CS;have YT:=hid hsp;clear hsp;go_wp2_with fail
    refine (CS.out _).mono ?_;rintro e w1 ⟨rfl,rfl⟩;clear hnx hwr;go_wp2;go_roundw;case rel=>exact ⟨pos+d2,acc,true,HI2.out,by rw [<- HA.out,hst.out,nT,if_pos YT.out],by omega,by omega,rfl⟩
    case measure=>rw [HI2.out.Df,HI.out.Df];omega
   ·have hsp:=TU d1 hsp;rw [hsp] at CS;have YT:=hid hsp;have LN:=hid (fun wi (h:lH w (w.heap.size+1) s (pos+d2) (dM acc) wi)=>(Tryz.Builder_Len_f w.heap.size w.heap.size (Lib.byteCells (dM acc)) wi h.1).mono fun _ _ ⟨he,hw⟩=>(⟨he,hw.symm⟩:_/\wi=_));have hbl:(Lib.byteCells (dM acc)).length=(dM acc).length:=Lib.byteCells_length _;rw [hbl] at LN;have WB:=hid (fun wi (h:lH w (w.heap.size+1) s (pos+d2) (dM acc) wi)=>(kJ w.heap.size w.heap.size (Lib.byteCells (dM acc)) 32 wi h.1 (by rw [hbl];omega) h.size).mono fun _ _ ⟨he,hw⟩=>(⟨he,h.wrote (l':=[32]) hw⟩:_/\lH w (w.heap.size+1) s (pos+d2) (dM acc++[32]) _));have hlo:=Eb d1 hd;have CL:=hid (fun w=>Io d1 w hd);obtain ⟨A,hA⟩:∃ A,A=if gap&&!acc.isEmpty then acc++[32] else acc:=⟨_,rfl⟩
    have HAE:=hid hA;have hAl:A.length<=acc.length+1:=by rw [hA];split<;>simp
    have jI7:=(nR A).2;have WR:=hid (fun wi (h:lH w (w.heap.size+1) s (pos+d2) (dM A) wi)=>(Ip w.heap.size w.heap.size (Lib.byteCells (dM A)) (gq d1:Nat) (by omega) (by omega) wi h.1 (by rw [Lib.byteCells_length];omega) h.size).mono fun _ _ ⟨he,hw⟩=>(⟨he,h.wrote (l':=Lib.encodeRune (gq d1:Nat)) (by rw [Lib.byteCells_encodeRune];exact hw)⟩:_/\lH w (w.heap.size+1) s (pos+d2) (dM A++Lib.encodeRune (gq d1:Nat)) _));have HFA:Hid (sO gap acc d1=A++[gq d1]):=by rw [hA];rfl
    have hAZ:(dM acc).length=0↔acc=[]:=TV acc;have HAZ:=hid hAZ;clear hsp hA hAZ hbl;generalize gq d1=lc at *;go_wp2_with fail
    refine (CS.out _).mono ?_;rintro e w1 ⟨rfl,rfl⟩;clear hnx CS;obtain ⟨wi,hwi⟩:∃ wi,wi=wr.iterAt (w.heap.size+1) s (pos+d2):=⟨_,rfl⟩;rw [<- hwi] at HI2 ⊢;clear hwi;go_upto_region 8 with (fail)
    go_cut [19] (fun s19 wx=>s19=.bool (gap&&!acc.isEmpty)/\wi=wx)
    case first=>
     cases gap with
     | false=>
      go_wp2_with fail
      go_meet
      exact ⟨rfl,rfl⟩
     | true=>
      go_wp2_with fail
      refine (LN.out _ HI2.out).mono ?_;rintro e w1 ⟨rfl,rfl⟩;go_wp2_with fail
      go_meet
      refine ⟨?_,rfl⟩;cases acc with
      | nil=>rfl
      | cons x l=>
       have hx:0<(dM (x::l)).length:=by have:=(nR (x::l)).1;simp at this ⊢;omega
       simp [hx]
    case rest=>
     obtain ⟨rfl,rfl⟩:=hcut
     go_upto_if 19 with (fail)
     go_cut [] (fun wx=>lH w (w.heap.size+1) s (pos+d2) (dM A) wx)
     case first=>
      by_cases hga:(gap&&!acc.isEmpty)=true
      ·have hA2:A=acc++[32]:=by rw [HAE.out,if_pos hga]
       have HA2:=hid hA2;clear hA2;rw [hga];go_wp2_with fail
       refine (WB.out _ HI2.out).mono ?_;rintro e w1 ⟨rfl,b1⟩;go_wp2_with fail
       go_meet
       rw [HA2.out,zw,zx];exact b1
      ·have hA2:A=acc:=by rw [HAE.out,if_neg hga]
       have HA2:=hid hA2;have hga:(gap&&!acc.isEmpty)=false:=by simpa using hga
       clear hA2;rw [hga];go_wp2_with fail
       go_meet
       rw [HA2.out];exact HI2.out
     case rest=>
      have HC:=hid hcut;clear hcut;go_wp2_with fail
      refine (CL.out _).mono ?_;rintro e w1 ⟨rfl,rfl⟩;go_wp2_with fail
      refine (WR.out _ HC.out).mono ?_;rintro e w2 ⟨rfl,b2⟩;have B2:=hid b2;clear b2;go_wp2;go_roundw;case rel=>
       refine ⟨pos+d2,A++[lc],false,by rw [zw,zx];exact B2.out,?_,by simp;omega,by omega,rfl⟩;rw [<- HA.out,hst.out,nT,if_neg (by rw [YT.out];decide),HFA.out]
      case measure=>rw [B2.out.Df,HI.out.Df];omega
  ·have hnx:∀ ty,(Instr.next (.pointer (some ⟨w.heap.size+1,0,none⟩)) true ty).run prog wr=_:=fun ty=>Lib.run_next_end_at wr (w.heap.size+1) s pos ty hI.2.1 hp
   have ST:=hid (Tryz.Builder_String_any_k w.heap.size w.heap.size (dM acc) wr hI.1 hI.size);have hE:=Iq s pos hp;have HE:Hid (acc=R):=by rw [<- HA.out,hE];rfl
   have hb:=hI.2.2.1;clear hI hE;go_wp2_with fail
   refine ST.out.mono ?_;rintro e w1 ⟨rfl,-,b1,-⟩;go_wp2;go_ret;exact ⟨by rw [HS.out,<- HE.out];rfl,hb.trans b1⟩
open Go.RowKit
theorem Rd.below {B:Nat} {w w':jN9} {d:D} {cs:List jNk} (h:Rd (·<B) w d cs) (hb:Below B w w'):Rd (·<B) w' d cs:=
 Rd.keep (fun b hb1 _=>⟨hb1,hb.block b hb1⟩) d cs h
theorem nV.below {B:Nat} {w w':jN9} {k:Nat} {l:List D} {a:Option Addr} {cap:Nat} (h:nV (·<B) w k l a cap) (hb:Below B w w'):nV (·<B) w' k l a cap:=by
 refine ⟨h.le,h.max,fun hp=>?_⟩;obtain ⟨b,off,h1,h2,h3,h4⟩:=h.at_ hp
 refine ⟨b,off,h1,h2,OE (hb.block b h2) h3,fun i d hd=>?_⟩;obtain ⟨r,hr,hl,hc⟩:=h4 i d hd;exact ⟨r,hr.below hb,hl,fun j u hu=>by rw [lI (hb.block b h2)];exact hc j u hu⟩
theorem zy (s:ByteArray):Lib.strCells s=Lib.byteCells s.data.toList:=by simp [Lib.strCells,Lib.byteCells]
def Bd (B b:Nat) (l:List UInt8) (w:jN9):Prop:=Lib.IsBuilderF 104 5 B b (Lib.byteCells l) w/\B<=w.heap.size
def jwk (B b:Nat) (pre:List UInt8) (l:List aj) (w:jN9) (vi:jNk) (wr:jN9):Prop:=
 ∃ k:Nat,k<=l.length/\vi=.int .i64 k/\Bd B b (pre++aj.aR (l.take k)) wr/\Below B w wr
def jq4 (B b:Nat) (out:List UInt8) (w:jN9) (e:Ending) (w':jN9):Prop:=e=.returned (.tuple #[])/\Bd B b out w'/\Below B w w'
theorem mZ{P:Prop}(h:P:=by
 go_wp2_with fail
 refine W1.out.mono ?_;rintro e w1 ⟨rfl,B1,b1⟩;have HB1:=hid B1;clear B1;go_wp2;go_roundw;case rel=>exact ⟨k+1,by omega,by go_num,by rw [HA'.out,HT.out,<- List.append_assoc,<- HP.out];exact HB1.out,hbel.trans b1⟩
 case measure=>simp [intOf];omega):P:=h
theorem kK{P Q:Prop}(q:Q)(h:Nonempty Q->P:=by
 intro qQ;obtain ⟨x,hx⟩:∃ x,l[k]?=some x:=⟨_,List.getElem?_eq_getElem hlt⟩;revert x hx;exact qQ.elim fun x=>x):P:=h ⟨q⟩
theorem zB (B b:Nat) (n:Nat):∀ (l:List aj) (pre:List UInt8) (v:Value) (w:World),aj.aU l<=n->Rd (·<B) w (aZ l) [v]->pre.length+(aj.aR l).length<=1000000000->Bd B b pre w -> Calls prog 199 #[.pointer (some ⟨b,0,none⟩),v] w (jq4 B b (pre++aj.aR l) w):=by
 induction n using Nat.strongRecOn with
 | _ n ih=>
  intro l pre v w hn hrd hlen hbd;obtain ⟨a,cap,hv,hs⟩:=Rd.aB hrd;obtain rfl:v=.slice a l.length cap:=by simpa using hv
  have hcap:l.length<=cap:=by simpa using hs.le
  have hmx:=hs.max;have HS:=hid hs;have HZ:Hid (pre++aj.aR (l.take 0)=pre):=by show pre++aj.aR []=pre;rw [aj.aR,List.append_nil]
  have IH:=hid ih;have HB:=hid hbd;clear hs hv hrd ih hbd;unfold maxLen at hmx;go_enter func199,ntmps199;go_wp2
  go_loopw [8] (fun vi wr=>jwk B b pre l w vi wr) (fun i _=>l.length-(intOf i).toNat)
  case atStart=>exact ⟨0,Nat.zero_le _,rfl,by rw [HZ.out];exact HB.out,Below.refl _ _⟩
  case round=>
   obtain ⟨k,hk,rfl,hbd,hbel⟩:=hrel;have mD:=hid hbd;clear hbd;by_cases hlt:k<l.length
   ·refine kK ?_;intro x hx;obtain ⟨kd,t,d,ti,at_,ar,ci,ks⟩:=x;obtain ⟨g,off,vc,vp,va,vi,vk,rfl,hok,hbl,hc,hR⟩:=fE (HS.out.below hbel) hx;obtain ⟨c0,c1,c2,-,-,-,-,-,-,c9⟩:=hc;have OG:=hR.kids;have hsz:=aj.bK l k _ hx;rw [aj.sz] at hsz;have HT:=hid (aj.xu l k _ hx);have hle:=aj.TY l k _ hx;have ik:=fun p h1 h2=>IH.out (aj.aU ks) (by omega) ks p vk wr (Nat.le_refl _) OG h1 h2
    have IK:=hid ik;clear hx OG hR ik;have hpl:(pre++aj.aR (l.take k)).length=pre.length+(aj.aR (l.take k)).length:=by simp
    generalize hacc:aj.aR (l.take k)=acc at *;generalize hacc':aj.aR (l.take (k+1))=acc' at *;have HA':=hid hacc';clear hacc hacc';obtain ⟨P,hP⟩:∃ P,P=pre++acc:=⟨_,rfl⟩;have HP:=hid hP;rw [<- hP] at mD hpl;clear hP;have WS:=hid (fun (s:ByteArray) (h:P.length+s.size<=1000000000)=>(Dh B b (Lib.byteCells P) s wr mD.out.1 (by rw [Lib.byteCells_length];omega) mD.out.2).mono fun _ w' ⟨he,hw⟩=>(⟨he,⟨by rw [Lib.byteCells_append,<- zy];exact hw.1,Nat.le_trans mD.out.2 hw.2.1.size⟩,hw.2.1⟩:_/\Bd B b (P++s.data.toList) w'/\Below B wr w'));have WB:=hid (fun (h:P.length+1<=1000000000)=>(kJ B b (Lib.byteCells P) 32 wr mD.out.1 (by rw [Lib.byteCells_length];omega) mD.out.2).mono fun _ w' ⟨he,hw⟩=>(⟨he,⟨by rw [Lib.byteCells_append];exact hw.1,Nat.le_trans mD.out.2 hw.2.1.size⟩,hw.2.1⟩:_/\Bd B b (P++[32]) w'/\Below B wr w'));have F6:=hid (fun h=>IK.out P h mD.out);clear IK;rcases Ir kd with (rfl | rfl | rfl) | (rfl | rfl) | (rfl | rfl | rfl | rfl | rfl | rfl) | rfl | h
    ·have hp:(aj.mk 1 t d ti at_ ar ci ks).plain=t.data.toList:=by rw [aj.plain];simp
     rw [hp] at HT hle;have W1:=hid (WS.out t (by rw [Lib.size_eq];omega));clear hp hle WS WB F6;exact mZ
    ·have hp:(aj.mk 4 t d ti at_ ar ci ks).plain=t.data.toList:=by rw [aj.plain];simp
     rw [hp] at HT hle;have W1:=hid (WS.out t (by rw [Lib.size_eq];omega));clear hp hle WS WB F6;exact mZ
    ·have hp:(aj.mk 5 t d ti at_ ar ci ks).plain=t.data.toList:=by rw [aj.plain];simp
     rw [hp] at HT hle;have W1:=hid (WS.out t (by rw [Lib.size_eq];omega));clear hp hle WS WB F6;exact mZ
    ·have hp:(aj.mk 2 t d ti at_ ar ci ks).plain=[32]:=by rw [aj.plain];simp
     rw [hp] at HT hle;simp only [List.length_cons,List.length_nil] at hle;have W1:=hid (WB.out (by omega));clear hp hle WS WB F6;exact mZ
    ·have hp:(aj.mk 3 t d ti at_ ar ci ks).plain=[32]:=by rw [aj.plain];simp
     rw [hp] at HT hle;simp only [List.length_cons,List.length_nil] at hle;have W1:=hid (WB.out (by omega));clear hp hle WS WB F6;exact mZ
    ·have hp:(aj.mk 6 t d ti at_ ar ci ks).plain=aj.aR ks:=by rw [aj.plain];simp
     rw [hp] at HT hle;have W1:=hid (F6.out (by omega));clear hp hle WS WB F6;generalize aj.aR ks=pk at *;exact mZ
    ·have hp:(aj.mk 7 t d ti at_ ar ci ks).plain=aj.aR ks:=by rw [aj.plain];simp
     rw [hp] at HT hle;have W1:=hid (F6.out (by omega));clear hp hle WS WB F6;generalize aj.aR ks=pk at *;exact mZ
    ·have hp:(aj.mk 8 t d ti at_ ar ci ks).plain=aj.aR ks:=by rw [aj.plain];simp
     rw [hp] at HT hle;have W1:=hid (F6.out (by omega));clear hp hle WS WB F6;generalize aj.aR ks=pk at *;exact mZ
    ·have hp:(aj.mk 9 t d ti at_ ar ci ks).plain=aj.aR ks:=by rw [aj.plain];simp
     rw [hp] at HT hle;have W1:=hid (F6.out (by omega));clear hp hle WS WB F6;generalize aj.aR ks=pk at *;exact mZ
    ·have hp:(aj.mk 10 t d ti at_ ar ci ks).plain=aj.aR ks:=by rw [aj.plain];simp
     rw [hp] at HT hle;have W1:=hid (F6.out (by omega));clear hp hle WS WB F6;generalize aj.aR ks=pk at *;exact mZ
    ·have hp:(aj.mk 11 t d ti at_ ar ci ks).plain=aj.aR ks:=by rw [aj.plain];simp
     rw [hp] at HT hle;have W1:=hid (F6.out (by omega));clear hp hle WS WB F6;generalize aj.aR ks=pk at *;exact mZ
    ·have hp:(aj.mk 16 t d ti at_ ar ci ks).plain=d.data.toList:=by rw [aj.plain];simp
     rw [hp] at HT hle;have W1:=hid (WS.out d (by rw [Lib.size_eq];omega));clear hp hle WS WB F6;exact mZ
    ·obtain ⟨h1,h4,h5,h2,h3,h6,h7,h8,h9,h10,h11,h16⟩:=h;have hp:(aj.mk kd t d ti at_ ar ci ks).plain=[]:=by rw [aj.plain];simp [h1,h2,h3,h4,h5,h6,h7,h8,h9,h10,h11,h16]
     rw [hp] at HT;have f1:=beq_false_of_ne h1;have f2:=beq_false_of_ne h2;have f3:=beq_false_of_ne h3;have f4:=beq_false_of_ne h4;have f5:=beq_false_of_ne h5;have f6:=beq_false_of_ne h6;have f7:=beq_false_of_ne h7;have f8:=beq_false_of_ne h8;have f9:=beq_false_of_ne h9;have f10:=beq_false_of_ne h10;have f11:=beq_false_of_ne h11;have f16:=beq_false_of_ne h16;clear hp h1 h2 h3 h4 h5 h6 h7 h8 h9 h10 h11 h16 hle WS WB F6;go_wp2;go_roundw;case rel=>exact ⟨k+1,by omega,by go_num,by rw [HA'.out,HT.out,List.append_nil,<- HP.out];exact mD.out,hbel⟩
     case measure=>simp [intOf];omega
   ·have hkl:k=l.length:=by omega
    have hE:aj.aR (l.take k)=aj.aR l:=by rw [hkl,List.take_length]
    rw [hE] at mD;clear hkl hE;go_wp2
    go_end0
    exact ⟨rfl,mD.out,hbel⟩
theorem Md (l:List aj) (v:Value) (w:World) (h:Rd (·<w.heap.size) w (aZ l) [v]) (hlen:(aj.aR l).length<=1000000000) : Calls prog 164 #[v] w fun e w'=>e=.returned (.string ⟨(aj.aR l).toArray⟩)/\Below w.heap.size w w':=by
 have b0:Below w.heap.size w (w.alloc (.cells #[.pointer none,.slice none 0 0] 104)):=(Below.refl _ w).alloc (Nat.le_refl _) _;have WP:=hid (zB w.heap.size w.heap.size _ l [] v _ (Nat.le_refl _) (h.below b0) (by simpa using hlen) ⟨Lib.IsBuilderF.of (Lib.fresh_isBuilder 104 5 w),by simp⟩);have B0:=hid b0;clear h b0;go_enter func164,ntmps164;go_wp2_with fail
 refine WP.out.mono ?_;rintro e w1 ⟨rfl,hB,hb⟩;have ST:=hid (Tryz.Builder_String_any_k w.heap.size w.heap.size _ w1 hB.1 hB.2);clear hB WP;go_wp2_with fail
 refine ST.out.mono ?_;rintro e w2 ⟨rfl,-,b2,-⟩;go_wp2;go_ret;exact ⟨rfl,(B0.out.trans hb).trans b2⟩
open Go.RowKit
theorem F7 (a:Addr) (n:Nat):(a.add n).block=a.block:=by unfold Addr.add;split<;>rfl
def Reads (w:World) (B size:Nat) (A:Option Addr) (n:Nat) (xs:List Value):Prop:=
 xs.length=n*size/\(0<n->∃ ad,A=some ad/\ad.block<B/\∀ j u,xs[j]?=some u->w.cell? (ad.add j)=some u)
section
variable {w w':World} {B B' size n:Nat} {A:Option Addr} {xs:List Value}
theorem Reads.keep (h:Reads w B size A n xs) (hk:∀ p:Addr,p.block<B->w'.cell? p=w.cell? p):Reads w' B size A n xs:=
 ⟨h.1,fun hn=>by
  obtain ⟨ad,e,hb,hc⟩:=h.2 hn;exact ⟨ad,e,hb,fun j u hu=>(hk _ (by rw [F7];exact hb)).trans (hc j u hu)⟩⟩
theorem Reads.more (h:Reads w B size A n xs) (hB:B<=B'):Reads w B' size A n xs:=
 ⟨h.1,fun hn=>by
  obtain ⟨ad,e,hb,hc⟩:=h.2 hn;exact ⟨ad,e,by omega,hc⟩⟩
theorem Reads.below (h:Reads w B size A n xs) (hb:Below B w w'):Reads w' B size A n xs:=h.keep fun _ hp=>hb.cell hp
theorem Reads.mE {base:Nat} {e:TypeId} {c:Nat} (h:w.ownsRow base e size (.slice A n c) n xs):Reads w w.heap.size size A n xs:=by
 refine ⟨h.1,fun hn=>?_⟩;obtain ⟨g,cap,hv,_,hlt⟩:=h.form hn;have hA:A=some ⟨g,0,none⟩:=by injection hv
 subst hA;exact ⟨_,rfl,hlt,h.cells (g:=g) rfl⟩
end
section
variable {P:Program} (w:World)
theorem sQ (base:Nat) (t ty e:TypeId) (i:TypeInfo) (size:Nat) (ht:P.underlying t=some (.slice e)) (hi:P.info? e=some i) (v:Value) (n:Nat) (xs:List Value) (hown:w.ownsRow base e size v n xs) (c:Nat):(Builtin.append_ #[t,t] ty #[v,.slice none 0 c]).run P w=.ok v w:=by
 rcases hown.2 with ⟨rfl,rfl⟩ | ⟨g,cap,cur,rfl,_,_,hnc,_⟩
 ·simp [Builtin.append_,run_underlying ht,sizeOf,typeInfo,hi,Builtin.lenOf,Builtin.firstCells]
 ·simp [Builtin.append_,run_underlying ht,sizeOf,typeInfo,hi,Builtin.lenOf,Builtin.firstCells,hnc,storeCells]
theorem zC (base:Nat) (t ty e:TypeId) (i:TypeInfo) (z:Value) (size bytes:Nat) (ht:P.underlying t=some (.slice e)) (hi:P.info? e=some i) (hz:i.zero=some z) (hsize:i.size=size) (hby:i.bytes=bytes) (hzs:z.cells.size=size) (hsz:0<size) (v:Value) (n:Nat) (xs:List Value) (hown:w.ownsRow base e size v n xs) (B:Nat) (A:Option Addr) (m c:Nat) (news:List Value) (hr:Reads w B size A m news) (h1:∀ u∈news,u.oneCell'=true) (h63:n+m<=maxLen) (hbytes:(n+m)*bytes<=140737488355328) (hbase:base<=w.heap.size) : ∃ v' w',(Builtin.append_ #[t,t] ty #[v,.slice A m c]).run P w=.ok v' w'/\w'.ownsRow base e size v' (n+m) (xs++news)/\w.grownBy w' v.ownBlock /\ (v'.ownBlock=v.ownBlock\/v'.ownBlock=some w.heap.size):=by
 rcases A with _ | ad
 ·have hm:m=0:=by
   rcases Nat.eq_zero_or_pos m with h0 | h0
   ·exact h0
   ·obtain ⟨ad,h,_⟩:=hr.2 h0;cases h
  subst hm;have hn:news=[]:=List.eq_nil_of_length_eq_zero (by simpa using hr.1);subst hn;exact ⟨v,w,sQ w base t ty e i size ht hi v n xs hown c,by simpa using hown,World.grownBy.refl w _,.inl rfl⟩
 ·have hcells:∀ j u,news[j]?=some u->w.cell? (ad.add j)=some u:=by
   intro j u hu;rcases Nat.eq_zero_or_pos m with h0 | h0
   ·subst h0;have hn:news=[]:=List.eq_nil_of_length_eq_zero (by simpa using hr.1);subst hn;simp at hu
   ·obtain ⟨ad',h,_,hc⟩:=hr.2 h0;injection h with h
    subst h;exact hc j u hu
  obtain ⟨v',w',hrun,h2,h3,_,h5⟩:=run_append_own_at (P:=P) w base t ty e i z size bytes ht hi hz hsize hby hzs hsz v n xs hown ad m c news hr.1 hcells h1 h63 hbytes hbase;exact ⟨v',w',hrun,h2,h3,h5⟩
theorem qE {o:Oper} {a:Act} {K:Act->World->Prop} {Q:Exit->Act->World->Prop} (s x:Operand) (t:TypeId) (ho:o.op=.call { callee:=.builtin .append,args:=#[s,x],argTypes:=#[t,t] }) (base:Nat) (e:TypeId) (i:TypeInfo) (z:Value) (size bytes:Nat) (ht:P.underlying t=some (.slice e)) (hi:P.info? e=some i) (hz:i.zero=some z) (hsize:i.size=size) (hby:i.bytes=bytes) (hzs:z.cells.size=size) (hsz:0<size) (v:Value) (n:Nat) (xs:List Value) (hs:a.eval s=v) (hown:w.ownsRow base e size v n xs) (B:Nat) (A:Option Addr) (m c:Nat) (news:List Value) (hx:a.eval x=.slice A m c) (hr:Reads w B size A m news) (h1:∀ u∈news,u.oneCell'=true) (h63:n+m<=maxLen) (hbytes:(n+m)*bytes<=140737488355328) (hbase:base<=w.heap.size) (h:∀ v' w',w'.ownsRow base e size v' (n+m) (xs++news)->w.grownBy w' v.ownBlock->(v'.ownBlock=v.ownBlock\/v'.ownBlock=some w.heap.size)->K (a.put o.dst v') w'):o.wp P a w K Q:=by obtain ⟨v',w',hrun,h2,h3,h4⟩:=zC (P:=P) w base t o.type e i z size bytes ht hi hz hsize hby hzs hsz v n xs hown B A m c news hr h1 h63 hbytes hbase;unfold Oper.wp execOp;simp only [ho,resolve,invoke,builtin,Sem.run_bind,Sem.run_pure,Result.andThen_ok,List.map_toArray,List.map_cons,List.map_nil,hs,hx,hrun];exact h v' w' h2 h3 h4
theorem Iu {ops:Array Oper} {rest:List Oper} {o:Oper} {a:Act} {Q:Exit->Act->World->Prop} (hgd:o.guard=none) (s x:Operand) (t:TypeId) (ho:o.op=.call { callee:=.builtin .append,args:=#[s,x],argTypes:=#[t,t] }) (base:Nat) (e:TypeId) (i:TypeInfo) (z:Value) (size bytes:Nat) (ht:P.underlying t=some (.slice e)) (hi:P.info? e=some i) (hz:i.zero=some z) (hsize:i.size=size) (hby:i.bytes=bytes) (hzs:z.cells.size=size) (hsz:0<size) (v:Value) (n:Nat) (xs:List Value) (hs:a.eval s=v) (hown:w.ownsRow base e size v n xs) (B:Nat) (A:Option Addr) (m c:Nat) (news:List Value) (hx:a.eval x=.slice A m c) (hr:Reads w B size A m news) (h1:∀ u∈news,u.oneCell'=true) (h63:n+m<=maxLen) (hbytes:(n+m)*bytes<=140737488355328) (hbase:base<=w.heap.size) (h:∀ v' w',w'.ownsRow base e size v' (n+m) (xs++news)->w.grownBy w' v.ownBlock->(v'.ownBlock=v.ownBlock\/v'.ownBlock=some w.heap.size)->wpList P ops Q rest (a.put o.dst v') w'):wpList P ops Q (o::rest) a w:=
 wpList_plain hgd fun _ hK=>qE w s x t ho base e i z size bytes ht hi hz hsize hby hzs hsz v n xs hs hown B A m c news hx hr h1 h63 hbytes hbase fun v' w' h2 h3 h4=>hK _ _ (h v' w' h2 h3 h4)
theorem yj {ops:Array Oper} {o:Oper} {a:Act} {K:Act->World->Prop} {Q:Exit->Act->World->Prop} {E:Prop} (hgd:o.guard=none) (s x:Operand) (t:TypeId) (ho:o.op=.call { callee:=.builtin .append,args:=#[s,x],argTypes:=#[t,t] }) (base:Nat) (e:TypeId) (i:TypeInfo) (z:Value) (size bytes:Nat) (ht:P.underlying t=some (.slice e)) (hi:P.info? e=some i) (hz:i.zero=some z) (hsize:i.size=size) (hby:i.bytes=bytes) (hzs:z.cells.size=size) (hsz:0<size) (v:Value) (n:Nat) (xs:List Value) (hs:a.eval s=v) (hown:w.ownsRow base e size v n xs) (B:Nat) (A:Option Addr) (m c:Nat) (news:List Value) (hx:a.eval x=.slice A m c) (hr:Reads w B size A m news) (h1:∀ u∈news,u.oneCell'=true) (h63:n+m<=maxLen) (hbytes:(n+m)*bytes<=140737488355328) (hbase:base<=w.heap.size) (h:∀ v' w',w'.ownsRow base e size v' (n+m) (xs++news)->w.grownBy w' v.ownBlock->(v'.ownBlock=v.ownBlock\/v'.ownBlock=some w.heap.size)->K (a.put o.dst v') w') : if Region.wanted o (yielded ops a.tmps)=true then Oper.wp P o a w K Q else E:=by
 have hw:Region.wanted o (yielded ops a.tmps)=true:=by simp [Region.wanted,hgd]
 rw [if_pos hw];exact qE w s x t ho base e i z size bytes ht hi hz hsize hby hzs hsz v n xs hs hown B A m c news hx hr h1 h63 hbytes hbase h
end
theorem jd6{P:Prop}(h:P:=by
 have e:((⟨b,off,none⟩:Addr).add j)=⟨b,off+j,none⟩:=by unfold Addr.add;split<;>simp_all
 rw [e];exact h9 j u hu):P:=h
theorem Rd.reads {B:Nat} {w:jN9} {k:Nat} {l:List D} {v:jNk} (h:Rd (·<B) w (.sl k l) [v]):∃ A cap rows,v=.slice A l.length cap/\l.length<=cap/\cap<=maxLen/\aO (·<B) w l rows/\(∀ r∈rows,r.length=k)/\Reads w B k A l.length rows.flatten:=by
 unfold Rd at h;obtain ⟨a,cap,rows,h1,h2,h3,h4,h5,h6⟩:=h;refine ⟨a,cap,rows,by simpa using h1,h2,h3,h4,h5,?_,fun hp=>?_⟩
 ·rw [jQ k rows h5,h4.len]
 ·rcases h6 with h6 | ⟨b,off,h7,h8,hb,h9⟩
  ·omega
  ·refine ⟨⟨b,off,none⟩,h7,h8,fun j u hu=>?_⟩;exact jd6
end Go.Proofs.YtkfnkeflalcphaaGreatDoor

