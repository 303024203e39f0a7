/- The contract of chars.Fold. -/
import Derived.Test.YtclikfjalmcoaaaGreatDoorJRPlainR
import Derived.Test.YtclikfjalmcoaaaGreatDoorJHtB
import Derived.Lib.FieldsP
import Derived.Deep.DeepCutAuto
set_option maxHeartbeats 2000000
set_option maxRecDepth 100000
open Go.Lib (hid)
namespace Go.Proofs.YtclikfjalmcoaaaGreatDoor
open Go.RowKit
set_option linter.unusedVariables false
set_option linter.unusedSimpArgs false
theorem sW (s:ByteArray) (i:Nat) (h:i<s.size):i+(Utf8.decode s i).2<=s.size:=by have:=Lib.decodeN_le_n' (s.size-i) (s.get! i).toNat (s.get! (i+1)).toNat (s.get! (i+2)).toNat (s.get! (i+3)).toNat (by omega);rw [Lib.decode_at];omega
theorem Ic (c:Nat) (h:c<=1114111):jE c<=1114111:=by unfold jE;(repeat' split)<;>omega
theorem QF (c:Nat) (h:¬ SH c=true):SH c=false:=by simpa using h
theorem JM (acc:List Nat):(fu acc).length=0↔acc=[]:=by
 have:=o8 acc;constructor
 ·intro h;exact List.length_eq_zero_iff.1 (by omega)
 ·rintro rfl;rfl
def jP (w:World) (k:Nat) (s:ByteArray) (pos:Nat) (l:List UInt8) (wr:World):Prop:=
 Lib.IsBuilderF 110 5 w.heap.size w.heap.size (Lib.byteCells l) wr/\wr.heap[k]?=some (.stringIter s pos)/\Below w.heap.size w wr/\w.heap.size<k
section
variable {w:World} {k:Nat} {s:ByteArray} {pos:Nat} {l l':List UInt8} {wr w':World}
theorem jP.wrote (h:jP w k s pos l wr) (hw:Wrote w.heap.size w.heap.size (Lib.byteCells l++Lib.byteCells l') wr w'):jP w k s pos (l++l') w':=
 ⟨by rw [Lib.byteCells_append];exact hw.1,hw.2.2.iter h.2.1 (by have:=h.2.2.2;omega),h.2.2.1.trans hw.2.1,h.2.2.2⟩
theorem jP.next (h:jP w k s pos l wr) (p:Nat):jP w k s p l (wr.iterAt k s p):=
 ⟨h.1.iterAt h.2.1 p,Lib.iterAt_heap wr k s pos p h.2.1,Lib.below_iterAt h.2.2.1 (k:=k) (by have:=h.2.2.2;omega) s p,h.2.2.2⟩
theorem jP.size (h:jP w k s pos l wr):w.heap.size<=wr.heap.size:=h.2.2.1.size
theorem jP.start (w:World) (s:ByteArray):jP w (w.heap.size+1) s 0 [] ((w.alloc (.cells #[.pointer none,.slice none 0 0] 110)).iter s 0):=by refine ⟨(Lib.IsBuilderF.of (Lib.fresh_isBuilder 110 5 w)).alloc _,?_,((Below.refl _ w).alloc (Nat.le_refl _) _).alloc (by simp) _,by omega⟩;have:=World.iter_heap (w.alloc (.cells #[.pointer none,.slice none 0 0] 110)) s 0;simpa using this
theorem jP.wV (h:jP w k s pos l wr):wr.iterPos k=pos:=by simp only [World.iterPos,h.2.1]
end
def XJ (w:World) (s:ByteArray) (R:List Nat) (vg:Value) (wr:World):Prop:=
 ∃ (pos:Nat) (acc:List Nat) (gap:Bool),jP w (w.heap.size+1) s pos (fu acc) wr/\uD (kF s pos) gap acc=R/\acc.length<=2*pos/\pos<=s.size/\vg=.bool gap
theorem Ed (s:ByteArray) (w:World) (hs:s.size<=1000000000) : Calls Tryz.prog 228 #[.string s] w fun e w'=>e=.returned (.string (xU s))/\Below w.heap.size w w':=by
 obtain ⟨R,hR⟩:∃ R,R=O8 s:=⟨_,rfl⟩;have HS:Hid (xU s=⟨(fu R).toArray⟩):=by rw [hR];rfl
 have HR:Hid (uD (kF s 0) false []=R):=by rw [hR];rfl
 clear hR;generalize xU s=V at *;go_enter Tryz.func228,Tryz.ntmps228;go_wp2
 go_loopw [4] (fun vg wr=>XJ w s R vg wr) (fun _ wr=>s.size-wr.iterPos (w.heap.size+1))
 case atStart=>exact ⟨0,[],false,jP.start w s,HR.out,by simp,by omega,rfl⟩
 case round=>
  obtain ⟨pos,acc,gap,hI,hacc,hal,hps,rfl⟩:=hrel;have HA:=hid hacc;have HI:=hid hI;have hel:=(o8 acc).2;clear hacc;by_cases hp:pos<s.size
  ·have hnx:∀ ty,(Instr.next (.pointer (some ⟨w.heap.size+1,0,none⟩)) true ty).run Tryz.prog wr=_:=fun ty=>Lib.run_next_any_at wr (w.heap.size+1) s pos ty hI.2.1 hp
   have hd:=Lib.rune_le s pos;have hwd:=mO s pos;have hle:=sW s pos hp;have hst:=hid (zn s pos hp);have HI2:=hid (hI.next (pos+(Utf8.decode s pos).2));clear hI;generalize Utf8.decode s pos=d at *;obtain ⟨d1,d2⟩:=d;simp only at hd hwd hle hnx hst HI2;have hwr:wrap64 (d1:Int)=d1:=IntWalk.wrap64_in _ ⟨by omega,by omega⟩;have CS:=hid (fun w=>BZ d1 w hd);by_cases hsp:SH d1=true
   ·rw [hsp] at CS;have SI:=hid hsp;clear hsp;go_wp2_with fail
    refine (CS.out _).mono ?_;rintro e w1 ⟨rfl,rfl⟩;clear hnx hwr;go_wp2;go_roundw;case rel=>exact ⟨pos+d2,acc,true,HI2.out,by rw [<- HA.out,hst.out,uD,if_pos SI.out],by omega,by omega,rfl⟩
    case measure=>rw [HI2.out.wV,HI.out.wV];omega
   ·have hsp:=QF d1 hsp;rw [hsp] at CS;have SI:=hid hsp;have LN:=hid (fun wi (h:jP w (w.heap.size+1) s (pos+d2) (fu acc) wi)=>(Tryz.Builder_Len_f w.heap.size w.heap.size (Lib.byteCells (fu acc)) wi h.1).mono fun _ _ ⟨he,hw⟩=>(⟨he,hw.symm⟩:_/\wi=_));have hbl:(Lib.byteCells (fu acc)).length=(fu acc).length:=Lib.byteCells_length _;rw [hbl] at LN;have WB:=hid (fun wi (h:jP w (w.heap.size+1) s (pos+d2) (fu acc) wi)=>(jl w.heap.size w.heap.size (Lib.byteCells (fu acc)) 32 wi h.1 (by rw [hbl];omega) h.size).mono fun _ _ ⟨he,hw⟩=>(⟨he,h.wrote (l':=[32]) hw⟩:_/\jP w (w.heap.size+1) s (pos+d2) (fu acc++[32]) _));have hlo:=Ic d1 hd;have CL:=hid (fun w=>Ca d1 w hd);obtain ⟨A,hA⟩:∃ A,A=if gap&&!acc.isEmpty then acc++[32] else acc:=⟨_,rfl⟩
    have HAE:=hid hA;have hAl:A.length<=acc.length+1:=by rw [hA];split<;>simp
    have jaq:=(o8 A).2;have WR:=hid (fun wi (h:jP w (w.heap.size+1) s (pos+d2) (fu A) wi)=>(Cb w.heap.size w.heap.size (Lib.byteCells (fu A)) (jE d1:Nat) (by omega) (by omega) wi h.1 (by rw [Lib.byteCells_length];omega) h.size).mono fun _ _ ⟨he,hw⟩=>(⟨he,h.wrote (l':=Lib.encodeRune (jE d1:Nat)) (by rw [Lib.byteCells_encodeRune];exact hw)⟩:_/\jP w (w.heap.size+1) s (pos+d2) (fu A++Lib.encodeRune (jE d1:Nat)) _));have HFA:Hid (Gj gap acc d1=A++[jE d1]):=by rw [hA];rfl
    have hAZ:(fu acc).length=0↔acc=[]:=JM acc;have HAZ:=hid hAZ;clear hsp hA hAZ hbl;generalize jE d1=lc at *;go_wp2_with fail
    refine (CS.out _).mono ?_;rintro e w1 ⟨rfl,rfl⟩;clear hnx CS;obtain ⟨wi,hwi⟩:∃ wi,wi=wr.iterAt (w.heap.size+1) s (pos+d2):=⟨_,rfl⟩;rw [<- hwi] at HI2 ⊢;clear hwi;go_upto_region 8 with (fail)
    go_cut [19] (fun s19 wx=>s19=.bool (gap&&!acc.isEmpty)/\wi=wx)
    case first=>
     cases gap with
     | false=>
      go_wp2_with fail
      go_meet
      exact ⟨rfl,rfl⟩
     | true=>
      go_wp2_with fail
      refine (LN.out _ HI2.out).mono ?_;rintro e w1 ⟨rfl,rfl⟩;go_wp2_with fail
      go_meet
      refine ⟨?_,rfl⟩;cases acc with
      | nil=>rfl
      | cons x l=>
       have hx:0<(fu (x::l)).length:=by have:=(o8 (x::l)).1;simp at this ⊢;omega
       simp [hx]
    case rest=>
     obtain ⟨rfl,rfl⟩:=hcut
     go_upto_if 19 with (fail)
     go_cut [] (fun wx=>jP w (w.heap.size+1) s (pos+d2) (fu A) wx)
     case first=>
      by_cases hga:(gap&&!acc.isEmpty)=true
      ·have hA2:A=acc++[32]:=by rw [HAE.out,if_pos hga]
       have HA2:=hid hA2;clear hA2;rw [hga];go_wp2_with fail
       refine (WB.out _ HI2.out).mono ?_;rintro e w1 ⟨rfl,b1⟩;go_wp2_with fail
       go_meet
       rw [HA2.out,Cc,Ce];exact b1
      ·have hA2:A=acc:=by rw [HAE.out,if_neg hga]
       have HA2:=hid hA2;have hga:(gap&&!acc.isEmpty)=false:=by simpa using hga
       clear hA2;rw [hga];go_wp2_with fail
       go_meet
       rw [HA2.out];exact HI2.out
     case rest=>
      have HC:=hid hcut;clear hcut;go_wp2_with fail
      refine (CL.out _).mono ?_;rintro e w1 ⟨rfl,rfl⟩;go_wp2_with fail
      refine (WR.out _ HC.out).mono ?_;rintro e w2 ⟨rfl,b2⟩;have B2:=hid b2;clear b2;go_wp2;go_roundw;case rel=>
       refine ⟨pos+d2,A++[lc],false,by rw [Cc,Ce];exact B2.out,?_,by simp;omega,by omega,rfl⟩;rw [<- HA.out,hst.out,uD,if_neg (by rw [SI.out];decide),HFA.out]
      case measure=>rw [B2.out.wV,HI.out.wV];omega
  ·have hnx:∀ ty,(Instr.next (.pointer (some ⟨w.heap.size+1,0,none⟩)) true ty).run Tryz.prog wr=_:=fun ty=>Lib.run_next_end_at wr (w.heap.size+1) s pos ty hI.2.1 hp
   have ST:=hid (Tryz.Builder_String_any_k w.heap.size w.heap.size (fu acc) wr hI.1 hI.size);have hE:=Cg s pos hp;have HE:Hid (acc=R):=by rw [<- HA.out,hE];rfl
   have hb:=hI.2.2.1;clear hI hE;go_wp2_with fail
   refine ST.out.mono ?_;rintro e w1 ⟨rfl,-,b1,-⟩;go_wp2;go_ret;exact ⟨by rw [HS.out,<- HE.out];rfl,hb.trans b1⟩
end Go.Proofs.YtclikfjalmcoaaaGreatDoor

