/- Contracts of attr.wordEnd from any index. The contract of attr.readValue. Contracts of slices.Index and Contains at a row of texts of one's own; attr.Has, attr.Get, addClass, addPair at an attribute of one's own. An attribute of one's own in memory; the contracts of attr.addClass and attr.addPair. The contract of attr.readItem. -/
import Derived.Test.YtkfnkeflalcphaaGreatDoorMScB
import Derived.Lib.SmallJoins
import Derived.Lib.OwnKind
set_option maxHeartbeats 4000000
set_option maxRecDepth 100000
open Go.Lib (hid)
namespace Go.Proofs.YtkfnkeflalcphaaGreatDoor
open Tryz
open Go.RowKit.Below renaming refl->jK7
open Nat renaming le_refl->jK8
open Option.some renaming inj->jL0
open Go renaming World->jN9
open Go.RowKit
set_option linter.unusedVariables false
set_option linter.unusedSimpArgs false
def aP (s:ByteArray) (i:Nat):List UInt8:=s.data.toList.drop i
theorem iY (s:ByteArray) (i:Nat):(aP s i).length=s.size-i:=by unfold aP;simp
theorem Dc (s:ByteArray) (i:Nat) (h:i<s.size):aP s i=s[i]::aP s (i+1):=by
 unfold aP;have h1:i<s.data.toList.length:=by simpa using h
 rw [List.drop_eq_getElem_cons h1];congr 1
theorem JZ (s:ByteArray) (i:Nat) (h:s.size<=i):aP s i=[]:=List.drop_eq_nil_of_le (by simpa using h)
theorem l8 (s:ByteArray) (i:Nat) (h:i<s.size):(aP s i).head?=some s[i]:=by rw [Dc s i h];rfl
def jC (s:ByteArray) (i:Nat):Nat:=i+((aP s i).takeWhile gM).length
theorem jX (s:ByteArray) (i:Nat) (h:i<=s.size):jC s i<=s.size:=by unfold jC;have h1:=(List.takeWhile_sublist (p:=gM) (l:=aP s i)).length_le;rw [iY] at h1;omega
theorem J3 (s:ByteArray) (i:Nat):aP s (jC s i)=(aP s i).dropWhile gM:=by
 unfold jC aP;rw [<- List.drop_drop];generalize s.data.toList.drop i=l;induction l with
 | nil=>rfl
 | cons c l ih=>
  by_cases h:gM c=true
  ·rw [List.takeWhile_cons_of_pos h,List.dropWhile_cons_of_pos h,List.length_cons,List.drop_succ_cons];exact ih
  ·rw [List.takeWhile_cons_of_neg h,List.dropWhile_cons_of_neg h];rfl
theorem EZ (s:ByteArray) (i:Nat) (h:i<=s.size):s.extract i (jC s i)=bX ((aP s i).takeWhile gM):=by
 apply ByteArray.ext;apply Array.toList_inj.1;unfold bX;rw [ByteArray.data_extract,Array.toList_extract];have h2:(aP s i).take (jC s i-i)=(aP s i).takeWhile gM:=by
  unfold jC;rw [Nat.add_sub_cancel_left];generalize aP s i=l;induction l with
  | nil=>rfl
  | cons c l ih=>
   by_cases h:gM c=true
   ·rw [List.takeWhile_cons_of_pos h,List.length_cons,List.take_succ_cons,ih]
   ·rw [List.takeWhile_cons_of_neg h];rfl
 rw [<- h2];unfold aP;simp [List.extract_eq_take_drop]
theorem jh8{P:Prop}(h:P:=by
 have hw:V=q:=by
  rw [HV.out];unfold jC;rw [qR gM _ k hlk HA.out (fun x hx=>?_)]
  ·exact HQ.out.symm
  ·have:=(List.getElem?_eq_some_iff.1 hx).1;rw [iY] at this;have:=HQ.out;omega
 have HW:=hid hw;clear hw;go_wp2;go_ret;exact ⟨by rw [HW.out];rfl,rfl⟩):P:=h
theorem jh9{P:Prop}(h:P:=by
 rw [HV.out];unfold jC;rw [qR gM _ k hlk HA.out (fun x hx=>by rw [HG.out] at hx;obtain rfl:=Option.some.inj hx;exact hn)];exact HQ.out.symm):P:=h
theorem jhj{P:Prop}(h:P:=by
 show _=_;unfold aP;rw [List.getElem?_drop];have h1:=CY s q hlt;have h2:i0+k=q:=HQ.out.symm;rw [h2];exact h1):P:=h
theorem jH (s:ByteArray) (i0:Nat) (w:jN9) (hs:s.size<=1000000000) (hi:i0<=s.size) : Calls prog 97 #[.string s,.int .i64 i0] w fun e w'=>e=.returned (.int .i64 (jC s i0:Nat))/\w=w':=by
 obtain ⟨V,hV⟩:∃ V,V=jC s i0:=⟨_,rfl⟩;rw [<- hV];have HV:=hid hV;clear hV;go_enter func97,ntmps97;go_wp2
 go_loop [1] (fun vi=>∃ k:Nat,i0+k<=s.size/\vi=.int .i64 ((i0+k:Nat):Int)/\∀ j x,j<k->(aP s i0)[j]?=some x->gM x=true) (fun i=>s.size-(intOf i).toNat)
 case atStart=>exact ⟨0,hi,rfl,fun j x hj=>by omega⟩
 case round=>
  obtain ⟨k,hk,rfl,hall⟩:=hrel;have HA:=hid hall;obtain ⟨q,hq⟩:∃ q,q=i0+k:=⟨_,rfl⟩;rw [<- hq] at hk ⊢;have HQ:=hid hq;have hlk:k<=(aP s i0).length:=by rw [iY];omega
  clear hall hq;by_cases hlt:q<s.size
  ·have hgl:=UInt8.toNat_lt s[q];have IN:=hid (fun w=>Bw s[q].toNat w hgl);have HG:Hid ((aP s i0)[k]?=some s[q]):=by
    exact jhj
   cases hn:Il s[q].toNat with
   | true=>
    rw [hn] at IN;have HN:=hid hn;clear hn;go_wp2_with fail
    refine (IN.out _).mono ?_;rintro e w1 ⟨rfl,rfl⟩;go_wp2
    go_round
    case rel=>
     refine ⟨k+1,by have:=HQ.out;omega,by have:=HQ.out;congr 1;omega,fun j x hj hx=>?_⟩;exact P6
    case measure=>simp [intOf];omega
   | false=>
    rw [hn] at IN;have hw:V=q:=by exact jh9
    exact P7
  ·exact jh8
open Go.RowKit
def GZ (s:ByteArray) (i:Nat) (w:jN9) (e:Ending) (w':jN9):Prop:=
 (∃ (v:ByteArray) (n:Int) (b:Bool),e=.returned (.tuple #[.string v,.int .i64 n,.bool b])/\((b=true/\∃ q:Nat,q<=s.size/\n=q/\Bz (aP s i)=some (v,aP s q))\/(b=false/\Bz (aP s i)=none)))/\Below w.heap.size w w'
def jhk (s:ByteArray) (R:Option (List UInt8 × List UInt8)) (w:jN9) (vi:Value) (wr:jN9):Prop:=
 ∃ (i:Nat) (acc:List UInt8),i<=s.size/\vi=.int .i64 i/\bO (aP s i) acc=R/\acc.length<=i/\Lib.IsBuilderF 104 5 w.heap.size w.heap.size (Lib.byteCells acc) wr/\Below w.heap.size w wr
theorem BG (l:List UInt8) (c:UInt8):Lib.byteCells (l++[c])=Lib.byteCells l++[.int .u8 (c.toNat:Int)]:=by simp [Lib.byteCells]
theorem jhq{P Q:Prop}(q:Q)(h:Nonempty Q->P:=by
 intro qQ;have hwl:=jX s i0 hi;have hwg:i0<=jC s i0:=Nat.le_add_right _ _;have hhd:(aP s i0).head?≠some 34:=by
  intro h;rcases Nat.lt_or_ge i0 s.size with h1 | h1
  ·rw [l8 s i0 h1] at h;have h2:s[i0]=34:=Option.some.inj h;exact hq ⟨h1,by rw [<- jE s i0 h1,h2];rfl⟩
  ·rw [JZ s i0 h1] at h;cases h
 have BJ:Hid (Bz (aP s i0)=if dQ (s.extract i0 (jC s i0))=true then some (s.extract i0 (jC s i0),aP s (jC s i0)) else none):=by show _=_;unfold Bz;rw [if_neg hhd,EZ s i0 hi,J3]
 have hvs:(s.extract i0 (jC s i0)).size<=1000000000:=by rw [ByteArray.size_extract];omega
 revert hwl hwg hhd BJ hvs;exact qQ.elim fun x=>x):P:=h ⟨q⟩
theorem jhx{P Q:Prop}(q:Q)(h:Nonempty Q->P:=by
 intro qQ;have l9:=Dc s i0 DX;have rW:s[i0]=34:=by rw [<- UInt8.toNat_inj,jE s i0 DX];exact hb0
 have BJ:Hid (Bz (aP s i0)=match bO (aP s (i0+1)) [] with
  | none=>none
  | some (v,r)=>if cZ (bX v)=true then some (bX v,r) else none):=by
  show _=_;unfold Bz;rw [l9,rW];rfl
 obtain ⟨R,hR⟩:∃ R,R=bO (aP s (i0+1)) []:=⟨_,rfl⟩;revert l9 rW BJ R hR;exact qQ.elim fun x=>x):P:=h ⟨q⟩
theorem jhz{P Q:Prop}(q:Q)(h:Nonempty Q->P:=by
 intro qQ;have hde:((s[i+1].toNat:Int) != 34)=false\/(((s[i+1].toNat:Int) != 34)=true/\((s[i+1].toNat:Int) != 92)=false):=by
  by_cases he:s[i+1]=34
  ·left;rw [he];rfl
  ·right;refine ⟨?_,by rw [hd.resolve_left he];rfl⟩;rw [bne_iff_ne];intro e;exact he (by rw [<- UInt8.toNat_inj];show _=34;omega)
 revert hde;exact qQ.elim fun x=>x):P:=h ⟨q⟩
theorem J4{P Q:Prop}(q:Q)(h:Nonempty Q->P:=by
 intro qQ;have q1:decide ((s.size:Int)<=(i0:Int))=false:=by simp;omega
 revert q1;exact qQ.elim fun x=>x):P:=h ⟨q⟩
theorem ji0{P Q:Prop}(q:Q)(h:Nonempty Q->P:=by
 intro qQ;have LW:Hid (bO (aP s (i+1+1)) (acc++[s[i+1]])=R):=by
  show _=R;rw [<- TM.out,hcn,J5]
  conv=>rhs;rw [bO.eq_def]
  simp only;rw [if_neg rW,if_pos E8,if_pos hd]
 revert LW;exact qQ.elim fun x=>x):P:=h ⟨q⟩
theorem DY (s:ByteArray) (i0:Nat) (w:World) (hs:s.size<=1000000) (hi:i0<=s.size) : Calls prog 276 #[.string s,.int .i64 i0] w (GZ s i0 w):=by
 by_cases hq:i0<s.size/\bt s i0=34;case neg=>
  have WE:=hid (fun w=>jH s i0 w (by omega) hi);refine jhq ?_;intro hwl hwg hhd BJ hvs;have NM:=hid (fun w=>Tm (s.extract i0 (jC s i0)) w hvs);generalize jC s i0=T at *;obtain ⟨X,hX⟩:∃ X,X=s.extract i0 T:=⟨_,rfl⟩;rw [<- hX] at BJ NM;have HX:=hid hX;have hmn:min (i0:Int) (s.size:Int)=(i0:Int):=by omega
  have hc:(s.size<=i0)\/(i0<s.size/\bt s i0≠34):=by omega
  clear hhd hX hvs hq;generalize dQ X=NX at *;have NM2:Hid (∀ w,Calls prog 52 #[.string (s.extract i0 T)] w fun e w'=>e=.returned (.bool NX)/\w=w'):=by show _;rw [<- HX.out];exact NM.out
  have oK:Hid (GZ s i0 w (.returned (.tuple #[.string (s.extract i0 T),.int .i64 (T:Int),.bool NX])) w):=by
   refine ⟨⟨_,_,_,rfl,?_⟩,Below.refl _ _⟩;rw [<- HX.out];cases NX with
   | true=>exact .inl ⟨rfl,T,hwl,rfl,by rw [BJ.out,if_pos rfl]⟩
   | false=>exact .inr ⟨rfl,by rw [BJ.out,if_neg (by decide)]⟩
  rcases hc with hc | ⟨hc,hb⟩
  ·have q1:decide ((s.size:Int)<=(i0:Int))=true:=by simp;omega
   go_enter func276,ntmps276;go_wp2_with fail
   refine (WE.out _).mono ?_;rintro e w1 ⟨rfl,rfl⟩;go_wp2_with fail
   refine (NM2.out _).mono ?_;rintro e w2 ⟨rfl,rfl⟩;go_wp2
   go_ret3
   exact oK.out
  ·have q1:decide ((s.size:Int)<=(i0:Int))=false:=by simp;omega
   have q2:((s[i0].toNat:Int) != 34)=true:=by rw [jE s i0 hc,bne_iff_ne];omega
   go_enter func276,ntmps276;go_wp2_with fail
   refine (WE.out _).mono ?_;rintro e w1 ⟨rfl,rfl⟩;go_wp2_with fail
   refine (NM2.out _).mono ?_;rintro e w2 ⟨rfl,rfl⟩;go_wp2
   go_ret3
   exact oK.out
 case pos=>
  obtain ⟨DX,hb0⟩:=hq;refine jhx ?_;intro l9 rW BJ R hR;rw [<- hR] at BJ;refine J4 ?_;intro q1;have q2:((s[i0].toNat:Int) != 34)=false:=by rw [jE s i0 DX,hb0];rfl
  obtain ⟨wb,hwb⟩:∃ wb,wb=w.alloc (.cells #[.pointer none,.slice none 0 0] 104):=⟨_,rfl⟩;have R0:Hid (jhk s R w (.int .i64 ((i0+1:Nat):Int)) wb):=by
   refine ⟨i0+1,[],by omega,rfl,hR.symm,Nat.zero_le _,?_,?_⟩
   ·rw [hwb];exact Lib.IsBuilderF.of (Lib.fresh_isBuilder 104 5 w)
   ·rw [hwb];exact (Below.refl _ _).alloc (Nat.le_refl _) _
  clear l9 rW hR hb0;go_enter func276,ntmps276
  (try simp only [List.append_eq,List.cons_append,List.nil_append])
  go_upto_region 6 with (fail)
  rw [<- hwb];clear hwb;go_wp2;have q0:decide (s.size<=i0)=false:=by simp;omega
  simp only [q0];clear q0
  go_loopw [8] (fun vi wr=>jhk s R w vi wr) (fun i _=>s.size-(intOf i).toNat)
  case atStart=>exact R0.out
  case round=>
   clear R0 q1 q2;obtain ⟨i,acc,hi,rfl,hqv,hal,hB,hbel⟩:=hrel;have HB:=hid hB;have sK:=hid hbel;have TM:=hid hqv;clear hB hbel hqv;by_cases hlt:i<s.size
   ·have hcn:=Dc s i hlt;have eb:=jE s i hlt;by_cases rW:s[i]=34
    ·have q3:((s[i].toNat:Int)==34)=true:=by rw [rW];rfl
     have Y3:Hid (R=some (acc,aP s (i+1))):=by show R=_;rw [<- TM.out,hcn,bO.eq_def];simp only;rw [if_pos rW]
     have ST:=hid (Tryz.Builder_String_any_k w.heap.size w.heap.size acc wr HB.out sK.out.size);have hbs:(bX acc).size<=1000000000:=by show acc.toArray.size<=_;simp;omega
     have CV:=hid (fun w=>E9 (bX acc) w hbs);have oK:Hid (∀ w',Below w.heap.size w w'->GZ s i0 w (.returned (.tuple #[.string (bX acc),.int .i64 ((i:Int)+1),.bool (cZ (bX acc))])) w'):=by
      intro w' hw';refine ⟨⟨_,_,_,rfl,?_⟩,hw'⟩;rw [BJ.out,Y3.out];cases hl:cZ (bX acc) with
      | true=>exact .inl ⟨rfl,i+1,by omega,by simp,by simp [hl]⟩
      | false=>exact .inr ⟨rfl,by simp [hl]⟩
     clear hcn rW eb;generalize cZ (bX acc)=LL at *;go_wp2_with fail
     refine ST.out.mono ?_;rintro e w1 ⟨rfl,hB1,b1,-⟩;have HB1:=hid hB1;have BB1:=hid (sK.out.trans b1);have ST2:=hid (Tryz.Builder_String_any_k w.heap.size w.heap.size acc w1 hB1 BB1.out.size);clear hB1 b1 ST;go_wp2_with fail
     refine ST2.out.mono ?_;rintro e w2 ⟨rfl,-,b2,-⟩;have BB2:=hid (BB1.out.trans b2);clear b2 ST2;go_wp2_with fail
     refine (CV.out _).mono ?_;rintro e w3 ⟨rfl,q,rfl⟩;go_wp2
     go_ret3
     exact oK.out _ (gQ BB2.out q)
    ·have q3:((s[i].toNat:Int)==34)=false:=by
      rw [beq_eq_false_iff_ne];intro e;exact rW (by rw [<- UInt8.toNat_inj];show _=34;omega)
     by_cases E8:s[i]=92
     ·have q4:((s[i].toNat:Int)==92)=true:=by rw [E8];rfl
      by_cases hlt2:i+1<s.size
      ·have J5:=Dc s (i+1) hlt2;have hgl:=UInt8.toNat_lt s[i+1];by_cases hd:s[i+1]=34\/s[i+1]=92
       ·refine ji0 ?_;intro LW;have q5:decide ((s.size:Int)<=(i:Int)+1)=false:=by simp;omega
        have WB:=hid (kJ w.heap.size w.heap.size (Lib.byteCells acc) (s[i+1].toNat:Int) wr HB.out (by rw [Lib.byteCells_length];omega) sK.out.size);refine jhz ?_;intro hde;have LB:=hid (BG acc s[i+1]);clear hcn J5 hd rW E8 eb;rcases hde with q6 | ⟨q6,q7⟩
        all_goals
         go_wp2_with fail
         refine WB.out.mono ?_;rintro e w1 ⟨rfl,hw1⟩;have HW1:=hid hw1;clear hw1;go_wp2;go_roundw;case rel=>exact ⟨i+1+1,acc++[s[i+1]],by omega,by go_num,LW.out,by simp;omega,by rw [LB.out];exact HW1.out.1,sK.out.trans HW1.out.2.1⟩
         case measure=>simp [intOf];omega
       ·have HRN:Hid (R=none):=by
         show R=none;rw [<- TM.out,hcn,J5,bO.eq_def];simp only;rw [if_neg rW,if_pos E8,if_neg hd]
        have q5:decide ((s.size:Int)<=(i:Int)+1)=false:=by simp;omega
        have q6:((s[i+1].toNat:Int) != 34)=true:=by rw [bne_iff_ne];intro e;exact hd (.inl (by rw [<- UInt8.toNat_inj];show _=34;omega))
        have q7:((s[i+1].toNat:Int) != 92)=true:=by rw [bne_iff_ne];intro e;exact hd (.inr (by rw [<- UInt8.toNat_inj];show _=92;omega))
        clear hcn J5 hd rW E8 eb;go_wp2
        go_ret3
        exact ⟨⟨_,_,_,rfl,.inr ⟨rfl,by rw [BJ.out,HRN.out]⟩⟩,sK.out⟩
      ·have HRN:Hid (R=none):=by
        show R=none;rw [<- TM.out,hcn,JZ s (i+1) (by omega),bO.eq_def];simp only;rw [if_neg rW,if_pos E8]
       have q5:decide ((s.size:Int)<=(i:Int)+1)=true:=by simp;omega
       clear hcn rW E8 eb;go_wp2
       go_ret3
       exact ⟨⟨_,_,_,rfl,.inr ⟨rfl,by rw [BJ.out,HRN.out]⟩⟩,sK.out⟩
     ·have q4:((s[i].toNat:Int)==92)=false:=by
       rw [beq_eq_false_iff_ne];intro e;exact E8 (by rw [<- UInt8.toNat_inj];show _=92;omega)
      have LW:Hid (bO (aP s (i+1)) (acc++[s[i]])=R):=by
       show _=R;rw [<- TM.out,hcn]
       conv=>rhs;rw [bO.eq_def]
       simp only;rw [if_neg rW,if_neg E8]
      have hgl:=UInt8.toNat_lt s[i];have WB:=hid (kJ w.heap.size w.heap.size (Lib.byteCells acc) (s[i].toNat:Int) wr HB.out (by rw [Lib.byteCells_length];omega) sK.out.size);have LB:=hid (BG acc s[i]);clear hcn rW E8 eb;go_wp2_with fail
      refine WB.out.mono ?_;rintro e w1 ⟨rfl,hw1⟩;have HW1:=hid hw1;clear hw1;go_wp2;go_roundw;case rel=>exact ⟨i+1,acc++[s[i]],by omega,by go_num,LW.out,by simp;omega,by rw [LB.out];exact HW1.out.1,sK.out.trans HW1.out.2.1⟩
      case measure=>simp [intOf];omega
   ·have HRN:Hid (R=none):=by
     show R=none;rw [<- TM.out,JZ s i (by omega),bO.eq_def]
    go_wp2
    go_ret3
    exact ⟨⟨_,_,_,rfl,.inr ⟨rfl,by rw [BJ.out,HRN.out]⟩⟩,sK.out⟩
open Go.RowKit
theorem wG (l:List ByteArray) (k:Nat) (y x:ByteArray) (h:l[k]?=some y):dO (l.drop k) x=(decide (y=x)||dO (l.drop (k+1)) x):=by rw [IU l k y h];rfl
theorem ji1{P:Prop}(h:P:=by
 clear LX he;go_wp2
 go_round
 case rel=>exact ⟨k+1,by omega,by go_num,jaz.out⟩
 case measure=>simp [intOf];omega):P:=h
theorem RD (l:List ByteArray) (x:ByteArray) (B:Nat) (v:Value) (w:jN9) (h:w.ownsRow B 9 1 v l.length (l.map Value.string)) (hl:l.length<=100000) : Calls prog 297 #[v,.string x] w fun e w'=>∃ n:Int,e=.returned (.int .i64 n)/\decide (0<=n)=dO l x/\w'=w:=by
 obtain ⟨av,cv,rfl⟩:=lD h;obtain ⟨V,hV⟩:∃ V,V=dO l x:=⟨_,rfl⟩;rw [<- hV];have H:=hid h;have HV:=hid hV;clear hV h;go_enter func297,ntmps297;go_wp2
 go_loop [8] (fun vi=>∃ k:Nat,k<=l.length/\vi=.int .i64 k/\V=dO (l.drop k) x) (fun i=>l.length-(intOf i).toNat)
 case atStart=>exact ⟨0,Nat.zero_le _,rfl,HV.out⟩
 case round=>
  obtain ⟨k,hk,rfl,hv⟩:=hrel;by_cases hlt:k<l.length
  ·obtain ⟨y,hy⟩:∃ y,l[k]?=some y:=⟨_,List.getElem?_eq_getElem hlt⟩;obtain ⟨g,cap,TJ,hcap⟩:=oJ H.out (by omega);obtain ⟨rfl,rfl⟩:av=some ⟨g,0,none⟩/\cv=cap:=by simpa using TJ
   have c0:w.cell? ⟨g,k,none⟩=some (.string y):=by rw [H.out.cellAt k (by omega),List.getElem?_map,hy];rfl
   rw [wG l k y x hy] at hv;have LX:=hid hv;clear hv hy TJ HV;by_cases he:y=x
   ·subst he;have q1:(y.toList==y.toList)=true:=beq_self_eq_true _;go_wp2;go_ret;exact ⟨_,rfl,by rw [LX.out];simp,rfl⟩
   ·have q1:(x.toList==y.toList)=false:=vQ (fun e=>he e.symm);have jaz:Hid (V=dO (l.drop (k+1)) x):=by show V=_;rw [LX.out];simp [he]
    exact ji1
  ·have LX:Hid (V=false):=by show V=false;rw [hv,List.drop_eq_nil_of_le (by omega)];rfl
   clear hv HV;go_wp2;go_ret;exact ⟨_,rfl,by rw [LX.out];rfl,rfl⟩
theorem G5 (l:List ByteArray) (x:ByteArray) (B:Nat) (v:Value) (w:jN9) (h:w.ownsRow B 9 1 v l.length (l.map Value.string)) (hl:l.length<=100000) : Calls prog 296 #[v,.string x] w fun e w'=>e=.returned (.bool (dO l x))/\w'=w:=by
 obtain ⟨av,cv,rfl⟩:=lD h;have IX:=hid (RD l x B _ w h hl);obtain ⟨V,hV⟩:∃ V,V=dO l x:=⟨_,rfl⟩;rw [<- hV] at IX ⊢;clear hV h;go_enter func296,ntmps296;go_wp2_with fail
 refine IX.out.mono ?_;rintro e w1 ⟨n,rfl,hn,rfl⟩;have HN:=hid hn;clear hn;go_wp2;go_ret;exact ⟨by rw [<- HN.out];rfl,rfl⟩
theorem jb0 (l:List ByteArray) (x id:ByteArray) (B:Nat) (v vp:Value) (w:jN9) (h:w.ownsRow B 9 1 v l.length (l.map Value.string)) (hl:l.length<=100000) : Calls prog 293 #[.agg #[.string id,v,vp],.string x] w (dF (.bool (dO l x)) w):=by
 obtain ⟨av,cv,rfl⟩:=lD h;have CT:=hid (G5 l x B _ (w.alloc (.cells #[.string id,.slice av l.length cv,vp] 45)) (h.alloc _) hl);obtain ⟨V,hV⟩:∃ V,V=dO l x:=⟨_,rfl⟩;rw [<- hV] at CT ⊢;clear hV h;go_enter func293,ntmps293;go_wp2_with fail
 refine CT.out.mono ?_;rintro e w1 ⟨rfl,rfl⟩;go_wp2;go_ret;exact ⟨rfl,(jK7 _ _).alloc (jK8 _) _⟩
def pcs (p:Pr):List Value:=[.string p.key,.string p.val]
def J6 (l:List Pr):List Value:=(l.map pcs).flatten
theorem oQ (l:List Pr) (k:Nat) (p:Pr) (h:l[k]?=some p):(J6 l)[k*2]?=some (.string p.key)/\(J6 l)[k*2+1]?=some (.string p.val):=by
 have h2:∀ r∈l.map pcs,r.length=2:=by intro r hr;obtain ⟨q,_,rfl⟩:=List.mem_map.1 hr;rfl
 have hr:(l.map pcs)[k]?=some (pcs p):=by rw [List.getElem?_map,h];rfl
 exact ⟨Y4 2 _ h2 k 0 _ _ hr rfl,Y4 2 _ h2 k 1 _ _ hr rfl⟩
def jtq (V:Bool) (w:jN9) (e:Ending) (w':jN9):Prop:=∃ u:ByteArray,e=.returned (.tuple #[.string u,.bool V])/\Below w.heap.size w w'
theorem jb1 (l:List Pr) (x id:ByteArray) (B:Nat) (v vc:Value) (w:jN9) (h:w.ownsRow B 61 2 v l.length (J6 l)) (hl:l.length<=100000) : Calls prog 294 #[.agg #[.string id,vc,v],.string x] w (jtq (dO (l.map Pr.key) x) w):=by
 obtain ⟨av,cv,rfl⟩:=lD h;obtain ⟨V,hV⟩:∃ V,V=dO (l.map Pr.key) x:=⟨_,rfl⟩;rw [<- hV];have H:=hid h;have HV:=hid hV;clear hV h;obtain ⟨w1,hw1⟩:∃ w1,w1=w.alloc (.cells #[.string id,vc,.slice av l.length cv] 45):=⟨_,rfl⟩;have B1:Hid (Below w.heap.size w w1):=by show Below _ _ _;rw [hw1];exact (jK7 _ _).alloc (jK8 _) _
 go_enter func294,ntmps294;go_wp2;rw [<- hw1];clear hw1
 go_loopw [11] (fun vi wr=>∃ k:Nat,k<=l.length/\vi=.int .i64 k/\V=dO ((l.map Pr.key).drop k) x/\Below w.heap.size w wr) (fun i _=>l.length-(intOf i).toNat)
 case atStart=>exact ⟨0,Nat.zero_le _,rfl,HV.out,B1.out⟩
 case round=>
  obtain ⟨k,hk,rfl,hv,hbel⟩:=hrel;by_cases hlt:k<l.length
  ·obtain ⟨p,hp⟩:∃ p,l[k]?=some p:=⟨_,List.getElem?_eq_getElem hlt⟩;obtain ⟨g,cap,TJ,hcap⟩:=oJ H.out (by omega);obtain ⟨rfl,rfl⟩:av=some ⟨g,0,none⟩/\cv=cap:=by simpa using TJ
   have hH:=UW H.out hbel;have c0:wr.cell? ⟨g,k*2,none⟩=some (.string p.key):=by rw [hH.cellAt (k*2) (by omega)];exact (oQ l k p hp).1
   have c1:wr.cell? ⟨g,k*2+1,none⟩=some (.string p.val):=by rw [hH.cellAt (k*2+1) (by omega)];exact (oQ l k p hp).2
   rw [wG (l.map Pr.key) k p.key x (by rw [List.getElem?_map,hp];rfl)] at hv;have LX:=hid hv;have HB:=hid hbel;clear hv hp TJ HV hbel hH;by_cases he:p.key=x
   ·subst he;have q1:(p.key.toList==p.key.toList)=true:=beq_self_eq_true _;go_wp2
    go_ret2
    exact ⟨p.val,by rw [LX.out];simp,q01 HB.out ((jK7 _ _).alloc (jK8 _) _)⟩
   ·have q1:(p.key.toList==x.toList)=false:=vQ he;have jaz:Hid (V=dO ((l.map Pr.key).drop (k+1)) x):=by show V=_;rw [LX.out];simp [he]
    clear LX he;go_wp2;go_roundw;case rel=>exact ⟨k+1,by omega,by go_num,jaz.out,q01 HB.out ((jK7 _ _).alloc (jK8 _) _)⟩
    case measure=>simp [intOf];omega
  ·have LX:Hid (V=false):=by show V=false;rw [hv,List.drop_eq_nil_of_le (by simp;omega)];rfl
   have HB:=hid hbel;clear hv HV hbel;go_wp2
   go_ret2
   exact ⟨⟨#[]⟩,by rw [LX.out];rfl,HB.out⟩
open Go.RowKit
structure Kx (B b:Nat) (w w':jN9):Prop where
 os:w'.os=w.os
 tape:w'.tape=w.tape
 output:w'.output=w.output
 size:w.heap.size<=w'.heap.size
 block:∀ k,k<B->k≠b->w'.heap[k]?=w.heap[k]?
section
variable {B b:Nat} {w w' w1 w2:jN9}
theorem Kx.refl (B b:Nat) (w:jN9):Kx B b w w:=⟨rfl,rfl,rfl,jK8 _,fun _ _ _=>rfl⟩
theorem Kx.trans (h:Kx B b w w1) (k:Kx B b w1 w2):Kx B b w w2:=
 ⟨k.os.trans h.os,k.tape.trans h.tape,k.output.trans h.output,Nat.le_trans h.size k.size,fun i h1 h2=>(k.block i h1 h2).trans (h.block i h1 h2)⟩
theorem Kx.of (h:Below w.heap.size w w1) (hB:B<=w.heap.size):Kx B b w w1:=⟨h.os,h.tape,h.output,h.size,fun i h1 _=>h.block i (by omega)⟩
theorem Kx.grown {row:Option Nat} (h:w.grownBy w1 row) (hB:B<=w.heap.size) (hr:∀ g,row=some g->B<=g):Kx B b w w1:=
 ⟨h.os,h.tape,h.output,h.size,fun i h1 _=>h.block i (by omega) (fun e=>by have:=hr i e.symm;omega)⟩
theorem Kx.set (w:jN9) (j:Nat) (u:Value):Kx B b w (w.setCell ⟨b,j,none⟩ u):=
 ⟨rfl,rfl,rfl,by simp [World.setCell],fun i _ h2=>Below.heap_setCell w ⟨b,j,none⟩ u i h2⟩
end
structure rX (B b:Nat) (a:At) (vc vp:Value) (w:jN9):Prop where
 ab:AB b [.string a.id,vc,vp] w
 cls:w.ownsRow B 9 1 vc a.cls.length (a.cls.map Value.string)
 aD:w.ownsRow B 61 2 vp a.aD.length (J6 a.aD)
 lt:b<B
 le:B<=w.heap.size
section
variable {B b:Nat} {a:At} {vc vp v1:Value} {w w1 w2:jN9}
theorem rX.below (h:rX B b a vc vp w) (hb:Below w.heap.size w w1):rX B b a vc vp w1:=
 ⟨(hb.block b h.ab.lt).trans h.ab,UW h.cls hb,UW h.aD hb,h.lt,Nat.le_trans h.le hb.size⟩
theorem ji2{P:Prop}(h:P:=by
 right;intro e;obtain ⟨c1,f1,e1⟩:=Lib.ownsRow_kind h.cls g hc;obtain ⟨c2,f2,e2⟩:=Lib.ownsRow_kind h.aD g e.symm;rw [e1] at e2;simp at e2):P:=h
theorem rX.apart (h:rX B b a vc vp w):vc.ownBlock=none\/vc.ownBlock≠vp.ownBlock:=by
 cases hc:vc.ownBlock with
 | none=>exact .inl rfl
 | some g=>
  exact ji2
theorem ji3{P:Prop}(h:P:=by
 rcases h.apart with h1 | h1
 ·cases hc:vp.ownBlock with
  | none=>exact .inl rfl
  | some g=>right;rw [h1];simp
 ·exact .inr fun e=>h1 e.symm):P:=h
theorem rX.apart' (h:rX B b a vc vp w):vp.ownBlock=none\/vp.ownBlock≠vc.ownBlock:=by exact ji3
theorem rX.at3 (h:rX B b a vc vp w):w.cell? ⟨b,0,none⟩=some (.string a.id)/\w.cell? ⟨b,1,none⟩=some vc/\w.cell? ⟨b,2,none⟩=some vp:=
 ⟨h.ab.cell 0 _ rfl,h.ab.cell 1 _ rfl,h.ab.cell 2 _ rfl⟩
theorem P8{P Q:Prop}(q:Q)(h:Nonempty Q->P:=by
 intro qQ;have hal:Below w.heap.size w (w.alloc o):=(Below.refl _ _).alloc (Nat.le_refl _) _;have h0:=h.below hal;revert hal h0;exact qQ.elim fun x=>x):P:=h ⟨q⟩
theorem rX.Wx {x:ByteArray} {o:Obj} (h:rX B b a vc vp w) (hg:(w.alloc o).grownBy w1 vc.ownBlock) (hown:w1.ownsRow B 9 1 v1 (a.cls.length+1) (a.cls.map Value.string++[.string x])) : w1.frozen? ⟨b,1,none⟩=false/\w1.cell? ⟨b,1,none⟩=some vc/\rX B b ⟨a.id,a.cls++[x],a.aD⟩ v1 vp (w1.setCell ⟨b,1,none⟩ v1)/\Kx B b w (w1.setCell ⟨b,1,none⟩ v1):=by
 refine P8 ?_;intro hal h0;have hr:∀ g,vc.ownBlock=some g->B<=g:=fun g hgv=>(h.cls.lt g hgv).1
 have Nj:AB b [.string a.id,vc,vp] w1:=(hg.block b h0.ab.lt (fun e=>by have:=hr b e.symm;have:=h.lt;omega)).trans h0.ab;refine ⟨Nj.free 1,Nj.cell 1 _ rfl,⟨Nj.set 1 v1,?_,?_,h.lt,?_⟩,?_⟩
 ·exact ownsRow_setCell_below (by simpa using hown) h.lt v1
 ·exact ownsRow_setCell_below (h0.aD.kept hg h.apart') h.lt v1
 ·exact Nat.le_trans h0.le (by simpa [World.setCell] using hg.size)
 ·exact ((Kx.of hal h.le).trans (Kx.grown hg h0.le hr)).trans (Kx.set w1 1 v1)
theorem rX.pushP {x:Pr} {o:Obj} (h:rX B b a vc vp w) (hg:(w.alloc o).grownBy w1 vp.ownBlock) (hown:w1.ownsRow B 61 2 v1 (a.aD.length+1) (J6 a.aD++pcs x)) : w1.frozen? ⟨b,2,none⟩=false/\w1.cell? ⟨b,2,none⟩=some vp/\rX B b ⟨a.id,a.cls,a.aD++[x]⟩ vc v1 (w1.setCell ⟨b,2,none⟩ v1)/\Kx B b w (w1.setCell ⟨b,2,none⟩ v1):=by
 refine P8 ?_;intro hal h0;have hr:∀ g,vp.ownBlock=some g->B<=g:=fun g hgv=>(h.aD.lt g hgv).1
 have Nj:AB b [.string a.id,vc,vp] w1:=(hg.block b h0.ab.lt (fun e=>by have:=hr b e.symm;have:=h.lt;omega)).trans h0.ab;refine ⟨Nj.free 2,Nj.cell 2 _ rfl,⟨Nj.set 2 v1,?_,?_,h.lt,?_⟩,?_⟩
 ·exact ownsRow_setCell_below (h0.cls.kept hg h.apart) h.lt v1
 ·refine ownsRow_setCell_below ?_ h.lt v1;have e:J6 (a.aD++[x])=J6 a.aD++pcs x:=by simp [J6]
  rw [e];simpa using hown
 ·exact Nat.le_trans h0.le (by simpa [World.setCell] using hg.size)
 ·exact ((Kx.of hal h.le).trans (Kx.grown hg h0.le hr)).trans (Kx.set w1 2 v1)
theorem rX.jzq (h:rX B b a vc vp w) (x:ByteArray):w.frozen? ⟨b,0,none⟩=false/\rX B b ⟨x,a.cls,a.aD⟩ vc vp (w.setCell ⟨b,0,none⟩ (.string x))/\Kx B b w (w.setCell ⟨b,0,none⟩ (.string x)):=
 ⟨h.ab.free 0,⟨h.ab.set 0 _,ownsRow_setCell_below h.cls h.lt _,ownsRow_setCell_below h.aD h.lt _,h.lt,by simpa [World.setCell] using h.le⟩,Kx.set w 0 _⟩
end
def Wy (B b:Nat) (a a':At) (bad:Prop) (w:World) (e:Ending) (w':World):Prop:=
 ∃ n:Int,e=.returned (.int .i64 n)/\Kx B b w w'/\((n=0/\¬ bad/\∃ vc vp,rX B b a' vc vp w')\/(n≠0/\bad))
theorem ji4{P:Prop}(h:P:=by
 have HR:=hid HR;have HK:=hid HK;clear hown hg p0 p1 p2;go_wp2;go_ret;exact ⟨_,rfl,(Kx.of HB.out HA.out.le).trans HK.out,.inl ⟨rfl,by rintro (h | h);(rw [<- HV.out] at h;cases h);omega,_,_,HR.out⟩⟩):P:=h
theorem ji5{P:Prop}(h:P:=by
 have HA1:=hid (HA.out.below hb1);have HB:=hid hb1;clear hb1 p0 p1 p2;obtain ⟨p0,p1,p2⟩:=HA1.out.at3;go_wp2;go_ret;exact ⟨_,rfl,Kx.of HB.out HA.out.le,.inr ⟨by decide,.inr h32⟩⟩):P:=h
theorem ji6{P:Prop}(h:P:=by
 have HB:=hid hb1;clear hb1 p0 p1 p2;go_wp2;go_ret;exact ⟨_,rfl,Kx.of HB.out HA.out.le,.inr ⟨by decide,.inl HV.out.symm⟩⟩):P:=h
theorem G6 (B b:Nat) (a:At) (x:ByteArray) (vc vp:Value) (w:jN9) (h:rX B b a vc vp w) (hc:a.cls.length<=100000) : Calls prog 275 #[.pointer (some ⟨b,0,none⟩),.string x] w (Wy B b a ⟨a.id,a.cls++[x],a.aD⟩ (dO a.cls x=true\/32<=a.cls.length) w):=by
 obtain ⟨i0,hi0,hz0,hz1,hz2⟩:=info_parts Jd;obtain ⟨av,cv,rfl⟩:=lD h.cls;obtain ⟨p0,p1,p2⟩:=h.at3;have HA:=hid h;have HH:=hid (jb0 a.cls x a.id B _ vp w h.cls hc);obtain ⟨V,hV⟩:∃ V,V=dO a.cls x:=⟨_,rfl⟩;rw [<- hV] at HH;have HV:=hid hV;clear hV h;cases V with
 | true=>
  go_enter func275,ntmps275;go_wp2_with fail
  refine HH.out.mono ?_;rintro e w1 ⟨rfl,hb1⟩;exact ji6
 | false=>
  by_cases h32:32<=a.cls.length
  ·have q1:decide ((32:Int)<=(a.cls.length:Int))=true:=by simp;omega
   go_enter func275,ntmps275;go_wp2_with fail
   refine HH.out.mono ?_;rintro e w1 ⟨rfl,hb1⟩;exact ji5
  ·have q1:decide ((32:Int)<=(a.cls.length:Int))=false:=by simp;omega
   go_enter func275,ntmps275;go_wp2_with fail
   refine HH.out.mono ?_;rintro e w1 ⟨rfl,hb1⟩;have HA1:=hid (HA.out.below hb1);have HB:=hid hb1;clear hb1 p0 p1 p2;obtain ⟨p0,p1,p2⟩:=HA1.out.at3;go_wp2_with (at_builtin;refine Iu _ rfl (.tmp 20) (.tmp 22) 43 rfl B 9 i0 _ 1 16 underlying43 hi0 hz0 hz1 hz2 rfl (by decide) (.slice av a.cls.length cv) a.cls.length (a.cls.map Value.string) rfl (HA1.out.cls.alloc _) (w1.heap.size+1) (some ⟨w1.heap.size,0,none⟩) 1 1 [.string x] rfl ?g1 ?g2 ?g3 ?g4 ?g5 ?_)
   case g1=>exact ⟨rfl,fun _=>⟨_,rfl,by simp,JA w1 [.string x] _⟩⟩
   case g2=>intro u hu;simp at hu;subst hu;rfl
   case g3=>unfold maxLen;omega
   case g4=>omega
   case g5=>have:=HA1.out.le;simp;omega
   intro v1 w2 hown hg _;obtain ⟨a1,c1,rfl⟩:=lD hown;obtain ⟨fz,fc,HR,HK⟩:=HA1.out.Wx hg hown;exact ji4
theorem J7 (B b:Nat) (a:At) (x y:ByteArray) (vc vp:Value) (w:jN9) (h:rX B b a vc vp w) (hc:a.aD.length<=100000) : Calls prog 277 #[.pointer (some ⟨b,0,none⟩),.string x,.string y] w (Wy B b a ⟨a.id,a.cls,a.aD++[⟨x,y⟩]⟩ (dO (keysOf a) x=true\/32<=a.aD.length) w):=by
 obtain ⟨i0,hi0,hz0,hz1,hz2⟩:=info_parts qZ;obtain ⟨av,cv,rfl⟩:=lD h.aD;obtain ⟨p0,p1,p2⟩:=h.at3;have HA:=hid h;have HH:=hid (jb1 a.aD x a.id B _ vc w h.aD hc);obtain ⟨V,hV⟩:∃ V,V=dO (keysOf a) x:=⟨_,rfl⟩;have hV2:dO (a.aD.map Pr.key) x=V:=hV.symm;rw [hV2] at HH;have HV:=hid hV;clear hV hV2 h;cases V with
 | true=>
  go_enter func277,ntmps277;go_wp2_with fail
  refine HH.out.mono ?_;rintro e w1 ⟨u,rfl,hb1⟩;exact ji6
 | false=>
  by_cases h32:32<=a.aD.length
  ·have q1:decide ((32:Int)<=(a.aD.length:Int))=true:=by simp;omega
   go_enter func277,ntmps277;go_wp2_with fail
   refine HH.out.mono ?_;rintro e w1 ⟨u,rfl,hb1⟩;exact ji5
  ·have q1:decide ((32:Int)<=(a.aD.length:Int))=false:=by simp;omega
   go_enter func277,ntmps277;go_wp2_with fail
   refine HH.out.mono ?_;rintro e w1 ⟨u,rfl,hb1⟩;have HA1:=hid (HA.out.below hb1);have HB:=hid hb1;clear hb1 p0 p1 p2;obtain ⟨p0,p1,p2⟩:=HA1.out.at3;go_wp2_with (at_builtin;refine Iu _ rfl (.tmp 28) (.tmp 32) 24 rfl B 61 i0 _ 2 32 underlying24 hi0 hz0 hz1 hz2 rfl (by decide) (.slice av a.aD.length cv) a.aD.length (J6 a.aD) rfl (HA1.out.aD.alloc _) (w1.heap.size+1) (some ⟨w1.heap.size,0,none⟩) 1 1 [.string x,.string y] rfl ?g1 ?g2 ?g3 ?g4 ?g5 ?_)
   case g1=>exact ⟨rfl,fun _=>⟨_,rfl,by simp,JA w1 [.string x,.string y] _⟩⟩
   case g2=>intro u hu;simp at hu;rcases hu with rfl | rfl<;>rfl
   case g3=>unfold maxLen;omega
   case g4=>omega
   case g5=>have:=HA1.out.le;simp;omega
   intro v1 w2 hown hg _;obtain ⟨a1,c1,rfl⟩:=lD hown;obtain ⟨fz,fc,HR,HK⟩:=HA1.out.pushP (x:=⟨x,y⟩) hg hown;exact ji4
open Go.RowKit
def jtx (B b:Nat) (a:At) (s:ByteArray) (i:Nat) (w:jN9) (e:Ending) (w':jN9):Prop:=
 ∃ (t n:Int),e=.returned (.tuple #[.int .i64 t,.int .i64 n])/\Kx B b w w' /\
  ((n=0/\∃ (a':At) (q:Nat),q<=s.size/\t=q/\kW a (aP s i)=some (a',aP s q)/\a'.cls.length<=32/\a'.aD.length<=32/\∃ vc vp,rX B b a' vc vp w')\/(n≠0/\kW a (aP s i)=none))
theorem jO (a:At) (s:ByteArray) (i j:Nat) (h:uL (aP s i)=aP s j) (hj:j<=s.size) : kW a (aP s i)=if dQ (s.extract j (jC s j))=false then none else if (aP s i).head?=some 35 then (if aV a.id=false then none else some (⟨s.extract j (jC s j),a.cls,a.aD⟩,aP s (jC s j))) else if (aP s i).head?=some 46 then (if dO a.cls (s.extract j (jC s j))=true then none else if 32<=a.cls.length then none else some (⟨a.id,a.cls++[s.extract j (jC s j)],a.aD⟩,aP s (jC s j))) else if (aP s (jC s j)).head?=some 61 then (match Bz (aP s (jC s j)).tail with
    | none=>none
    | some (v,r)=>if dO (keysOf a) (s.extract j (jC s j))=true then none else if 32<=a.aD.length then none
     else some (⟨a.id,a.cls,a.aD++[⟨s.extract j (jC s j),v⟩]⟩,r))
   else none:=by
 unfold kW;rw [h,EZ s j hj,J3]<;>rfl
theorem ji7{P:Prop}(h:P:=by
 refine .inr ⟨h1,?_⟩;rw [HIT.out,if_neg (by decide)];by_cases h4:dO a.cls (s.extract (i+1) T)=true
 ·rw [if_pos h4]
 ·rw [if_neg h4,if_pos (h2.resolve_left h4)]):P:=h
theorem ji8{P:Prop}(h:P:=by
 unfold uL;rw [hcn,List.head?_cons,if_neg];rintro (h | h)
 ·exact Fa (Option.some.inj h)
 ·exact h46 (Option.some.inj h)):P:=h
theorem G7 (B b:Nat) (a:At) (s:ByteArray) (i:Nat) (vc vp:Value) (w:jN9) (h:rX B b a vc vp w) (hc:a.cls.length<=32) (hp:a.aD.length<=32) (hs:s.size<=100000) (hi:i<s.size) : Calls prog 257 #[.pointer (some ⟨b,0,none⟩),.string s,.int .i64 i] w (jtx B b a s i w):=by
 obtain ⟨p0,p1,p2⟩:=h.at3;have HA:=hid h;have hcn:=Dc s i hi;clear h;by_cases Fa:s[i]=35
 ·have q1:((s[i].toNat:Int)==35)=true:=by rw [Fa];rfl
  have hsg:uL (aP s i)=aP s (i+1):=by rw [hcn,Fa];rfl
  have HIT:=jO a s i (i+1) hsg (by omega);rw [hcn,Fa,List.head?_cons,if_pos rfl] at HIT;rw [<- Fa,<- hcn] at HIT;have HIT:=hid HIT;have WE:Hid (∀ w,Calls prog 97 #[.string s,.int .i64 ((i:Int)+1)] w fun e w'=>e=.returned (.int .i64 (jC s (i+1):Nat))/\w=w'):=fun w=>jH s (i+1) w (by omega) (by omega)
  have hwl:=jX s (i+1) (by omega);have hwg:i+1<=jC s (i+1):=Nat.le_add_right _ _;generalize jC s (i+1)=T at *;have hvs:(s.extract (i+1) T).size<=1000000000:=by rw [ByteArray.size_extract];omega
  have NM:=hid (fun w=>Tm (s.extract (i+1) T) w hvs);generalize dQ (s.extract (i+1) T)=NX at *;clear hcn hsg hvs Fa;cases NX with
  | false=>
   go_enter func257,ntmps257;go_wp2_with fail
   refine (WE.out _).mono ?_;rintro e w1 ⟨rfl,rfl⟩;go_wp2_with fail
   refine (NM.out _).mono ?_;rintro e w2 ⟨rfl,rfl⟩;go_wp2
   go_ret2
   exact ⟨_,_,rfl,Kx.refl _ _ _,.inr ⟨by decide,HIT.out⟩⟩
  | true=>
   have gG:Hid (kW a (aP s i)=if aV a.id=false then none else some (⟨s.extract (i+1) T,a.cls,a.aD⟩,aP s T)):=HIT.out;cases hem:aV a.id with
   | false=>
    have hie:a.id.toList.isEmpty=false:=by rw [pI];exact hem
    have mV:Hid (kW a (aP s i)=none):=by show _=_;rw [gG.out,if_pos hem]
    clear HIT gG hem;go_enter func257,ntmps257;go_wp2_with fail
    refine (WE.out _).mono ?_;rintro e w1 ⟨rfl,rfl⟩;go_wp2_with fail
    refine (NM.out _).mono ?_;rintro e w2 ⟨rfl,rfl⟩;go_wp2
    go_ret2
    exact ⟨_,_,rfl,Kx.refl _ _ _,.inr ⟨by decide,mV.out⟩⟩
   | true=>
    have hie:a.id.toList.isEmpty=true:=by rw [pI];exact hem
    have mV:Hid (kW a (aP s i)=some (⟨s.extract (i+1) T,a.cls,a.aD⟩,aP s T)):=by show _=_;rw [gG.out,hem];rfl
    obtain ⟨fz,HR,HK⟩:=HA.out.jzq (s.extract (i+1) T);have HR:=hid HR;have HK:=hid HK;clear HIT gG hem;go_enter func257,ntmps257;go_wp2_with fail
    refine (WE.out _).mono ?_;rintro e w1 ⟨rfl,rfl⟩;go_wp2_with fail
    refine (NM.out _).mono ?_;rintro e w2 ⟨rfl,rfl⟩;go_wp2
    go_ret2
    exact ⟨_,_,rfl,HK.out,.inl ⟨rfl,_,T,hwl,rfl,mV.out,hc,hp,_,_,HR.out⟩⟩
 ·have q1:((s[i].toNat:Int)==35)=false:=by
   rw [beq_eq_false_iff_ne];intro e;exact Fa (by rw [<- UInt8.toNat_inj];show _=35;omega)
  by_cases h46:s[i]=46
  ·have q2:((s[i].toNat:Int)==46)=true:=by rw [h46];rfl
   have hsg:uL (aP s i)=aP s (i+1):=by rw [hcn,h46];rfl
   have HIT:=jO a s i (i+1) hsg (by omega);rw [hcn,h46,List.head?_cons,if_neg (show ¬ (some (46:UInt8)=some 35) by decide),if_pos rfl] at HIT;rw [<- h46,<- hcn] at HIT;have HIT:=hid HIT;have WE:Hid (∀ w,Calls prog 97 #[.string s,.int .i64 ((i:Int)+1)] w fun e w'=>e=.returned (.int .i64 (jC s (i+1):Nat))/\w=w'):=fun w=>jH s (i+1) w (by omega) (by omega)
   have hwl:=jX s (i+1) (by omega);have hwg:i+1<=jC s (i+1):=Nat.le_add_right _ _;generalize jC s (i+1)=T at *;have hvs:(s.extract (i+1) T).size<=1000000000:=by rw [ByteArray.size_extract];omega
   have NM:=hid (fun w=>Tm (s.extract (i+1) T) w hvs);have AC:=hid (G6 B b a (s.extract (i+1) T) vc vp w HA.out (by omega));generalize dQ (s.extract (i+1) T)=NX at *;clear hcn hsg hvs Fa h46 p0 p1 p2;cases NX with
   | false=>
    go_enter func257,ntmps257;go_wp2_with fail
    refine (WE.out _).mono ?_;rintro e w1 ⟨rfl,rfl⟩;go_wp2_with fail
    refine (NM.out _).mono ?_;rintro e w2 ⟨rfl,rfl⟩;go_wp2
    go_ret2
    exact ⟨_,_,rfl,Kx.refl _ _ _,.inr ⟨by decide,HIT.out⟩⟩
   | true=>
    go_enter func257,ntmps257;go_wp2_with fail
    refine (WE.out _).mono ?_;rintro e w1 ⟨rfl,rfl⟩;go_wp2_with fail
    refine (NM.out _).mono ?_;rintro e w2 ⟨rfl,rfl⟩;go_wp2_with fail
    refine AC.out.mono ?_;rintro e w3 ⟨n,rfl,hk,hres⟩;have HK:=hid hk;have ji:=hid hres;clear hk hres;go_wp2
    go_ret2
    refine ⟨_,_,rfl,HK.out,?_⟩;rcases ji.out with ⟨h1,h2,J8,J9,h3⟩ | ⟨h1,h2⟩
    ·refine .inl ⟨h1,⟨a.id,a.cls++[s.extract (i+1) T],a.aD⟩,T,hwl,rfl,?_,?_,hp,_,_,h3⟩
     ·rw [HIT.out,if_neg (by decide),if_neg (fun e=>h2 (.inl e)),if_neg (fun e=>h2 (.inr e))]
     ·simp only [List.length_append,List.length_singleton];have:¬ 32<=a.cls.length:=fun e=>h2 (.inr e)
      omega
    ·exact ji7
  ·have q2:((s[i].toNat:Int)==46)=false:=by
    rw [beq_eq_false_iff_ne];intro e;exact h46 (by rw [<- UInt8.toNat_inj];show _=46;omega)
   have hsg:uL (aP s i)=aP s i:=by exact ji8
   have HIT:=jO a s i i hsg (by omega);rw [show (aP s i).head?=some s[i] from l8 s i hi,if_neg (fun e=>Fa (jL0 e)),if_neg (fun e=>h46 (jL0 e))] at HIT;have HIT:=hid HIT;have WE:Hid (∀ w,Calls prog 97 #[.string s,.int .i64 (i:Int)] w fun e w'=>e=.returned (.int .i64 (jC s i:Nat))/\w=w'):=fun w=>jH s i w (by omega) (by omega)
   have hwl:=jX s i (by omega);have hwg:i<=jC s i:=Nat.le_add_right _ _;generalize jC s i=T at *;have hvs:(s.extract i T).size<=1000000000:=by rw [ByteArray.size_extract];omega
   have NM:=hid (fun w=>Tm (s.extract i T) w hvs);generalize dQ (s.extract i T)=NX at *;clear hcn hsg hvs Fa h46 p0 p1 p2;cases NX with
   | false=>
    go_enter func257,ntmps257;go_wp2_with fail
    refine (WE.out _).mono ?_;rintro e w1 ⟨rfl,rfl⟩;go_wp2_with fail
    refine (NM.out _).mono ?_;rintro e w2 ⟨rfl,rfl⟩;go_wp2
    go_ret2
    exact ⟨_,_,rfl,Kx.refl _ _ _,.inr ⟨by decide,HIT.out⟩⟩
   | true=>
    by_cases hT:T<s.size
    ·have hcT:=Dc s T hT;have q3:decide ((s.size:Int)<=(T:Int))=false:=by simp;omega
     by_cases RG:s[T]=61
     ·have q4:((s[T].toNat:Int) != 61)=false:=by rw [RG];rfl
      have gG:Hid (kW a (aP s i)=match Bz (aP s (T+1)) with
       | none=>none
       | some (v,r)=>if dO (keysOf a) (s.extract i T)=true then none else if 32<=a.aD.length then none
        else some (⟨a.id,a.cls,a.aD++[⟨s.extract i T,v⟩]⟩,r)):=by
       show _=_;rw [HIT.out,if_neg (by decide),hcT,RG];rfl
      have RV:Hid (∀ w,Calls prog 276 #[.string s,.int .i64 ((T:Int)+1)] w (GZ s (T+1) w)):=fun w=>DY s (T+1) w (by omega) (by omega)
      clear HIT hcT RG;go_enter func257,ntmps257;go_wp2_with fail
      refine (WE.out _).mono ?_;rintro e w1 ⟨rfl,rfl⟩;go_wp2_with fail
      refine (NM.out _).mono ?_;rintro e w2 ⟨rfl,rfl⟩;go_wp2_with fail
      refine (RV.out _).mono ?_;rintro e w3 ⟨⟨v,n,bb,rfl,hres⟩,hbel⟩;have HA3:=hid (HA.out.below hbel);have HK3:=hid (Kx.of (b:=b) hbel HA.out.le);have ji:=hid hres;clear hres hbel;cases bb with
      | false=>
       have mV:Hid (kW a (aP s i)=none):=by
        show _=_;rcases ji.out with ⟨h1,_⟩ | ⟨_,h1⟩
        ·cases h1
        ·rw [gG.out,h1]
       clear gG;go_wp2
       go_ret2
       exact ⟨_,_,rfl,HK3.out,.inr ⟨by decide,mV.out⟩⟩
      | true=>
       obtain ⟨q,hq,rfl,HVq⟩:∃ q:Nat,q<=s.size/\n=q/\Hid (Bz (aP s (T+1))=some (v,aP s q)):=by
        rcases ji.out with ⟨_,h⟩ | ⟨h1,_⟩
        ·exact h
        ·cases h1
       have AP:=hid (J7 B b a (s.extract i T) v vc vp w3 HA3.out (by omega));have mV:Hid (kW a (aP s i)=if dO (keysOf a) (s.extract i T)=true then none else if 32<=a.aD.length then none
        else some (⟨a.id,a.cls,a.aD++[⟨s.extract i T,v⟩]⟩,aP s q)):=by show _=_;rw [gG.out,HVq.out]
       clear gG HVq ji;go_wp2_with fail
       refine AP.out.mono ?_;rintro e w4 ⟨n,rfl,hk,hres⟩;have HK:=hid hk;have ji:=hid hres;clear hk hres;go_wp2
       go_ret2
       refine ⟨_,_,rfl,HK3.out.trans HK.out,?_⟩;rcases ji.out with ⟨h1,h2,J8,J9,h3⟩ | ⟨h1,h2⟩
       ·refine .inl ⟨h1,⟨a.id,a.cls,a.aD++[⟨s.extract i T,v⟩]⟩,q,hq,rfl,?_,hc,?_,_,_,h3⟩
        ·rw [mV.out,if_neg (fun e=>h2 (.inl e)),if_neg (fun e=>h2 (.inr e))]
        ·simp only [List.length_append,List.length_singleton];have:¬ 32<=a.aD.length:=fun e=>h2 (.inr e)
         omega
       ·refine .inr ⟨h1,?_⟩;rw [mV.out];by_cases h4:dO (keysOf a) (s.extract i T)=true
        ·rw [if_pos h4]
        ·rw [if_neg h4,if_pos (h2.resolve_left h4)]
     ·have q4:((s[T].toNat:Int) != 61)=true:=by rw [bne_iff_ne];intro e;exact RG (by rw [<- UInt8.toNat_inj];show _=61;omega)
      have gG:Hid (kW a (aP s i)=none):=by show _=_;rw [HIT.out,if_neg (by decide),l8 s T hT,if_neg (fun e=>RG (jL0 e))]
      clear HIT hcT RG;go_enter func257,ntmps257;go_wp2_with fail
      refine (WE.out _).mono ?_;rintro e w1 ⟨rfl,rfl⟩;go_wp2_with fail
      refine (NM.out _).mono ?_;rintro e w2 ⟨rfl,rfl⟩;go_wp2
      go_ret2
      exact ⟨_,_,rfl,Kx.refl _ _ _,.inr ⟨by decide,gG.out⟩⟩
    ·have q3:decide ((s.size:Int)<=(T:Int))=true:=by simp;omega
     have gG:Hid (kW a (aP s i)=none):=by show _=_;rw [HIT.out,if_neg (by decide),JZ s T (by omega),if_neg (by simp)]
     clear HIT;go_enter func257,ntmps257;go_wp2_with fail
     refine (WE.out _).mono ?_;rintro e w1 ⟨rfl,rfl⟩;go_wp2_with fail
     refine (NM.out _).mono ?_;rintro e w2 ⟨rfl,rfl⟩;go_wp2
     go_ret2
     exact ⟨_,_,rfl,Kx.refl _ _ _,.inr ⟨by decide,gG.out⟩⟩
end Go.Proofs.YtkfnkeflalcphaaGreatDoor

