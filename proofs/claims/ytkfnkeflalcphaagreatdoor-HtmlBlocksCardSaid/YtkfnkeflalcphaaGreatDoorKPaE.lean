/- Contracts of attr.wordEnd from any index. The contract of attr.readValue. Contracts of slices.Index and Contains at a row of texts of one's own; attr.Has, attr.Get, addClass, addPair at an attribute of one's own. An attribute of one's own in memory; the contracts of attr.addClass and attr.addPair. The contract of attr.readItem. -/
import Derived.Test.YtkfnkeflalcphaaGreatDoorKRfD
import Derived.Lib.SmallJoins
import Derived.Lib.OwnKind
set_option maxHeartbeats 4000000
set_option maxRecDepth 100000
open Go.Lib (hid)
namespace Go.Proofs.YtkfnkeflalcphaaGreatDoor
open Go.RowKit.Below renaming refl->jD7
open Nat renaming le_refl->jD8
open Option.some renaming inj->jE0
open Go renaming World->jG9
open Go.RowKit
set_option linter.unusedVariables false
set_option linter.unusedSimpArgs false
def aN (s:ByteArray) (i:Nat):List UInt8:=s.data.toList.drop i
theorem iG (s:ByteArray) (i:Nat):(aN s i).length=s.size-i:=by unfold aN;simp
theorem q0z (s:ByteArray) (i:Nat) (h:i<s.size):aN s i=s[i]::aN s (i+1):=by
 unfold aN;have h1:i<s.data.toList.length:=by simpa using h
 rw [List.drop_eq_getElem_cons h1];congr 1
theorem q1z (s:ByteArray) (i:Nat) (h:s.size<=i):aN s i=[]:=List.drop_eq_nil_of_le (by simpa using h)
theorem lN (s:ByteArray) (i:Nat) (h:i<s.size):(aN s i).head?=some s[i]:=by rw [q0z s i h];rfl
def jc (s:ByteArray) (i:Nat):Nat:=i+((aN s i).takeWhile iA).length
theorem jK (s:ByteArray) (i:Nat) (h:i<=s.size):jc s i<=s.size:=by unfold jc;have h1:=(List.takeWhile_sublist (p:=iA) (l:=aN s i)).length_le;rw [iG] at h1;omega
theorem H7 (s:ByteArray) (i:Nat):aN s (jc s i)=(aN s i).dropWhile iA:=by
 unfold jc aN;rw [<- List.drop_drop];generalize s.data.toList.drop i=l;induction l with
 | nil=>rfl
 | cons c l ih=>
  by_cases h:iA c=true
  ·rw [List.takeWhile_cons_of_pos h,List.dropWhile_cons_of_pos h,List.length_cons,List.drop_succ_cons];exact ih
  ·rw [List.takeWhile_cons_of_neg h,List.dropWhile_cons_of_neg h];rfl
theorem Dq (s:ByteArray) (i:Nat) (h:i<=s.size):s.extract i (jc s i)=bY ((aN s i).takeWhile iA):=by
 apply ByteArray.ext;apply Array.toList_inj.1;unfold bY;rw [ByteArray.data_extract,Array.toList_extract];have h2:(aN s i).take (jc s i-i)=(aN s i).takeWhile iA:=by
  unfold jc;rw [Nat.add_sub_cancel_left];generalize aN s i=l;induction l with
  | nil=>rfl
  | cons c l ih=>
   by_cases h:iA c=true
   ·rw [List.takeWhile_cons_of_pos h,List.length_cons,List.take_succ_cons,ih]
   ·rw [List.takeWhile_cons_of_neg h];rfl
 rw [<- h2];unfold aN;simp [List.extract_eq_take_drop]
theorem jd0{P:Prop}(h:P:=by
 have hw:V=q:=by
  rw [HV.out];unfold jc;rw [qL iA _ k hlk HA.out (fun x hx=>?_)]
  ·exact HQ.out.symm
  ·have:=(List.getElem?_eq_some_iff.1 hx).1;rw [iG] at this;have:=HQ.out;omega
 have HW:=hid hw;clear hw;go_wp2;go_ret;exact ⟨by rw [HW.out];rfl,rfl⟩):P:=h
theorem jd1{P:Prop}(h:P:=by
 rw [HV.out];unfold jc;rw [qL iA _ k hlk HA.out (fun x hx=>by rw [HG.out] at hx;obtain rfl:=Option.some.inj hx;exact hn)];exact HQ.out.symm):P:=h
theorem jd2{P:Prop}(h:P:=by
 show _=_;unfold aN;rw [List.getElem?_drop];have h1:=Cc s q hlt;have h2:i0+k=q:=HQ.out.symm;rw [h2];exact h1):P:=h
theorem jh (s:ByteArray) (i0:Nat) (w:jG9) (hs:s.size<=1000000000) (hi:i0<=s.size) : Calls Tryz.prog 97 #[.string s,.int .i64 i0] w fun e w'=>e=.returned (.int .i64 (jc s i0:Nat))/\w=w':=by
 obtain ⟨V,hV⟩:∃ V,V=jc s i0:=⟨_,rfl⟩;rw [<- hV];have HV:=hid hV;clear hV;go_enter Tryz.func97,Tryz.ntmps97;go_wp2
 go_loop [1] (fun vi=>∃ k:Nat,i0+k<=s.size/\vi=.int .i64 ((i0+k:Nat):Int)/\∀ j x,j<k->(aN s i0)[j]?=some x->iA x=true) (fun i=>s.size-(intOf i).toNat)
 case atStart=>exact ⟨0,hi,rfl,fun j x hj=>by omega⟩
 case round=>
  obtain ⟨k,hk,rfl,hall⟩:=hrel;have HA:=hid hall;obtain ⟨q,hq⟩:∃ q,q=i0+k:=⟨_,rfl⟩;rw [<- hq] at hk ⊢;have HQ:=hid hq;have hlk:k<=(aN s i0).length:=by rw [iG];omega
  clear hall hq;by_cases hlt:q<s.size
  ·have hgl:=UInt8.toNat_lt s[q];have IN:=hid (fun w=>zP s[q].toNat w hgl);have HG:Hid ((aN s i0)[k]?=some s[q]):=by
    exact jd2
   cases hn:H8 s[q].toNat with
   | true=>
    rw [hn] at IN;have HN:=hid hn;clear hn;go_wp2_with fail
    refine (IN.out _).mono ?_;rintro e w1 ⟨rfl,rfl⟩;go_wp2
    go_round
    case rel=>
     refine ⟨k+1,by have:=HQ.out;omega,by have:=HQ.out;congr 1;omega,fun j x hj hx=>?_⟩;exact Nu
    case measure=>simp [intOf];omega
   | false=>
    rw [hn] at IN;have hw:V=q:=by exact jd1
    exact Nv
  ·exact jd0
open Go.RowKit
def EW (s:ByteArray) (i:Nat) (w:jG9) (e:Ending) (w':jG9):Prop:=
 (∃ (v:ByteArray) (n:Int) (b:Bool),e=.returned (.tuple #[.string v,.int .i64 n,.bool b])/\((b=true/\∃ q:Nat,q<=s.size/\n=q/\zR (aN s i)=some (v,aN s q))\/(b=false/\zR (aN s i)=none)))/\Below w.heap.size w w'
def jd3 (s:ByteArray) (R:Option (List UInt8 × List UInt8)) (w:jG9) (vi:Value) (wr:jG9):Prop:=
 ∃ (i:Nat) (acc:List UInt8),i<=s.size/\vi=.int .i64 i/\bO (aN s i) acc=R/\acc.length<=i/\Lib.IsBuilderF 104 5 w.heap.size w.heap.size (Lib.byteCells acc) wr/\Below w.heap.size w wr
theorem zS (l:List UInt8) (c:UInt8):Lib.byteCells (l++[c])=Lib.byteCells l++[.int .u8 (c.toNat:Int)]:=by simp [Lib.byteCells]
theorem jd4{P Q:Prop}(q:Q)(h:Nonempty Q->P:=by
 intro qQ;have hwl:=jK s i0 hi;have hwg:i0<=jc s i0:=Nat.le_add_right _ _;have hhd:(aN s i0).head?≠some 34:=by
  intro h;rcases Nat.lt_or_ge i0 s.size with h1 | h1
  ·rw [lN s i0 h1] at h;have h2:s[i0]=34:=Option.some.inj h;exact hq ⟨h1,by rw [<- jk s i0 h1,h2];rfl⟩
  ·rw [q1z s i0 h1] at h;cases h
 have zT:Hid (zR (aN s i0)=if dZ (s.extract i0 (jc s i0))=true then some (s.extract i0 (jc s i0),aN s (jc s i0)) else none):=by show _=_;unfold zR;rw [if_neg hhd,Dq s i0 hi,H7]
 have hvs:(s.extract i0 (jc s i0)).size<=1000000000:=by rw [ByteArray.size_extract];omega
 revert hwl hwg hhd zT hvs;exact qQ.elim fun x=>x):P:=h ⟨q⟩
theorem jd5{P Q:Prop}(q:Q)(h:Nonempty Q->P:=by
 intro qQ;have lQ:=q0z s i0 BD;have rz:s[i0]=34:=by rw [<- UInt8.toNat_inj,jk s i0 BD];exact hb0
 have zT:Hid (zR (aN s i0)=match bO (aN s (i0+1)) [] with
  | none=>none
  | some (v,r)=>if dG (bY v)=true then some (bY v,r) else none):=by
  show _=_;unfold zR;rw [lQ,rz];rfl
 obtain ⟨R,hR⟩:∃ R,R=bO (aN s (i0+1)) []:=⟨_,rfl⟩;revert lQ rz zT R hR;exact qQ.elim fun x=>x):P:=h ⟨q⟩
theorem jd6{P Q:Prop}(q:Q)(h:Nonempty Q->P:=by
 intro qQ;have hde:((s[i+1].toNat:Int) != 34)=false\/(((s[i+1].toNat:Int) != 34)=true/\((s[i+1].toNat:Int) != 92)=false):=by
  by_cases he:s[i+1]=34
  ·left;rw [he];rfl
  ·right;refine ⟨?_,by rw [hd.resolve_left he];rfl⟩;rw [bne_iff_ne];intro e;exact he (by rw [<- UInt8.toNat_inj];show _=34;omega)
 revert hde;exact qQ.elim fun x=>x):P:=h ⟨q⟩
theorem H9{P Q:Prop}(q:Q)(h:Nonempty Q->P:=by
 intro qQ;have q1:decide ((s.size:Int)<=(i0:Int))=false:=by simp;omega
 revert q1;exact qQ.elim fun x=>x):P:=h ⟨q⟩
theorem jd7{P Q:Prop}(q:Q)(h:Nonempty Q->P:=by
 intro qQ;have Qg:Hid (bO (aN s (i+1+1)) (acc++[s[i+1]])=R):=by
  show _=R;rw [<- Qr.out,hcn,Ia]
  conv=>rhs;rw [bO.eq_def]
  simp only;rw [if_neg rz,if_pos Dt,if_pos hd]
 revert Qg;exact qQ.elim fun x=>x):P:=h ⟨q⟩
theorem BF (s:ByteArray) (i0:Nat) (w:World) (hs:s.size<=1000000) (hi:i0<=s.size) : Calls Tryz.prog 276 #[.string s,.int .i64 i0] w (EW s i0 w):=by
 by_cases hq:i0<s.size/\bt s i0=34;case neg=>
  have WE:=hid (fun w=>jh s i0 w (by omega) hi);refine jd4 ?_;intro hwl hwg hhd zT hvs;have NM:=hid (fun w=>P9 (s.extract i0 (jc s i0)) w hvs);generalize jc s i0=T at *;obtain ⟨X,hX⟩:∃ X,X=s.extract i0 T:=⟨_,rfl⟩;rw [<- hX] at zT NM;have HX:=hid hX;have hmn:min (i0:Int) (s.size:Int)=(i0:Int):=by omega
  have hc:(s.size<=i0)\/(i0<s.size/\bt s i0≠34):=by omega
  clear hhd hX hvs hq;generalize dZ X=NX at *;have NM2:Hid (∀ w,Calls Tryz.prog 52 #[.string (s.extract i0 T)] w fun e w'=>e=.returned (.bool NX)/\w=w'):=by show _;rw [<- HX.out];exact NM.out
  have nX:Hid (EW s i0 w (.returned (.tuple #[.string (s.extract i0 T),.int .i64 (T:Int),.bool NX])) w):=by
   refine ⟨⟨_,_,_,rfl,?_⟩,Below.refl _ _⟩;rw [<- HX.out];cases NX with
   | true=>exact .inl ⟨rfl,T,hwl,rfl,by rw [zT.out,if_pos rfl]⟩
   | false=>exact .inr ⟨rfl,by rw [zT.out,if_neg (by decide)]⟩
  rcases hc with hc | ⟨hc,hb⟩
  ·have q1:decide ((s.size:Int)<=(i0:Int))=true:=by simp;omega
   go_enter Tryz.func276,Tryz.ntmps276;go_wp2_with fail
   refine (WE.out _).mono ?_;rintro e w1 ⟨rfl,rfl⟩;go_wp2_with fail
   refine (NM2.out _).mono ?_;rintro e w2 ⟨rfl,rfl⟩;go_wp2
   go_ret3
   exact nX.out
  ·have q1:decide ((s.size:Int)<=(i0:Int))=false:=by simp;omega
   have q2:((s[i0].toNat:Int) != 34)=true:=by rw [jk s i0 hc,bne_iff_ne];omega
   go_enter Tryz.func276,Tryz.ntmps276;go_wp2_with fail
   refine (WE.out _).mono ?_;rintro e w1 ⟨rfl,rfl⟩;go_wp2_with fail
   refine (NM2.out _).mono ?_;rintro e w2 ⟨rfl,rfl⟩;go_wp2
   go_ret3
   exact nX.out
 case pos=>
  obtain ⟨BD,hb0⟩:=hq;refine jd5 ?_;intro lQ rz zT R hR;rw [<- hR] at zT;refine H9 ?_;intro q1;have q2:((s[i0].toNat:Int) != 34)=false:=by rw [jk s i0 BD,hb0];rfl
  obtain ⟨wb,hwb⟩:∃ wb,wb=w.alloc (.cells #[.pointer none,.slice none 0 0] 104):=⟨_,rfl⟩;have R0:Hid (jd3 s R w (.int .i64 ((i0+1:Nat):Int)) wb):=by
   refine ⟨i0+1,[],by omega,rfl,hR.symm,Nat.zero_le _,?_,?_⟩
   ·rw [hwb];exact Lib.IsBuilderF.of (Lib.fresh_isBuilder 104 5 w)
   ·rw [hwb];exact (Below.refl _ _).alloc (Nat.le_refl _) _
  clear lQ rz hR hb0;go_enter Tryz.func276,Tryz.ntmps276
  (try simp only [List.append_eq,List.cons_append,List.nil_append])
  go_upto_region 6 with (fail)
  rw [<- hwb];clear hwb;go_wp2;have q0:decide (s.size<=i0)=false:=by simp;omega
  simp only [q0];clear q0
  go_loopw [8] (fun vi wr=>jd3 s R w vi wr) (fun i _=>s.size-(intOf i).toNat)
  case atStart=>exact R0.out
  case round=>
   clear R0 q1 q2;obtain ⟨i,acc,hi,rfl,hqv,hal,hB,hbel⟩:=hrel;have HB:=hid hB;have rR:=hid hbel;have Qr:=hid hqv;clear hB hbel hqv;by_cases hlt:i<s.size
   ·have hcn:=q0z s i hlt;have eb:=jk s i hlt;by_cases rz:s[i]=34
    ·have q3:((s[i].toNat:Int)==34)=true:=by rw [rz];rfl
     have V5:Hid (R=some (acc,aN s (i+1))):=by show R=_;rw [<- Qr.out,hcn,bO.eq_def];simp only;rw [if_pos rz]
     have ST:=hid (Tryz.Builder_String_any_k w.heap.size w.heap.size acc wr HB.out rR.out.size);have hbs:(bY acc).size<=1000000000:=by show acc.toArray.size<=_;simp;omega
     have CV:=hid (fun w=>Du (bY acc) w hbs);have nX:Hid (∀ w',Below w.heap.size w w'->EW s i0 w (.returned (.tuple #[.string (bY acc),.int .i64 ((i:Int)+1),.bool (dG (bY acc))])) w'):=by
      intro w' hw';refine ⟨⟨_,_,_,rfl,?_⟩,hw'⟩;rw [zT.out,V5.out];cases hl:dG (bY acc) with
      | true=>exact .inl ⟨rfl,i+1,by omega,by simp,by simp [hl]⟩
      | false=>exact .inr ⟨rfl,by simp [hl]⟩
     clear hcn rz eb;generalize dG (bY acc)=LL at *;go_wp2_with fail
     refine ST.out.mono ?_;rintro e w1 ⟨rfl,hB1,b1,-⟩;have HB1:=hid hB1;have BB1:=hid (rR.out.trans b1);have ST2:=hid (Tryz.Builder_String_any_k w.heap.size w.heap.size acc w1 hB1 BB1.out.size);clear hB1 b1 ST;go_wp2_with fail
     refine ST2.out.mono ?_;rintro e w2 ⟨rfl,-,b2,-⟩;have BB2:=hid (BB1.out.trans b2);clear b2 ST2;go_wp2_with fail
     refine (CV.out _).mono ?_;rintro e w3 ⟨rfl,q,rfl⟩;go_wp2
     go_ret3
     exact nX.out _ (iR BB2.out q)
    ·have q3:((s[i].toNat:Int)==34)=false:=by
      rw [beq_eq_false_iff_ne];intro e;exact rz (by rw [<- UInt8.toNat_inj];show _=34;omega)
     by_cases Dt:s[i]=92
     ·have q4:((s[i].toNat:Int)==92)=true:=by rw [Dt];rfl
      by_cases hlt2:i+1<s.size
      ·have Ia:=q0z s (i+1) hlt2;have hgl:=UInt8.toNat_lt s[i+1];by_cases hd:s[i+1]=34\/s[i+1]=92
       ·refine jd7 ?_;intro Qg;have q5:decide ((s.size:Int)<=(i:Int)+1)=false:=by simp;omega
        have WB:=hid (jW w.heap.size w.heap.size (Lib.byteCells acc) (s[i+1].toNat:Int) wr HB.out (by rw [Lib.byteCells_length];omega) rR.out.size);refine jd6 ?_;intro hde;have I8:=hid (zS acc s[i+1]);clear hcn Ia hd rz Dt eb;rcases hde with q6 | ⟨q6,q7⟩
        all_goals
         go_wp2_with fail
         refine WB.out.mono ?_;rintro e w1 ⟨rfl,hw1⟩;have HW1:=hid hw1;clear hw1;go_wp2;go_roundw;case rel=>exact ⟨i+1+1,acc++[s[i+1]],by omega,by go_num,Qg.out,by simp;omega,by rw [I8.out];exact HW1.out.1,rR.out.trans HW1.out.2.1⟩
         case measure=>simp [intOf];omega
       ·have HRN:Hid (R=none):=by
         show R=none;rw [<- Qr.out,hcn,Ia,bO.eq_def];simp only;rw [if_neg rz,if_pos Dt,if_neg hd]
        have q5:decide ((s.size:Int)<=(i:Int)+1)=false:=by simp;omega
        have q6:((s[i+1].toNat:Int) != 34)=true:=by rw [bne_iff_ne];intro e;exact hd (.inl (by rw [<- UInt8.toNat_inj];show _=34;omega))
        have q7:((s[i+1].toNat:Int) != 92)=true:=by rw [bne_iff_ne];intro e;exact hd (.inr (by rw [<- UInt8.toNat_inj];show _=92;omega))
        clear hcn Ia hd rz Dt eb;go_wp2
        go_ret3
        exact ⟨⟨_,_,_,rfl,.inr ⟨rfl,by rw [zT.out,HRN.out]⟩⟩,rR.out⟩
      ·have HRN:Hid (R=none):=by
        show R=none;rw [<- Qr.out,hcn,q1z s (i+1) (by omega),bO.eq_def];simp only;rw [if_neg rz,if_pos Dt]
       have q5:decide ((s.size:Int)<=(i:Int)+1)=true:=by simp;omega
       clear hcn rz Dt eb;go_wp2
       go_ret3
       exact ⟨⟨_,_,_,rfl,.inr ⟨rfl,by rw [zT.out,HRN.out]⟩⟩,rR.out⟩
     ·have q4:((s[i].toNat:Int)==92)=false:=by
       rw [beq_eq_false_iff_ne];intro e;exact Dt (by rw [<- UInt8.toNat_inj];show _=92;omega)
      have Qg:Hid (bO (aN s (i+1)) (acc++[s[i]])=R):=by
       show _=R;rw [<- Qr.out,hcn]
       conv=>rhs;rw [bO.eq_def]
       simp only;rw [if_neg rz,if_neg Dt]
      have hgl:=UInt8.toNat_lt s[i];have WB:=hid (jW w.heap.size w.heap.size (Lib.byteCells acc) (s[i].toNat:Int) wr HB.out (by rw [Lib.byteCells_length];omega) rR.out.size);have I8:=hid (zS acc s[i]);clear hcn rz Dt eb;go_wp2_with fail
      refine WB.out.mono ?_;rintro e w1 ⟨rfl,hw1⟩;have HW1:=hid hw1;clear hw1;go_wp2;go_roundw;case rel=>exact ⟨i+1,acc++[s[i]],by omega,by go_num,Qg.out,by simp;omega,by rw [I8.out];exact HW1.out.1,rR.out.trans HW1.out.2.1⟩
      case measure=>simp [intOf];omega
   ·have HRN:Hid (R=none):=by
     show R=none;rw [<- Qr.out,q1z s i (by omega),bO.eq_def]
    go_wp2
    go_ret3
    exact ⟨⟨_,_,_,rfl,.inr ⟨rfl,by rw [zT.out,HRN.out]⟩⟩,rR.out⟩
open Go.RowKit
theorem uP (l:List ByteArray) (k:Nat) (y x:ByteArray) (h:l[k]?=some y):dS (l.drop k) x=(decide (y=x)||dS (l.drop (k+1)) x):=by rw [I9 l k y h];rfl
theorem jd8{P:Prop}(h:P:=by
 clear Jj he;go_wp2
 go_round
 case rel=>exact ⟨k+1,by omega,by go_num,Ym.out⟩
 case measure=>simp [intOf];omega):P:=h
theorem O9 (l:List ByteArray) (x:ByteArray) (B:Nat) (v:Value) (w:jG9) (h:w.ownsRow B 9 1 v l.length (l.map Value.string)) (hl:l.length<=100000) : Calls Tryz.prog 297 #[v,.string x] w fun e w'=>∃ n:Int,e=.returned (.int .i64 n)/\decide (0<=n)=dS l x/\w'=w:=by
 obtain ⟨av,cv,rfl⟩:=kW h;obtain ⟨V,hV⟩:∃ V,V=dS l x:=⟨_,rfl⟩;rw [<- hV];have H:=hid h;have HV:=hid hV;clear hV h;go_enter Tryz.func297,Tryz.ntmps297;go_wp2
 go_loop [8] (fun vi=>∃ k:Nat,k<=l.length/\vi=.int .i64 k/\V=dS (l.drop k) x) (fun i=>l.length-(intOf i).toNat)
 case atStart=>exact ⟨0,Nat.zero_le _,rfl,HV.out⟩
 case round=>
  obtain ⟨k,hk,rfl,hv⟩:=hrel;by_cases hlt:k<l.length
  ·obtain ⟨y,hy⟩:∃ y,l[k]?=some y:=⟨_,List.getElem?_eq_getElem hlt⟩;obtain ⟨g,cap,Qq,hcap⟩:=jE H.out (by omega);obtain ⟨rfl,rfl⟩:av=some ⟨g,0,none⟩/\cv=cap:=by simpa using Qq
   have c0:w.cell? ⟨g,k,none⟩=some (.string y):=by rw [H.out.cellAt k (by omega),List.getElem?_map,hy];rfl
   rw [uP l k y x hy] at hv;have Jj:=hid hv;clear hv hy Qq HV;by_cases he:y=x
   ·subst he;have q1:(y.toList==y.toList)=true:=beq_self_eq_true _;go_wp2;go_ret;exact ⟨_,rfl,by rw [Jj.out];simp,rfl⟩
   ·have q1:(x.toList==y.toList)=false:=Ee (fun e=>he e.symm);have Ym:Hid (V=dS (l.drop (k+1)) x):=by show V=_;rw [Jj.out];simp [he]
    exact jd8
  ·have Jj:Hid (V=false):=by show V=false;rw [hv,List.drop_eq_nil_of_le (by omega)];rfl
   clear hv HV;go_wp2;go_ret;exact ⟨_,rfl,by rw [Jj.out];rfl,rfl⟩
theorem EX (l:List ByteArray) (x:ByteArray) (B:Nat) (v:Value) (w:jG9) (h:w.ownsRow B 9 1 v l.length (l.map Value.string)) (hl:l.length<=100000) : Calls Tryz.prog 296 #[v,.string x] w fun e w'=>e=.returned (.bool (dS l x))/\w'=w:=by
 obtain ⟨av,cv,rfl⟩:=kW h;have IX:=hid (O9 l x B _ w h hl);obtain ⟨V,hV⟩:∃ V,V=dS l x:=⟨_,rfl⟩;rw [<- hV] at IX ⊢;clear hV h;go_enter Tryz.func296,Tryz.ntmps296;go_wp2_with fail
 refine IX.out.mono ?_;rintro e w1 ⟨n,rfl,hn,rfl⟩;have HN:=hid hn;clear hn;go_wp2;go_ret;exact ⟨by rw [<- HN.out];rfl,rfl⟩
theorem Yn (l:List ByteArray) (x id:ByteArray) (B:Nat) (v vp:Value) (w:jG9) (h:w.ownsRow B 9 1 v l.length (l.map Value.string)) (hl:l.length<=100000) : Calls Tryz.prog 293 #[.agg #[.string id,v,vp],.string x] w (eX (.bool (dS l x)) w):=by
 obtain ⟨av,cv,rfl⟩:=kW h;have CT:=hid (EX l x B _ (w.alloc (.cells #[.string id,.slice av l.length cv,vp] 45)) (h.alloc _) hl);obtain ⟨V,hV⟩:∃ V,V=dS l x:=⟨_,rfl⟩;rw [<- hV] at CT ⊢;clear hV h;go_enter Tryz.func293,Tryz.ntmps293;go_wp2_with fail
 refine CT.out.mono ?_;rintro e w1 ⟨rfl,rfl⟩;go_wp2;go_ret;exact ⟨rfl,(jD7 _ _).alloc (jD8 _) _⟩
def pcs (p:Pr):List Value:=[.string p.key,.string p.val]
def Ib (l:List Pr):List Value:=(l.map pcs).flatten
theorem oD (l:List Pr) (k:Nat) (p:Pr) (h:l[k]?=some p):(Ib l)[k*2]?=some (.string p.key)/\(Ib l)[k*2+1]?=some (.string p.val):=by
 have h2:∀ r∈l.map pcs,r.length=2:=by intro r hr;obtain ⟨q,_,rfl⟩:=List.mem_map.1 hr;rfl
 have hr:(l.map pcs)[k]?=some (pcs p):=by rw [List.getElem?_map,h];rfl
 exact ⟨Yo 2 _ h2 k 0 _ _ hr rfl,Yo 2 _ h2 k 1 _ _ hr rfl⟩
def jo1 (V:Bool) (w:jG9) (e:Ending) (w':jG9):Prop:=∃ u:ByteArray,e=.returned (.tuple #[.string u,.bool V])/\Below w.heap.size w w'
theorem Yp (l:List Pr) (x id:ByteArray) (B:Nat) (v vc:Value) (w:jG9) (h:w.ownsRow B 61 2 v l.length (Ib l)) (hl:l.length<=100000) : Calls Tryz.prog 294 #[.agg #[.string id,vc,v],.string x] w (jo1 (dS (l.map Pr.key) x) w):=by
 obtain ⟨av,cv,rfl⟩:=kW h;obtain ⟨V,hV⟩:∃ V,V=dS (l.map Pr.key) x:=⟨_,rfl⟩;rw [<- hV];have H:=hid h;have HV:=hid hV;clear hV h;obtain ⟨w1,hw1⟩:∃ w1,w1=w.alloc (.cells #[.string id,vc,.slice av l.length cv] 45):=⟨_,rfl⟩;have B1:Hid (Below w.heap.size w w1):=by show Below _ _ _;rw [hw1];exact (jD7 _ _).alloc (jD8 _) _
 go_enter Tryz.func294,Tryz.ntmps294;go_wp2;rw [<- hw1];clear hw1
 go_loopw [11] (fun vi wr=>∃ k:Nat,k<=l.length/\vi=.int .i64 k/\V=dS ((l.map Pr.key).drop k) x/\Below w.heap.size w wr) (fun i _=>l.length-(intOf i).toNat)
 case atStart=>exact ⟨0,Nat.zero_le _,rfl,HV.out,B1.out⟩
 case round=>
  obtain ⟨k,hk,rfl,hv,hbel⟩:=hrel;by_cases hlt:k<l.length
  ·obtain ⟨p,hp⟩:∃ p,l[k]?=some p:=⟨_,List.getElem?_eq_getElem hlt⟩;obtain ⟨g,cap,Qq,hcap⟩:=jE H.out (by omega);obtain ⟨rfl,rfl⟩:av=some ⟨g,0,none⟩/\cv=cap:=by simpa using Qq
   have hH:=q24 H.out hbel;have c0:wr.cell? ⟨g,k*2,none⟩=some (.string p.key):=by rw [hH.cellAt (k*2) (by omega)];exact (oD l k p hp).1
   have c1:wr.cell? ⟨g,k*2+1,none⟩=some (.string p.val):=by rw [hH.cellAt (k*2+1) (by omega)];exact (oD l k p hp).2
   rw [uP (l.map Pr.key) k p.key x (by rw [List.getElem?_map,hp];rfl)] at hv;have Jj:=hid hv;have HB:=hid hbel;clear hv hp Qq HV hbel hH;by_cases he:p.key=x
   ·subst he;have q1:(p.key.toList==p.key.toList)=true:=beq_self_eq_true _;go_wp2
    go_ret2
    exact ⟨p.val,by rw [Jj.out];simp,q01 HB.out ((jD7 _ _).alloc (jD8 _) _)⟩
   ·have q1:(p.key.toList==x.toList)=false:=Ee he;have Ym:Hid (V=dS ((l.map Pr.key).drop (k+1)) x):=by show V=_;rw [Jj.out];simp [he]
    clear Jj he;go_wp2;go_roundw;case rel=>exact ⟨k+1,by omega,by go_num,Ym.out,q01 HB.out ((jD7 _ _).alloc (jD8 _) _)⟩
    case measure=>simp [intOf];omega
  ·have Jj:Hid (V=false):=by show V=false;rw [hv,List.drop_eq_nil_of_le (by simp;omega)];rfl
   have HB:=hid hbel;clear hv HV hbel;go_wp2
   go_ret2
   exact ⟨⟨#[]⟩,by rw [Jj.out];rfl,HB.out⟩
open Go.RowKit
structure Kx (B b:Nat) (w w':jG9):Prop where
 os:w'.os=w.os
 tape:w'.tape=w.tape
 output:w'.output=w.output
 size:w.heap.size<=w'.heap.size
 block:∀ k,k<B->k≠b->w'.heap[k]?=w.heap[k]?
section
variable {B b:Nat} {w w' w1 w2:jG9}
theorem Kx.refl (B b:Nat) (w:jG9):Kx B b w w:=⟨rfl,rfl,rfl,jD8 _,fun _ _ _=>rfl⟩
theorem Kx.trans (h:Kx B b w w1) (k:Kx B b w1 w2):Kx B b w w2:=
 ⟨k.os.trans h.os,k.tape.trans h.tape,k.output.trans h.output,Nat.le_trans h.size k.size,fun i h1 h2=>(k.block i h1 h2).trans (h.block i h1 h2)⟩
theorem Kx.of (h:Below w.heap.size w w1) (hB:B<=w.heap.size):Kx B b w w1:=⟨h.os,h.tape,h.output,h.size,fun i h1 _=>h.block i (by omega)⟩
theorem Kx.grown {row:Option Nat} (h:w.grownBy w1 row) (hB:B<=w.heap.size) (hr:∀ g,row=some g->B<=g):Kx B b w w1:=
 ⟨h.os,h.tape,h.output,h.size,fun i h1 _=>h.block i (by omega) (fun e=>by have:=hr i e.symm;omega)⟩
theorem Kx.set (w:jG9) (j:Nat) (u:Value):Kx B b w (w.setCell ⟨b,j,none⟩ u):=
 ⟨rfl,rfl,rfl,by simp [World.setCell],fun i _ h2=>Below.heap_setCell w ⟨b,j,none⟩ u i h2⟩
end
structure rC (B b:Nat) (a:At) (vc vp:Value) (w:jG9):Prop where
 ab:AB b [.string a.id,vc,vp] w
 cls:w.ownsRow B 9 1 vc a.cls.length (a.cls.map Value.string)
 aD:w.ownsRow B 61 2 vp a.aD.length (Ib a.aD)
 lt:b<B
 le:B<=w.heap.size
section
variable {B b:Nat} {a:At} {vc vp v1:Value} {w w1 w2:jG9}
theorem rC.below (h:rC B b a vc vp w) (hb:Below w.heap.size w w1):rC B b a vc vp w1:=
 ⟨(hb.block b h.ab.lt).trans h.ab,q24 h.cls hb,q24 h.aD hb,h.lt,Nat.le_trans h.le hb.size⟩
theorem jd9{P:Prop}(h:P:=by
 right;intro e;obtain ⟨c1,f1,e1⟩:=Lib.ownsRow_kind h.cls g hc;obtain ⟨c2,f2,e2⟩:=Lib.ownsRow_kind h.aD g e.symm;rw [e1] at e2;simp at e2):P:=h
theorem rC.apart (h:rC B b a vc vp w):vc.ownBlock=none\/vc.ownBlock≠vp.ownBlock:=by
 cases hc:vc.ownBlock with
 | none=>exact .inl rfl
 | some g=>
  exact jd9
theorem jdj{P:Prop}(h:P:=by
 rcases h.apart with h1 | h1
 ·cases hc:vp.ownBlock with
  | none=>exact .inl rfl
  | some g=>right;rw [h1];simp
 ·exact .inr fun e=>h1 e.symm):P:=h
theorem rC.apart' (h:rC B b a vc vp w):vp.ownBlock=none\/vp.ownBlock≠vc.ownBlock:=by exact jdj
theorem rC.at3 (h:rC B b a vc vp w):w.cell? ⟨b,0,none⟩=some (.string a.id)/\w.cell? ⟨b,1,none⟩=some vc/\w.cell? ⟨b,2,none⟩=some vp:=
 ⟨h.ab.cell 0 _ rfl,h.ab.cell 1 _ rfl,h.ab.cell 2 _ rfl⟩
theorem Nw{P Q:Prop}(q:Q)(h:Nonempty Q->P:=by
 intro qQ;have hal:Below w.heap.size w (w.alloc o):=(Below.refl _ _).alloc (Nat.le_refl _) _;have h0:=h.below hal;revert hal h0;exact qQ.elim fun x=>x):P:=h ⟨q⟩
theorem rC.Um {x:ByteArray} {o:Obj} (h:rC B b a vc vp w) (hg:(w.alloc o).grownBy w1 vc.ownBlock) (hown:w1.ownsRow B 9 1 v1 (a.cls.length+1) (a.cls.map Value.string++[.string x])) : w1.frozen? ⟨b,1,none⟩=false/\w1.cell? ⟨b,1,none⟩=some vc/\rC B b ⟨a.id,a.cls++[x],a.aD⟩ v1 vp (w1.setCell ⟨b,1,none⟩ v1)/\Kx B b w (w1.setCell ⟨b,1,none⟩ v1):=by
 refine Nw ?_;intro hal h0;have hr:∀ g,vc.ownBlock=some g->B<=g:=fun g hgv=>(h.cls.lt g hgv).1
 have KR:AB b [.string a.id,vc,vp] w1:=(hg.block b h0.ab.lt (fun e=>by have:=hr b e.symm;have:=h.lt;omega)).trans h0.ab;refine ⟨KR.free 1,KR.cell 1 _ rfl,⟨KR.set 1 v1,?_,?_,h.lt,?_⟩,?_⟩
 ·exact ownsRow_setCell_below (by simpa using hown) h.lt v1
 ·exact ownsRow_setCell_below (h0.aD.kept hg h.apart') h.lt v1
 ·exact Nat.le_trans h0.le (by simpa [World.setCell] using hg.size)
 ·exact ((Kx.of hal h.le).trans (Kx.grown hg h0.le hr)).trans (Kx.set w1 1 v1)
theorem rC.pushP {x:Pr} {o:Obj} (h:rC B b a vc vp w) (hg:(w.alloc o).grownBy w1 vp.ownBlock) (hown:w1.ownsRow B 61 2 v1 (a.aD.length+1) (Ib a.aD++pcs x)) : w1.frozen? ⟨b,2,none⟩=false/\w1.cell? ⟨b,2,none⟩=some vp/\rC B b ⟨a.id,a.cls,a.aD++[x]⟩ vc v1 (w1.setCell ⟨b,2,none⟩ v1)/\Kx B b w (w1.setCell ⟨b,2,none⟩ v1):=by
 refine Nw ?_;intro hal h0;have hr:∀ g,vp.ownBlock=some g->B<=g:=fun g hgv=>(h.aD.lt g hgv).1
 have KR:AB b [.string a.id,vc,vp] w1:=(hg.block b h0.ab.lt (fun e=>by have:=hr b e.symm;have:=h.lt;omega)).trans h0.ab;refine ⟨KR.free 2,KR.cell 2 _ rfl,⟨KR.set 2 v1,?_,?_,h.lt,?_⟩,?_⟩
 ·exact ownsRow_setCell_below (h0.cls.kept hg h.apart) h.lt v1
 ·refine ownsRow_setCell_below ?_ h.lt v1;have e:Ib (a.aD++[x])=Ib a.aD++pcs x:=by simp [Ib]
  rw [e];simpa using hown
 ·exact Nat.le_trans h0.le (by simpa [World.setCell] using hg.size)
 ·exact ((Kx.of hal h.le).trans (Kx.grown hg h0.le hr)).trans (Kx.set w1 2 v1)
theorem rC.ju1 (h:rC B b a vc vp w) (x:ByteArray):w.frozen? ⟨b,0,none⟩=false/\rC B b ⟨x,a.cls,a.aD⟩ vc vp (w.setCell ⟨b,0,none⟩ (.string x))/\Kx B b w (w.setCell ⟨b,0,none⟩ (.string x)):=
 ⟨h.ab.free 0,⟨h.ab.set 0 _,ownsRow_setCell_below h.cls h.lt _,ownsRow_setCell_below h.aD h.lt _,h.lt,by simpa [World.setCell] using h.le⟩,Kx.set w 0 _⟩
end
def Un (B b:Nat) (a a':At) (bad:Prop) (w:World) (e:Ending) (w':World):Prop:=
 ∃ n:Int,e=.returned (.int .i64 n)/\Kx B b w w'/\((n=0/\¬ bad/\∃ vc vp,rC B b a' vc vp w')\/(n≠0/\bad))
theorem jdk{P:Prop}(h:P:=by
 have HR:=hid HR;have HK:=hid HK;clear hown hg p0 p1 p2;go_wp2;go_ret;exact ⟨_,rfl,(Kx.of HB.out HA.out.le).trans HK.out,.inl ⟨rfl,by rintro (h | h);(rw [<- HV.out] at h;cases h);omega,_,_,HR.out⟩⟩):P:=h
theorem jdq{P:Prop}(h:P:=by
 have HA1:=hid (HA.out.below hb1);have HB:=hid hb1;clear hb1 p0 p1 p2;obtain ⟨p0,p1,p2⟩:=HA1.out.at3;go_wp2;go_ret;exact ⟨_,rfl,Kx.of HB.out HA.out.le,.inr ⟨by decide,.inr h32⟩⟩):P:=h
theorem jdx{P:Prop}(h:P:=by
 have HB:=hid hb1;clear hb1 p0 p1 p2;go_wp2;go_ret;exact ⟨_,rfl,Kx.of HB.out HA.out.le,.inr ⟨by decide,.inl HV.out.symm⟩⟩):P:=h
theorem EY (B b:Nat) (a:At) (x:ByteArray) (vc vp:Value) (w:jG9) (h:rC B b a vc vp w) (hc:a.cls.length<=100000) : Calls Tryz.prog 275 #[.pointer (some ⟨b,0,none⟩),.string x] w (Un B b a ⟨a.id,a.cls++[x],a.aD⟩ (dS a.cls x=true\/32<=a.cls.length) w):=by
 obtain ⟨i0,hi0,hz0,hz1,hz2⟩:=info_parts Gb;obtain ⟨av,cv,rfl⟩:=kW h.cls;obtain ⟨p0,p1,p2⟩:=h.at3;have HA:=hid h;have HH:=hid (Yn a.cls x a.id B _ vp w h.cls hc);obtain ⟨V,hV⟩:∃ V,V=dS a.cls x:=⟨_,rfl⟩;rw [<- hV] at HH;have HV:=hid hV;clear hV h;cases V with
 | true=>
  go_enter Tryz.func275,Tryz.ntmps275;go_wp2_with fail
  refine HH.out.mono ?_;rintro e w1 ⟨rfl,hb1⟩;exact jdx
 | false=>
  by_cases h32:32<=a.cls.length
  ·have q1:decide ((32:Int)<=(a.cls.length:Int))=true:=by simp;omega
   go_enter Tryz.func275,Tryz.ntmps275;go_wp2_with fail
   refine HH.out.mono ?_;rintro e w1 ⟨rfl,hb1⟩;exact jdq
  ·have q1:decide ((32:Int)<=(a.cls.length:Int))=false:=by simp;omega
   go_enter Tryz.func275,Tryz.ntmps275;go_wp2_with fail
   refine HH.out.mono ?_;rintro e w1 ⟨rfl,hb1⟩;have HA1:=hid (HA.out.below hb1);have HB:=hid hb1;clear hb1 p0 p1 p2;obtain ⟨p0,p1,p2⟩:=HA1.out.at3;go_wp2_with (at_builtin;refine Ma _ rfl (.tmp 20) (.tmp 22) 43 rfl B 9 i0 _ 1 16 Tryz.underlying43 hi0 hz0 hz1 hz2 rfl (by decide) (.slice av a.cls.length cv) a.cls.length (a.cls.map Value.string) rfl (HA1.out.cls.alloc _) (w1.heap.size+1) (some ⟨w1.heap.size,0,none⟩) 1 1 [.string x] rfl ?g1 ?g2 ?g3 ?g4 ?g5 ?_)
   case g1=>exact ⟨rfl,fun _=>⟨_,rfl,by simp,Gh w1 [.string x] _⟩⟩
   case g2=>intro u hu;simp at hu;subst hu;rfl
   case g3=>unfold maxLen;omega
   case g4=>omega
   case g5=>have:=HA1.out.le;simp;omega
   intro v1 w2 hown hg _;obtain ⟨a1,c1,rfl⟩:=kW hown;obtain ⟨fz,fc,HR,HK⟩:=HA1.out.Um hg hown;exact jdk
theorem Ic (B b:Nat) (a:At) (x y:ByteArray) (vc vp:Value) (w:jG9) (h:rC B b a vc vp w) (hc:a.aD.length<=100000) : Calls Tryz.prog 277 #[.pointer (some ⟨b,0,none⟩),.string x,.string y] w (Un B b a ⟨a.id,a.cls,a.aD++[⟨x,y⟩]⟩ (dS (keysOf a) x=true\/32<=a.aD.length) w):=by
 obtain ⟨i0,hi0,hz0,hz1,hz2⟩:=info_parts kN;obtain ⟨av,cv,rfl⟩:=kW h.aD;obtain ⟨p0,p1,p2⟩:=h.at3;have HA:=hid h;have HH:=hid (Yp a.aD x a.id B _ vc w h.aD hc);obtain ⟨V,hV⟩:∃ V,V=dS (keysOf a) x:=⟨_,rfl⟩;have hV2:dS (a.aD.map Pr.key) x=V:=hV.symm;rw [hV2] at HH;have HV:=hid hV;clear hV hV2 h;cases V with
 | true=>
  go_enter Tryz.func277,Tryz.ntmps277;go_wp2_with fail
  refine HH.out.mono ?_;rintro e w1 ⟨u,rfl,hb1⟩;exact jdx
 | false=>
  by_cases h32:32<=a.aD.length
  ·have q1:decide ((32:Int)<=(a.aD.length:Int))=true:=by simp;omega
   go_enter Tryz.func277,Tryz.ntmps277;go_wp2_with fail
   refine HH.out.mono ?_;rintro e w1 ⟨u,rfl,hb1⟩;exact jdq
  ·have q1:decide ((32:Int)<=(a.aD.length:Int))=false:=by simp;omega
   go_enter Tryz.func277,Tryz.ntmps277;go_wp2_with fail
   refine HH.out.mono ?_;rintro e w1 ⟨u,rfl,hb1⟩;have HA1:=hid (HA.out.below hb1);have HB:=hid hb1;clear hb1 p0 p1 p2;obtain ⟨p0,p1,p2⟩:=HA1.out.at3;go_wp2_with (at_builtin;refine Ma _ rfl (.tmp 28) (.tmp 32) 24 rfl B 61 i0 _ 2 32 Tryz.underlying24 hi0 hz0 hz1 hz2 rfl (by decide) (.slice av a.aD.length cv) a.aD.length (Ib a.aD) rfl (HA1.out.aD.alloc _) (w1.heap.size+1) (some ⟨w1.heap.size,0,none⟩) 1 1 [.string x,.string y] rfl ?g1 ?g2 ?g3 ?g4 ?g5 ?_)
   case g1=>exact ⟨rfl,fun _=>⟨_,rfl,by simp,Gh w1 [.string x,.string y] _⟩⟩
   case g2=>intro u hu;simp at hu;rcases hu with rfl | rfl<;>rfl
   case g3=>unfold maxLen;omega
   case g4=>omega
   case g5=>have:=HA1.out.le;simp;omega
   intro v1 w2 hown hg _;obtain ⟨a1,c1,rfl⟩:=kW hown;obtain ⟨fz,fc,HR,HK⟩:=HA1.out.pushP (x:=⟨x,y⟩) hg hown;exact jdk
open Go.RowKit
def jo2 (B b:Nat) (a:At) (s:ByteArray) (i:Nat) (w:jG9) (e:Ending) (w':jG9):Prop:=
 ∃ (t n:Int),e=.returned (.tuple #[.int .i64 t,.int .i64 n])/\Kx B b w w' /\
  ((n=0/\∃ (a':At) (q:Nat),q<=s.size/\t=q/\kE a (aN s i)=some (a',aN s q)/\a'.cls.length<=32/\a'.aD.length<=32/\∃ vc vp,rC B b a' vc vp w')\/(n≠0/\kE a (aN s i)=none))
theorem jm (a:At) (s:ByteArray) (i j:Nat) (h:tu (aN s i)=aN s j) (hj:j<=s.size) : kE a (aN s i)=if dZ (s.extract j (jc s j))=false then none else if (aN s i).head?=some 35 then (if aW a.id=false then none else some (⟨s.extract j (jc s j),a.cls,a.aD⟩,aN s (jc s j))) else if (aN s i).head?=some 46 then (if dS a.cls (s.extract j (jc s j))=true then none else if 32<=a.cls.length then none else some (⟨a.id,a.cls++[s.extract j (jc s j)],a.aD⟩,aN s (jc s j))) else if (aN s (jc s j)).head?=some 61 then (match zR (aN s (jc s j)).tail with
    | none=>none
    | some (v,r)=>if dS (keysOf a) (s.extract j (jc s j))=true then none else if 32<=a.aD.length then none
     else some (⟨a.id,a.cls,a.aD++[⟨s.extract j (jc s j),v⟩]⟩,r))
   else none:=by
 unfold kE;rw [h,Dq s j hj,H7]<;>rfl
theorem jdz{P:Prop}(h:P:=by
 refine .inr ⟨h1,?_⟩;rw [HIT.out,if_neg (by decide)];by_cases h4:dS a.cls (s.extract (i+1) T)=true
 ·rw [if_pos h4]
 ·rw [if_neg h4,if_pos (h2.resolve_left h4)]):P:=h
theorem je0{P:Prop}(h:P:=by
 unfold tu;rw [hcn,List.head?_cons,if_neg];rintro (h | h)
 ·exact Dv (Option.some.inj h)
 ·exact h46 (Option.some.inj h)):P:=h
theorem EZ (B b:Nat) (a:At) (s:ByteArray) (i:Nat) (vc vp:Value) (w:jG9) (h:rC B b a vc vp w) (hc:a.cls.length<=32) (hp:a.aD.length<=32) (hs:s.size<=100000) (hi:i<s.size) : Calls Tryz.prog 257 #[.pointer (some ⟨b,0,none⟩),.string s,.int .i64 i] w (jo2 B b a s i w):=by
 obtain ⟨p0,p1,p2⟩:=h.at3;have HA:=hid h;have hcn:=q0z s i hi;clear h;by_cases Dv:s[i]=35
 ·have q1:((s[i].toNat:Int)==35)=true:=by rw [Dv];rfl
  have hsg:tu (aN s i)=aN s (i+1):=by rw [hcn,Dv];rfl
  have HIT:=jm a s i (i+1) hsg (by omega);rw [hcn,Dv,List.head?_cons,if_pos rfl] at HIT;rw [<- Dv,<- hcn] at HIT;have HIT:=hid HIT;have WE:Hid (∀ w,Calls Tryz.prog 97 #[.string s,.int .i64 ((i:Int)+1)] w fun e w'=>e=.returned (.int .i64 (jc s (i+1):Nat))/\w=w'):=fun w=>jh s (i+1) w (by omega) (by omega)
  have hwl:=jK s (i+1) (by omega);have hwg:i+1<=jc s (i+1):=Nat.le_add_right _ _;generalize jc s (i+1)=T at *;have hvs:(s.extract (i+1) T).size<=1000000000:=by rw [ByteArray.size_extract];omega
  have NM:=hid (fun w=>P9 (s.extract (i+1) T) w hvs);generalize dZ (s.extract (i+1) T)=NX at *;clear hcn hsg hvs Dv;cases NX with
  | false=>
   go_enter Tryz.func257,Tryz.ntmps257;go_wp2_with fail
   refine (WE.out _).mono ?_;rintro e w1 ⟨rfl,rfl⟩;go_wp2_with fail
   refine (NM.out _).mono ?_;rintro e w2 ⟨rfl,rfl⟩;go_wp2
   go_ret2
   exact ⟨_,_,rfl,Kx.refl _ _ _,.inr ⟨by decide,HIT.out⟩⟩
  | true=>
   have gJ:Hid (kE a (aN s i)=if aW a.id=false then none else some (⟨s.extract (i+1) T,a.cls,a.aD⟩,aN s T)):=HIT.out;cases hem:aW a.id with
   | false=>
    have hie:a.id.toList.isEmpty=false:=by rw [oN];exact hem
    have mh:Hid (kE a (aN s i)=none):=by show _=_;rw [gJ.out,if_pos hem]
    clear HIT gJ hem;go_enter Tryz.func257,Tryz.ntmps257;go_wp2_with fail
    refine (WE.out _).mono ?_;rintro e w1 ⟨rfl,rfl⟩;go_wp2_with fail
    refine (NM.out _).mono ?_;rintro e w2 ⟨rfl,rfl⟩;go_wp2
    go_ret2
    exact ⟨_,_,rfl,Kx.refl _ _ _,.inr ⟨by decide,mh.out⟩⟩
   | true=>
    have hie:a.id.toList.isEmpty=true:=by rw [oN];exact hem
    have mh:Hid (kE a (aN s i)=some (⟨s.extract (i+1) T,a.cls,a.aD⟩,aN s T)):=by show _=_;rw [gJ.out,hem];rfl
    obtain ⟨fz,HR,HK⟩:=HA.out.ju1 (s.extract (i+1) T);have HR:=hid HR;have HK:=hid HK;clear HIT gJ hem;go_enter Tryz.func257,Tryz.ntmps257;go_wp2_with fail
    refine (WE.out _).mono ?_;rintro e w1 ⟨rfl,rfl⟩;go_wp2_with fail
    refine (NM.out _).mono ?_;rintro e w2 ⟨rfl,rfl⟩;go_wp2
    go_ret2
    exact ⟨_,_,rfl,HK.out,.inl ⟨rfl,_,T,hwl,rfl,mh.out,hc,hp,_,_,HR.out⟩⟩
 ·have q1:((s[i].toNat:Int)==35)=false:=by
   rw [beq_eq_false_iff_ne];intro e;exact Dv (by rw [<- UInt8.toNat_inj];show _=35;omega)
  by_cases h46:s[i]=46
  ·have q2:((s[i].toNat:Int)==46)=true:=by rw [h46];rfl
   have hsg:tu (aN s i)=aN s (i+1):=by rw [hcn,h46];rfl
   have HIT:=jm a s i (i+1) hsg (by omega);rw [hcn,h46,List.head?_cons,if_neg (show ¬ (some (46:UInt8)=some 35) by decide),if_pos rfl] at HIT;rw [<- h46,<- hcn] at HIT;have HIT:=hid HIT;have WE:Hid (∀ w,Calls Tryz.prog 97 #[.string s,.int .i64 ((i:Int)+1)] w fun e w'=>e=.returned (.int .i64 (jc s (i+1):Nat))/\w=w'):=fun w=>jh s (i+1) w (by omega) (by omega)
   have hwl:=jK s (i+1) (by omega);have hwg:i+1<=jc s (i+1):=Nat.le_add_right _ _;generalize jc s (i+1)=T at *;have hvs:(s.extract (i+1) T).size<=1000000000:=by rw [ByteArray.size_extract];omega
   have NM:=hid (fun w=>P9 (s.extract (i+1) T) w hvs);have AC:=hid (EY B b a (s.extract (i+1) T) vc vp w HA.out (by omega));generalize dZ (s.extract (i+1) T)=NX at *;clear hcn hsg hvs Dv h46 p0 p1 p2;cases NX with
   | false=>
    go_enter Tryz.func257,Tryz.ntmps257;go_wp2_with fail
    refine (WE.out _).mono ?_;rintro e w1 ⟨rfl,rfl⟩;go_wp2_with fail
    refine (NM.out _).mono ?_;rintro e w2 ⟨rfl,rfl⟩;go_wp2
    go_ret2
    exact ⟨_,_,rfl,Kx.refl _ _ _,.inr ⟨by decide,HIT.out⟩⟩
   | true=>
    go_enter Tryz.func257,Tryz.ntmps257;go_wp2_with fail
    refine (WE.out _).mono ?_;rintro e w1 ⟨rfl,rfl⟩;go_wp2_with fail
    refine (NM.out _).mono ?_;rintro e w2 ⟨rfl,rfl⟩;go_wp2_with fail
    refine AC.out.mono ?_;rintro e w3 ⟨n,rfl,hk,hres⟩;have HK:=hid hk;have iO:=hid hres;clear hk hres;go_wp2
    go_ret2
    refine ⟨_,_,rfl,HK.out,?_⟩;rcases iO.out with ⟨h1,h2,Qe,Qf,h3⟩ | ⟨h1,h2⟩
    ·refine .inl ⟨h1,⟨a.id,a.cls++[s.extract (i+1) T],a.aD⟩,T,hwl,rfl,?_,?_,hp,_,_,h3⟩
     ·rw [HIT.out,if_neg (by decide),if_neg (fun e=>h2 (.inl e)),if_neg (fun e=>h2 (.inr e))]
     ·simp only [List.length_append,List.length_singleton];have:¬ 32<=a.cls.length:=fun e=>h2 (.inr e)
      omega
    ·exact jdz
  ·have q2:((s[i].toNat:Int)==46)=false:=by
    rw [beq_eq_false_iff_ne];intro e;exact h46 (by rw [<- UInt8.toNat_inj];show _=46;omega)
   have hsg:tu (aN s i)=aN s i:=by exact je0
   have HIT:=jm a s i i hsg (by omega);rw [show (aN s i).head?=some s[i] from lN s i hi,if_neg (fun e=>Dv (jE0 e)),if_neg (fun e=>h46 (jE0 e))] at HIT;have HIT:=hid HIT;have WE:Hid (∀ w,Calls Tryz.prog 97 #[.string s,.int .i64 (i:Int)] w fun e w'=>e=.returned (.int .i64 (jc s i:Nat))/\w=w'):=fun w=>jh s i w (by omega) (by omega)
   have hwl:=jK s i (by omega);have hwg:i<=jc s i:=Nat.le_add_right _ _;generalize jc s i=T at *;have hvs:(s.extract i T).size<=1000000000:=by rw [ByteArray.size_extract];omega
   have NM:=hid (fun w=>P9 (s.extract i T) w hvs);generalize dZ (s.extract i T)=NX at *;clear hcn hsg hvs Dv h46 p0 p1 p2;cases NX with
   | false=>
    go_enter Tryz.func257,Tryz.ntmps257;go_wp2_with fail
    refine (WE.out _).mono ?_;rintro e w1 ⟨rfl,rfl⟩;go_wp2_with fail
    refine (NM.out _).mono ?_;rintro e w2 ⟨rfl,rfl⟩;go_wp2
    go_ret2
    exact ⟨_,_,rfl,Kx.refl _ _ _,.inr ⟨by decide,HIT.out⟩⟩
   | true=>
    by_cases hT:T<s.size
    ·have hcT:=q0z s T hT;have q3:decide ((s.size:Int)<=(T:Int))=false:=by simp;omega
     by_cases Pb:s[T]=61
     ·have q4:((s[T].toNat:Int) != 61)=false:=by rw [Pb];rfl
      have gJ:Hid (kE a (aN s i)=match zR (aN s (T+1)) with
       | none=>none
       | some (v,r)=>if dS (keysOf a) (s.extract i T)=true then none else if 32<=a.aD.length then none
        else some (⟨a.id,a.cls,a.aD++[⟨s.extract i T,v⟩]⟩,r)):=by
       show _=_;rw [HIT.out,if_neg (by decide),hcT,Pb];rfl
      have RV:Hid (∀ w,Calls Tryz.prog 276 #[.string s,.int .i64 ((T:Int)+1)] w (EW s (T+1) w)):=fun w=>BF s (T+1) w (by omega) (by omega)
      clear HIT hcT Pb;go_enter Tryz.func257,Tryz.ntmps257;go_wp2_with fail
      refine (WE.out _).mono ?_;rintro e w1 ⟨rfl,rfl⟩;go_wp2_with fail
      refine (NM.out _).mono ?_;rintro e w2 ⟨rfl,rfl⟩;go_wp2_with fail
      refine (RV.out _).mono ?_;rintro e w3 ⟨⟨v,n,bb,rfl,hres⟩,hbel⟩;have HA3:=hid (HA.out.below hbel);have HK3:=hid (Kx.of (b:=b) hbel HA.out.le);have iO:=hid hres;clear hres hbel;cases bb with
      | false=>
       have mh:Hid (kE a (aN s i)=none):=by
        show _=_;rcases iO.out with ⟨h1,_⟩ | ⟨_,h1⟩
        ·cases h1
        ·rw [gJ.out,h1]
       clear gJ;go_wp2
       go_ret2
       exact ⟨_,_,rfl,HK3.out,.inr ⟨by decide,mh.out⟩⟩
      | true=>
       obtain ⟨q,hq,rfl,HVq⟩:∃ q:Nat,q<=s.size/\n=q/\Hid (zR (aN s (T+1))=some (v,aN s q)):=by
        rcases iO.out with ⟨_,h⟩ | ⟨h1,_⟩
        ·exact h
        ·cases h1
       have AP:=hid (Ic B b a (s.extract i T) v vc vp w3 HA3.out (by omega));have mh:Hid (kE a (aN s i)=if dS (keysOf a) (s.extract i T)=true then none else if 32<=a.aD.length then none
        else some (⟨a.id,a.cls,a.aD++[⟨s.extract i T,v⟩]⟩,aN s q)):=by show _=_;rw [gJ.out,HVq.out]
       clear gJ HVq iO;go_wp2_with fail
       refine AP.out.mono ?_;rintro e w4 ⟨n,rfl,hk,hres⟩;have HK:=hid hk;have iO:=hid hres;clear hk hres;go_wp2
       go_ret2
       refine ⟨_,_,rfl,HK3.out.trans HK.out,?_⟩;rcases iO.out with ⟨h1,h2,Qe,Qf,h3⟩ | ⟨h1,h2⟩
       ·refine .inl ⟨h1,⟨a.id,a.cls,a.aD++[⟨s.extract i T,v⟩]⟩,q,hq,rfl,?_,hc,?_,_,_,h3⟩
        ·rw [mh.out,if_neg (fun e=>h2 (.inl e)),if_neg (fun e=>h2 (.inr e))]
        ·simp only [List.length_append,List.length_singleton];have:¬ 32<=a.aD.length:=fun e=>h2 (.inr e)
         omega
       ·refine .inr ⟨h1,?_⟩;rw [mh.out];by_cases h4:dS (keysOf a) (s.extract i T)=true
        ·rw [if_pos h4]
        ·rw [if_neg h4,if_pos (h2.resolve_left h4)]
     ·have q4:((s[T].toNat:Int) != 61)=true:=by rw [bne_iff_ne];intro e;exact Pb (by rw [<- UInt8.toNat_inj];show _=61;omega)
      have gJ:Hid (kE a (aN s i)=none):=by show _=_;rw [HIT.out,if_neg (by decide),lN s T hT,if_neg (fun e=>Pb (jE0 e))]
      clear HIT hcT Pb;go_enter Tryz.func257,Tryz.ntmps257;go_wp2_with fail
      refine (WE.out _).mono ?_;rintro e w1 ⟨rfl,rfl⟩;go_wp2_with fail
      refine (NM.out _).mono ?_;rintro e w2 ⟨rfl,rfl⟩;go_wp2
      go_ret2
      exact ⟨_,_,rfl,Kx.refl _ _ _,.inr ⟨by decide,gJ.out⟩⟩
    ·have q3:decide ((s.size:Int)<=(T:Int))=true:=by simp;omega
     have gJ:Hid (kE a (aN s i)=none):=by show _=_;rw [HIT.out,if_neg (by decide),q1z s T (by omega),if_neg (by simp)]
     clear HIT;go_enter Tryz.func257,Tryz.ntmps257;go_wp2_with fail
     refine (WE.out _).mono ?_;rintro e w1 ⟨rfl,rfl⟩;go_wp2_with fail
     refine (NM.out _).mono ?_;rintro e w2 ⟨rfl,rfl⟩;go_wp2
     go_ret2
     exact ⟨_,_,rfl,Kx.refl _ _ _,.inr ⟨by decide,gJ.out⟩⟩
end Go.Proofs.YtkfnkeflalcphaaGreatDoor

