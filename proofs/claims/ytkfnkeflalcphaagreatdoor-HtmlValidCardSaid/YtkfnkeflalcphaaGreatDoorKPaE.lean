/- Contracts of attr.wordEnd from any index. The contract of attr.readValue. Contracts of slices.Index and Contains at a row of texts of one's own; attr.Has, attr.Get, addClass, addPair at an attribute of one's own. An attribute of one's own in memory; the contracts of attr.addClass and attr.addPair. The contract of attr.readItem. -/
import Derived.Test.YtkfnkeflalcphaaGreatDoorKRfD
import Derived.Lib.SmallJoins
import Derived.Lib.OwnKind
set_option maxHeartbeats 4000000
set_option maxRecDepth 100000
open Go.Lib (hid)
namespace Go.Proofs.YtkfnkeflalcphaaGreatDoor
open Go.RowKit.Below renaming refl->jnk
open Nat renaming le_refl->jnq
open Option.some renaming inj->jo4
open Go renaming World->jqz
open Go.RowKit
set_option linter.unusedVariables false
set_option linter.unusedSimpArgs false
def bK (s:ByteArray) (i:Nat):List UInt8:=s.data.toList.drop i
theorem mR (s:ByteArray) (i:Nat):(bK s i).length=s.size-i:=by unfold bK;simp
theorem fT (s:ByteArray) (i:Nat) (h:i<s.size):bK s i=s[i]::bK s (i+1):=by
 unfold bK;have h1:i<s.data.toList.length:=by simpa using h
 rw [List.drop_eq_getElem_cons h1];congr 1
theorem iD (s:ByteArray) (i:Nat) (h:s.size<=i):bK s i=[]:=List.drop_eq_nil_of_le (by simpa using h)
theorem rO (s:ByteArray) (i:Nat) (h:i<s.size):(bK s i).head?=some s[i]:=by rw [fT s i h];rfl
def nC (s:ByteArray) (i:Nat):Nat:=i+((bK s i).takeWhile gP).length
theorem rP (s:ByteArray) (i:Nat) (h:i<=s.size):nC s i<=s.size:=by unfold nC;have h1:=(List.takeWhile_sublist (p:=gP) (l:=bK s i)).length_le;rw [mR] at h1;omega
theorem Ga (s:ByteArray) (i:Nat):bK s (nC s i)=(bK s i).dropWhile gP:=by
 unfold nC bK;rw [<- List.drop_drop];generalize s.data.toList.drop i=l;induction l with
 | nil=>rfl
 | cons c l ih=>
  by_cases h:gP c=true
  ·rw [List.takeWhile_cons_of_pos h,List.dropWhile_cons_of_pos h,List.length_cons,List.drop_succ_cons];exact ih
  ·rw [List.takeWhile_cons_of_neg h,List.dropWhile_cons_of_neg h];rfl
theorem Bw (s:ByteArray) (i:Nat) (h:i<=s.size):s.extract i (nC s i)=dn ((bK s i).takeWhile gP):=by
 apply ByteArray.ext;apply Array.toList_inj.1;unfold dn;rw [ByteArray.data_extract,Array.toList_extract];have h2:(bK s i).take (nC s i-i)=(bK s i).takeWhile gP:=by
  unfold nC;rw [Nat.add_sub_cancel_left];generalize bK s i=l;induction l with
  | nil=>rfl
  | cons c l ih=>
   by_cases h:gP c=true
   ·rw [List.takeWhile_cons_of_pos h,List.length_cons,List.take_succ_cons,ih]
   ·rw [List.takeWhile_cons_of_neg h];rfl
 rw [<- h2];unfold bK;simp [List.extract_eq_take_drop]
theorem jw (s:ByteArray) (i0:Nat) (w:jqz) (hs:s.size<=1000000000) (hi:i0<=s.size) : Calls Tryz.prog 97 #[.string s,.int .i64 i0] w fun e w'=>e=.returned (.int .i64 (nC s i0:Nat))/\w=w':=by
 obtain ⟨V,hV⟩:∃ V,V=nC s i0:=⟨_,rfl⟩;rw [<- hV];have HV:=hid hV;clear hV;go_enter Tryz.func97,Tryz.ntmps97;go_wp2
 go_loop [1] (fun vi=>∃ k:Nat,i0+k<=s.size/\vi=.int .i64 ((i0+k:Nat):Int)/\∀ j x,j<k->(bK s i0)[j]?=some x->gP x=true) (fun i=>s.size-(intOf i).toNat)
 case atStart=>exact ⟨0,hi,rfl,fun j x hj=>by omega⟩
 case round=>
  obtain ⟨k,hk,rfl,hall⟩:=hrel;have HA:=hid hall;obtain ⟨q,hq⟩:∃ q,q=i0+k:=⟨_,rfl⟩;rw [<- hq] at hk ⊢;have HQ:=hid hq;have hlk:k<=(bK s i0).length:=by rw [mR];omega
  clear hall hq;by_cases hlt:q<s.size
  ·have hgl:=UInt8.toNat_lt s[q];have IN:=hid (fun w=>yx s[q].toNat w hgl);have HG:Hid ((bK s i0)[k]?=some s[q]):=by
    show _=_;unfold bK;rw [List.getElem?_drop];have h1:=GL s q hlt;have h2:i0+k=q:=HQ.out.symm;rw [h2];exact h1
   cases hn:Rz s[q].toNat with
   | true=>
    rw [hn] at IN;have HN:=hid hn;clear hn;go_wp2_with fail
    refine (IN.out _).mono ?_;rintro e w1 ⟨rfl,rfl⟩;go_wp2
    go_round
    case rel=>
     refine ⟨k+1,by have:=HQ.out;omega,by have:=HQ.out;congr 1;omega,fun j x hj hx=>?_⟩;rcases Nat.lt_or_ge j k with h | h
     ·exact HA.out j x h hx
     ·have:j=k:=by omega
      subst this;rw [HG.out] at hx;obtain rfl:=jo4 hx;exact HN.out
    case measure=>simp [intOf];omega
   | false=>
    rw [hn] at IN;have hw:V=q:=by rw [HV.out];unfold nC;rw [sD gP _ k hlk HA.out (fun x hx=>by rw [HG.out] at hx;obtain rfl:=jo4 hx;exact hn)];exact HQ.out.symm
    have HW:=hid hw;clear hn hw;go_wp2_with fail
    refine (IN.out _).mono ?_;rintro e w1 ⟨rfl,rfl⟩;go_wp2;go_ret;exact ⟨by rw [HW.out];rfl,rfl⟩
  ·have hw:V=q:=by
    rw [HV.out];unfold nC;rw [sD gP _ k hlk HA.out (fun x hx=>?_)]
    ·exact HQ.out.symm
    ·have:=(List.getElem?_eq_some_iff.1 hx).1;rw [mR] at this;have:=HQ.out;omega
   have HW:=hid hw;clear hw;go_wp2;go_ret;exact ⟨by rw [HW.out];rfl,rfl⟩
open Go.RowKit
def Du (s:ByteArray) (i:Nat) (w:jqz) (e:Ending) (w':jqz):Prop:=
 (∃ (v:ByteArray) (n:Int) (b:Bool),e=.returned (.tuple #[.string v,.int .i64 n,.bool b])/\((b=true/\∃ q:Nat,q<=s.size/\n=q/\eH (bK s i)=some (v,bK s q))\/(b=false/\eH (bK s i)=none)))/\Below w.heap.size w w'
def VQ (s:ByteArray) (R:Option (List UInt8 × List UInt8)) (w:jqz) (vi:Value) (wr:jqz):Prop:=
 ∃ (i:Nat) (acc:List UInt8),i<=s.size/\vi=.int .i64 i/\bV (bK s i) acc=R/\acc.length<=i/\Lib.IsBuilderF 104 5 w.heap.size w.heap.size (Lib.byteCells acc) wr/\Below w.heap.size w wr
theorem yA (l:List UInt8) (c:UInt8):Lib.byteCells (l++[c])=Lib.byteCells l++[.int .u8 (c.toNat:Int)]:=by simp [Lib.byteCells]
theorem zV (s:ByteArray) (i0:Nat) (w:jqz) (hs:s.size<=1000000) (hi:i0<=s.size) : Calls Tryz.prog 276 #[.string s,.int .i64 i0] w (Du s i0 w):=by
 by_cases hq:i0<s.size/\bt s i0=34;case neg=>
  have WE:=hid (fun w=>jw s i0 w (by omega) hi);have hwl:=rP s i0 hi;have hwg:i0<=nC s i0:=Nat.le_add_right _ _;have hhd:(bK s i0).head?≠some 34:=by
   intro h;rcases Nat.lt_or_ge i0 s.size with h1 | h1
   ·rw [rO s i0 h1] at h;have h2:s[i0]=34:=jo4 h;exact hq ⟨h1,by rw [<- o9 s i0 h1,h2];rfl⟩
   ·rw [iD s i0 h1] at h;cases h
  have Ub:Hid (eH (bK s i0)=if iU (s.extract i0 (nC s i0))=true then some (s.extract i0 (nC s i0),bK s (nC s i0)) else none):=by show _=_;unfold eH;rw [if_neg hhd,Bw s i0 hi,Ga]
  have hvs:(s.extract i0 (nC s i0)).size<=1000000000:=by rw [ByteArray.size_extract];omega
  have NM:=hid (fun w=>q22 (s.extract i0 (nC s i0)) w hvs);generalize nC s i0=T at *;obtain ⟨X,hX⟩:∃ X,X=s.extract i0 T:=⟨_,rfl⟩;rw [<- hX] at Ub NM;have HX:=hid hX;have hmn:min (i0:Int) (s.size:Int)=(i0:Int):=by omega
  have hc:(s.size<=i0)\/(i0<s.size/\bt s i0≠34):=by omega
  clear hhd hX hvs hq;generalize iU X=NX at *;have NM2:Hid (∀ w,Calls Tryz.prog 52 #[.string (s.extract i0 T)] w fun e w'=>e=.returned (.bool NX)/\w=w'):=by show _;rw [<- HX.out];exact NM.out
  have sM:Hid (Du s i0 w (.returned (.tuple #[.string (s.extract i0 T),.int .i64 (T:Int),.bool NX])) w):=by
   refine ⟨⟨_,_,_,rfl,?_⟩,jnk _ _⟩;rw [<- HX.out];cases NX with
   | true=>exact .inl ⟨rfl,T,hwl,rfl,by rw [Ub.out,if_pos rfl]⟩
   | false=>exact .inr ⟨rfl,by rw [Ub.out,if_neg (by decide)]⟩
  rcases hc with hc | ⟨hc,hb⟩
  ·have q1:decide ((s.size:Int)<=(i0:Int))=true:=by simp;omega
   go_enter Tryz.func276,Tryz.ntmps276;go_wp2_with fail
   refine (WE.out _).mono ?_;rintro e w1 ⟨rfl,rfl⟩;go_wp2_with fail
   refine (NM2.out _).mono ?_;rintro e w2 ⟨rfl,rfl⟩;go_wp2
   go_ret3
   exact sM.out
  ·have q1:decide ((s.size:Int)<=(i0:Int))=false:=by simp;omega
   have q2:((s[i0].toNat:Int) != 34)=true:=by rw [o9 s i0 hc,bne_iff_ne];omega
   go_enter Tryz.func276,Tryz.ntmps276;go_wp2_with fail
   refine (WE.out _).mono ?_;rintro e w1 ⟨rfl,rfl⟩;go_wp2_with fail
   refine (NM2.out _).mono ?_;rintro e w2 ⟨rfl,rfl⟩;go_wp2
   go_ret3
   exact sM.out
 case pos=>
  obtain ⟨I9,hb0⟩:=hq;have Gb:=fT s i0 I9;have Ja:s[i0]=34:=by rw [<- UInt8.toNat_inj,o9 s i0 I9];exact hb0
  have Ub:Hid (eH (bK s i0)=match bV (bK s (i0+1)) [] with
   | none=>none
   | some (v,r)=>if fH (dn v)=true then some (dn v,r) else none):=by
   show _=_;unfold eH;rw [Gb,Ja];rfl
  obtain ⟨R,hR⟩:∃ R,R=bV (bK s (i0+1)) []:=⟨_,rfl⟩;rw [<- hR] at Ub;have q1:decide ((s.size:Int)<=(i0:Int))=false:=by simp;omega
  have q2:((s[i0].toNat:Int) != 34)=false:=by rw [o9 s i0 I9,hb0];rfl
  obtain ⟨wb,hwb⟩:∃ wb,wb=w.alloc (.cells #[.pointer none,.slice none 0 0] 104):=⟨_,rfl⟩;have R0:Hid (VQ s R w (.int .i64 ((i0+1:Nat):Int)) wb):=by
   refine ⟨i0+1,[],by omega,rfl,hR.symm,Nat.zero_le _,?_,?_⟩
   ·rw [hwb];exact Lib.IsBuilderF.of (Lib.fresh_isBuilder 104 5 w)
   ·rw [hwb];exact (jnk _ _).alloc (jnq _) _
  clear Gb Ja hR hb0;go_enter Tryz.func276,Tryz.ntmps276
  (try simp only [List.append_eq,List.cons_append,List.nil_append])
  go_upto_region 6 with (fail)
  rw [<- hwb];clear hwb;go_wp2;have q0:decide (s.size<=i0)=false:=by simp;omega
  simp only [q0];clear q0
  go_loopw [8] (fun vi wr=>VQ s R w vi wr) (fun i _=>s.size-(intOf i).toNat)
  case atStart=>exact R0.out
  case round=>
   clear R0 q1 q2;obtain ⟨i,acc,hi,rfl,hqv,hal,hB,hbel⟩:=hrel;have HB:=hid hB;have D5:=hid hbel;have Zp:=hid hqv;clear hB hbel hqv;by_cases hlt:i<s.size
   ·have hcn:=fT s i hlt;have eb:=o9 s i hlt;by_cases Ja:s[i]=34
    ·have q3:((s[i].toNat:Int)==34)=true:=by rw [Ja];rfl
     have HRV:Hid (R=some (acc,bK s (i+1))):=by show R=_;rw [<- Zp.out,hcn,bV.eq_def];simp only;rw [if_pos Ja]
     have ST:=hid (Tryz.Builder_String_any_k w.heap.size w.heap.size acc wr HB.out D5.out.size);have hbs:(dn acc).size<=1000000000:=by show acc.toArray.size<=_;simp;omega
     have CV:=hid (fun w=>Aj (dn acc) w hbs);have sM:Hid (∀ w',Below w.heap.size w w'->Du s i0 w (.returned (.tuple #[.string (dn acc),.int .i64 ((i:Int)+1),.bool (fH (dn acc))])) w'):=by
      intro w' hw';refine ⟨⟨_,_,_,rfl,?_⟩,hw'⟩;rw [Ub.out,HRV.out];cases hl:fH (dn acc) with
      | true=>exact .inl ⟨rfl,i+1,by omega,by simp,by simp [hl]⟩
      | false=>exact .inr ⟨rfl,by simp [hl]⟩
     clear hcn Ja eb;generalize fH (dn acc)=LL at *;go_wp2_with fail
     refine ST.out.mono ?_;rintro e w1 ⟨rfl,hB1,b1,-⟩;have HB1:=hid hB1;have BB1:=hid (D5.out.trans b1);have ST2:=hid (Tryz.Builder_String_any_k w.heap.size w.heap.size acc w1 hB1 BB1.out.size);clear hB1 b1 ST;go_wp2_with fail
     refine ST2.out.mono ?_;rintro e w2 ⟨rfl,-,b2,-⟩;have BB2:=hid (BB1.out.trans b2);clear b2 ST2;go_wp2_with fail
     refine (CV.out _).mono ?_;rintro e w3 ⟨rfl,q,rfl⟩;go_wp2
     go_ret3
     exact sM.out _ (gG BB2.out q)
    ·have q3:((s[i].toNat:Int)==34)=false:=by
      rw [beq_eq_false_iff_ne];intro e;exact Ja (by rw [<- UInt8.toNat_inj];show _=34;omega)
     by_cases RA:s[i]=92
     ·have q4:((s[i].toNat:Int)==92)=true:=by rw [RA];rfl
      by_cases hlt2:i+1<s.size
      ·have Uc:=fT s (i+1) hlt2;have hgl:=UInt8.toNat_lt s[i+1];by_cases hd:s[i+1]=34\/s[i+1]=92
       ·have Zk:Hid (bV (bK s (i+1+1)) (acc++[s[i+1]])=R):=by
         show _=R;rw [<- Zp.out,hcn,Uc]
         conv=>rhs;rw [bV.eq_def]
         simp only;rw [if_neg Ja,if_pos RA,if_pos hd]
        have q5:decide ((s.size:Int)<=(i:Int)+1)=false:=by simp;omega
        have WB:=hid (iE w.heap.size w.heap.size (Lib.byteCells acc) (s[i+1].toNat:Int) wr HB.out (by rw [Lib.byteCells_length];omega) D5.out.size);have hde:((s[i+1].toNat:Int) != 34)=false\/(((s[i+1].toNat:Int) != 34)=true/\((s[i+1].toNat:Int) != 92)=false):=by
         by_cases he:s[i+1]=34
         ·left;rw [he];rfl
         ·right;refine ⟨?_,by rw [hd.resolve_left he];rfl⟩;rw [bne_iff_ne];intro e;exact he (by rw [<- UInt8.toNat_inj];show _=34;omega)
        have JQ:=hid (yA acc s[i+1]);clear hcn Uc hd Ja RA eb;rcases hde with q6 | ⟨q6,q7⟩
        all_goals
         go_wp2_with fail
         refine WB.out.mono ?_;rintro e w1 ⟨rfl,hw1⟩;have HW1:=hid hw1;clear hw1;go_wp2;go_roundw;case rel=>exact ⟨i+1+1,acc++[s[i+1]],by omega,by go_num,Zk.out,by simp;omega,by rw [JQ.out];exact HW1.out.1,D5.out.trans HW1.out.2.1⟩
         case measure=>simp [intOf];omega
       ·have HRN:Hid (R=none):=by
         show R=none;rw [<- Zp.out,hcn,Uc,bV.eq_def];simp only;rw [if_neg Ja,if_pos RA,if_neg hd]
        have q5:decide ((s.size:Int)<=(i:Int)+1)=false:=by simp;omega
        have q6:((s[i+1].toNat:Int) != 34)=true:=by rw [bne_iff_ne];intro e;exact hd (.inl (by rw [<- UInt8.toNat_inj];show _=34;omega))
        have q7:((s[i+1].toNat:Int) != 92)=true:=by rw [bne_iff_ne];intro e;exact hd (.inr (by rw [<- UInt8.toNat_inj];show _=92;omega))
        clear hcn Uc hd Ja RA eb;go_wp2
        go_ret3
        exact ⟨⟨_,_,_,rfl,.inr ⟨rfl,by rw [Ub.out,HRN.out]⟩⟩,D5.out⟩
      ·have HRN:Hid (R=none):=by
        show R=none;rw [<- Zp.out,hcn,iD s (i+1) (by omega),bV.eq_def];simp only;rw [if_neg Ja,if_pos RA]
       have q5:decide ((s.size:Int)<=(i:Int)+1)=true:=by simp;omega
       clear hcn Ja RA eb;go_wp2
       go_ret3
       exact ⟨⟨_,_,_,rfl,.inr ⟨rfl,by rw [Ub.out,HRN.out]⟩⟩,D5.out⟩
     ·have q4:((s[i].toNat:Int)==92)=false:=by
       rw [beq_eq_false_iff_ne];intro e;exact RA (by rw [<- UInt8.toNat_inj];show _=92;omega)
      have Zk:Hid (bV (bK s (i+1)) (acc++[s[i]])=R):=by
       show _=R;rw [<- Zp.out,hcn]
       conv=>rhs;rw [bV.eq_def]
       simp only;rw [if_neg Ja,if_neg RA]
      have hgl:=UInt8.toNat_lt s[i];have WB:=hid (iE w.heap.size w.heap.size (Lib.byteCells acc) (s[i].toNat:Int) wr HB.out (by rw [Lib.byteCells_length];omega) D5.out.size);have JQ:=hid (yA acc s[i]);clear hcn Ja RA eb;go_wp2_with fail
      refine WB.out.mono ?_;rintro e w1 ⟨rfl,hw1⟩;have HW1:=hid hw1;clear hw1;go_wp2;go_roundw;case rel=>exact ⟨i+1,acc++[s[i]],by omega,by go_num,Zk.out,by simp;omega,by rw [JQ.out];exact HW1.out.1,D5.out.trans HW1.out.2.1⟩
      case measure=>simp [intOf];omega
   ·have HRN:Hid (R=none):=by
     show R=none;rw [<- Zp.out,iD s i (by omega),bV.eq_def]
    go_wp2
    go_ret3
    exact ⟨⟨_,_,_,rfl,.inr ⟨rfl,by rw [Ub.out,HRN.out]⟩⟩,D5.out⟩
open Go.RowKit
theorem Bz (l:List ByteArray) (k:Nat) (y x:ByteArray) (h:l[k]?=some y):hasB (l.drop k) x=(decide (y=x)||hasB (l.drop (k+1)) x):=by rw [RO l k y h];rfl
theorem Ml (l:List ByteArray) (x:ByteArray) (B:Nat) (v:Value) (w:jqz) (h:w.ownsRow B 9 1 v l.length (l.map Value.string)) (hl:l.length<=100000) : Calls Tryz.prog 297 #[v,.string x] w fun e w'=>∃ n:Int,e=.returned (.int .i64 n)/\decide (0<=n)=hasB l x/\w'=w:=by
 obtain ⟨av,cv,rfl⟩:=tT h;obtain ⟨V,hV⟩:∃ V,V=hasB l x:=⟨_,rfl⟩;rw [<- hV];have H:=hid h;have HV:=hid hV;clear hV h;go_enter Tryz.func297,Tryz.ntmps297;go_wp2
 go_loop [8] (fun vi=>∃ k:Nat,k<=l.length/\vi=.int .i64 k/\V=hasB (l.drop k) x) (fun i=>l.length-(intOf i).toNat)
 case atStart=>exact ⟨0,Nat.zero_le _,rfl,HV.out⟩
 case round=>
  obtain ⟨k,hk,rfl,hv⟩:=hrel;by_cases hlt:k<l.length
  ·obtain ⟨y,hy⟩:∃ y,l[k]?=some y:=⟨_,List.getElem?_eq_getElem hlt⟩;obtain ⟨g,cap,hve,hcap⟩:=qZ H.out (by omega);obtain ⟨rfl,rfl⟩:av=some ⟨g,0,none⟩/\cv=cap:=by simpa using hve
   have c0:w.cell? ⟨g,k,none⟩=some (.string y):=by rw [H.out.cellAt k (by omega),List.getElem?_map,hy];rfl
   rw [Bz l k y x hy] at hv;have Qm:=hid hv;clear hv hy hve HV;by_cases he:y=x
   ·subst he;have q1:(y.toList==y.toList)=true:=beq_self_eq_true _;go_wp2;go_ret;exact ⟨_,rfl,by rw [Qm.out];simp,rfl⟩
   ·have q1:(x.toList==y.toList)=false:=Cm (fun e=>he e.symm);have Yx:Hid (V=hasB (l.drop (k+1)) x):=by show V=_;rw [Qm.out];simp [he]
    clear Qm he;go_wp2
    go_round
    case rel=>exact ⟨k+1,by omega,by go_num,Yx.out⟩
    case measure=>simp [intOf];omega
  ·have Qm:Hid (V=false):=by show V=false;rw [hv,List.drop_eq_nil_of_le (by omega)];rfl
   clear hv HV;go_wp2;go_ret;exact ⟨_,rfl,by rw [Qm.out];rfl,rfl⟩
theorem Dv (l:List ByteArray) (x:ByteArray) (B:Nat) (v:Value) (w:jqz) (h:w.ownsRow B 9 1 v l.length (l.map Value.string)) (hl:l.length<=100000) : Calls Tryz.prog 296 #[v,.string x] w fun e w'=>e=.returned (.bool (hasB l x))/\w'=w:=by
 obtain ⟨av,cv,rfl⟩:=tT h;have IX:=hid (Ml l x B _ w h hl);obtain ⟨V,hV⟩:∃ V,V=hasB l x:=⟨_,rfl⟩;rw [<- hV] at IX ⊢;clear hV h;go_enter Tryz.func296,Tryz.ntmps296;go_wp2_with fail
 refine IX.out.mono ?_;rintro e w1 ⟨n,rfl,hn,rfl⟩;have HN:=hid hn;clear hn;go_wp2;go_ret;exact ⟨by rw [<- HN.out];rfl,rfl⟩
theorem Ud (l:List ByteArray) (x id:ByteArray) (B:Nat) (v vp:Value) (w:jqz) (h:w.ownsRow B 9 1 v l.length (l.map Value.string)) (hl:l.length<=100000) : Calls Tryz.prog 293 #[.agg #[.string id,v,vp],.string x] w (bX (.bool (hasB l x)) w):=by
 obtain ⟨av,cv,rfl⟩:=tT h;have CT:=hid (Dv l x B _ (w.alloc (.cells #[.string id,.slice av l.length cv,vp] 45)) (h.alloc _) hl);obtain ⟨V,hV⟩:∃ V,V=hasB l x:=⟨_,rfl⟩;rw [<- hV] at CT ⊢;clear hV h;go_enter Tryz.func293,Tryz.ntmps293;go_wp2_with fail
 refine CT.out.mono ?_;rintro e w1 ⟨rfl,rfl⟩;go_wp2;go_ret;exact ⟨rfl,(jnk _ _).alloc (jnq _) _⟩
def Zq (p:Pr):List Value:=[.string p.key,.string p.val]
def Ue (l:List Pr):List Value:=(l.map Zq).flatten
theorem uF (l:List Pr) (k:Nat) (p:Pr) (h:l[k]?=some p):(Ue l)[k*2]?=some (.string p.key)/\(Ue l)[k*2+1]?=some (.string p.val):=by
 have h2:∀ r∈l.map Zq,r.length=2:=by intro r hr;obtain ⟨q,_,rfl⟩:=List.mem_map.1 hr;rfl
 have hr:(l.map Zq)[k]?=some (Zq p):=by rw [List.getElem?_map,h];rfl
 exact ⟨flat_get 2 _ h2 k 0 _ _ hr rfl,flat_get 2 _ h2 k 1 _ _ hr rfl⟩
def Yy (V:Bool) (w:jqz) (e:Ending) (w':jqz):Prop:=∃ u:ByteArray,e=.returned (.tuple #[.string u,.bool V])/\Below w.heap.size w w'
theorem Uf (l:List Pr) (x id:ByteArray) (B:Nat) (v vc:Value) (w:jqz) (h:w.ownsRow B 61 2 v l.length (Ue l)) (hl:l.length<=100000) : Calls Tryz.prog 294 #[.agg #[.string id,vc,v],.string x] w (Yy (hasB (l.map Pr.key) x) w):=by
 obtain ⟨av,cv,rfl⟩:=tT h;obtain ⟨V,hV⟩:∃ V,V=hasB (l.map Pr.key) x:=⟨_,rfl⟩;rw [<- hV];have H:=hid h;have HV:=hid hV;clear hV h;obtain ⟨w1,hw1⟩:∃ w1,w1=w.alloc (.cells #[.string id,vc,.slice av l.length cv] 45):=⟨_,rfl⟩;have B1:Hid (Below w.heap.size w w1):=by show Below _ _ _;rw [hw1];exact (jnk _ _).alloc (jnq _) _
 go_enter Tryz.func294,Tryz.ntmps294;go_wp2;rw [<- hw1];clear hw1
 go_loopw [11] (fun vi wr=>∃ k:Nat,k<=l.length/\vi=.int .i64 k/\V=hasB ((l.map Pr.key).drop k) x/\Below w.heap.size w wr) (fun i _=>l.length-(intOf i).toNat)
 case atStart=>exact ⟨0,Nat.zero_le _,rfl,HV.out,B1.out⟩
 case round=>
  obtain ⟨k,hk,rfl,hv,hbel⟩:=hrel;by_cases hlt:k<l.length
  ·obtain ⟨p,hp⟩:∃ p,l[k]?=some p:=⟨_,List.getElem?_eq_getElem hlt⟩;obtain ⟨g,cap,hve,hcap⟩:=qZ H.out (by omega);obtain ⟨rfl,rfl⟩:av=some ⟨g,0,none⟩/\cv=cap:=by simpa using hve
   have hH:=Y5 H.out hbel;have c0:wr.cell? ⟨g,k*2,none⟩=some (.string p.key):=by rw [hH.cellAt (k*2) (by omega)];exact (uF l k p hp).1
   have c1:wr.cell? ⟨g,k*2+1,none⟩=some (.string p.val):=by rw [hH.cellAt (k*2+1) (by omega)];exact (uF l k p hp).2
   rw [Bz (l.map Pr.key) k p.key x (by rw [List.getElem?_map,hp];rfl)] at hv;have Qm:=hid hv;have HB:=hid hbel;clear hv hp hve HV hbel hH;by_cases he:p.key=x
   ·subst he;have q1:(p.key.toList==p.key.toList)=true:=beq_self_eq_true _;go_wp2
    go_ret2
    exact ⟨p.val,by rw [Qm.out];simp,aU HB.out ((jnk _ _).alloc (jnq _) _)⟩
   ·have q1:(p.key.toList==x.toList)=false:=Cm he;have Yx:Hid (V=hasB ((l.map Pr.key).drop (k+1)) x):=by show V=_;rw [Qm.out];simp [he]
    clear Qm he;go_wp2;go_roundw;case rel=>exact ⟨k+1,by omega,by go_num,Yx.out,aU HB.out ((jnk _ _).alloc (jnq _) _)⟩
    case measure=>simp [intOf];omega
  ·have Qm:Hid (V=false):=by show V=false;rw [hv,List.drop_eq_nil_of_le (by simp;omega)];rfl
   have HB:=hid hbel;clear hv HV hbel;go_wp2
   go_ret2
   exact ⟨⟨#[]⟩,by rw [Qm.out];rfl,HB.out⟩
open Go.RowKit
structure Kx (B b:Nat) (w w':jqz):Prop where
 os:w'.os=w.os
 tape:w'.tape=w.tape
 output:w'.output=w.output
 size:w.heap.size<=w'.heap.size
 block:∀ k,k<B->k≠b->w'.heap[k]?=w.heap[k]?
section
variable {B b:Nat} {w w' w1 w2:jqz}
theorem Kx.refl (B b:Nat) (w:jqz):Kx B b w w:=⟨rfl,rfl,rfl,jnq _,fun _ _ _=>rfl⟩
theorem Kx.trans (h:Kx B b w w1) (k:Kx B b w1 w2):Kx B b w w2:=
 ⟨k.os.trans h.os,k.tape.trans h.tape,k.output.trans h.output,Nat.le_trans h.size k.size,fun i h1 h2=>(k.block i h1 h2).trans (h.block i h1 h2)⟩
theorem Kx.of (h:Below w.heap.size w w1) (hB:B<=w.heap.size):Kx B b w w1:=⟨h.os,h.tape,h.output,h.size,fun i h1 _=>h.block i (by omega)⟩
theorem Kx.grown {row:Option Nat} (h:w.grownBy w1 row) (hB:B<=w.heap.size) (hr:∀ g,row=some g->B<=g):Kx B b w w1:=
 ⟨h.os,h.tape,h.output,h.size,fun i h1 _=>h.block i (by omega) (fun e=>by have:=hr i e.symm;omega)⟩
theorem Kx.set (w:jqz) (j:Nat) (u:Value):Kx B b w (w.setCell ⟨b,j,none⟩ u):=
 ⟨rfl,rfl,rfl,by simp [World.setCell],fun i _ h2=>Below.heap_setCell w ⟨b,j,none⟩ u i h2⟩
end
structure qo (B b:Nat) (a:At) (vc vp:Value) (w:jqz):Prop where
 ab:AB b [.string a.id,vc,vp] w
 cls:w.ownsRow B 9 1 vc a.cls.length (a.cls.map Value.string)
 aP:w.ownsRow B 61 2 vp a.aP.length (Ue a.aP)
 lt:b<B
 le:B<=w.heap.size
section
variable {B b:Nat} {a:At} {vc vp v1:Value} {w w1 w2:jqz}
theorem qo.below (h:qo B b a vc vp w) (hb:Below w.heap.size w w1):qo B b a vc vp w1:=
 ⟨(hb.block b h.ab.lt).trans h.ab,Y5 h.cls hb,Y5 h.aP hb,h.lt,Nat.le_trans h.le hb.size⟩
theorem qo.apart (h:qo B b a vc vp w):vc.ownBlock=none\/vc.ownBlock≠vp.ownBlock:=by
 cases hc:vc.ownBlock with
 | none=>exact .inl rfl
 | some g=>
  right;intro e;obtain ⟨c1,f1,e1⟩:=Lib.ownsRow_kind h.cls g hc;obtain ⟨c2,f2,e2⟩:=Lib.ownsRow_kind h.aP g e.symm;rw [e1] at e2;simp at e2
theorem qo.apart' (h:qo B b a vc vp w):vp.ownBlock=none\/vp.ownBlock≠vc.ownBlock:=by
 rcases h.apart with h1 | h1
 ·cases hc:vp.ownBlock with
  | none=>exact .inl rfl
  | some g=>right;rw [h1];simp
 ·exact .inr fun e=>h1 e.symm
theorem qo.at3 (h:qo B b a vc vp w):w.cell? ⟨b,0,none⟩=some (.string a.id)/\w.cell? ⟨b,1,none⟩=some vc/\w.cell? ⟨b,2,none⟩=some vp:=
 ⟨h.ab.cell 0 _ rfl,h.ab.cell 1 _ rfl,h.ab.cell 2 _ rfl⟩
theorem qo.jd5 {x:ByteArray} {o:Obj} (h:qo B b a vc vp w) (hg:(w.alloc o).grownBy w1 vc.ownBlock) (hown:w1.ownsRow B 9 1 v1 (a.cls.length+1) (a.cls.map Value.string++[.string x])) : w1.frozen? ⟨b,1,none⟩=false/\w1.cell? ⟨b,1,none⟩=some vc/\qo B b ⟨a.id,a.cls++[x],a.aP⟩ v1 vp (w1.setCell ⟨b,1,none⟩ v1)/\Kx B b w (w1.setCell ⟨b,1,none⟩ v1):=by
 have hal:Below w.heap.size w (w.alloc o):=(jnk _ _).alloc (jnq _) _;have h0:=h.below hal;have hr:∀ g,vc.ownBlock=some g->B<=g:=fun g hgv=>(h.cls.lt g hgv).1
 have Jb:AB b [.string a.id,vc,vp] w1:=(hg.block b h0.ab.lt (fun e=>by have:=hr b e.symm;have:=h.lt;omega)).trans h0.ab;refine ⟨Jb.free 1,Jb.cell 1 _ rfl,⟨Jb.set 1 v1,?_,?_,h.lt,?_⟩,?_⟩
 ·exact ownsRow_setCell_below (by simpa using hown) h.lt v1
 ·exact ownsRow_setCell_below (h0.aP.kept hg h.apart') h.lt v1
 ·exact Nat.le_trans h0.le (by simpa [World.setCell] using hg.size)
 ·exact ((Kx.of hal h.le).trans (Kx.grown hg h0.le hr)).trans (Kx.set w1 1 v1)
theorem qo.pushP {x:Pr} {o:Obj} (h:qo B b a vc vp w) (hg:(w.alloc o).grownBy w1 vp.ownBlock) (hown:w1.ownsRow B 61 2 v1 (a.aP.length+1) (Ue a.aP++Zq x)) : w1.frozen? ⟨b,2,none⟩=false/\w1.cell? ⟨b,2,none⟩=some vp/\qo B b ⟨a.id,a.cls,a.aP++[x]⟩ vc v1 (w1.setCell ⟨b,2,none⟩ v1)/\Kx B b w (w1.setCell ⟨b,2,none⟩ v1):=by
 have hal:Below w.heap.size w (w.alloc o):=(jnk _ _).alloc (jnq _) _;have h0:=h.below hal;have hr:∀ g,vp.ownBlock=some g->B<=g:=fun g hgv=>(h.aP.lt g hgv).1
 have Jb:AB b [.string a.id,vc,vp] w1:=(hg.block b h0.ab.lt (fun e=>by have:=hr b e.symm;have:=h.lt;omega)).trans h0.ab;refine ⟨Jb.free 2,Jb.cell 2 _ rfl,⟨Jb.set 2 v1,?_,?_,h.lt,?_⟩,?_⟩
 ·exact ownsRow_setCell_below (h0.cls.kept hg h.apart) h.lt v1
 ·refine ownsRow_setCell_below ?_ h.lt v1;have e:Ue (a.aP++[x])=Ue a.aP++Zq x:=by simp [Ue]
  rw [e];simpa using hown
 ·exact Nat.le_trans h0.le (by simpa [World.setCell] using hg.size)
 ·exact ((Kx.of hal h.le).trans (Kx.grown hg h0.le hr)).trans (Kx.set w1 2 v1)
theorem qo.jd6 (h:qo B b a vc vp w) (x:ByteArray):w.frozen? ⟨b,0,none⟩=false/\qo B b ⟨x,a.cls,a.aP⟩ vc vp (w.setCell ⟨b,0,none⟩ (.string x))/\Kx B b w (w.setCell ⟨b,0,none⟩ (.string x)):=
 ⟨h.ab.free 0,⟨h.ab.set 0 _,ownsRow_setCell_below h.cls h.lt _,ownsRow_setCell_below h.aP h.lt _,h.lt,by simpa [World.setCell] using h.le⟩,Kx.set w 0 _⟩
end
def Qn (B b:Nat) (a a':At) (bad:Prop) (w:jqz) (e:Ending) (w':jqz):Prop:=
 ∃ n:Int,e=.returned (.int .i64 n)/\Kx B b w w'/\((n=0/\¬ bad/\∃ vc vp,qo B b a' vc vp w')\/(n≠0/\bad))
theorem Dw (B b:Nat) (a:At) (x:ByteArray) (vc vp:Value) (w:jqz) (h:qo B b a vc vp w) (hc:a.cls.length<=100000) : Calls Tryz.prog 275 #[.pointer (some ⟨b,0,none⟩),.string x] w (Qn B b a ⟨a.id,a.cls++[x],a.aP⟩ (hasB a.cls x=true\/32<=a.cls.length) w):=by
 obtain ⟨i0,hi0,hz0,hz1,hz2⟩:=info_parts JU;obtain ⟨av,cv,rfl⟩:=tT h.cls;obtain ⟨p0,p1,p2⟩:=h.at3;have HA:=hid h;have HH:=hid (Ud a.cls x a.id B _ vp w h.cls hc);obtain ⟨V,hV⟩:∃ V,V=hasB a.cls x:=⟨_,rfl⟩;rw [<- hV] at HH;have HV:=hid hV;clear hV h;cases V with
 | true=>
  go_enter Tryz.func275,Tryz.ntmps275;go_wp2_with fail
  refine HH.out.mono ?_;rintro e w1 ⟨rfl,hb1⟩;have HB:=hid hb1;clear hb1 p0 p1 p2;go_wp2;go_ret;exact ⟨_,rfl,Kx.of HB.out HA.out.le,.inr ⟨by decide,.inl HV.out.symm⟩⟩
 | false=>
  by_cases h32:32<=a.cls.length
  ·have q1:decide ((32:Int)<=(a.cls.length:Int))=true:=by simp;omega
   go_enter Tryz.func275,Tryz.ntmps275;go_wp2_with fail
   refine HH.out.mono ?_;rintro e w1 ⟨rfl,hb1⟩;have HA1:=hid (HA.out.below hb1);have HB:=hid hb1;clear hb1 p0 p1 p2;obtain ⟨p0,p1,p2⟩:=HA1.out.at3;go_wp2;go_ret;exact ⟨_,rfl,Kx.of HB.out HA.out.le,.inr ⟨by decide,.inr h32⟩⟩
  ·have q1:decide ((32:Int)<=(a.cls.length:Int))=false:=by simp;omega
   go_enter Tryz.func275,Tryz.ntmps275;go_wp2_with fail
   refine HH.out.mono ?_;rintro e w1 ⟨rfl,hb1⟩;have HA1:=hid (HA.out.below hb1);have HB:=hid hb1;clear hb1 p0 p1 p2;obtain ⟨p0,p1,p2⟩:=HA1.out.at3;go_wp2_with (at_builtin;refine Wv _ rfl (.tmp 20) (.tmp 22) 43 rfl B 9 i0 _ 1 16 Tryz.underlying43 hi0 hz0 hz1 hz2 rfl (by decide) (.slice av a.cls.length cv) a.cls.length (a.cls.map Value.string) rfl (HA1.out.cls.alloc _) (w1.heap.size+1) (some ⟨w1.heap.size,0,none⟩) 1 1 [.string x] rfl ?g1 ?g2 ?g3 ?g4 ?g5 ?_)
   case g1=>exact ⟨rfl,fun _=>⟨_,rfl,by simp,Om w1 [.string x] _⟩⟩
   case g2=>intro u hu;simp at hu;subst hu;rfl
   case g3=>unfold maxLen;omega
   case g4=>omega
   case g5=>have:=HA1.out.le;simp;omega
   intro v1 w2 hown hg _;obtain ⟨a1,c1,rfl⟩:=tT hown;obtain ⟨fz,fc,HR,HK⟩:=HA1.out.jd5 hg hown;have HR:=hid HR;have HK:=hid HK;clear hown hg p0 p1 p2;go_wp2;go_ret;exact ⟨_,rfl,(Kx.of HB.out HA.out.le).trans HK.out,.inl ⟨rfl,by rintro (h | h);(rw [<- HV.out] at h;cases h);omega,_,_,HR.out⟩⟩
theorem Gc (B b:Nat) (a:At) (x y:ByteArray) (vc vp:Value) (w:jqz) (h:qo B b a vc vp w) (hc:a.aP.length<=100000) : Calls Tryz.prog 277 #[.pointer (some ⟨b,0,none⟩),.string x,.string y] w (Qn B b a ⟨a.id,a.cls,a.aP++[⟨x,y⟩]⟩ (hasB (keysOf a) x=true\/32<=a.aP.length) w):=by
 obtain ⟨i0,hi0,hz0,hz1,hz2⟩:=info_parts pV;obtain ⟨av,cv,rfl⟩:=tT h.aP;obtain ⟨p0,p1,p2⟩:=h.at3;have HA:=hid h;have HH:=hid (Uf a.aP x a.id B _ vc w h.aP hc);obtain ⟨V,hV⟩:∃ V,V=hasB (keysOf a) x:=⟨_,rfl⟩;have hV2:hasB (a.aP.map Pr.key) x=V:=hV.symm;rw [hV2] at HH;have HV:=hid hV;clear hV hV2 h;cases V with
 | true=>
  go_enter Tryz.func277,Tryz.ntmps277;go_wp2_with fail
  refine HH.out.mono ?_;rintro e w1 ⟨u,rfl,hb1⟩;have HB:=hid hb1;clear hb1 p0 p1 p2;go_wp2;go_ret;exact ⟨_,rfl,Kx.of HB.out HA.out.le,.inr ⟨by decide,.inl HV.out.symm⟩⟩
 | false=>
  by_cases h32:32<=a.aP.length
  ·have q1:decide ((32:Int)<=(a.aP.length:Int))=true:=by simp;omega
   go_enter Tryz.func277,Tryz.ntmps277;go_wp2_with fail
   refine HH.out.mono ?_;rintro e w1 ⟨u,rfl,hb1⟩;have HA1:=hid (HA.out.below hb1);have HB:=hid hb1;clear hb1 p0 p1 p2;obtain ⟨p0,p1,p2⟩:=HA1.out.at3;go_wp2;go_ret;exact ⟨_,rfl,Kx.of HB.out HA.out.le,.inr ⟨by decide,.inr h32⟩⟩
  ·have q1:decide ((32:Int)<=(a.aP.length:Int))=false:=by simp;omega
   go_enter Tryz.func277,Tryz.ntmps277;go_wp2_with fail
   refine HH.out.mono ?_;rintro e w1 ⟨u,rfl,hb1⟩;have HA1:=hid (HA.out.below hb1);have HB:=hid hb1;clear hb1 p0 p1 p2;obtain ⟨p0,p1,p2⟩:=HA1.out.at3;go_wp2_with (at_builtin;refine Wv _ rfl (.tmp 28) (.tmp 32) 24 rfl B 61 i0 _ 2 32 Tryz.underlying24 hi0 hz0 hz1 hz2 rfl (by decide) (.slice av a.aP.length cv) a.aP.length (Ue a.aP) rfl (HA1.out.aP.alloc _) (w1.heap.size+1) (some ⟨w1.heap.size,0,none⟩) 1 1 [.string x,.string y] rfl ?g1 ?g2 ?g3 ?g4 ?g5 ?_)
   case g1=>exact ⟨rfl,fun _=>⟨_,rfl,by simp,Om w1 [.string x,.string y] _⟩⟩
   case g2=>intro u hu;simp at hu;rcases hu with rfl | rfl<;>rfl
   case g3=>unfold maxLen;omega
   case g4=>omega
   case g5=>have:=HA1.out.le;simp;omega
   intro v1 w2 hown hg _;obtain ⟨a1,c1,rfl⟩:=tT hown;obtain ⟨fz,fc,HR,HK⟩:=HA1.out.pushP (x:=⟨x,y⟩) hg hown;have HR:=hid HR;have HK:=hid HK;clear hown hg p0 p1 p2;go_wp2;go_ret;exact ⟨_,rfl,(Kx.of HB.out HA.out.le).trans HK.out,.inl ⟨rfl,by rintro (h | h);(rw [<- HV.out] at h;cases h);omega,_,_,HR.out⟩⟩
open Go.RowKit
def Yz (B b:Nat) (a:At) (s:ByteArray) (i:Nat) (w:jqz) (e:Ending) (w':jqz):Prop:=
 ∃ (t n:Int),e=.returned (.tuple #[.int .i64 t,.int .i64 n])/\Kx B b w w' /\
  ((n=0/\∃ (a':At) (q:Nat),q<=s.size/\t=q/\dB a (bK s i)=some (a',bK s q)/\a'.cls.length<=32/\a'.aP.length<=32/\∃ vc vp,qo B b a' vc vp w')\/(n≠0/\dB a (bK s i)=none))
theorem sU (a:At) (s:ByteArray) (i j:Nat) (h:uG (bK s i)=bK s j) (hj:j<=s.size) : dB a (bK s i)=if iU (s.extract j (nC s j))=false then none else if (bK s i).head?=some 35 then (if q01 a.id=false then none else some (⟨s.extract j (nC s j),a.cls,a.aP⟩,bK s (nC s j))) else if (bK s i).head?=some 46 then (if hasB a.cls (s.extract j (nC s j))=true then none else if 32<=a.cls.length then none else some (⟨a.id,a.cls++[s.extract j (nC s j)],a.aP⟩,bK s (nC s j))) else if (bK s (nC s j)).head?=some 61 then (match eH (bK s (nC s j)).tail with
    | none=>none
    | some (v,r)=>if hasB (keysOf a) (s.extract j (nC s j))=true then none else if 32<=a.aP.length then none
     else some (⟨a.id,a.cls,a.aP++[⟨s.extract j (nC s j),v⟩]⟩,r))
   else none:=by
 unfold dB;rw [h,Bw s j hj,Ga]<;>rfl
theorem Dx (B b:Nat) (a:At) (s:ByteArray) (i:Nat) (vc vp:Value) (w:jqz) (h:qo B b a vc vp w) (hc:a.cls.length<=32) (hp:a.aP.length<=32) (hs:s.size<=100000) (hi:i<s.size) : Calls Tryz.prog 257 #[.pointer (some ⟨b,0,none⟩),.string s,.int .i64 i] w (Yz B b a s i w):=by
 obtain ⟨p0,p1,p2⟩:=h.at3;have HA:=hid h;have hcn:=fT s i hi;clear h;by_cases RB:s[i]=35
 ·have q1:((s[i].toNat:Int)==35)=true:=by rw [RB];rfl
  have hsg:uG (bK s i)=bK s (i+1):=by rw [hcn,RB];rfl
  have HIT:=sU a s i (i+1) hsg (by omega);rw [hcn,RB,List.head?_cons,if_pos rfl] at HIT;rw [<- RB,<- hcn] at HIT;have HIT:=hid HIT;have WE:Hid (∀ w,Calls Tryz.prog 97 #[.string s,.int .i64 ((i:Int)+1)] w fun e w'=>e=.returned (.int .i64 (nC s (i+1):Nat))/\w=w'):=fun w=>jw s (i+1) w (by omega) (by omega)
  have hwl:=rP s (i+1) (by omega);have hwg:i+1<=nC s (i+1):=Nat.le_add_right _ _;generalize nC s (i+1)=T at *;have hvs:(s.extract (i+1) T).size<=1000000000:=by rw [ByteArray.size_extract];omega
  have NM:=hid (fun w=>q22 (s.extract (i+1) T) w hvs);generalize iU (s.extract (i+1) T)=NX at *;clear hcn hsg hvs RB;cases NX with
  | false=>
   go_enter Tryz.func257,Tryz.ntmps257;go_wp2_with fail
   refine (WE.out _).mono ?_;rintro e w1 ⟨rfl,rfl⟩;go_wp2_with fail
   refine (NM.out _).mono ?_;rintro e w2 ⟨rfl,rfl⟩;go_wp2
   go_ret2
   exact ⟨_,_,rfl,Kx.refl _ _ _,.inr ⟨by decide,HIT.out⟩⟩
  | true=>
   have sV:Hid (dB a (bK s i)=if q01 a.id=false then none else some (⟨s.extract (i+1) T,a.cls,a.aP⟩,bK s T)):=HIT.out;cases hem:q01 a.id with
   | false=>
    have hie:a.id.toList.isEmpty=false:=by rw [dF];exact hem
    have Gd:Hid (dB a (bK s i)=none):=by show _=_;rw [sV.out,if_pos hem]
    clear HIT sV hem;go_enter Tryz.func257,Tryz.ntmps257;go_wp2_with fail
    refine (WE.out _).mono ?_;rintro e w1 ⟨rfl,rfl⟩;go_wp2_with fail
    refine (NM.out _).mono ?_;rintro e w2 ⟨rfl,rfl⟩;go_wp2
    go_ret2
    exact ⟨_,_,rfl,Kx.refl _ _ _,.inr ⟨by decide,Gd.out⟩⟩
   | true=>
    have hie:a.id.toList.isEmpty=true:=by rw [dF];exact hem
    have Gd:Hid (dB a (bK s i)=some (⟨s.extract (i+1) T,a.cls,a.aP⟩,bK s T)):=by show _=_;rw [sV.out,hem];rfl
    obtain ⟨fz,HR,HK⟩:=HA.out.jd6 (s.extract (i+1) T);have HR:=hid HR;have HK:=hid HK;clear HIT sV hem;go_enter Tryz.func257,Tryz.ntmps257;go_wp2_with fail
    refine (WE.out _).mono ?_;rintro e w1 ⟨rfl,rfl⟩;go_wp2_with fail
    refine (NM.out _).mono ?_;rintro e w2 ⟨rfl,rfl⟩;go_wp2
    go_ret2
    exact ⟨_,_,rfl,HK.out,.inl ⟨rfl,_,T,hwl,rfl,Gd.out,hc,hp,_,_,HR.out⟩⟩
 ·have q1:((s[i].toNat:Int)==35)=false:=by
   rw [beq_eq_false_iff_ne];intro e;exact RB (by rw [<- UInt8.toNat_inj];show _=35;omega)
  by_cases h46:s[i]=46
  ·have q2:((s[i].toNat:Int)==46)=true:=by rw [h46];rfl
   have hsg:uG (bK s i)=bK s (i+1):=by rw [hcn,h46];rfl
   have HIT:=sU a s i (i+1) hsg (by omega);rw [hcn,h46,List.head?_cons,if_neg (show ¬ (some (46:UInt8)=some 35) by decide),if_pos rfl] at HIT;rw [<- h46,<- hcn] at HIT;have HIT:=hid HIT;have WE:Hid (∀ w,Calls Tryz.prog 97 #[.string s,.int .i64 ((i:Int)+1)] w fun e w'=>e=.returned (.int .i64 (nC s (i+1):Nat))/\w=w'):=fun w=>jw s (i+1) w (by omega) (by omega)
   have hwl:=rP s (i+1) (by omega);have hwg:i+1<=nC s (i+1):=Nat.le_add_right _ _;generalize nC s (i+1)=T at *;have hvs:(s.extract (i+1) T).size<=1000000000:=by rw [ByteArray.size_extract];omega
   have NM:=hid (fun w=>q22 (s.extract (i+1) T) w hvs);have AC:=hid (Dw B b a (s.extract (i+1) T) vc vp w HA.out (by omega));generalize iU (s.extract (i+1) T)=NX at *;clear hcn hsg hvs RB h46 p0 p1 p2;cases NX with
   | false=>
    go_enter Tryz.func257,Tryz.ntmps257;go_wp2_with fail
    refine (WE.out _).mono ?_;rintro e w1 ⟨rfl,rfl⟩;go_wp2_with fail
    refine (NM.out _).mono ?_;rintro e w2 ⟨rfl,rfl⟩;go_wp2
    go_ret2
    exact ⟨_,_,rfl,Kx.refl _ _ _,.inr ⟨by decide,HIT.out⟩⟩
   | true=>
    go_enter Tryz.func257,Tryz.ntmps257;go_wp2_with fail
    refine (WE.out _).mono ?_;rintro e w1 ⟨rfl,rfl⟩;go_wp2_with fail
    refine (NM.out _).mono ?_;rintro e w2 ⟨rfl,rfl⟩;go_wp2_with fail
    refine AC.out.mono ?_;rintro e w3 ⟨n,rfl,hk,hres⟩;have HK:=hid hk;have Dy:=hid hres;clear hk hres;go_wp2
    go_ret2
    refine ⟨_,_,rfl,HK.out,?_⟩;rcases Dy.out with ⟨h1,h2,Rs,Rt,h3⟩ | ⟨h1,h2⟩
    ·refine .inl ⟨h1,⟨a.id,a.cls++[s.extract (i+1) T],a.aP⟩,T,hwl,rfl,?_,?_,hp,_,_,h3⟩
     ·rw [HIT.out,if_neg (by decide),if_neg (fun e=>h2 (.inl e)),if_neg (fun e=>h2 (.inr e))]
     ·simp only [List.length_append,List.length_singleton];have:¬ 32<=a.cls.length:=fun e=>h2 (.inr e)
      omega
    ·refine .inr ⟨h1,?_⟩;rw [HIT.out,if_neg (by decide)];by_cases h4:hasB a.cls (s.extract (i+1) T)=true
     ·rw [if_pos h4]
     ·rw [if_neg h4,if_pos (h2.resolve_left h4)]
  ·have q2:((s[i].toNat:Int)==46)=false:=by
    rw [beq_eq_false_iff_ne];intro e;exact h46 (by rw [<- UInt8.toNat_inj];show _=46;omega)
   have hsg:uG (bK s i)=bK s i:=by
    unfold uG;rw [hcn,List.head?_cons,if_neg];rintro (h | h)
    ·exact RB (jo4 h)
    ·exact h46 (jo4 h)
   have HIT:=sU a s i i hsg (by omega);rw [show (bK s i).head?=some s[i] from rO s i hi,if_neg (fun e=>RB (jo4 e)),if_neg (fun e=>h46 (jo4 e))] at HIT;have HIT:=hid HIT;have WE:Hid (∀ w,Calls Tryz.prog 97 #[.string s,.int .i64 (i:Int)] w fun e w'=>e=.returned (.int .i64 (nC s i:Nat))/\w=w'):=fun w=>jw s i w (by omega) (by omega)
   have hwl:=rP s i (by omega);have hwg:i<=nC s i:=Nat.le_add_right _ _;generalize nC s i=T at *;have hvs:(s.extract i T).size<=1000000000:=by rw [ByteArray.size_extract];omega
   have NM:=hid (fun w=>q22 (s.extract i T) w hvs);generalize iU (s.extract i T)=NX at *;clear hcn hsg hvs RB h46 p0 p1 p2;cases NX with
   | false=>
    go_enter Tryz.func257,Tryz.ntmps257;go_wp2_with fail
    refine (WE.out _).mono ?_;rintro e w1 ⟨rfl,rfl⟩;go_wp2_with fail
    refine (NM.out _).mono ?_;rintro e w2 ⟨rfl,rfl⟩;go_wp2
    go_ret2
    exact ⟨_,_,rfl,Kx.refl _ _ _,.inr ⟨by decide,HIT.out⟩⟩
   | true=>
    by_cases hT:T<s.size
    ·have Yh:=fT s T hT;have q3:decide ((s.size:Int)<=(T:Int))=false:=by simp;omega
     by_cases Zr:s[T]=61
     ·have q4:((s[T].toNat:Int) != 61)=false:=by rw [Zr];rfl
      have sV:Hid (dB a (bK s i)=match eH (bK s (T+1)) with
       | none=>none
       | some (v,r)=>if hasB (keysOf a) (s.extract i T)=true then none else if 32<=a.aP.length then none
        else some (⟨a.id,a.cls,a.aP++[⟨s.extract i T,v⟩]⟩,r)):=by
       show _=_;rw [HIT.out,if_neg (by decide),Yh,Zr];rfl
      have RV:Hid (∀ w,Calls Tryz.prog 276 #[.string s,.int .i64 ((T:Int)+1)] w (Du s (T+1) w)):=fun w=>zV s (T+1) w (by omega) (by omega)
      clear HIT Yh Zr;go_enter Tryz.func257,Tryz.ntmps257;go_wp2_with fail
      refine (WE.out _).mono ?_;rintro e w1 ⟨rfl,rfl⟩;go_wp2_with fail
      refine (NM.out _).mono ?_;rintro e w2 ⟨rfl,rfl⟩;go_wp2_with fail
      refine (RV.out _).mono ?_;rintro e w3 ⟨⟨v,n,bb,rfl,hres⟩,hbel⟩;have HA3:=hid (HA.out.below hbel);have HK3:=hid (Kx.of (b:=b) hbel HA.out.le);have Dy:=hid hres;clear hres hbel;cases bb with
      | false=>
       have Gd:Hid (dB a (bK s i)=none):=by
        show _=_;rcases Dy.out with ⟨h1,_⟩ | ⟨_,h1⟩
        ·cases h1
        ·rw [sV.out,h1]
       clear sV;go_wp2
       go_ret2
       exact ⟨_,_,rfl,HK3.out,.inr ⟨by decide,Gd.out⟩⟩
      | true=>
       obtain ⟨q,hq,rfl,HVq⟩:∃ q:Nat,q<=s.size/\n=q/\Hid (eH (bK s (T+1))=some (v,bK s q)):=by
        rcases Dy.out with ⟨_,h⟩ | ⟨h1,_⟩
        ·exact h
        ·cases h1
       have AP:=hid (Gc B b a (s.extract i T) v vc vp w3 HA3.out (by omega));have Gd:Hid (dB a (bK s i)=if hasB (keysOf a) (s.extract i T)=true then none else if 32<=a.aP.length then none
        else some (⟨a.id,a.cls,a.aP++[⟨s.extract i T,v⟩]⟩,bK s q)):=by show _=_;rw [sV.out,HVq.out]
       clear sV HVq Dy;go_wp2_with fail
       refine AP.out.mono ?_;rintro e w4 ⟨n,rfl,hk,hres⟩;have HK:=hid hk;have Dy:=hid hres;clear hk hres;go_wp2
       go_ret2
       refine ⟨_,_,rfl,HK3.out.trans HK.out,?_⟩;rcases Dy.out with ⟨h1,h2,Rs,Rt,h3⟩ | ⟨h1,h2⟩
       ·refine .inl ⟨h1,⟨a.id,a.cls,a.aP++[⟨s.extract i T,v⟩]⟩,q,hq,rfl,?_,hc,?_,_,_,h3⟩
        ·rw [Gd.out,if_neg (fun e=>h2 (.inl e)),if_neg (fun e=>h2 (.inr e))]
        ·simp only [List.length_append,List.length_singleton];have:¬ 32<=a.aP.length:=fun e=>h2 (.inr e)
         omega
       ·refine .inr ⟨h1,?_⟩;rw [Gd.out];by_cases h4:hasB (keysOf a) (s.extract i T)=true
        ·rw [if_pos h4]
        ·rw [if_neg h4,if_pos (h2.resolve_left h4)]
     ·have q4:((s[T].toNat:Int) != 61)=true:=by rw [bne_iff_ne];intro e;exact Zr (by rw [<- UInt8.toNat_inj];show _=61;omega)
      have sV:Hid (dB a (bK s i)=none):=by show _=_;rw [HIT.out,if_neg (by decide),rO s T hT,if_neg (fun e=>Zr (jo4 e))]
      clear HIT Yh Zr;go_enter Tryz.func257,Tryz.ntmps257;go_wp2_with fail
      refine (WE.out _).mono ?_;rintro e w1 ⟨rfl,rfl⟩;go_wp2_with fail
      refine (NM.out _).mono ?_;rintro e w2 ⟨rfl,rfl⟩;go_wp2
      go_ret2
      exact ⟨_,_,rfl,Kx.refl _ _ _,.inr ⟨by decide,sV.out⟩⟩
    ·have q3:decide ((s.size:Int)<=(T:Int))=true:=by simp;omega
     have sV:Hid (dB a (bK s i)=none):=by show _=_;rw [HIT.out,if_neg (by decide),iD s T (by omega),if_neg (by simp)]
     clear HIT;go_enter Tryz.func257,Tryz.ntmps257;go_wp2_with fail
     refine (WE.out _).mono ?_;rintro e w1 ⟨rfl,rfl⟩;go_wp2_with fail
     refine (NM.out _).mono ?_;rintro e w2 ⟨rfl,rfl⟩;go_wp2
     go_ret2
     exact ⟨_,_,rfl,Kx.refl _ _ _,.inr ⟨by decide,sV.out⟩⟩
end Go.Proofs.YtkfnkeflalcphaaGreatDoor

