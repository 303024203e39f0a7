/- Contracts of attr.wordEnd from any index. The contract of attr.readValue. Contracts of slices.Index and Contains at a row of texts of one's own; attr.Has, attr.Get, addClass, addPair at an attribute of one's own. An attribute of one's own in memory; the contracts of attr.addClass and attr.addPair. The contract of attr.readItem. -/
import Derived.Test.YtclikfjalmcoaaaGreatDoorJRfD
import Derived.Test.YtclikfjalmcoaaaGreatDoorJPlParse
import Derived.Lib.SmallJoins
import Derived.Lib.OwnKind
set_option maxHeartbeats 4000000
set_option maxRecDepth 100000
open Go.Lib (hid)
namespace Go.Proofs.YtclikfjalmcoaaaGreatDoor
open Go.RowKit.Below renaming refl->jc7
open Nat renaming le_refl->jc8
open Option.some renaming inj->jd0
open Go renaming World->jf9
open Go.RowKit
set_option linter.unusedVariables false
set_option linter.unusedSimpArgs false
def bG (s:ByteArray) (i:Nat):List UInt8:=s.data.toList.drop i
theorem kV (s:ByteArray) (i:Nat):(bG s i).length=s.size-i:=by unfold bG;simp
theorem fH (s:ByteArray) (i:Nat) (h:i<s.size):bG s i=s[i]::bG s (i+1):=by
 unfold bG;have h1:i<s.data.toList.length:=by simpa using h
 rw [List.drop_eq_getElem_cons h1];congr 1
theorem gF (s:ByteArray) (i:Nat) (h:s.size<=i):bG s i=[]:=List.drop_eq_nil_of_le (by simpa using h)
theorem qh (s:ByteArray) (i:Nat) (h:i<s.size):(bG s i).head?=some s[i]:=by rw [fH s i h];rfl
def lI (s:ByteArray) (i:Nat):Nat:=i+((bG s i).takeWhile gN).length
theorem qj (s:ByteArray) (i:Nat) (h:i<=s.size):lI s i<=s.size:=by unfold lI;have h1:=(List.takeWhile_sublist (p:=gN) (l:=bG s i)).length_le;rw [kV] at h1;omega
theorem Dp (s:ByteArray) (i:Nat):bG s (lI s i)=(bG s i).dropWhile gN:=by
 unfold lI bG;rw [<- List.drop_drop];generalize s.data.toList.drop i=l;induction l with
 | nil=>rfl
 | cons c l ih=>
  by_cases h:gN c=true
  ·rw [List.takeWhile_cons_of_pos h,List.dropWhile_cons_of_pos h,List.length_cons,List.drop_succ_cons];exact ih
  ·rw [List.takeWhile_cons_of_neg h,List.dropWhile_cons_of_neg h];rfl
theorem yM (s:ByteArray) (i:Nat) (h:i<=s.size):s.extract i (lI s i)=bX ((bG s i).takeWhile gN):=by
 apply ByteArray.ext;apply Array.toList_inj.1;unfold bX;rw [ByteArray.data_extract,Array.toList_extract];have h2:(bG s i).take (lI s i-i)=(bG s i).takeWhile gN:=by
  unfold lI;rw [Nat.add_sub_cancel_left];generalize bG s i=l;induction l with
  | nil=>rfl
  | cons c l ih=>
   by_cases h:gN c=true
   ·rw [List.takeWhile_cons_of_pos h,List.length_cons,List.take_succ_cons,ih]
   ·rw [List.takeWhile_cons_of_neg h];rfl
 rw [<- h2];unfold bG;simp [List.extract_eq_take_drop]
theorem iD (s:ByteArray) (i0:Nat) (w:jf9) (hs:s.size<=1000000000) (hi:i0<=s.size) : Calls Tryz.prog 116 #[.string s,.int .i64 i0] w fun e w'=>e=.returned (.int .i64 (lI s i0:Nat))/\w=w':=by
 obtain ⟨V,hV⟩:∃ V,V=lI s i0:=⟨_,rfl⟩;rw [<- hV];have HV:=hid hV;clear hV;go_enter Tryz.func116,Tryz.ntmps116;go_wp2
 go_loop [1] (fun vi=>∃ k:Nat,i0+k<=s.size/\vi=.int .i64 ((i0+k:Nat):Int)/\∀ j x,j<k->(bG s i0)[j]?=some x->gN x=true) (fun i=>s.size-(intOf i).toNat)
 case atStart=>exact ⟨0,hi,rfl,fun j x hj=>by omega⟩
 case round=>
  obtain ⟨k,hk,rfl,hall⟩:=hrel;have HA:=hid hall;obtain ⟨q,hq⟩:∃ q,q=i0+k:=⟨_,rfl⟩;rw [<- hq] at hk ⊢;have HQ:=hid hq;have hlk:k<=(bG s i0).length:=by rw [kV];omega
  clear hall hq;by_cases hlt:q<s.size
  ·have hgl:=UInt8.toNat_lt s[q];have IN:=hid (fun w=>vO s[q].toNat w hgl);have HG:Hid ((bG s i0)[k]?=some s[q]):=by
    show _=_;unfold bG;rw [List.getElem?_drop];have h1:=fB s q hlt;have h2:i0+k=q:=HQ.out.symm;rw [h2];exact h1
   cases hn:Oi s[q].toNat with
   | true=>
    rw [hn] at IN;have HN:=hid hn;clear hn;go_wp2_with fail
    refine (IN.out _).mono ?_;rintro e w1 ⟨rfl,rfl⟩;go_wp2
    go_round
    case rel=>
     refine ⟨k+1,by have:=HQ.out;omega,by have:=HQ.out;congr 1;omega,fun j x hj hx=>?_⟩;rcases Nat.lt_or_ge j k with h | h
     ·exact HA.out j x h hx
     ·have:j=k:=by omega
      subst this;rw [HG.out] at hx;obtain rfl:=jd0 hx;exact HN.out
    case measure=>simp [intOf];omega
   | false=>
    rw [hn] at IN;have hw:V=q:=by rw [HV.out];unfold lI;rw [qE gN _ k hlk HA.out (fun x hx=>by rw [HG.out] at hx;obtain rfl:=jd0 hx;exact hn)];exact HQ.out.symm
    have HW:=hid hw;clear hn hw;go_wp2_with fail
    refine (IN.out _).mono ?_;rintro e w1 ⟨rfl,rfl⟩;go_wp2;go_ret;exact ⟨by rw [HW.out];rfl,rfl⟩
  ·have hw:V=q:=by
    rw [HV.out];unfold lI;rw [qE gN _ k hlk HA.out (fun x hx=>?_)]
    ·exact HQ.out.symm
    ·have:=(List.getElem?_eq_some_iff.1 hx).1;rw [kV] at this;have:=HQ.out;omega
   have HW:=hid hw;clear hw;go_wp2;go_ret;exact ⟨by rw [HW.out];rfl,rfl⟩
open Go.RowKit
def Ak (s:ByteArray) (i:Nat) (w:jf9) (e:Ending) (w':jf9):Prop:=
 (∃ (v:ByteArray) (n:Int) (b:Bool),e=.returned (.tuple #[.string v,.int .i64 n,.bool b])/\((b=true/\∃ q:Nat,q<=s.size/\n=q/\dZ (bG s i)=some (v,bG s q))\/(b=false/\dZ (bG s i)=none)))/\Below w.heap.size w w'
def Qb (s:ByteArray) (R:Option (List UInt8 × List UInt8)) (w:jf9) (vi:Value) (wr:jf9):Prop:=
 ∃ (i:Nat) (acc:List UInt8),i<=s.size/\vi=.int .i64 i/\bK (bG s i) acc=R/\acc.length<=i/\Lib.IsBuilderF 110 5 w.heap.size w.heap.size (Lib.byteCells acc) wr/\Below w.heap.size w wr
theorem vP (l:List UInt8) (c:UInt8):Lib.byteCells (l++[c])=Lib.byteCells l++[.int .u8 (c.toNat:Int)]:=by simp [Lib.byteCells]
theorem xI (s:ByteArray) (i0:Nat) (w:jf9) (hs:s.size<=1000000) (hi:i0<=s.size) : Calls Tryz.prog 292 #[.string s,.int .i64 i0] w (Ak s i0 w):=by
 by_cases hq:i0<s.size/\bt s i0=34;case neg=>
  have WE:=hid (fun w=>iD s i0 w (by omega) hi);have hwl:=qj s i0 hi;have hwg:i0<=lI s i0:=Nat.le_add_right _ _;have hhd:(bG s i0).head?≠some 34:=by
   intro h;rcases Nat.lt_or_ge i0 s.size with h1 | h1
   ·rw [qh s i0 h1] at h;have h2:s[i0]=34:=jd0 h;exact hq ⟨h1,by rw [<- bO s i0 h1,h2];rfl⟩
   ·rw [gF s i0 h1] at h;cases h
  have Oj:Hid (dZ (bG s i0)=if iQ (s.extract i0 (lI s i0))=true then some (s.extract i0 (lI s i0),bG s (lI s i0)) else none):=by show _=_;unfold dZ;rw [if_neg hhd,yM s i0 hi,Dp]
  have hvs:(s.extract i0 (lI s i0)).size<=1000000000:=by rw [ByteArray.size_extract];omega
  have NM:=hid (fun w=>Gb (s.extract i0 (lI s i0)) w hvs);generalize lI s i0=T at *;obtain ⟨X,hX⟩:∃ X,X=s.extract i0 T:=⟨_,rfl⟩;rw [<- hX] at Oj NM;have HX:=hid hX;have hmn:min (i0:Int) (s.size:Int)=(i0:Int):=by omega
  have hc:(s.size<=i0)\/(i0<s.size/\bt s i0≠34):=by omega
  clear hhd hX hvs hq;generalize iQ X=NX at *;have NM2:Hid (∀ w,Calls Tryz.prog 67 #[.string (s.extract i0 T)] w fun e w'=>e=.returned (.bool NX)/\w=w'):=by show _;rw [<- HX.out];exact NM.out
  have bS:Hid (Ak s i0 w (.returned (.tuple #[.string (s.extract i0 T),.int .i64 (T:Int),.bool NX])) w):=by
   refine ⟨⟨_,_,_,rfl,?_⟩,jc7 _ _⟩;rw [<- HX.out];cases NX with
   | true=>exact .inl ⟨rfl,T,hwl,rfl,by rw [Oj.out,if_pos rfl]⟩
   | false=>exact .inr ⟨rfl,by rw [Oj.out,if_neg (by decide)]⟩
  rcases hc with hc | ⟨hc,hb⟩
  ·have q1:decide ((s.size:Int)<=(i0:Int))=true:=by simp;omega
   go_enter Tryz.func292,Tryz.ntmps292;go_wp2_with fail
   refine (WE.out _).mono ?_;rintro e w1 ⟨rfl,rfl⟩;go_wp2_with fail
   refine (NM2.out _).mono ?_;rintro e w2 ⟨rfl,rfl⟩;go_wp2
   go_ret3
   exact bS.out
  ·have q1:decide ((s.size:Int)<=(i0:Int))=false:=by simp;omega
   have q2:((s[i0].toNat:Int) != 34)=true:=by rw [bO s i0 hc,bne_iff_ne];omega
   go_enter Tryz.func292,Tryz.ntmps292;go_wp2_with fail
   refine (WE.out _).mono ?_;rintro e w1 ⟨rfl,rfl⟩;go_wp2_with fail
   refine (NM2.out _).mono ?_;rintro e w2 ⟨rfl,rfl⟩;go_wp2
   go_ret3
   exact bS.out
 case pos=>
  obtain ⟨Fq,hb0⟩:=hq;have Dq:=fH s i0 Fq;have Fu:s[i0]=34:=by rw [<- UInt8.toNat_inj,bO s i0 Fq];exact hb0
  have Oj:Hid (dZ (bG s i0)=match bK (bG s (i0+1)) [] with
   | none=>none
   | some (v,r)=>if fP (bX v)=true then some (bX v,r) else none):=by
   show _=_;unfold dZ;rw [Dq,Fu];rfl
  obtain ⟨R,hR⟩:∃ R,R=bK (bG s (i0+1)) []:=⟨_,rfl⟩;rw [<- hR] at Oj;have q1:decide ((s.size:Int)<=(i0:Int))=false:=by simp;omega
  have q2:((s[i0].toNat:Int) != 34)=false:=by rw [bO s i0 Fq,hb0];rfl
  obtain ⟨wb,hwb⟩:∃ wb,wb=w.alloc (.cells #[.pointer none,.slice none 0 0] 110):=⟨_,rfl⟩;have R0:Hid (Qb s R w (.int .i64 ((i0+1:Nat):Int)) wb):=by
   refine ⟨i0+1,[],by omega,rfl,hR.symm,Nat.zero_le _,?_,?_⟩
   ·rw [hwb];exact Lib.IsBuilderF.of (Lib.fresh_isBuilder 110 5 w)
   ·rw [hwb];exact (jc7 _ _).alloc (jc8 _) _
  clear Dq Fu hR hb0;go_enter Tryz.func292,Tryz.ntmps292
  (try simp only [List.append_eq,List.cons_append,List.nil_append])
  go_upto_region 6 with (fail)
  rw [<- hwb];clear hwb;go_wp2;have q0:decide (s.size<=i0)=false:=by simp;omega
  simp only [q0];clear q0
  go_loopw [8] (fun vi wr=>Qb s R w vi wr) (fun i _=>s.size-(intOf i).toNat)
  case atStart=>exact R0.out
  case round=>
   clear R0 q1 q2;obtain ⟨i,acc,hi,rfl,hqv,hal,hB,hbel⟩:=hrel;have HB:=hid hB;have Ee:=hid hbel;have Tq:=hid hqv;clear hB hbel hqv;by_cases hlt:i<s.size
   ·have hcn:=fH s i hlt;have eb:=bO s i hlt;by_cases Fu:s[i]=34
    ·have q3:((s[i].toNat:Int)==34)=true:=by rw [Fu];rfl
     have HRV:Hid (R=some (acc,bG s (i+1))):=by show R=_;rw [<- Tq.out,hcn,bK.eq_def];simp only;rw [if_pos Fu]
     have ST:=hid (Tryz.Builder_String_any_k w.heap.size w.heap.size acc wr HB.out Ee.out.size);have hbs:(bX acc).size<=1000000000:=by show acc.toArray.size<=_;simp;omega
     have CV:=hid (fun w=>qC (bX acc) w hbs);have bS:Hid (∀ w',Below w.heap.size w w'->Ak s i0 w (.returned (.tuple #[.string (bX acc),.int .i64 ((i:Int)+1),.bool (fP (bX acc))])) w'):=by
      intro w' hw';refine ⟨⟨_,_,_,rfl,?_⟩,hw'⟩;rw [Oj.out,HRV.out];cases hl:fP (bX acc) with
      | true=>exact .inl ⟨rfl,i+1,by omega,by simp,by simp [hl]⟩
      | false=>exact .inr ⟨rfl,by simp [hl]⟩
     clear hcn Fu eb;generalize fP (bX acc)=LL at *;go_wp2_with fail
     refine ST.out.mono ?_;rintro e w1 ⟨rfl,hB1,b1,-⟩;have HB1:=hid hB1;have BB1:=hid (Ee.out.trans b1);have ST2:=hid (Tryz.Builder_String_any_k w.heap.size w.heap.size acc w1 hB1 BB1.out.size);clear hB1 b1 ST;go_wp2_with fail
     refine ST2.out.mono ?_;rintro e w2 ⟨rfl,-,b2,-⟩;have BB2:=hid (BB1.out.trans b2);clear b2 ST2;go_wp2_with fail
     refine (CV.out _).mono ?_;rintro e w3 ⟨rfl,q,rfl⟩;go_wp2
     go_ret3
     exact bS.out _ (eT BB2.out q)
    ·have q3:((s[i].toNat:Int)==34)=false:=by
      rw [beq_eq_false_iff_ne];intro e;exact Fu (by rw [<- UInt8.toNat_inj];show _=34;omega)
     by_cases ME:s[i]=92
     ·have q4:((s[i].toNat:Int)==92)=true:=by rw [ME];rfl
      by_cases hlt2:i+1<s.size
      ·have Ol:=fH s (i+1) hlt2;have hgl:=UInt8.toNat_lt s[i+1];by_cases hd:s[i+1]=34\/s[i+1]=92
       ·have Tm:Hid (bK (bG s (i+1+1)) (acc++[s[i+1]])=R):=by
         show _=R;rw [<- Tq.out,hcn,Ol]
         conv=>rhs;rw [bK.eq_def]
         simp only;rw [if_neg Fu,if_pos ME,if_pos hd]
        have q5:decide ((s.size:Int)<=(i:Int)+1)=false:=by simp;omega
        have WB:=hid (jl w.heap.size w.heap.size (Lib.byteCells acc) (s[i+1].toNat:Int) wr HB.out (by rw [Lib.byteCells_length];omega) Ee.out.size);have hde:((s[i+1].toNat:Int) != 34)=false\/(((s[i+1].toNat:Int) != 34)=true/\((s[i+1].toNat:Int) != 92)=false):=by
         by_cases he:s[i+1]=34
         ·left;rw [he];rfl
         ·right;refine ⟨?_,by rw [hd.resolve_left he];rfl⟩;rw [bne_iff_ne];intro e;exact he (by rw [<- UInt8.toNat_inj];show _=34;omega)
        have SB:=hid (vP acc s[i+1]);clear hcn Ol hd Fu ME eb;rcases hde with q6 | ⟨q6,q7⟩
        all_goals
         go_wp2_with fail
         refine WB.out.mono ?_;rintro e w1 ⟨rfl,hw1⟩;have HW1:=hid hw1;clear hw1;go_wp2;go_roundw;case rel=>exact ⟨i+1+1,acc++[s[i+1]],by omega,by go_num,Tm.out,by simp;omega,by rw [SB.out];exact HW1.out.1,Ee.out.trans HW1.out.2.1⟩
         case measure=>simp [intOf];omega
       ·have VG:Hid (R=none):=by
         show R=none;rw [<- Tq.out,hcn,Ol,bK.eq_def];simp only;rw [if_neg Fu,if_pos ME,if_neg hd]
        have q5:decide ((s.size:Int)<=(i:Int)+1)=false:=by simp;omega
        have q6:((s[i+1].toNat:Int) != 34)=true:=by rw [bne_iff_ne];intro e;exact hd (.inl (by rw [<- UInt8.toNat_inj];show _=34;omega))
        have q7:((s[i+1].toNat:Int) != 92)=true:=by rw [bne_iff_ne];intro e;exact hd (.inr (by rw [<- UInt8.toNat_inj];show _=92;omega))
        clear hcn Ol hd Fu ME eb;go_wp2
        go_ret3
        exact ⟨⟨_,_,_,rfl,.inr ⟨rfl,by rw [Oj.out,VG.out]⟩⟩,Ee.out⟩
      ·have VG:Hid (R=none):=by
        show R=none;rw [<- Tq.out,hcn,gF s (i+1) (by omega),bK.eq_def];simp only;rw [if_neg Fu,if_pos ME]
       have q5:decide ((s.size:Int)<=(i:Int)+1)=true:=by simp;omega
       clear hcn Fu ME eb;go_wp2
       go_ret3
       exact ⟨⟨_,_,_,rfl,.inr ⟨rfl,by rw [Oj.out,VG.out]⟩⟩,Ee.out⟩
     ·have q4:((s[i].toNat:Int)==92)=false:=by
       rw [beq_eq_false_iff_ne];intro e;exact ME (by rw [<- UInt8.toNat_inj];show _=92;omega)
      have Tm:Hid (bK (bG s (i+1)) (acc++[s[i]])=R):=by
       show _=R;rw [<- Tq.out,hcn]
       conv=>rhs;rw [bK.eq_def]
       simp only;rw [if_neg Fu,if_neg ME]
      have hgl:=UInt8.toNat_lt s[i];have WB:=hid (jl w.heap.size w.heap.size (Lib.byteCells acc) (s[i].toNat:Int) wr HB.out (by rw [Lib.byteCells_length];omega) Ee.out.size);have SB:=hid (vP acc s[i]);clear hcn Fu ME eb;go_wp2_with fail
      refine WB.out.mono ?_;rintro e w1 ⟨rfl,hw1⟩;have HW1:=hid hw1;clear hw1;go_wp2;go_roundw;case rel=>exact ⟨i+1,acc++[s[i]],by omega,by go_num,Tm.out,by simp;omega,by rw [SB.out];exact HW1.out.1,Ee.out.trans HW1.out.2.1⟩
      case measure=>simp [intOf];omega
   ·have VG:Hid (R=none):=by
     show R=none;rw [<- Tq.out,gF s i (by omega),bK.eq_def]
    go_wp2
    go_ret3
    exact ⟨⟨_,_,_,rfl,.inr ⟨rfl,by rw [Oj.out,VG.out]⟩⟩,Ee.out⟩
open Go.RowKit
theorem yN (l:List ByteArray) (k:Nat) (y x:ByteArray) (h:l[k]?=some y):hasB (l.drop k) x=(decide (y=x)||hasB (l.drop (k+1)) x):=by rw [JB l k y h];rfl
theorem IJ (l:List ByteArray) (x:ByteArray) (B:Nat) (v:Value) (w:jf9) (h:w.ownsRow B 9 1 v l.length (l.map Value.string)) (hl:l.length<=100000) : Calls Tryz.prog 305 #[v,.string x] w fun e w'=>∃ n:Int,e=.returned (.int .i64 n)/\decide (0<=n)=hasB l x/\w'=w:=by
 obtain ⟨av,cv,rfl⟩:=qP h;obtain ⟨V,hV⟩:∃ V,V=hasB l x:=⟨_,rfl⟩;rw [<- hV];have H:=hid h;have HV:=hid hV;clear hV h;go_enter Tryz.func305,Tryz.ntmps305;go_wp2
 go_loop [8] (fun vi=>∃ k:Nat,k<=l.length/\vi=.int .i64 k/\V=hasB (l.drop k) x) (fun i=>l.length-(intOf i).toNat)
 case atStart=>exact ⟨0,Nat.zero_le _,rfl,HV.out⟩
 case round=>
  obtain ⟨k,hk,rfl,hv⟩:=hrel;by_cases hlt:k<l.length
  ·obtain ⟨y,hy⟩:∃ y,l[k]?=some y:=⟨_,List.getElem?_eq_getElem hlt⟩;obtain ⟨g,cap,RY,hcap⟩:=gI H.out (by omega);obtain ⟨rfl,rfl⟩:av=some ⟨g,0,none⟩/\cv=cap:=by simpa using RY
   have c0:w.cell? ⟨g,k,none⟩=some (.string y):=by rw [H.out.cellAt k (by omega),List.getElem?_map,hy];rfl
   rw [yN l k y x hy] at hv;have Lm:=hid hv;clear hv hy RY HV;by_cases he:y=x
   ·subst he;have q1:(y.toList==y.toList)=true:=beq_self_eq_true _;go_wp2;go_ret;exact ⟨_,rfl,by rw [Lm.out];simp,rfl⟩
   ·have q1:(x.toList==y.toList)=false:=JK (fun e=>he e.symm);have RZ:Hid (V=hasB (l.drop (k+1)) x):=by show V=_;rw [Lm.out];simp [he]
    clear Lm he;go_wp2
    go_round
    case rel=>exact ⟨k+1,by omega,by go_num,RZ.out⟩
    case measure=>simp [intOf];omega
  ·have Lm:Hid (V=false):=by show V=false;rw [hv,List.drop_eq_nil_of_le (by omega)];rfl
   clear hv HV;go_wp2;go_ret;exact ⟨_,rfl,by rw [Lm.out];rfl,rfl⟩
theorem Al (l:List ByteArray) (x:ByteArray) (B:Nat) (v:Value) (w:jf9) (h:w.ownsRow B 9 1 v l.length (l.map Value.string)) (hl:l.length<=100000) : Calls Tryz.prog 304 #[v,.string x] w fun e w'=>e=.returned (.bool (hasB l x))/\w'=w:=by
 obtain ⟨av,cv,rfl⟩:=qP h;have IX:=hid (IJ l x B _ w h hl);obtain ⟨V,hV⟩:∃ V,V=hasB l x:=⟨_,rfl⟩;rw [<- hV] at IX ⊢;clear hV h;go_enter Tryz.func304,Tryz.ntmps304;go_wp2_with fail
 refine IX.out.mono ?_;rintro e w1 ⟨n,rfl,hn,rfl⟩;have HN:=hid hn;clear hn;go_wp2;go_ret;exact ⟨by rw [<- HN.out];rfl,rfl⟩
theorem Om (l:List ByteArray) (x id:ByteArray) (B:Nat) (v vp:Value) (w:jf9) (h:w.ownsRow B 9 1 v l.length (l.map Value.string)) (hl:l.length<=100000) : Calls Tryz.prog 301 #[.agg #[.string id,v,vp],.string x] w (dJ (.bool (hasB l x)) w):=by
 obtain ⟨av,cv,rfl⟩:=qP h;have CT:=hid (Al l x B _ (w.alloc (.cells #[.string id,.slice av l.length cv,vp] 27)) (h.alloc _) hl);obtain ⟨V,hV⟩:∃ V,V=hasB l x:=⟨_,rfl⟩;rw [<- hV] at CT ⊢;clear hV h;go_enter Tryz.func301,Tryz.ntmps301;go_wp2_with fail
 refine CT.out.mono ?_;rintro e w1 ⟨rfl,rfl⟩;go_wp2;go_ret;exact ⟨rfl,(jc7 _ _).alloc (jc8 _) _⟩
def Tt (p:Pr):List Value:=[.string p.key,.string p.val]
def Oo (l:List Pr):List Value:=(l.map Tt).flatten
theorem sw (l:List Pr) (k:Nat) (p:Pr) (h:l[k]?=some p):(Oo l)[k*2]?=some (.string p.key)/\(Oo l)[k*2+1]?=some (.string p.val):=by
 have h2:∀ r∈l.map Tt,r.length=2:=by intro r hr;obtain ⟨q,_,rfl⟩:=List.mem_map.1 hr;rfl
 have hr:(l.map Tt)[k]?=some (Tt p):=by rw [List.getElem?_map,h];rfl
 exact ⟨flat_get 2 _ h2 k 0 _ _ hr rfl,flat_get 2 _ h2 k 1 _ _ hr rfl⟩
def R5 (V:Bool) (w:jf9) (e:Ending) (w':jf9):Prop:=∃ u:ByteArray,e=.returned (.tuple #[.string u,.bool V])/\Below w.heap.size w w'
theorem Oq (l:List Pr) (x id:ByteArray) (B:Nat) (v vc:Value) (w:jf9) (h:w.ownsRow B 74 2 v l.length (Oo l)) (hl:l.length<=100000) : Calls Tryz.prog 302 #[.agg #[.string id,vc,v],.string x] w (R5 (hasB (l.map Pr.key) x) w):=by
 obtain ⟨av,cv,rfl⟩:=qP h;obtain ⟨V,hV⟩:∃ V,V=hasB (l.map Pr.key) x:=⟨_,rfl⟩;rw [<- hV];have H:=hid h;have HV:=hid hV;clear hV h;obtain ⟨w1,hw1⟩:∃ w1,w1=w.alloc (.cells #[.string id,vc,.slice av l.length cv] 27):=⟨_,rfl⟩;have B1:Hid (Below w.heap.size w w1):=by show Below _ _ _;rw [hw1];exact (jc7 _ _).alloc (jc8 _) _
 go_enter Tryz.func302,Tryz.ntmps302;go_wp2;rw [<- hw1];clear hw1
 go_loopw [11] (fun vi wr=>∃ k:Nat,k<=l.length/\vi=.int .i64 k/\V=hasB ((l.map Pr.key).drop k) x/\Below w.heap.size w wr) (fun i _=>l.length-(intOf i).toNat)
 case atStart=>exact ⟨0,Nat.zero_le _,rfl,HV.out,B1.out⟩
 case round=>
  obtain ⟨k,hk,rfl,hv,hbel⟩:=hrel;by_cases hlt:k<l.length
  ·obtain ⟨p,hp⟩:∃ p,l[k]?=some p:=⟨_,List.getElem?_eq_getElem hlt⟩;obtain ⟨g,cap,RY,hcap⟩:=gI H.out (by omega);obtain ⟨rfl,rfl⟩:av=some ⟨g,0,none⟩/\cv=cap:=by simpa using RY
   have hH:=q1z H.out hbel;have c0:wr.cell? ⟨g,k*2,none⟩=some (.string p.key):=by rw [hH.cellAt (k*2) (by omega)];exact (sw l k p hp).1
   have c1:wr.cell? ⟨g,k*2+1,none⟩=some (.string p.val):=by rw [hH.cellAt (k*2+1) (by omega)];exact (sw l k p hp).2
   rw [yN (l.map Pr.key) k p.key x (by rw [List.getElem?_map,hp];rfl)] at hv;have Lm:=hid hv;have HB:=hid hbel;clear hv hp RY HV hbel hH;by_cases he:p.key=x
   ·subst he;have q1:(p.key.toList==p.key.toList)=true:=beq_self_eq_true _;go_wp2
    go_ret2
    exact ⟨p.val,by rw [Lm.out];simp,aQ HB.out ((jc7 _ _).alloc (jc8 _) _)⟩
   ·have q1:(p.key.toList==x.toList)=false:=JK he;have RZ:Hid (V=hasB ((l.map Pr.key).drop (k+1)) x):=by show V=_;rw [Lm.out];simp [he]
    clear Lm he;go_wp2;go_roundw;case rel=>exact ⟨k+1,by omega,by go_num,RZ.out,aQ HB.out ((jc7 _ _).alloc (jc8 _) _)⟩
    case measure=>simp [intOf];omega
  ·have Lm:Hid (V=false):=by show V=false;rw [hv,List.drop_eq_nil_of_le (by simp;omega)];rfl
   have HB:=hid hbel;clear hv HV hbel;go_wp2
   go_ret2
   exact ⟨⟨#[]⟩,by rw [Lm.out];rfl,HB.out⟩
open Go.RowKit
structure Kx (B b:Nat) (w w':jf9):Prop where
 os:w'.os=w.os
 tape:w'.tape=w.tape
 output:w'.output=w.output
 size:w.heap.size<=w'.heap.size
 block:∀ k,k<B->k≠b->w'.heap[k]?=w.heap[k]?
section
variable {B b:Nat} {w w' w1 w2:jf9}
theorem Kx.refl (B b:Nat) (w:jf9):Kx B b w w:=⟨rfl,rfl,rfl,jc8 _,fun _ _ _=>rfl⟩
theorem Kx.trans (h:Kx B b w w1) (k:Kx B b w1 w2):Kx B b w w2:=
 ⟨k.os.trans h.os,k.tape.trans h.tape,k.output.trans h.output,Nat.le_trans h.size k.size,fun i h1 h2=>(k.block i h1 h2).trans (h.block i h1 h2)⟩
theorem Kx.of (h:Below w.heap.size w w1) (hB:B<=w.heap.size):Kx B b w w1:=⟨h.os,h.tape,h.output,h.size,fun i h1 _=>h.block i (by omega)⟩
theorem Kx.grown {row:Option Nat} (h:w.grownBy w1 row) (hB:B<=w.heap.size) (hr:∀ g,row=some g->B<=g):Kx B b w w1:=
 ⟨h.os,h.tape,h.output,h.size,fun i h1 _=>h.block i (by omega) (fun e=>by have:=hr i e.symm;omega)⟩
theorem Kx.set (w:jf9) (j:Nat) (u:Value):Kx B b w (w.setCell ⟨b,j,none⟩ u):=
 ⟨rfl,rfl,rfl,by simp [World.setCell],fun i _ h2=>Below.heap_setCell w ⟨b,j,none⟩ u i h2⟩
end
structure oG (B b:Nat) (a:At) (vc vp:Value) (w:jf9):Prop where
 ab:AB b [.string a.id,vc,vp] w
 cls:w.ownsRow B 9 1 vc a.cls.length (a.cls.map Value.string)
 aH:w.ownsRow B 74 2 vp a.aH.length (Oo a.aH)
 lt:b<B
 le:B<=w.heap.size
section
variable {B b:Nat} {a:At} {vc vp v1:Value} {w w1 w2:jf9}
theorem oG.below (h:oG B b a vc vp w) (hb:Below w.heap.size w w1):oG B b a vc vp w1:=
 ⟨(hb.block b h.ab.lt).trans h.ab,q1z h.cls hb,q1z h.aH hb,h.lt,Nat.le_trans h.le hb.size⟩
theorem oG.apart (h:oG B b a vc vp w):vc.ownBlock=none\/vc.ownBlock≠vp.ownBlock:=by
 cases hc:vc.ownBlock with
 | none=>exact .inl rfl
 | some g=>
  right;intro e;obtain ⟨c1,f1,e1⟩:=Lib.ownsRow_kind h.cls g hc;obtain ⟨c2,f2,e2⟩:=Lib.ownsRow_kind h.aH g e.symm;rw [e1] at e2;simp at e2
theorem oG.apart' (h:oG B b a vc vp w):vp.ownBlock=none\/vp.ownBlock≠vc.ownBlock:=by
 rcases h.apart with h1 | h1
 ·cases hc:vp.ownBlock with
  | none=>exact .inl rfl
  | some g=>right;rw [h1];simp
 ·exact .inr fun e=>h1 e.symm
theorem oG.at3 (h:oG B b a vc vp w):w.cell? ⟨b,0,none⟩=some (.string a.id)/\w.cell? ⟨b,1,none⟩=some vc/\w.cell? ⟨b,2,none⟩=some vp:=
 ⟨h.ab.cell 0 _ rfl,h.ab.cell 1 _ rfl,h.ab.cell 2 _ rfl⟩
theorem oG.VH {x:ByteArray} {o:Obj} (h:oG B b a vc vp w) (hg:(w.alloc o).grownBy w1 vc.ownBlock) (hown:w1.ownsRow B 9 1 v1 (a.cls.length+1) (a.cls.map Value.string++[.string x])) : w1.frozen? ⟨b,1,none⟩=false/\w1.cell? ⟨b,1,none⟩=some vc/\oG B b ⟨a.id,a.cls++[x],a.aH⟩ v1 vp (w1.setCell ⟨b,1,none⟩ v1)/\Kx B b w (w1.setCell ⟨b,1,none⟩ v1):=by
 have hal:Below w.heap.size w (w.alloc o):=(jc7 _ _).alloc (jc8 _) _;have h0:=h.below hal;have hr:∀ g,vc.ownBlock=some g->B<=g:=fun g hgv=>(h.cls.lt g hgv).1
 have Fv:AB b [.string a.id,vc,vp] w1:=(hg.block b h0.ab.lt (fun e=>by have:=hr b e.symm;have:=h.lt;omega)).trans h0.ab;refine ⟨Fv.free 1,Fv.cell 1 _ rfl,⟨Fv.set 1 v1,?_,?_,h.lt,?_⟩,?_⟩
 ·exact ownsRow_setCell_below (by simpa using hown) h.lt v1
 ·exact ownsRow_setCell_below (h0.aH.kept hg h.apart') h.lt v1
 ·exact Nat.le_trans h0.le (by simpa [World.setCell] using hg.size)
 ·exact ((Kx.of hal h.le).trans (Kx.grown hg h0.le hr)).trans (Kx.set w1 1 v1)
theorem oG.pushP {x:Pr} {o:Obj} (h:oG B b a vc vp w) (hg:(w.alloc o).grownBy w1 vp.ownBlock) (hown:w1.ownsRow B 74 2 v1 (a.aH.length+1) (Oo a.aH++Tt x)) : w1.frozen? ⟨b,2,none⟩=false/\w1.cell? ⟨b,2,none⟩=some vp/\oG B b ⟨a.id,a.cls,a.aH++[x]⟩ vc v1 (w1.setCell ⟨b,2,none⟩ v1)/\Kx B b w (w1.setCell ⟨b,2,none⟩ v1):=by
 have hal:Below w.heap.size w (w.alloc o):=(jc7 _ _).alloc (jc8 _) _;have h0:=h.below hal;have hr:∀ g,vp.ownBlock=some g->B<=g:=fun g hgv=>(h.aH.lt g hgv).1
 have Fv:AB b [.string a.id,vc,vp] w1:=(hg.block b h0.ab.lt (fun e=>by have:=hr b e.symm;have:=h.lt;omega)).trans h0.ab;refine ⟨Fv.free 2,Fv.cell 2 _ rfl,⟨Fv.set 2 v1,?_,?_,h.lt,?_⟩,?_⟩
 ·exact ownsRow_setCell_below (h0.cls.kept hg h.apart) h.lt v1
 ·refine ownsRow_setCell_below ?_ h.lt v1;have e:Oo (a.aH++[x])=Oo a.aH++Tt x:=by simp [Oo]
  rw [e];simpa using hown
 ·exact Nat.le_trans h0.le (by simpa [World.setCell] using hg.size)
 ·exact ((Kx.of hal h.le).trans (Kx.grown hg h0.le hr)).trans (Kx.set w1 2 v1)
theorem oG.VI (h:oG B b a vc vp w) (x:ByteArray):w.frozen? ⟨b,0,none⟩=false/\oG B b ⟨x,a.cls,a.aH⟩ vc vp (w.setCell ⟨b,0,none⟩ (.string x))/\Kx B b w (w.setCell ⟨b,0,none⟩ (.string x)):=
 ⟨h.ab.free 0,⟨h.ab.set 0 _,ownsRow_setCell_below h.cls h.lt _,ownsRow_setCell_below h.aH h.lt _,h.lt,by simpa [World.setCell] using h.le⟩,Kx.set w 0 _⟩
end
def Lp (B b:Nat) (a a':At) (bad:Prop) (w:jf9) (e:Ending) (w':jf9):Prop:=
 ∃ n:Int,e=.returned (.int .i64 n)/\Kx B b w w'/\((n=0/\¬ bad/\∃ vc vp,oG B b a' vc vp w')\/(n≠0/\bad))
theorem Am (B b:Nat) (a:At) (x:ByteArray) (vc vp:Value) (w:jf9) (h:oG B b a vc vp w) (hc:a.cls.length<=100000) : Calls Tryz.prog 291 #[.pointer (some ⟨b,0,none⟩),.string x] w (Lp B b a ⟨a.id,a.cls++[x],a.aH⟩ (hasB a.cls x=true\/32<=a.cls.length) w):=by
 obtain ⟨i0,hi0,hz0,hz1,hz2⟩:=info_parts Gg;obtain ⟨av,cv,rfl⟩:=qP h.cls;obtain ⟨p0,p1,p2⟩:=h.at3;have HA:=hid h;have HH:=hid (Om a.cls x a.id B _ vp w h.cls hc);obtain ⟨V,hV⟩:∃ V,V=hasB a.cls x:=⟨_,rfl⟩;rw [<- hV] at HH;have HV:=hid hV;clear hV h;cases V with
 | true=>
  go_enter Tryz.func291,Tryz.ntmps291;go_wp2_with fail
  refine HH.out.mono ?_;rintro e w1 ⟨rfl,hb1⟩;have HB:=hid hb1;clear hb1 p0 p1 p2;go_wp2;go_ret;exact ⟨_,rfl,Kx.of HB.out HA.out.le,.inr ⟨by decide,.inl HV.out.symm⟩⟩
 | false=>
  by_cases h32:32<=a.cls.length
  ·have q1:decide ((32:Int)<=(a.cls.length:Int))=true:=by simp;omega
   go_enter Tryz.func291,Tryz.ntmps291;go_wp2_with fail
   refine HH.out.mono ?_;rintro e w1 ⟨rfl,hb1⟩;have HA1:=hid (HA.out.below hb1);have HB:=hid hb1;clear hb1 p0 p1 p2;obtain ⟨p0,p1,p2⟩:=HA1.out.at3;go_wp2;go_ret;exact ⟨_,rfl,Kx.of HB.out HA.out.le,.inr ⟨by decide,.inr h32⟩⟩
  ·have q1:decide ((32:Int)<=(a.cls.length:Int))=false:=by simp;omega
   go_enter Tryz.func291,Tryz.ntmps291;go_wp2_with fail
   refine HH.out.mono ?_;rintro e w1 ⟨rfl,hb1⟩;have HA1:=hid (HA.out.below hb1);have HB:=hid hb1;clear hb1 p0 p1 p2;obtain ⟨p0,p1,p2⟩:=HA1.out.at3;go_wp2_with (at_builtin;refine MJ _ rfl (.tmp 20) (.tmp 22) 24 rfl B 9 i0 _ 1 16 Tryz.underlying24 hi0 hz0 hz1 hz2 rfl (by decide) (.slice av a.cls.length cv) a.cls.length (a.cls.map Value.string) rfl (HA1.out.cls.alloc _) (w1.heap.size+1) (some ⟨w1.heap.size,0,none⟩) 1 1 [.string x] rfl ?g1 ?g2 ?g3 ?g4 ?g5 ?_)
   case g1=>exact ⟨rfl,fun _=>⟨_,rfl,by simp,Mi w1 [.string x] _⟩⟩
   case g2=>intro u hu;simp at hu;subst hu;rfl
   case g3=>unfold maxLen;omega
   case g4=>omega
   case g5=>have:=HA1.out.le;simp;omega
   intro v1 w2 hown hg _;obtain ⟨a1,c1,rfl⟩:=qP hown;obtain ⟨fz,fc,HR,HK⟩:=HA1.out.VH hg hown;have HR:=hid HR;have HK:=hid HK;clear hown hg p0 p1 p2;go_wp2;go_ret;exact ⟨_,rfl,(Kx.of HB.out HA.out.le).trans HK.out,.inl ⟨rfl,by rintro (h | h);(rw [<- HV.out] at h;cases h);omega,_,_,HR.out⟩⟩
theorem Dt (B b:Nat) (a:At) (x y:ByteArray) (vc vp:Value) (w:jf9) (h:oG B b a vc vp w) (hc:a.aH.length<=100000) : Calls Tryz.prog 293 #[.pointer (some ⟨b,0,none⟩),.string x,.string y] w (Lp B b a ⟨a.id,a.cls,a.aH++[⟨x,y⟩]⟩ (hasB (keysOf a) x=true\/32<=a.aH.length) w):=by
 obtain ⟨i0,hi0,hz0,hz1,hz2⟩:=info_parts qH;obtain ⟨av,cv,rfl⟩:=qP h.aH;obtain ⟨p0,p1,p2⟩:=h.at3;have HA:=hid h;have HH:=hid (Oq a.aH x a.id B _ vc w h.aH hc);obtain ⟨V,hV⟩:∃ V,V=hasB (keysOf a) x:=⟨_,rfl⟩;have hV2:hasB (a.aH.map Pr.key) x=V:=hV.symm;rw [hV2] at HH;have HV:=hid hV;clear hV hV2 h;cases V with
 | true=>
  go_enter Tryz.func293,Tryz.ntmps293;go_wp2_with fail
  refine HH.out.mono ?_;rintro e w1 ⟨u,rfl,hb1⟩;have HB:=hid hb1;clear hb1 p0 p1 p2;go_wp2;go_ret;exact ⟨_,rfl,Kx.of HB.out HA.out.le,.inr ⟨by decide,.inl HV.out.symm⟩⟩
 | false=>
  by_cases h32:32<=a.aH.length
  ·have q1:decide ((32:Int)<=(a.aH.length:Int))=true:=by simp;omega
   go_enter Tryz.func293,Tryz.ntmps293;go_wp2_with fail
   refine HH.out.mono ?_;rintro e w1 ⟨u,rfl,hb1⟩;have HA1:=hid (HA.out.below hb1);have HB:=hid hb1;clear hb1 p0 p1 p2;obtain ⟨p0,p1,p2⟩:=HA1.out.at3;go_wp2;go_ret;exact ⟨_,rfl,Kx.of HB.out HA.out.le,.inr ⟨by decide,.inr h32⟩⟩
  ·have q1:decide ((32:Int)<=(a.aH.length:Int))=false:=by simp;omega
   go_enter Tryz.func293,Tryz.ntmps293;go_wp2_with fail
   refine HH.out.mono ?_;rintro e w1 ⟨u,rfl,hb1⟩;have HA1:=hid (HA.out.below hb1);have HB:=hid hb1;clear hb1 p0 p1 p2;obtain ⟨p0,p1,p2⟩:=HA1.out.at3;go_wp2_with (at_builtin;refine MJ _ rfl (.tmp 28) (.tmp 32) 25 rfl B 74 i0 _ 2 32 Tryz.underlying25 hi0 hz0 hz1 hz2 rfl (by decide) (.slice av a.aH.length cv) a.aH.length (Oo a.aH) rfl (HA1.out.aH.alloc _) (w1.heap.size+1) (some ⟨w1.heap.size,0,none⟩) 1 1 [.string x,.string y] rfl ?g1 ?g2 ?g3 ?g4 ?g5 ?_)
   case g1=>exact ⟨rfl,fun _=>⟨_,rfl,by simp,Mi w1 [.string x,.string y] _⟩⟩
   case g2=>intro u hu;simp at hu;rcases hu with rfl | rfl<;>rfl
   case g3=>unfold maxLen;omega
   case g4=>omega
   case g5=>have:=HA1.out.le;simp;omega
   intro v1 w2 hown hg _;obtain ⟨a1,c1,rfl⟩:=qP hown;obtain ⟨fz,fc,HR,HK⟩:=HA1.out.pushP (x:=⟨x,y⟩) hg hown;have HR:=hid HR;have HK:=hid HK;clear hown hg p0 p1 p2;go_wp2;go_ret;exact ⟨_,rfl,(Kx.of HB.out HA.out.le).trans HK.out,.inl ⟨rfl,by rintro (h | h);(rw [<- HV.out] at h;cases h);omega,_,_,HR.out⟩⟩
open Go.RowKit
def R7 (B b:Nat) (a:At) (s:ByteArray) (i:Nat) (w:jf9) (e:Ending) (w':jf9):Prop:=
 ∃ (t n:Int),e=.returned (.tuple #[.int .i64 t,.int .i64 n])/\Kx B b w w' /\
  ((n=0/\∃ (a':At) (q:Nat),q<=s.size/\t=q/\cu a (bG s i)=some (a',bG s q)/\a'.cls.length<=32/\a'.aH.length<=32/\∃ vc vp,oG B b a' vc vp w')\/(n≠0/\cu a (bG s i)=none))
theorem qY (a:At) (s:ByteArray) (i j:Nat) (h:sD (bG s i)=bG s j) (hj:j<=s.size) : cu a (bG s i)=if iQ (s.extract j (lI s j))=false then none else if (bG s i).head?=some 35 then (if aW a.id=false then none else some (⟨s.extract j (lI s j),a.cls,a.aH⟩,bG s (lI s j))) else if (bG s i).head?=some 46 then (if hasB a.cls (s.extract j (lI s j))=true then none else if 32<=a.cls.length then none else some (⟨a.id,a.cls++[s.extract j (lI s j)],a.aH⟩,bG s (lI s j))) else if (bG s (lI s j)).head?=some 61 then (match dZ (bG s (lI s j)).tail with
    | none=>none
    | some (v,r)=>if hasB (keysOf a) (s.extract j (lI s j))=true then none else if 32<=a.aH.length then none
     else some (⟨a.id,a.cls,a.aH++[⟨s.extract j (lI s j),v⟩]⟩,r))
   else none:=by
 unfold cu;rw [h,yM s j hj,Dp];rfl
theorem Ao (B b:Nat) (a:At) (s:ByteArray) (i:Nat) (vc vp:Value) (w:jf9) (h:oG B b a vc vp w) (hc:a.cls.length<=32) (hp:a.aH.length<=32) (hs:s.size<=100000) (hi:i<s.size) : Calls Tryz.prog 275 #[.pointer (some ⟨b,0,none⟩),.string s,.int .i64 i] w (R7 B b a s i w):=by
 obtain ⟨p0,p1,p2⟩:=h.at3;have HA:=hid h;have hcn:=fH s i hi;clear h;by_cases MF:s[i]=35
 ·have q1:((s[i].toNat:Int)==35)=true:=by rw [MF];rfl
  have hsg:sD (bG s i)=bG s (i+1):=by rw [hcn,MF];rfl
  have HIT:=qY a s i (i+1) hsg (by omega);rw [hcn,MF,List.head?_cons,if_pos rfl] at HIT;rw [<- MF,<- hcn] at HIT;have HIT:=hid HIT;have WE:Hid (∀ w,Calls Tryz.prog 116 #[.string s,.int .i64 ((i:Int)+1)] w fun e w'=>e=.returned (.int .i64 (lI s (i+1):Nat))/\w=w'):=fun w=>iD s (i+1) w (by omega) (by omega)
  have hwl:=qj s (i+1) (by omega);have hwg:i+1<=lI s (i+1):=Nat.le_add_right _ _;generalize lI s (i+1)=T at *;have hvs:(s.extract (i+1) T).size<=1000000000:=by rw [ByteArray.size_extract];omega
  have NM:=hid (fun w=>Gb (s.extract (i+1) T) w hvs);generalize iQ (s.extract (i+1) T)=NX at *;clear hcn hsg hvs MF;cases NX with
  | false=>
   go_enter Tryz.func275,Tryz.ntmps275;go_wp2_with fail
   refine (WE.out _).mono ?_;rintro e w1 ⟨rfl,rfl⟩;go_wp2_with fail
   refine (NM.out _).mono ?_;rintro e w2 ⟨rfl,rfl⟩;go_wp2
   go_ret2
   exact ⟨_,_,rfl,Kx.refl _ _ _,.inr ⟨by decide,HIT.out⟩⟩
  | true=>
   have qZ:Hid (cu a (bG s i)=if aW a.id=false then none else some (⟨s.extract (i+1) T,a.cls,a.aH⟩,bG s T)):=HIT.out;cases hem:aW a.id with
   | false=>
    have hie:a.id.toList.isEmpty=false:=by rw [dw];exact hem
    have Du:Hid (cu a (bG s i)=none):=by show _=_;rw [qZ.out,if_pos hem]
    clear HIT qZ hem;go_enter Tryz.func275,Tryz.ntmps275;go_wp2_with fail
    refine (WE.out _).mono ?_;rintro e w1 ⟨rfl,rfl⟩;go_wp2_with fail
    refine (NM.out _).mono ?_;rintro e w2 ⟨rfl,rfl⟩;go_wp2
    go_ret2
    exact ⟨_,_,rfl,Kx.refl _ _ _,.inr ⟨by decide,Du.out⟩⟩
   | true=>
    have hie:a.id.toList.isEmpty=true:=by rw [dw];exact hem
    have Du:Hid (cu a (bG s i)=some (⟨s.extract (i+1) T,a.cls,a.aH⟩,bG s T)):=by show _=_;rw [qZ.out,hem];rfl
    obtain ⟨fz,HR,HK⟩:=HA.out.VI (s.extract (i+1) T);have HR:=hid HR;have HK:=hid HK;clear HIT qZ hem;go_enter Tryz.func275,Tryz.ntmps275;go_wp2_with fail
    refine (WE.out _).mono ?_;rintro e w1 ⟨rfl,rfl⟩;go_wp2_with fail
    refine (NM.out _).mono ?_;rintro e w2 ⟨rfl,rfl⟩;go_wp2
    go_ret2
    exact ⟨_,_,rfl,HK.out,.inl ⟨rfl,_,T,hwl,rfl,Du.out,hc,hp,_,_,HR.out⟩⟩
 ·have q1:((s[i].toNat:Int)==35)=false:=by
   rw [beq_eq_false_iff_ne];intro e;exact MF (by rw [<- UInt8.toNat_inj];show _=35;omega)
  by_cases h46:s[i]=46
  ·have q2:((s[i].toNat:Int)==46)=true:=by rw [h46];rfl
   have hsg:sD (bG s i)=bG s (i+1):=by rw [hcn,h46];rfl
   have HIT:=qY a s i (i+1) hsg (by omega);rw [hcn,h46,List.head?_cons,if_neg (show ¬ (some (46:UInt8)=some 35) by decide),if_pos rfl] at HIT;rw [<- h46,<- hcn] at HIT;have HIT:=hid HIT;have WE:Hid (∀ w,Calls Tryz.prog 116 #[.string s,.int .i64 ((i:Int)+1)] w fun e w'=>e=.returned (.int .i64 (lI s (i+1):Nat))/\w=w'):=fun w=>iD s (i+1) w (by omega) (by omega)
   have hwl:=qj s (i+1) (by omega);have hwg:i+1<=lI s (i+1):=Nat.le_add_right _ _;generalize lI s (i+1)=T at *;have hvs:(s.extract (i+1) T).size<=1000000000:=by rw [ByteArray.size_extract];omega
   have NM:=hid (fun w=>Gb (s.extract (i+1) T) w hvs);have AC:=hid (Am B b a (s.extract (i+1) T) vc vp w HA.out (by omega));generalize iQ (s.extract (i+1) T)=NX at *;clear hcn hsg hvs MF h46 p0 p1 p2;cases NX with
   | false=>
    go_enter Tryz.func275,Tryz.ntmps275;go_wp2_with fail
    refine (WE.out _).mono ?_;rintro e w1 ⟨rfl,rfl⟩;go_wp2_with fail
    refine (NM.out _).mono ?_;rintro e w2 ⟨rfl,rfl⟩;go_wp2
    go_ret2
    exact ⟨_,_,rfl,Kx.refl _ _ _,.inr ⟨by decide,HIT.out⟩⟩
   | true=>
    go_enter Tryz.func275,Tryz.ntmps275;go_wp2_with fail
    refine (WE.out _).mono ?_;rintro e w1 ⟨rfl,rfl⟩;go_wp2_with fail
    refine (NM.out _).mono ?_;rintro e w2 ⟨rfl,rfl⟩;go_wp2_with fail
    refine AC.out.mono ?_;rintro e w3 ⟨n,rfl,hk,hres⟩;have HK:=hid hk;have Ap:=hid hres;clear hk hres;go_wp2
    go_ret2
    refine ⟨_,_,rfl,HK.out,?_⟩;rcases Ap.out with ⟨h1,h2,Mx,MB,h3⟩ | ⟨h1,h2⟩
    ·refine .inl ⟨h1,⟨a.id,a.cls++[s.extract (i+1) T],a.aH⟩,T,hwl,rfl,?_,?_,hp,_,_,h3⟩
     ·rw [HIT.out,if_neg (by decide),if_neg (fun e=>h2 (.inl e)),if_neg (fun e=>h2 (.inr e))]
     ·simp only [List.length_append,List.length_singleton];have:¬ 32<=a.cls.length:=fun e=>h2 (.inr e)
      omega
    ·refine .inr ⟨h1,?_⟩;rw [HIT.out,if_neg (by decide)];by_cases h4:hasB a.cls (s.extract (i+1) T)=true
     ·rw [if_pos h4]
     ·rw [if_neg h4,if_pos (h2.resolve_left h4)]
  ·have q2:((s[i].toNat:Int)==46)=false:=by
    rw [beq_eq_false_iff_ne];intro e;exact h46 (by rw [<- UInt8.toNat_inj];show _=46;omega)
   have hsg:sD (bG s i)=bG s i:=by
    unfold sD;rw [hcn,List.head?_cons,if_neg];rintro (h | h)
    ·exact MF (jd0 h)
    ·exact h46 (jd0 h)
   have HIT:=qY a s i i hsg (by omega);rw [show (bG s i).head?=some s[i] from qh s i hi,if_neg (fun e=>MF (jd0 e)),if_neg (fun e=>h46 (jd0 e))] at HIT;have HIT:=hid HIT;have WE:Hid (∀ w,Calls Tryz.prog 116 #[.string s,.int .i64 (i:Int)] w fun e w'=>e=.returned (.int .i64 (lI s i:Nat))/\w=w'):=fun w=>iD s i w (by omega) (by omega)
   have hwl:=qj s i (by omega);have hwg:i<=lI s i:=Nat.le_add_right _ _;generalize lI s i=T at *;have hvs:(s.extract i T).size<=1000000000:=by rw [ByteArray.size_extract];omega
   have NM:=hid (fun w=>Gb (s.extract i T) w hvs);generalize iQ (s.extract i T)=NX at *;clear hcn hsg hvs MF h46 p0 p1 p2;cases NX with
   | false=>
    go_enter Tryz.func275,Tryz.ntmps275;go_wp2_with fail
    refine (WE.out _).mono ?_;rintro e w1 ⟨rfl,rfl⟩;go_wp2_with fail
    refine (NM.out _).mono ?_;rintro e w2 ⟨rfl,rfl⟩;go_wp2
    go_ret2
    exact ⟨_,_,rfl,Kx.refl _ _ _,.inr ⟨by decide,HIT.out⟩⟩
   | true=>
    by_cases hT:T<s.size
    ·have Zh:=fH s T hT;have q3:decide ((s.size:Int)<=(T:Int))=false:=by simp;omega
     by_cases Tv:s[T]=61
     ·have q4:((s[T].toNat:Int) != 61)=false:=by rw [Tv];rfl
      have qZ:Hid (cu a (bG s i)=match dZ (bG s (T+1)) with
       | none=>none
       | some (v,r)=>if hasB (keysOf a) (s.extract i T)=true then none else if 32<=a.aH.length then none
        else some (⟨a.id,a.cls,a.aH++[⟨s.extract i T,v⟩]⟩,r)):=by
       show _=_;rw [HIT.out,if_neg (by decide),Zh,Tv];rfl
      have RV:Hid (∀ w,Calls Tryz.prog 292 #[.string s,.int .i64 ((T:Int)+1)] w (Ak s (T+1) w)):=fun w=>xI s (T+1) w (by omega) (by omega)
      clear HIT Zh Tv;go_enter Tryz.func275,Tryz.ntmps275;go_wp2_with fail
      refine (WE.out _).mono ?_;rintro e w1 ⟨rfl,rfl⟩;go_wp2_with fail
      refine (NM.out _).mono ?_;rintro e w2 ⟨rfl,rfl⟩;go_wp2_with fail
      refine (RV.out _).mono ?_;rintro e w3 ⟨⟨v,n,bb,rfl,hres⟩,hbel⟩;have Zi:=hid (HA.out.below hbel);have HK3:=hid (Kx.of (b:=b) hbel HA.out.le);have Ap:=hid hres;clear hres hbel;cases bb with
      | false=>
       have Du:Hid (cu a (bG s i)=none):=by
        show _=_;rcases Ap.out with ⟨h1,_⟩ | ⟨_,h1⟩
        ·cases h1
        ·rw [qZ.out,h1]
       clear qZ;go_wp2
       go_ret2
       exact ⟨_,_,rfl,HK3.out,.inr ⟨by decide,Du.out⟩⟩
      | true=>
       obtain ⟨q,hq,rfl,HVq⟩:∃ q:Nat,q<=s.size/\n=q/\Hid (dZ (bG s (T+1))=some (v,bG s q)):=by
        rcases Ap.out with ⟨_,h⟩ | ⟨h1,_⟩
        ·exact h
        ·cases h1
       have AP:=hid (Dt B b a (s.extract i T) v vc vp w3 Zi.out (by omega));have Du:Hid (cu a (bG s i)=if hasB (keysOf a) (s.extract i T)=true then none else if 32<=a.aH.length then none
        else some (⟨a.id,a.cls,a.aH++[⟨s.extract i T,v⟩]⟩,bG s q)):=by show _=_;rw [qZ.out,HVq.out]
       clear qZ HVq Ap;go_wp2_with fail
       refine AP.out.mono ?_;rintro e w4 ⟨n,rfl,hk,hres⟩;have HK:=hid hk;have Ap:=hid hres;clear hk hres;go_wp2
       go_ret2
       refine ⟨_,_,rfl,HK3.out.trans HK.out,?_⟩;rcases Ap.out with ⟨h1,h2,Mx,MB,h3⟩ | ⟨h1,h2⟩
       ·refine .inl ⟨h1,⟨a.id,a.cls,a.aH++[⟨s.extract i T,v⟩]⟩,q,hq,rfl,?_,hc,?_,_,_,h3⟩
        ·rw [Du.out,if_neg (fun e=>h2 (.inl e)),if_neg (fun e=>h2 (.inr e))]
        ·simp only [List.length_append,List.length_singleton];have:¬ 32<=a.aH.length:=fun e=>h2 (.inr e)
         omega
       ·refine .inr ⟨h1,?_⟩;rw [Du.out];by_cases h4:hasB (keysOf a) (s.extract i T)=true
        ·rw [if_pos h4]
        ·rw [if_neg h4,if_pos (h2.resolve_left h4)]
     ·have q4:((s[T].toNat:Int) != 61)=true:=by rw [bne_iff_ne];intro e;exact Tv (by rw [<- UInt8.toNat_inj];show _=61;omega)
      have qZ:Hid (cu a (bG s i)=none):=by show _=_;rw [HIT.out,if_neg (by decide),qh s T hT,if_neg (fun e=>Tv (jd0 e))]
      clear HIT Zh Tv;go_enter Tryz.func275,Tryz.ntmps275;go_wp2_with fail
      refine (WE.out _).mono ?_;rintro e w1 ⟨rfl,rfl⟩;go_wp2_with fail
      refine (NM.out _).mono ?_;rintro e w2 ⟨rfl,rfl⟩;go_wp2
      go_ret2
      exact ⟨_,_,rfl,Kx.refl _ _ _,.inr ⟨by decide,qZ.out⟩⟩
    ·have q3:decide ((s.size:Int)<=(T:Int))=true:=by simp;omega
     have qZ:Hid (cu a (bG s i)=none):=by show _=_;rw [HIT.out,if_neg (by decide),gF s T (by omega),if_neg (by simp)]
     clear HIT;go_enter Tryz.func275,Tryz.ntmps275;go_wp2_with fail
     refine (WE.out _).mono ?_;rintro e w1 ⟨rfl,rfl⟩;go_wp2_with fail
     refine (NM.out _).mono ?_;rintro e w2 ⟨rfl,rfl⟩;go_wp2
     go_ret2
     exact ⟨_,_,rfl,Kx.refl _ _ _,.inr ⟨by decide,qZ.out⟩⟩
end Go.Proofs.YtclikfjalmcoaaaGreatDoor

