/- Contracts of attr.wordEnd from any index. The contract of attr.readValue. Contracts of slices.Index and Contains at a row of texts of one's own; attr.Has, attr.Get, addClass, addPair at an attribute of one's own. An attribute of one's own in memory; the contracts of attr.addClass and attr.addPair. The contract of attr.readItem. -/
import Derived.Test.YtdneicipdlofiaaGreatDoorKPlParse
import Derived.Lib.SmallJoins
import Derived.Lib.OwnKind
set_option maxHeartbeats 4000000
set_option maxRecDepth 100000
open Go.Lib (hid)
namespace Go.Proofs.YtdneicipdlofiaaGreatDoor
open Go.RowKit.Below renaming refl->jox
open Nat renaming le_refl->joz
open Option.some renaming inj->jp7
open Go renaming World->js1
open Go.RowKit
set_option linter.unusedVariables false
set_option linter.unusedSimpArgs false
def bB (s:ByteArray) (i:Nat):List UInt8:=s.data.toList.drop i
theorem lN (s:ByteArray) (i:Nat):(bB s i).length=s.size-i:=by unfold bB;simp
theorem fG (s:ByteArray) (i:Nat) (h:i<s.size):bB s i=s[i]::bB s (i+1):=by
 unfold bB;have h1:i<s.data.toList.length:=by simpa using h
 rw [List.drop_eq_getElem_cons h1];congr 1
theorem gN (s:ByteArray) (i:Nat) (h:s.size<=i):bB s i=[]:=List.drop_eq_nil_of_le (by simpa using h)
theorem rD (s:ByteArray) (i:Nat) (h:i<s.size):(bB s i).head?=some s[i]:=by rw [fG s i h];rfl
def mh (s:ByteArray) (i:Nat):Nat:=i+((bB s i).takeWhile fP).length
theorem rE (s:ByteArray) (i:Nat) (h:i<=s.size):mh s i<=s.size:=by unfold mh;have h1:=(List.takeWhile_sublist (p:=fP) (l:=bB s i)).length_le;rw [lN] at h1;omega
theorem FK (s:ByteArray) (i:Nat):bB s (mh s i)=(bB s i).dropWhile fP:=by
 unfold mh bB;rw [<- List.drop_drop];generalize s.data.toList.drop i=l;induction l with
 | nil=>rfl
 | cons c l ih=>
  by_cases h:fP c=true
  ·rw [List.takeWhile_cons_of_pos h,List.dropWhile_cons_of_pos h,List.length_cons,List.drop_succ_cons];exact ih
  ·rw [List.takeWhile_cons_of_neg h,List.dropWhile_cons_of_neg h];rfl
theorem Bd (s:ByteArray) (i:Nat) (h:i<=s.size):s.extract i (mh s i)=bR ((bB s i).takeWhile fP):=by
 apply ByteArray.ext;apply Array.toList_inj.1;unfold bR;rw [ByteArray.data_extract,Array.toList_extract];have h2:(bB s i).take (mh s i-i)=(bB s i).takeWhile fP:=by
  unfold mh;rw [Nat.add_sub_cancel_left];generalize bB s i=l;induction l with
  | nil=>rfl
  | cons c l ih=>
   by_cases h:fP c=true
   ·rw [List.takeWhile_cons_of_pos h,List.length_cons,List.take_succ_cons,ih]
   ·rw [List.takeWhile_cons_of_neg h];rfl
 rw [<- h2];unfold bB;simp [List.extract_eq_take_drop]
theorem iW (s:ByteArray) (i0:Nat) (w:js1) (hs:s.size<=1000000000) (hi:i0<=s.size) : Calls Tryz.prog 103 #[.string s,.int .i64 i0] w fun e w'=>e=.returned (.int .i64 (mh s i0:Nat))/\w=w':=by
 obtain ⟨V,hV⟩:∃ V,V=mh s i0:=⟨_,rfl⟩;rw [<- hV];have HV:=hid hV;clear hV;go_enter Tryz.func103,Tryz.ntmps103;go_wp2
 go_loop [1] (fun vi=>∃ k:Nat,i0+k<=s.size/\vi=.int .i64 ((i0+k:Nat):Int)/\∀ j x,j<k->(bB s i0)[j]?=some x->fP x=true) (fun i=>s.size-(intOf i).toNat)
 case atStart=>exact ⟨0,hi,rfl,fun j x hj=>by omega⟩
 case round=>
  obtain ⟨k,hk,rfl,hall⟩:=hrel;have HA:=hid hall;obtain ⟨q,hq⟩:∃ q,q=i0+k:=⟨_,rfl⟩;rw [<- hq] at hk ⊢;have HQ:=hid hq;have hlk:k<=(bB s i0).length:=by rw [lN];omega
  clear hall hq;by_cases hlt:q<s.size
  ·have hgl:=UInt8.toNat_lt s[q];have IN:=hid (fun w=>xR s[q].toNat w hgl);have HG:Hid ((bB s i0)[k]?=some s[q]):=by
    show _=_;unfold bB;rw [List.getElem?_drop];have h1:=fF s q hlt;have h2:i0+k=q:=HQ.out.symm;rw [h2];exact h1
   cases hn:Rb s[q].toNat with
   | true=>
    rw [hn] at IN;have HN:=hid hn;clear hn;go_wp2_with fail
    refine (IN.out _).mono ?_;rintro e w1 ⟨rfl,rfl⟩;go_wp2
    go_round
    case rel=>
     refine ⟨k+1,by have:=HQ.out;omega,by have:=HQ.out;congr 1;omega,fun j x hj hx=>?_⟩;rcases Nat.lt_or_ge j k with h | h
     ·exact HA.out j x h hx
     ·have:j=k:=by omega
      subst this;rw [HG.out] at hx;obtain rfl:=jp7 hx;exact HN.out
    case measure=>simp [intOf];omega
   | false=>
    rw [hn] at IN;have hw:V=q:=by rw [HV.out];unfold mh;rw [sS fP _ k hlk HA.out (fun x hx=>by rw [HG.out] at hx;obtain rfl:=jp7 hx;exact hn)];exact HQ.out.symm
    have HW:=hid hw;clear hn hw;go_wp2_with fail
    refine (IN.out _).mono ?_;rintro e w1 ⟨rfl,rfl⟩;go_wp2;go_ret;exact ⟨by rw [HW.out];rfl,rfl⟩
  ·have hw:V=q:=by
    rw [HV.out];unfold mh;rw [sS fP _ k hlk HA.out (fun x hx=>?_)]
    ·exact HQ.out.symm
    ·have:=(List.getElem?_eq_some_iff.1 hx).1;rw [lN] at this;have:=HQ.out;omega
   have HW:=hid hw;clear hw;go_wp2;go_ret;exact ⟨by rw [HW.out];rfl,rfl⟩
open Go.RowKit
def Db (s:ByteArray) (i:Nat) (w:js1) (e:Ending) (w':js1):Prop:=
 (∃ (v:ByteArray) (n:Int) (b:Bool),e=.returned (.tuple #[.string v,.int .i64 n,.bool b])/\((b=true/\∃ q:Nat,q<=s.size/\n=q/\dS (bB s i)=some (v,bB s q))\/(b=false/\dS (bB s i)=none)))/\Below w.heap.size w w'
def VF (s:ByteArray) (R:Option (List UInt8 × List UInt8)) (w:js1) (vi:Value) (wr:js1):Prop:=
 ∃ (i:Nat) (acc:List UInt8),i<=s.size/\vi=.int .i64 i/\bI (bB s i) acc=R/\acc.length<=i/\Lib.IsBuilderF 117 5 w.heap.size w.heap.size (Lib.byteCells acc) wr/\Below w.heap.size w wr
theorem xS (l:List UInt8) (c:UInt8):Lib.byteCells (l++[c])=Lib.byteCells l++[.int .u8 (c.toNat:Int)]:=by simp [Lib.byteCells]
theorem zH (s:ByteArray) (i0:Nat) (w:js1) (hs:s.size<=1000000) (hi:i0<=s.size) : Calls Tryz.prog 317 #[.string s,.int .i64 i0] w (Db s i0 w):=by
 by_cases hq:i0<s.size/\bt s i0=34;case neg=>
  have WE:=hid (fun w=>iW s i0 w (by omega) hi);have hwl:=rE s i0 hi;have hwg:i0<=mh s i0:=Nat.le_add_right _ _;have hhd:(bB s i0).head?≠some 34:=by
   intro h;rcases Nat.lt_or_ge i0 s.size with h1 | h1
   ·rw [rD s i0 h1] at h;have h2:s[i0]=34:=jp7 h;exact hq ⟨h1,by rw [<- bN s i0 h1,h2];rfl⟩
   ·rw [gN s i0 h1] at h;cases h
  have Gs:Hid (dS (bB s i0)=if fO (s.extract i0 (mh s i0))=true then some (s.extract i0 (mh s i0),bB s (mh s i0)) else none):=by show _=_;unfold dS;rw [if_neg hhd,Bd s i0 hi,FK]
  have hvs:(s.extract i0 (mh s i0)).size<=1000000000:=by rw [ByteArray.size_extract];omega
  have NM:=hid (fun w=>MV (s.extract i0 (mh s i0)) w hvs);generalize mh s i0=T at *;obtain ⟨X,hX⟩:∃ X,X=s.extract i0 T:=⟨_,rfl⟩;rw [<- hX] at Gs NM;have HX:=hid hX;have hmn:min (i0:Int) (s.size:Int)=(i0:Int):=by omega
  have hc:(s.size<=i0)\/(i0<s.size/\bt s i0≠34):=by omega
  clear hhd hX hvs hq;generalize fO X=NX at *;have NM2:Hid (∀ w,Calls Tryz.prog 54 #[.string (s.extract i0 T)] w fun e w'=>e=.returned (.bool NX)/\w=w'):=by show _;rw [<- HX.out];exact NM.out
  have qz:Hid (Db s i0 w (.returned (.tuple #[.string (s.extract i0 T),.int .i64 (T:Int),.bool NX])) w):=by
   refine ⟨⟨_,_,_,rfl,?_⟩,jox _ _⟩;rw [<- HX.out];cases NX with
   | true=>exact .inl ⟨rfl,T,hwl,rfl,by rw [Gs.out,if_pos rfl]⟩
   | false=>exact .inr ⟨rfl,by rw [Gs.out,if_neg (by decide)]⟩
  rcases hc with hc | ⟨hc,hb⟩
  ·have q1:decide ((s.size:Int)<=(i0:Int))=true:=by simp;omega
   go_enter Tryz.func317,Tryz.ntmps317;go_wp2_with fail
   refine (WE.out _).mono ?_;rintro e w1 ⟨rfl,rfl⟩;go_wp2_with fail
   refine (NM2.out _).mono ?_;rintro e w2 ⟨rfl,rfl⟩;go_wp2
   go_ret3
   exact qz.out
  ·have q1:decide ((s.size:Int)<=(i0:Int))=false:=by simp;omega
   have q2:((s[i0].toNat:Int) != 34)=true:=by rw [bN s i0 hc,bne_iff_ne];omega
   go_enter Tryz.func317,Tryz.ntmps317;go_wp2_with fail
   refine (WE.out _).mono ?_;rintro e w1 ⟨rfl,rfl⟩;go_wp2_with fail
   refine (NM2.out _).mono ?_;rintro e w2 ⟨rfl,rfl⟩;go_wp2
   go_ret3
   exact qz.out
 case pos=>
  obtain ⟨IE,hb0⟩:=hq;have FL:=fG s i0 IE;have IG:s[i0]=34:=by rw [<- UInt8.toNat_inj,bN s i0 IE];exact hb0
  have Gs:Hid (dS (bB s i0)=match bI (bB s (i0+1)) [] with
   | none=>none
   | some (v,r)=>if iA (bR v)=true then some (bR v,r) else none):=by
   show _=_;unfold dS;rw [FL,IG];rfl
  obtain ⟨R,hR⟩:∃ R,R=bI (bB s (i0+1)) []:=⟨_,rfl⟩;rw [<- hR] at Gs;have q1:decide ((s.size:Int)<=(i0:Int))=false:=by simp;omega
  have q2:((s[i0].toNat:Int) != 34)=false:=by rw [bN s i0 IE,hb0];rfl
  obtain ⟨wb,hwb⟩:∃ wb,wb=w.alloc (.cells #[.pointer none,.slice none 0 0] 117):=⟨_,rfl⟩;have R0:Hid (VF s R w (.int .i64 ((i0+1:Nat):Int)) wb):=by
   refine ⟨i0+1,[],by omega,rfl,hR.symm,Nat.zero_le _,?_,?_⟩
   ·rw [hwb];exact Lib.IsBuilderF.of (Lib.fresh_isBuilder 117 5 w)
   ·rw [hwb];exact (jox _ _).alloc (joz _) _
  clear FL IG hR hb0;go_enter Tryz.func317,Tryz.ntmps317
  (try simp only [List.append_eq,List.cons_append,List.nil_append])
  go_upto_region 6 with (fail)
  rw [<- hwb];clear hwb;go_wp2;have q0:decide (s.size<=i0)=false:=by simp;omega
  simp only [q0];clear q0
  go_loopw [8] (fun vi wr=>VF s R w vi wr) (fun i _=>s.size-(intOf i).toNat)
  case atStart=>exact R0.out
  case round=>
   clear R0 q1 q2;obtain ⟨i,acc,hi,rfl,hqv,hal,hB,hbel⟩:=hrel;have HB:=hid hB;have El:=hid hbel;have U9:=hid hqv;clear hB hbel hqv;by_cases hlt:i<s.size
   ·have hcn:=fG s i hlt;have eb:=bN s i hlt;by_cases IG:s[i]=34
    ·have q3:((s[i].toNat:Int)==34)=true:=by rw [IG];rfl
     have HRV:Hid (R=some (acc,bB s (i+1))):=by show R=_;rw [<- U9.out,hcn,bI.eq_def];simp only;rw [if_pos IG]
     have ST:=hid (Tryz.Builder_String_any_k w.heap.size w.heap.size acc wr HB.out El.out.size);have hbs:(bR acc).size<=1000000000:=by show acc.toArray.size<=_;simp;omega
     have CV:=hid (fun w=>Bf (bR acc) w hbs);have qz:Hid (∀ w',Below w.heap.size w w'->Db s i0 w (.returned (.tuple #[.string (bR acc),.int .i64 ((i:Int)+1),.bool (iA (bR acc))])) w'):=by
      intro w' hw';refine ⟨⟨_,_,_,rfl,?_⟩,hw'⟩;rw [Gs.out,HRV.out];cases hl:iA (bR acc) with
      | true=>exact .inl ⟨rfl,i+1,by omega,by simp,by simp [hl]⟩
      | false=>exact .inr ⟨rfl,by simp [hl]⟩
     clear hcn IG eb;generalize iA (bR acc)=LL at *;go_wp2_with fail
     refine ST.out.mono ?_;rintro e w1 ⟨rfl,hB1,b1,-⟩;have HB1:=hid hB1;have BB1:=hid (El.out.trans b1);have ST2:=hid (Tryz.Builder_String_any_k w.heap.size w.heap.size acc w1 hB1 BB1.out.size);clear hB1 b1 ST;go_wp2_with fail
     refine ST2.out.mono ?_;rintro e w2 ⟨rfl,-,b2,-⟩;have BB2:=hid (BB1.out.trans b2);clear b2 ST2;go_wp2_with fail
     refine (CV.out _).mono ?_;rintro e w3 ⟨rfl,q,rfl⟩;go_wp2
     go_ret3
     exact qz.out _ (eZ BB2.out q)
    ·have q3:((s[i].toNat:Int)==34)=false:=by
      rw [beq_eq_false_iff_ne];intro e;exact IG (by rw [<- UInt8.toNat_inj];show _=34;omega)
     by_cases Rc:s[i]=92
     ·have q4:((s[i].toNat:Int)==92)=true:=by rw [Rc];rfl
      by_cases hlt2:i+1<s.size
      ·have TI:=fG s (i+1) hlt2;have hgl:=UInt8.toNat_lt s[i+1];by_cases hd:s[i+1]=34\/s[i+1]=92
       ·have Gn:Hid (bI (bB s (i+1+1)) (acc++[s[i+1]])=R):=by
         show _=R;rw [<- U9.out,hcn,TI]
         conv=>rhs;rw [bI.eq_def]
         simp only;rw [if_neg IG,if_pos Rc,if_pos hd]
        have q5:decide ((s.size:Int)<=(i:Int)+1)=false:=by simp;omega
        have WB:=hid (mE w.heap.size w.heap.size (Lib.byteCells acc) (s[i+1].toNat:Int) wr HB.out (by rw [Lib.byteCells_length];omega) El.out.size);have hde:((s[i+1].toNat:Int) != 34)=false\/(((s[i+1].toNat:Int) != 34)=true/\((s[i+1].toNat:Int) != 92)=false):=by
         by_cases he:s[i+1]=34
         ·left;rw [he];rfl
         ·right;refine ⟨?_,by rw [hd.resolve_left he];rfl⟩;rw [bne_iff_ne];intro e;exact he (by rw [<- UInt8.toNat_inj];show _=34;omega)
        have Jw:=hid (xS acc s[i+1]);clear hcn TI hd IG Rc eb;rcases hde with q6 | ⟨q6,q7⟩
        all_goals
         go_wp2_with fail
         refine WB.out.mono ?_;rintro e w1 ⟨rfl,hw1⟩;have HW1:=hid hw1;clear hw1;go_wp2;go_roundw;case rel=>exact ⟨i+1+1,acc++[s[i+1]],by omega,by go_num,Gn.out,by simp;omega,by rw [Jw.out];exact HW1.out.1,El.out.trans HW1.out.2.1⟩
         case measure=>simp [intOf];omega
       ·have HRN:Hid (R=none):=by
         show R=none;rw [<- U9.out,hcn,TI,bI.eq_def];simp only;rw [if_neg IG,if_pos Rc,if_neg hd]
        have q5:decide ((s.size:Int)<=(i:Int)+1)=false:=by simp;omega
        have q6:((s[i+1].toNat:Int) != 34)=true:=by rw [bne_iff_ne];intro e;exact hd (.inl (by rw [<- UInt8.toNat_inj];show _=34;omega))
        have q7:((s[i+1].toNat:Int) != 92)=true:=by rw [bne_iff_ne];intro e;exact hd (.inr (by rw [<- UInt8.toNat_inj];show _=92;omega))
        clear hcn TI hd IG Rc eb;go_wp2
        go_ret3
        exact ⟨⟨_,_,_,rfl,.inr ⟨rfl,by rw [Gs.out,HRN.out]⟩⟩,El.out⟩
      ·have HRN:Hid (R=none):=by
        show R=none;rw [<- U9.out,hcn,gN s (i+1) (by omega),bI.eq_def];simp only;rw [if_neg IG,if_pos Rc]
       have q5:decide ((s.size:Int)<=(i:Int)+1)=true:=by simp;omega
       clear hcn IG Rc eb;go_wp2
       go_ret3
       exact ⟨⟨_,_,_,rfl,.inr ⟨rfl,by rw [Gs.out,HRN.out]⟩⟩,El.out⟩
     ·have q4:((s[i].toNat:Int)==92)=false:=by
       rw [beq_eq_false_iff_ne];intro e;exact Rc (by rw [<- UInt8.toNat_inj];show _=92;omega)
      have Gn:Hid (bI (bB s (i+1)) (acc++[s[i]])=R):=by
       show _=R;rw [<- U9.out,hcn]
       conv=>rhs;rw [bI.eq_def]
       simp only;rw [if_neg IG,if_neg Rc]
      have hgl:=UInt8.toNat_lt s[i];have WB:=hid (mE w.heap.size w.heap.size (Lib.byteCells acc) (s[i].toNat:Int) wr HB.out (by rw [Lib.byteCells_length];omega) El.out.size);have Jw:=hid (xS acc s[i]);clear hcn IG Rc eb;go_wp2_with fail
      refine WB.out.mono ?_;rintro e w1 ⟨rfl,hw1⟩;have HW1:=hid hw1;clear hw1;go_wp2;go_roundw;case rel=>exact ⟨i+1,acc++[s[i]],by omega,by go_num,Gn.out,by simp;omega,by rw [Jw.out];exact HW1.out.1,El.out.trans HW1.out.2.1⟩
      case measure=>simp [intOf];omega
   ·have HRN:Hid (R=none):=by
     show R=none;rw [<- U9.out,gN s i (by omega),bI.eq_def]
    go_wp2
    go_ret3
    exact ⟨⟨_,_,_,rfl,.inr ⟨rfl,by rw [Gs.out,HRN.out]⟩⟩,El.out⟩
open Go.RowKit
theorem Bg (l:List ByteArray) (k:Nat) (y x:ByteArray) (h:l[k]?=some y):fu (l.drop k) x=(decide (y=x)||fu (l.drop (k+1)) x):=by rw [NJ l k y h];rfl
theorem Mj (l:List ByteArray) (x:ByteArray) (B:Nat) (v:Value) (w:js1) (h:w.ownsRow B 9 1 v l.length (l.map Value.string)) (hl:l.length<=100000) : Calls Tryz.prog 151 #[v,.string x] w fun e w'=>∃ n:Int,e=.returned (.int .i64 n)/\decide (0<=n)=fu l x/\w'=w:=by
 obtain ⟨av,cv,rfl⟩:=q01 h;obtain ⟨V,hV⟩:∃ V,V=fu l x:=⟨_,rfl⟩;rw [<- hV];have H:=hid h;have HV:=hid hV;clear hV h;go_enter Tryz.func151,Tryz.ntmps151;go_wp2
 go_loop [8] (fun vi=>∃ k:Nat,k<=l.length/\vi=.int .i64 k/\V=fu (l.drop k) x) (fun i=>l.length-(intOf i).toNat)
 case atStart=>exact ⟨0,Nat.zero_le _,rfl,HV.out⟩
 case round=>
  obtain ⟨k,hk,rfl,hv⟩:=hrel;by_cases hlt:k<l.length
  ·obtain ⟨y,hy⟩:∃ y,l[k]?=some y:=⟨_,List.getElem?_eq_getElem hlt⟩;obtain ⟨g,cap,TJ,hcap⟩:=eB H.out (by omega);obtain ⟨rfl,rfl⟩:av=some ⟨g,0,none⟩/\cv=cap:=by simpa using TJ
   have c0:w.cell? ⟨g,k,none⟩=some (.string y):=by rw [H.out.cellAt k (by omega),List.getElem?_map,hy];rfl
   rw [Bg l k y x hy] at hv;have zm:=hid hv;clear hv hy TJ HV;by_cases he:y=x
   ·subst he;have q1:(y.toList==y.toList)=true:=beq_self_eq_true _;go_wp2;go_ret;exact ⟨_,rfl,by rw [zm.out];simp,rfl⟩
   ·have q1:(x.toList==y.toList)=false:=Cu (fun e=>he e.symm);have Yb:Hid (V=fu (l.drop (k+1)) x):=by show V=_;rw [zm.out];simp [he]
    clear zm he;go_wp2
    go_round
    case rel=>exact ⟨k+1,by omega,by go_num,Yb.out⟩
    case measure=>simp [intOf];omega
  ·have zm:Hid (V=false):=by show V=false;rw [hv,List.drop_eq_nil_of_le (by omega)];rfl
   clear hv HV;go_wp2;go_ret;exact ⟨_,rfl,by rw [zm.out];rfl,rfl⟩
theorem Dc (l:List ByteArray) (x:ByteArray) (B:Nat) (v:Value) (w:js1) (h:w.ownsRow B 9 1 v l.length (l.map Value.string)) (hl:l.length<=100000) : Calls Tryz.prog 110 #[v,.string x] w fun e w'=>e=.returned (.bool (fu l x))/\w'=w:=by
 obtain ⟨av,cv,rfl⟩:=q01 h;have IX:=hid (Mj l x B _ w h hl);obtain ⟨V,hV⟩:∃ V,V=fu l x:=⟨_,rfl⟩;rw [<- hV] at IX ⊢;clear hV h;go_enter Tryz.func110,Tryz.ntmps110;go_wp2_with fail
 refine IX.out.mono ?_;rintro e w1 ⟨n,rfl,hn,rfl⟩;have HN:=hid hn;clear hn;go_wp2;go_ret;exact ⟨by rw [<- HN.out];rfl,rfl⟩
theorem TK (l:List ByteArray) (x id:ByteArray) (B:Nat) (v vp:Value) (w:js1) (h:w.ownsRow B 9 1 v l.length (l.map Value.string)) (hl:l.length<=100000) : Calls Tryz.prog 64 #[.agg #[.string id,v,vp],.string x] w (gu (.bool (fu l x)) w):=by
 obtain ⟨av,cv,rfl⟩:=q01 h;have CT:=hid (Dc l x B _ (w.alloc (.cells #[.string id,.slice av l.length cv,vp] 37)) (h.alloc _) hl);obtain ⟨V,hV⟩:∃ V,V=fu l x:=⟨_,rfl⟩;rw [<- hV] at CT ⊢;clear hV h;go_enter Tryz.func64,Tryz.ntmps64;go_wp2_with fail
 refine CT.out.mono ?_;rintro e w1 ⟨rfl,rfl⟩;go_wp2;go_ret;exact ⟨rfl,(jox _ _).alloc (joz _) _⟩
def Y9 (p:Pr):List Value:=[.string p.key,.string p.val]
def iX (l:List Pr):List Value:=(l.map Y9).flatten
theorem uo (l:List Pr) (k:Nat) (p:Pr) (h:l[k]?=some p):(iX l)[k*2]?=some (.string p.key)/\(iX l)[k*2+1]?=some (.string p.val):=by
 have h2:∀ r∈l.map Y9,r.length=2:=by intro r hr;obtain ⟨q,_,rfl⟩:=List.mem_map.1 hr;rfl
 have hr:(l.map Y9)[k]?=some (Y9 p):=by rw [List.getElem?_map,h];rfl
 exact ⟨flat_get 2 _ h2 k 0 _ _ hr rfl,flat_get 2 _ h2 k 1 _ _ hr rfl⟩
def Yc (V:Bool) (w:js1) (e:Ending) (w':js1):Prop:=∃ u:ByteArray,e=.returned (.tuple #[.string u,.bool V])/\Below w.heap.size w w'
theorem TN (l:List Pr) (x id:ByteArray) (B:Nat) (v vc:Value) (w:js1) (h:w.ownsRow B 60 2 v l.length (iX l)) (hl:l.length<=100000) : Calls Tryz.prog 325 #[.agg #[.string id,vc,v],.string x] w (Yc (fu (l.map Pr.key) x) w):=by
 obtain ⟨av,cv,rfl⟩:=q01 h;obtain ⟨V,hV⟩:∃ V,V=fu (l.map Pr.key) x:=⟨_,rfl⟩;rw [<- hV];have H:=hid h;have HV:=hid hV;clear hV h;obtain ⟨w1,hw1⟩:∃ w1,w1=w.alloc (.cells #[.string id,vc,.slice av l.length cv] 37):=⟨_,rfl⟩;have B1:Hid (Below w.heap.size w w1):=by show Below _ _ _;rw [hw1];exact (jox _ _).alloc (joz _) _
 go_enter Tryz.func325,Tryz.ntmps325;go_wp2;rw [<- hw1];clear hw1
 go_loopw [11] (fun vi wr=>∃ k:Nat,k<=l.length/\vi=.int .i64 k/\V=fu ((l.map Pr.key).drop k) x/\Below w.heap.size w wr) (fun i _=>l.length-(intOf i).toNat)
 case atStart=>exact ⟨0,Nat.zero_le _,rfl,HV.out,B1.out⟩
 case round=>
  obtain ⟨k,hk,rfl,hv,hbel⟩:=hrel;by_cases hlt:k<l.length
  ·obtain ⟨p,hp⟩:∃ p,l[k]?=some p:=⟨_,List.getElem?_eq_getElem hlt⟩;obtain ⟨g,cap,TJ,hcap⟩:=eB H.out (by omega);obtain ⟨rfl,rfl⟩:av=some ⟨g,0,none⟩/\cv=cap:=by simpa using TJ
   have hH:=zY H.out hbel;have c0:wr.cell? ⟨g,k*2,none⟩=some (.string p.key):=by rw [hH.cellAt (k*2) (by omega)];exact (uo l k p hp).1
   have c1:wr.cell? ⟨g,k*2+1,none⟩=some (.string p.val):=by rw [hH.cellAt (k*2+1) (by omega)];exact (uo l k p hp).2
   rw [Bg (l.map Pr.key) k p.key x (by rw [List.getElem?_map,hp];rfl)] at hv;have zm:=hid hv;have HB:=hid hbel;clear hv hp TJ HV hbel hH;by_cases he:p.key=x
   ·subst he;have q1:(p.key.toList==p.key.toList)=true:=beq_self_eq_true _;go_wp2
    go_ret2
    exact ⟨p.val,by rw [zm.out];simp,aP HB.out ((jox _ _).alloc (joz _) _)⟩
   ·have q1:(p.key.toList==x.toList)=false:=Cu he;have Yb:Hid (V=fu ((l.map Pr.key).drop (k+1)) x):=by show V=_;rw [zm.out];simp [he]
    clear zm he;go_wp2;go_roundw;case rel=>exact ⟨k+1,by omega,by go_num,Yb.out,aP HB.out ((jox _ _).alloc (joz _) _)⟩
    case measure=>simp [intOf];omega
  ·have zm:Hid (V=false):=by show V=false;rw [hv,List.drop_eq_nil_of_le (by simp;omega)];rfl
   have HB:=hid hbel;clear hv HV hbel;go_wp2
   go_ret2
   exact ⟨⟨#[]⟩,by rw [zm.out];rfl,HB.out⟩
open Go.RowKit
structure Kx (B b:Nat) (w w':js1):Prop where
 os:w'.os=w.os
 tape:w'.tape=w.tape
 output:w'.output=w.output
 size:w.heap.size<=w'.heap.size
 block:∀ k,k<B->k≠b->w'.heap[k]?=w.heap[k]?
section
variable {B b:Nat} {w w' w1 w2:js1}
theorem Kx.refl (B b:Nat) (w:js1):Kx B b w w:=⟨rfl,rfl,rfl,joz _,fun _ _ _=>rfl⟩
theorem Kx.trans (h:Kx B b w w1) (k:Kx B b w1 w2):Kx B b w w2:=
 ⟨k.os.trans h.os,k.tape.trans h.tape,k.output.trans h.output,Nat.le_trans h.size k.size,fun i h1 h2=>(k.block i h1 h2).trans (h.block i h1 h2)⟩
theorem Kx.of (h:Below w.heap.size w w1) (hB:B<=w.heap.size):Kx B b w w1:=⟨h.os,h.tape,h.output,h.size,fun i h1 _=>h.block i (by omega)⟩
theorem Kx.grown {row:Option Nat} (h:w.grownBy w1 row) (hB:B<=w.heap.size) (hr:∀ g,row=some g->B<=g):Kx B b w w1:=
 ⟨h.os,h.tape,h.output,h.size,fun i h1 _=>h.block i (by omega) (fun e=>by have:=hr i e.symm;omega)⟩
theorem Kx.set (w:js1) (j:Nat) (u:Value):Kx B b w (w.setCell ⟨b,j,none⟩ u):=
 ⟨rfl,rfl,rfl,by simp [World.setCell],fun i _ h2=>Below.heap_setCell w ⟨b,j,none⟩ u i h2⟩
end
structure pR (B b:Nat) (a:At) (vc vp:Value) (w:js1):Prop where
 ab:AB b [.string a.id,vc,vp] w
 cls:w.ownsRow B 9 1 vc a.cls.length (a.cls.map Value.string)
 aJ:w.ownsRow B 60 2 vp a.aJ.length (iX a.aJ)
 lt:b<B
 le:B<=w.heap.size
section
variable {B b:Nat} {a:At} {vc vp v1:Value} {w w1 w2:js1}
theorem pR.below (h:pR B b a vc vp w) (hb:Below w.heap.size w w1):pR B b a vc vp w1:=
 ⟨(hb.block b h.ab.lt).trans h.ab,zY h.cls hb,zY h.aJ hb,h.lt,Nat.le_trans h.le hb.size⟩
theorem pR.apart (h:pR B b a vc vp w):vc.ownBlock=none\/vc.ownBlock≠vp.ownBlock:=by
 cases hc:vc.ownBlock with
 | none=>exact .inl rfl
 | some g=>
  right;intro e;obtain ⟨c1,f1,e1⟩:=Lib.ownsRow_kind h.cls g hc;obtain ⟨c2,f2,e2⟩:=Lib.ownsRow_kind h.aJ g e.symm;rw [e1] at e2;simp at e2
theorem pR.apart' (h:pR B b a vc vp w):vp.ownBlock=none\/vp.ownBlock≠vc.ownBlock:=by
 rcases h.apart with h1 | h1
 ·cases hc:vp.ownBlock with
  | none=>exact .inl rfl
  | some g=>right;rw [h1];simp
 ·exact .inr fun e=>h1 e.symm
theorem pR.at3 (h:pR B b a vc vp w):w.cell? ⟨b,0,none⟩=some (.string a.id)/\w.cell? ⟨b,1,none⟩=some vc/\w.cell? ⟨b,2,none⟩=some vp:=
 ⟨h.ab.cell 0 _ rfl,h.ab.cell 1 _ rfl,h.ab.cell 2 _ rfl⟩
theorem pR.je9 {x:ByteArray} {o:Obj} (h:pR B b a vc vp w) (hg:(w.alloc o).grownBy w1 vc.ownBlock) (hown:w1.ownsRow B 9 1 v1 (a.cls.length+1) (a.cls.map Value.string++[.string x])) : w1.frozen? ⟨b,1,none⟩=false/\w1.cell? ⟨b,1,none⟩=some vc/\pR B b ⟨a.id,a.cls++[x],a.aJ⟩ v1 vp (w1.setCell ⟨b,1,none⟩ v1)/\Kx B b w (w1.setCell ⟨b,1,none⟩ v1):=by
 have hal:Below w.heap.size w (w.alloc o):=(jox _ _).alloc (joz _) _;have h0:=h.below hal;have hr:∀ g,vc.ownBlock=some g->B<=g:=fun g hgv=>(h.cls.lt g hgv).1
 have II:AB b [.string a.id,vc,vp] w1:=(hg.block b h0.ab.lt (fun e=>by have:=hr b e.symm;have:=h.lt;omega)).trans h0.ab;refine ⟨II.free 1,II.cell 1 _ rfl,⟨II.set 1 v1,?_,?_,h.lt,?_⟩,?_⟩
 ·exact ownsRow_setCell_below (by simpa using hown) h.lt v1
 ·exact ownsRow_setCell_below (h0.aJ.kept hg h.apart') h.lt v1
 ·exact Nat.le_trans h0.le (by simpa [World.setCell] using hg.size)
 ·exact ((Kx.of hal h.le).trans (Kx.grown hg h0.le hr)).trans (Kx.set w1 1 v1)
theorem pR.pushP {x:Pr} {o:Obj} (h:pR B b a vc vp w) (hg:(w.alloc o).grownBy w1 vp.ownBlock) (hown:w1.ownsRow B 60 2 v1 (a.aJ.length+1) (iX a.aJ++Y9 x)) : w1.frozen? ⟨b,2,none⟩=false/\w1.cell? ⟨b,2,none⟩=some vp/\pR B b ⟨a.id,a.cls,a.aJ++[x]⟩ vc v1 (w1.setCell ⟨b,2,none⟩ v1)/\Kx B b w (w1.setCell ⟨b,2,none⟩ v1):=by
 have hal:Below w.heap.size w (w.alloc o):=(jox _ _).alloc (joz _) _;have h0:=h.below hal;have hr:∀ g,vp.ownBlock=some g->B<=g:=fun g hgv=>(h.aJ.lt g hgv).1
 have II:AB b [.string a.id,vc,vp] w1:=(hg.block b h0.ab.lt (fun e=>by have:=hr b e.symm;have:=h.lt;omega)).trans h0.ab;refine ⟨II.free 2,II.cell 2 _ rfl,⟨II.set 2 v1,?_,?_,h.lt,?_⟩,?_⟩
 ·exact ownsRow_setCell_below (h0.cls.kept hg h.apart) h.lt v1
 ·refine ownsRow_setCell_below ?_ h.lt v1;have e:iX (a.aJ++[x])=iX a.aJ++Y9 x:=by simp [iX]
  rw [e];simpa using hown
 ·exact Nat.le_trans h0.le (by simpa [World.setCell] using hg.size)
 ·exact ((Kx.of hal h.le).trans (Kx.grown hg h0.le hr)).trans (Kx.set w1 2 v1)
theorem pR.jej (h:pR B b a vc vp w) (x:ByteArray):w.frozen? ⟨b,0,none⟩=false/\pR B b ⟨x,a.cls,a.aJ⟩ vc vp (w.setCell ⟨b,0,none⟩ (.string x))/\Kx B b w (w.setCell ⟨b,0,none⟩ (.string x)):=
 ⟨h.ab.free 0,⟨h.ab.set 0 _,ownsRow_setCell_below h.cls h.lt _,ownsRow_setCell_below h.aJ h.lt _,h.lt,by simpa [World.setCell] using h.le⟩,Kx.set w 0 _⟩
end
def Qb (B b:Nat) (a a':At) (bad:Prop) (w:js1) (e:Ending) (w':js1):Prop:=
 ∃ n:Int,e=.returned (.int .i64 n)/\Kx B b w w'/\((n=0/\¬ bad/\∃ vc vp,pR B b a' vc vp w')\/(n≠0/\bad))
theorem Df (B b:Nat) (a:At) (x:ByteArray) (vc vp:Value) (w:js1) (h:pR B b a vc vp w) (hc:a.cls.length<=100000) : Calls Tryz.prog 316 #[.pointer (some ⟨b,0,none⟩),.string x] w (Qb B b a ⟨a.id,a.cls++[x],a.aJ⟩ (fu a.cls x=true\/32<=a.cls.length) w):=by
 obtain ⟨i0,hi0,hz0,hz1,hz2⟩:=info_parts ku;obtain ⟨av,cv,rfl⟩:=q01 h.cls;obtain ⟨p0,p1,p2⟩:=h.at3;have HA:=hid h;have HH:=hid (TK a.cls x a.id B _ vp w h.cls hc);obtain ⟨V,hV⟩:∃ V,V=fu a.cls x:=⟨_,rfl⟩;rw [<- hV] at HH;have HV:=hid hV;clear hV h;cases V with
 | true=>
  go_enter Tryz.func316,Tryz.ntmps316;go_wp2_with fail
  refine HH.out.mono ?_;rintro e w1 ⟨rfl,hb1⟩;have HB:=hid hb1;clear hb1 p0 p1 p2;go_wp2;go_ret;exact ⟨_,rfl,Kx.of HB.out HA.out.le,.inr ⟨by decide,.inl HV.out.symm⟩⟩
 | false=>
  by_cases h32:32<=a.cls.length
  ·have q1:decide ((32:Int)<=(a.cls.length:Int))=true:=by simp;omega
   go_enter Tryz.func316,Tryz.ntmps316;go_wp2_with fail
   refine HH.out.mono ?_;rintro e w1 ⟨rfl,hb1⟩;have HA1:=hid (HA.out.below hb1);have HB:=hid hb1;clear hb1 p0 p1 p2;obtain ⟨p0,p1,p2⟩:=HA1.out.at3;go_wp2;go_ret;exact ⟨_,rfl,Kx.of HB.out HA.out.le,.inr ⟨by decide,.inr h32⟩⟩
  ·have q1:decide ((32:Int)<=(a.cls.length:Int))=false:=by simp;omega
   go_enter Tryz.func316,Tryz.ntmps316;go_wp2_with fail
   refine HH.out.mono ?_;rintro e w1 ⟨rfl,hb1⟩;have HA1:=hid (HA.out.below hb1);have HB:=hid hb1;clear hb1 p0 p1 p2;obtain ⟨p0,p1,p2⟩:=HA1.out.at3;go_wp2_with (at_builtin;refine Dy _ rfl (.tmp 20) (.tmp 22) 35 rfl B 9 i0 _ 1 16 Tryz.underlying35 hi0 hz0 hz1 hz2 rfl (by decide) (.slice av a.cls.length cv) a.cls.length (a.cls.map Value.string) rfl (HA1.out.cls.alloc _) (w1.heap.size+1) (some ⟨w1.heap.size,0,none⟩) 1 1 [.string x] rfl ?g1 ?g2 ?g3 ?g4 ?g5 ?_)
   case g1=>exact ⟨rfl,fun _=>⟨_,rfl,by simp,TD w1 [.string x] _⟩⟩
   case g2=>intro u hu;simp at hu;subst hu;rfl
   case g3=>unfold maxLen;omega
   case g4=>omega
   case g5=>have:=HA1.out.le;simp;omega
   intro v1 w2 hown hg _;obtain ⟨a1,c1,rfl⟩:=q01 hown;obtain ⟨fz,fc,HR,HK⟩:=HA1.out.je9 hg hown;have HR:=hid HR;have HK:=hid HK;clear hown hg p0 p1 p2;go_wp2;go_ret;exact ⟨_,rfl,(Kx.of HB.out HA.out.le).trans HK.out,.inl ⟨rfl,by rintro (h | h);(rw [<- HV.out] at h;cases h);omega,_,_,HR.out⟩⟩
theorem FM (B b:Nat) (a:At) (x y:ByteArray) (vc vp:Value) (w:js1) (h:pR B b a vc vp w) (hc:a.aJ.length<=100000) : Calls Tryz.prog 318 #[.pointer (some ⟨b,0,none⟩),.string x,.string y] w (Qb B b a ⟨a.id,a.cls,a.aJ++[⟨x,y⟩]⟩ (fu (keysOf a) x=true\/32<=a.aJ.length) w):=by
 obtain ⟨i0,hi0,hz0,hz1,hz2⟩:=info_parts Qc;obtain ⟨av,cv,rfl⟩:=q01 h.aJ;obtain ⟨p0,p1,p2⟩:=h.at3;have HA:=hid h;have HH:=hid (TN a.aJ x a.id B _ vc w h.aJ hc);obtain ⟨V,hV⟩:∃ V,V=fu (keysOf a) x:=⟨_,rfl⟩;have hV2:fu (a.aJ.map Pr.key) x=V:=hV.symm;rw [hV2] at HH;have HV:=hid hV;clear hV hV2 h;cases V with
 | true=>
  go_enter Tryz.func318,Tryz.ntmps318;go_wp2_with fail
  refine HH.out.mono ?_;rintro e w1 ⟨u,rfl,hb1⟩;have HB:=hid hb1;clear hb1 p0 p1 p2;go_wp2;go_ret;exact ⟨_,rfl,Kx.of HB.out HA.out.le,.inr ⟨by decide,.inl HV.out.symm⟩⟩
 | false=>
  by_cases h32:32<=a.aJ.length
  ·have q1:decide ((32:Int)<=(a.aJ.length:Int))=true:=by simp;omega
   go_enter Tryz.func318,Tryz.ntmps318;go_wp2_with fail
   refine HH.out.mono ?_;rintro e w1 ⟨u,rfl,hb1⟩;have HA1:=hid (HA.out.below hb1);have HB:=hid hb1;clear hb1 p0 p1 p2;obtain ⟨p0,p1,p2⟩:=HA1.out.at3;go_wp2;go_ret;exact ⟨_,rfl,Kx.of HB.out HA.out.le,.inr ⟨by decide,.inr h32⟩⟩
  ·have q1:decide ((32:Int)<=(a.aJ.length:Int))=false:=by simp;omega
   go_enter Tryz.func318,Tryz.ntmps318;go_wp2_with fail
   refine HH.out.mono ?_;rintro e w1 ⟨u,rfl,hb1⟩;have HA1:=hid (HA.out.below hb1);have HB:=hid hb1;clear hb1 p0 p1 p2;obtain ⟨p0,p1,p2⟩:=HA1.out.at3;go_wp2_with (at_builtin;refine Dy _ rfl (.tmp 28) (.tmp 32) 22 rfl B 60 i0 _ 2 32 Tryz.underlying22 hi0 hz0 hz1 hz2 rfl (by decide) (.slice av a.aJ.length cv) a.aJ.length (iX a.aJ) rfl (HA1.out.aJ.alloc _) (w1.heap.size+1) (some ⟨w1.heap.size,0,none⟩) 1 1 [.string x,.string y] rfl ?g1 ?g2 ?g3 ?g4 ?g5 ?_)
   case g1=>exact ⟨rfl,fun _=>⟨_,rfl,by simp,TD w1 [.string x,.string y] _⟩⟩
   case g2=>intro u hu;simp at hu;rcases hu with rfl | rfl<;>rfl
   case g3=>unfold maxLen;omega
   case g4=>omega
   case g5=>have:=HA1.out.le;simp;omega
   intro v1 w2 hown hg _;obtain ⟨a1,c1,rfl⟩:=q01 hown;obtain ⟨fz,fc,HR,HK⟩:=HA1.out.pushP (x:=⟨x,y⟩) hg hown;have HR:=hid HR;have HK:=hid HK;clear hown hg p0 p1 p2;go_wp2;go_ret;exact ⟨_,rfl,(Kx.of HB.out HA.out.le).trans HK.out,.inl ⟨rfl,by rintro (h | h);(rw [<- HV.out] at h;cases h);omega,_,_,HR.out⟩⟩
open Go.RowKit
def Yd (B b:Nat) (a:At) (s:ByteArray) (i:Nat) (w:js1) (e:Ending) (w':js1):Prop:=
 ∃ (t n:Int),e=.returned (.tuple #[.int .i64 t,.int .i64 n])/\Kx B b w w' /\
  ((n=0/\∃ (a':At) (q:Nat),q<=s.size/\t=q/\bU a (bB s i)=some (a',bB s q)/\a'.cls.length<=32/\a'.aJ.length<=32/\∃ vc vp,pR B b a' vc vp w')\/(n≠0/\bU a (bB s i)=none))
theorem sV (a:At) (s:ByteArray) (i j:Nat) (h:uq (bB s i)=bB s j) (hj:j<=s.size) : bU a (bB s i)=if fO (s.extract j (mh s j))=false then none else if (bB s i).head?=some 35 then (if eP a.id=false then none else some (⟨s.extract j (mh s j),a.cls,a.aJ⟩,bB s (mh s j))) else if (bB s i).head?=some 46 then (if fu a.cls (s.extract j (mh s j))=true then none else if 32<=a.cls.length then none else some (⟨a.id,a.cls++[s.extract j (mh s j)],a.aJ⟩,bB s (mh s j))) else if (bB s (mh s j)).head?=some 61 then (match dS (bB s (mh s j)).tail with
    | none=>none
    | some (v,r)=>if fu (keysOf a) (s.extract j (mh s j))=true then none else if 32<=a.aJ.length then none
     else some (⟨a.id,a.cls,a.aJ++[⟨s.extract j (mh s j),v⟩]⟩,r))
   else none:=by
 unfold bU;rw [h,Bd s j hj,FK]<;>rfl
theorem Dh (B b:Nat) (a:At) (s:ByteArray) (i:Nat) (vc vp:Value) (w:js1) (h:pR B b a vc vp w) (hc:a.cls.length<=32) (hp:a.aJ.length<=32) (hs:s.size<=100000) (hi:i<s.size) : Calls Tryz.prog 298 #[.pointer (some ⟨b,0,none⟩),.string s,.int .i64 i] w (Yd B b a s i w):=by
 obtain ⟨p0,p1,p2⟩:=h.at3;have HA:=hid h;have hcn:=fG s i hi;clear h;by_cases Rf:s[i]=35
 ·have q1:((s[i].toNat:Int)==35)=true:=by rw [Rf];rfl
  have hsg:uq (bB s i)=bB s (i+1):=by rw [hcn,Rf];rfl
  have HIT:=sV a s i (i+1) hsg (by omega);rw [hcn,Rf,List.head?_cons,if_pos rfl] at HIT;rw [<- Rf,<- hcn] at HIT;have HIT:=hid HIT;have WE:Hid (∀ w,Calls Tryz.prog 103 #[.string s,.int .i64 ((i:Int)+1)] w fun e w'=>e=.returned (.int .i64 (mh s (i+1):Nat))/\w=w'):=fun w=>iW s (i+1) w (by omega) (by omega)
  have hwl:=rE s (i+1) (by omega);have hwg:i+1<=mh s (i+1):=Nat.le_add_right _ _;generalize mh s (i+1)=T at *;have hvs:(s.extract (i+1) T).size<=1000000000:=by rw [ByteArray.size_extract];omega
  have NM:=hid (fun w=>MV (s.extract (i+1) T) w hvs);generalize fO (s.extract (i+1) T)=NX at *;clear hcn hsg hvs Rf;cases NX with
  | false=>
   go_enter Tryz.func298,Tryz.ntmps298;go_wp2_with fail
   refine (WE.out _).mono ?_;rintro e w1 ⟨rfl,rfl⟩;go_wp2_with fail
   refine (NM.out _).mono ?_;rintro e w2 ⟨rfl,rfl⟩;go_wp2
   go_ret2
   exact ⟨_,_,rfl,Kx.refl _ _ _,.inr ⟨by decide,HIT.out⟩⟩
  | true=>
   have pQ:Hid (bU a (bB s i)=if eP a.id=false then none else some (⟨s.extract (i+1) T,a.cls,a.aJ⟩,bB s T)):=HIT.out;cases hem:eP a.id with
   | false=>
    have hie:a.id.toList.isEmpty=false:=by rw [Ct];exact hem
    have FN:Hid (bU a (bB s i)=none):=by show _=_;rw [pQ.out,if_pos hem]
    clear HIT pQ hem;go_enter Tryz.func298,Tryz.ntmps298;go_wp2_with fail
    refine (WE.out _).mono ?_;rintro e w1 ⟨rfl,rfl⟩;go_wp2_with fail
    refine (NM.out _).mono ?_;rintro e w2 ⟨rfl,rfl⟩;go_wp2
    go_ret2
    exact ⟨_,_,rfl,Kx.refl _ _ _,.inr ⟨by decide,FN.out⟩⟩
   | true=>
    have hie:a.id.toList.isEmpty=true:=by rw [Ct];exact hem
    have FN:Hid (bU a (bB s i)=some (⟨s.extract (i+1) T,a.cls,a.aJ⟩,bB s T)):=by show _=_;rw [pQ.out,hem];rfl
    obtain ⟨fz,HR,HK⟩:=HA.out.jej (s.extract (i+1) T);have HR:=hid HR;have HK:=hid HK;clear HIT pQ hem;go_enter Tryz.func298,Tryz.ntmps298;go_wp2_with fail
    refine (WE.out _).mono ?_;rintro e w1 ⟨rfl,rfl⟩;go_wp2_with fail
    refine (NM.out _).mono ?_;rintro e w2 ⟨rfl,rfl⟩;go_wp2
    go_ret2
    exact ⟨_,_,rfl,HK.out,.inl ⟨rfl,_,T,hwl,rfl,FN.out,hc,hp,_,_,HR.out⟩⟩
 ·have q1:((s[i].toNat:Int)==35)=false:=by
   rw [beq_eq_false_iff_ne];intro e;exact Rf (by rw [<- UInt8.toNat_inj];show _=35;omega)
  by_cases h46:s[i]=46
  ·have q2:((s[i].toNat:Int)==46)=true:=by rw [h46];rfl
   have hsg:uq (bB s i)=bB s (i+1):=by rw [hcn,h46];rfl
   have HIT:=sV a s i (i+1) hsg (by omega);rw [hcn,h46,List.head?_cons,if_neg (show ¬ (some (46:UInt8)=some 35) by decide),if_pos rfl] at HIT;rw [<- h46,<- hcn] at HIT;have HIT:=hid HIT;have WE:Hid (∀ w,Calls Tryz.prog 103 #[.string s,.int .i64 ((i:Int)+1)] w fun e w'=>e=.returned (.int .i64 (mh s (i+1):Nat))/\w=w'):=fun w=>iW s (i+1) w (by omega) (by omega)
   have hwl:=rE s (i+1) (by omega);have hwg:i+1<=mh s (i+1):=Nat.le_add_right _ _;generalize mh s (i+1)=T at *;have hvs:(s.extract (i+1) T).size<=1000000000:=by rw [ByteArray.size_extract];omega
   have NM:=hid (fun w=>MV (s.extract (i+1) T) w hvs);have AC:=hid (Df B b a (s.extract (i+1) T) vc vp w HA.out (by omega));generalize fO (s.extract (i+1) T)=NX at *;clear hcn hsg hvs Rf h46 p0 p1 p2;cases NX with
   | false=>
    go_enter Tryz.func298,Tryz.ntmps298;go_wp2_with fail
    refine (WE.out _).mono ?_;rintro e w1 ⟨rfl,rfl⟩;go_wp2_with fail
    refine (NM.out _).mono ?_;rintro e w2 ⟨rfl,rfl⟩;go_wp2
    go_ret2
    exact ⟨_,_,rfl,Kx.refl _ _ _,.inr ⟨by decide,HIT.out⟩⟩
   | true=>
    go_enter Tryz.func298,Tryz.ntmps298;go_wp2_with fail
    refine (WE.out _).mono ?_;rintro e w1 ⟨rfl,rfl⟩;go_wp2_with fail
    refine (NM.out _).mono ?_;rintro e w2 ⟨rfl,rfl⟩;go_wp2_with fail
    refine AC.out.mono ?_;rintro e w3 ⟨n,rfl,hk,hres⟩;have HK:=hid hk;have gy:=hid hres;clear hk hres;go_wp2
    go_ret2
    refine ⟨_,_,rfl,HK.out,?_⟩;rcases gy.out with ⟨h1,h2,Rh,bS,h3⟩ | ⟨h1,h2⟩
    ·refine .inl ⟨h1,⟨a.id,a.cls++[s.extract (i+1) T],a.aJ⟩,T,hwl,rfl,?_,?_,hp,_,_,h3⟩
     ·rw [HIT.out,if_neg (by decide),if_neg (fun e=>h2 (.inl e)),if_neg (fun e=>h2 (.inr e))]
     ·simp only [List.length_append,List.length_singleton];have:¬ 32<=a.cls.length:=fun e=>h2 (.inr e)
      omega
    ·refine .inr ⟨h1,?_⟩;rw [HIT.out,if_neg (by decide)];by_cases h4:fu a.cls (s.extract (i+1) T)=true
     ·rw [if_pos h4]
     ·rw [if_neg h4,if_pos (h2.resolve_left h4)]
  ·have q2:((s[i].toNat:Int)==46)=false:=by
    rw [beq_eq_false_iff_ne];intro e;exact h46 (by rw [<- UInt8.toNat_inj];show _=46;omega)
   have hsg:uq (bB s i)=bB s i:=by
    unfold uq;rw [hcn,List.head?_cons,if_neg];rintro (h | h)
    ·exact Rf (jp7 h)
    ·exact h46 (jp7 h)
   have HIT:=sV a s i i hsg (by omega);rw [show (bB s i).head?=some s[i] from rD s i hi,if_neg (fun e=>Rf (jp7 e)),if_neg (fun e=>h46 (jp7 e))] at HIT;have HIT:=hid HIT;have WE:Hid (∀ w,Calls Tryz.prog 103 #[.string s,.int .i64 (i:Int)] w fun e w'=>e=.returned (.int .i64 (mh s i:Nat))/\w=w'):=fun w=>iW s i w (by omega) (by omega)
   have hwl:=rE s i (by omega);have hwg:i<=mh s i:=Nat.le_add_right _ _;generalize mh s i=T at *;have hvs:(s.extract i T).size<=1000000000:=by rw [ByteArray.size_extract];omega
   have NM:=hid (fun w=>MV (s.extract i T) w hvs);generalize fO (s.extract i T)=NX at *;clear hcn hsg hvs Rf h46 p0 p1 p2;cases NX with
   | false=>
    go_enter Tryz.func298,Tryz.ntmps298;go_wp2_with fail
    refine (WE.out _).mono ?_;rintro e w1 ⟨rfl,rfl⟩;go_wp2_with fail
    refine (NM.out _).mono ?_;rintro e w2 ⟨rfl,rfl⟩;go_wp2
    go_ret2
    exact ⟨_,_,rfl,Kx.refl _ _ _,.inr ⟨by decide,HIT.out⟩⟩
   | true=>
    by_cases hT:T<s.size
    ·have hcT:=fG s T hT;have q3:decide ((s.size:Int)<=(T:Int))=false:=by simp;omega
     by_cases Za:s[T]=61
     ·have q4:((s[T].toNat:Int) != 61)=false:=by rw [Za];rfl
      have pQ:Hid (bU a (bB s i)=match dS (bB s (T+1)) with
       | none=>none
       | some (v,r)=>if fu (keysOf a) (s.extract i T)=true then none else if 32<=a.aJ.length then none
        else some (⟨a.id,a.cls,a.aJ++[⟨s.extract i T,v⟩]⟩,r)):=by
       show _=_;rw [HIT.out,if_neg (by decide),hcT,Za];rfl
      have RV:Hid (∀ w,Calls Tryz.prog 317 #[.string s,.int .i64 ((T:Int)+1)] w (Db s (T+1) w)):=fun w=>zH s (T+1) w (by omega) (by omega)
      clear HIT hcT Za;go_enter Tryz.func298,Tryz.ntmps298;go_wp2_with fail
      refine (WE.out _).mono ?_;rintro e w1 ⟨rfl,rfl⟩;go_wp2_with fail
      refine (NM.out _).mono ?_;rintro e w2 ⟨rfl,rfl⟩;go_wp2_with fail
      refine (RV.out _).mono ?_;rintro e w3 ⟨⟨v,n,bb,rfl,hres⟩,hbel⟩;have HA3:=hid (HA.out.below hbel);have HK3:=hid (Kx.of (b:=b) hbel HA.out.le);have gy:=hid hres;clear hres hbel;cases bb with
      | false=>
       have FN:Hid (bU a (bB s i)=none):=by
        show _=_;rcases gy.out with ⟨h1,_⟩ | ⟨_,h1⟩
        ·cases h1
        ·rw [pQ.out,h1]
       clear pQ;go_wp2
       go_ret2
       exact ⟨_,_,rfl,HK3.out,.inr ⟨by decide,FN.out⟩⟩
      | true=>
       obtain ⟨q,hq,rfl,HVq⟩:∃ q:Nat,q<=s.size/\n=q/\Hid (dS (bB s (T+1))=some (v,bB s q)):=by
        rcases gy.out with ⟨_,h⟩ | ⟨h1,_⟩
        ·exact h
        ·cases h1
       have AP:=hid (FM B b a (s.extract i T) v vc vp w3 HA3.out (by omega));have FN:Hid (bU a (bB s i)=if fu (keysOf a) (s.extract i T)=true then none else if 32<=a.aJ.length then none
        else some (⟨a.id,a.cls,a.aJ++[⟨s.extract i T,v⟩]⟩,bB s q)):=by show _=_;rw [pQ.out,HVq.out]
       clear pQ HVq gy;go_wp2_with fail
       refine AP.out.mono ?_;rintro e w4 ⟨n,rfl,hk,hres⟩;have HK:=hid hk;have gy:=hid hres;clear hk hres;go_wp2
       go_ret2
       refine ⟨_,_,rfl,HK3.out.trans HK.out,?_⟩;rcases gy.out with ⟨h1,h2,Rh,bS,h3⟩ | ⟨h1,h2⟩
       ·refine .inl ⟨h1,⟨a.id,a.cls,a.aJ++[⟨s.extract i T,v⟩]⟩,q,hq,rfl,?_,hc,?_,_,_,h3⟩
        ·rw [FN.out,if_neg (fun e=>h2 (.inl e)),if_neg (fun e=>h2 (.inr e))]
        ·simp only [List.length_append,List.length_singleton];have:¬ 32<=a.aJ.length:=fun e=>h2 (.inr e)
         omega
       ·refine .inr ⟨h1,?_⟩;rw [FN.out];by_cases h4:fu (keysOf a) (s.extract i T)=true
        ·rw [if_pos h4]
        ·rw [if_neg h4,if_pos (h2.resolve_left h4)]
     ·have q4:((s[T].toNat:Int) != 61)=true:=by rw [bne_iff_ne];intro e;exact Za (by rw [<- UInt8.toNat_inj];show _=61;omega)
      have pQ:Hid (bU a (bB s i)=none):=by show _=_;rw [HIT.out,if_neg (by decide),rD s T hT,if_neg (fun e=>Za (jp7 e))]
      clear HIT hcT Za;go_enter Tryz.func298,Tryz.ntmps298;go_wp2_with fail
      refine (WE.out _).mono ?_;rintro e w1 ⟨rfl,rfl⟩;go_wp2_with fail
      refine (NM.out _).mono ?_;rintro e w2 ⟨rfl,rfl⟩;go_wp2
      go_ret2
      exact ⟨_,_,rfl,Kx.refl _ _ _,.inr ⟨by decide,pQ.out⟩⟩
    ·have q3:decide ((s.size:Int)<=(T:Int))=true:=by simp;omega
     have pQ:Hid (bU a (bB s i)=none):=by show _=_;rw [HIT.out,if_neg (by decide),gN s T (by omega),if_neg (by simp)]
     clear HIT;go_enter Tryz.func298,Tryz.ntmps298;go_wp2_with fail
     refine (WE.out _).mono ?_;rintro e w1 ⟨rfl,rfl⟩;go_wp2_with fail
     refine (NM.out _).mono ?_;rintro e w2 ⟨rfl,rfl⟩;go_wp2
     go_ret2
     exact ⟨_,_,rfl,Kx.refl _ _ _,.inr ⟨by decide,pQ.out⟩⟩
end Go.Proofs.YtdneicipdlofiaaGreatDoor

