/- Contracts of publisherref04.ending, closes, body, place, blockFields, table, written, itself. Contracts of publisherref04.table, written, itself. Contracts of publisherref04.blocks, Blocks, Check. -/
import Derived.Test.YtklhajbpfelliaaGreatDoorKRpC
import Derived.Test.YtklhajbpfelliaaGreatDoorKPaJ
import Derived.Test.YtklhajbpfelliaaGreatDoorKChW
set_option maxHeartbeats 8000000
set_option maxRecDepth 100000
open Go.Lib (hid)
namespace Go.Proofs.YtklhajbpfelliaaGreatDoor
open Tryz
open List renaming getElem?_eq_getElem->jF9
open Go.RowKit.Below renaming refl->jFj
open Nat renaming le_refl->jFk,zero_le->jG6
open Bool renaming eq_iff_iff->jFz
open Go renaming World->jIq
open Go.RowKit renaming Below->jIx
open Go.RowKit
set_option linter.unusedVariables false
set_option linter.unusedSimpArgs false
theorem jr7 (l:List UInt8):l.all fu=(dn l).isEmpty:=by
 unfold dn;induction l with
 | nil=>rfl
 | cons c l ih=>
  rw [List.all_cons];cases h:fu c with
  | true=>rw [List.dropWhile_cons_of_pos h,Bool.true_and];exact ih
  | false=>rw [List.dropWhile_cons_of_neg (by rw [h];decide)];rfl
theorem vI (s:ByteArray) (k:Nat) (h:s.size<=k\/∃ h:k<s.size,s[k]≠32):dn (aP s k)=aP s k/\(aP s k).takeWhile fu=[]:=by
 rcases h with h | ⟨h,hn⟩
 ·rw [Ir s k h];exact ⟨rfl,rfl⟩
 ·rw [q0z s k h];have:fu s[k]=false:=by unfold fu;simp [hn]
  unfold dn;exact ⟨List.dropWhile_cons_of_neg (by rw [this];decide),List.takeWhile_cons_of_neg (by rw [this];decide)⟩
theorem FV (s:ByteArray) (k:Nat) (h:k<s.size) (hn:s[k]=32):dn (aP s (k+1))=dn (aP s k)/\((aP s k).takeWhile fu).length=1+((aP s (k+1)).takeWhile fu).length:=by
 rw [q0z s k h];have:fu s[k]=true:=by rw [hn];rfl
 unfold dn;rw [List.dropWhile_cons_of_pos this,List.takeWhile_cons_of_pos this,List.length_cons];exact ⟨rfl,by omega⟩
theorem take2 (s:ByteArray) (k:Nat):(s.extract k (k+2)).data.toList=(aP s k).take 2:=by rw [ByteArray.data_extract,Array.toList_extract];unfold aP;rw [List.extract_eq_take_drop,Nat.add_sub_cancel_left]
theorem Zb (s:ByteArray) (k:Nat):((s.extract k (k+2)).toList==[36,36])=decide ((aP s k).take 2=[36,36]):=by rw [Lib.toList_data,take2,jFz,beq_iff_eq,decide_eq_true_eq]
theorem V8 (s:ByteArray) (k n:Nat):(aP s k).drop n=aP s (k+n):=by unfold aP;rw [List.drop_drop]
theorem Zc (s:ByteArray) (k:Nat) (h:k<=s.size):(aP s k).isEmpty=decide (k=s.size):=by
 have:=iQ s k;cases hf:aP s k with
 | nil=>rw [hf] at this;simp at this ⊢;omega
 | cons c l=>rw [hf] at this;simp at this ⊢;omega
theorem V9{P:Prop}(h:P:=by
 rw [beq_eq_false_iff_ne];intro e;exact hn (by rw [<- UInt8.toNat_inj];show _=32;omega)):P:=h
theorem Jl (s:ByteArray) (w:jIq) (hs:s.size<=100000) : Calls prog 157 #[.string s] w (dP (.bool (gF s.data.toList)) w):=by
 have HE:Hid (gF (aP s 0)=(decide (((aP s 0).takeWhile fu).length<=3)&&decide ((dn (aP s 0)).take 2=[36,36])&&((dn ((dn (aP s 0)).drop 2)).isEmpty||rT (dn ((dn (aP s 0)).drop 2))))):=rfl;have h00:aP s 0=s.data.toList:=rfl;rw [<- h00];obtain ⟨V,hV⟩:∃ V,V=gF (aP s 0):=⟨_,rfl⟩;rw [<- hV] at HE ⊢;have R0:Hid (∃ k:Nat,k<=s.size/\Value.int .i64 0=.int .i64 k/\dn (aP s k)=dn (aP s 0)/\((aP s 0).takeWhile fu).length=k+((aP s k).takeWhile fu).length):=⟨0,jG6 _,rfl,rfl,by omega⟩;clear hV h00;go_enter func157,ntmps157;refine kL ?_;go_wp2
 go_loop [3] (fun vi=>∃ k:Nat,k<=s.size/\vi=.int .i64 k/\dn (aP s k)=dn (aP s 0)/\((aP s 0).takeWhile fu).length=k+((aP s k).takeWhile fu).length) (fun i=>s.size-(intOf i).toNat)
 case atStart=>exact R0.out
 case round=>
  clear R0;obtain ⟨k,hk,rfl,hsk,hln⟩:=hrel;by_cases hgo:∃ h:k<s.size,s[k]=32
  ·obtain ⟨hlt,h32⟩:=hgo;have q1:((s[k].toNat:Int)==32)=true:=by rw [h32];rfl
   have g1:=FV s k hlt h32;have KT:Hid (dn (aP s (k+1))=dn (aP s 0)):=g1.1.trans hsk;have HLN:Hid (((aP s 0).takeWhile fu).length=k+1+((aP s (k+1)).takeWhile fu).length):=by have:=g1.2;show _=_;omega
   clear hsk hln h32 g1;go_wp2
   go_round
   case rel=>exact ⟨k+1,by omega,by go_num,KT.out,HLN.out⟩
   case measure=>simp [intOf];omega
  have hstop:s.size<=k\/∃ h:k<s.size,s[k]≠32:=by
   rcases Nat.lt_or_ge k s.size with h | h
   ·exact .inr ⟨h,fun e=>hgo ⟨h,e⟩⟩
   ·exact .inl h
  obtain ⟨g1,g2⟩:=vI s k hstop;have hF:dn (aP s 0)=aP s k:=by rw [<- hsk,g1]
  have hL:((aP s 0).takeWhile fu).length=k:=by rw [hln,g2];rfl
  have HE2:Hid (V=(decide (k<=3)&&decide ((aP s k).take 2=[36,36])&&((dn (aP s (k+2))).isEmpty||rT (dn (aP s (k+2)))))):=by show V=_;rw [HE.out,hF,hL,V8]
  clear hsk hln g1 g2 hF hL HE hgo;have qs:s.size<=k\/∃ h:k<s.size,((s[k].toNat:Int)==32)=false:=by
   rcases hstop with h | ⟨h,hn⟩
   ·exact .inl h
   ·right;refine ⟨h,?_⟩;exact V9
  clear hstop;by_cases hbad:3<k\/s.size<k+2
  ·have HV:Hid (V=false):=by
    show V=false;rw [HE2.out];rcases hbad with h | h
    ·rw [decide_eq_false (show ¬ k<=3 by omega)];rfl
    ·have h2:(aP s k).take 2≠[36,36]:=by
      intro e;have:=congrArg List.length e;rw [List.length_take,iQ] at this;simp at this;omega
     rw [decide_eq_false h2,Bool.and_false];rfl
   have q34:(decide ((3:Int)<(k:Int))=true/\decide (3<k)=true)\/(decide ((3:Int)<(k:Int))=false/\decide (3<k)=false/\decide ((s.size:Int)<(k:Int)+2)=true/\decide (s.size<k+2)=true):=by
    by_cases h:3<k
    ·left;exact ⟨by simp;omega,by simp;omega⟩
    ·right;exact ⟨by simp;omega,by simp;omega,by simp;omega,by simp;omega⟩
   clear HE2 hbad;rcases qs with q1 | ⟨hlt,q2⟩<;>rcases q34 with ⟨q3,q3n⟩ | ⟨q3,q3n,q4,q4n⟩
   all_goals
    exact nQ
  have q3:decide ((3:Int)<(k:Int))=false:=by simp;omega
  have q4:decide ((s.size:Int)<(k:Int)+2)=false:=by simp;omega
  have q3n:decide (3<k)=false:=by simp;omega
  have q4n:decide (s.size<k+2)=false:=by simp;omega
  have hk3:k<=3:=by omega
  have hk2:k+2<=s.size:=by omega
  have hlt:k<s.size:=by omega
  have hD:=Zb s k;have q5:((s[k].toNat:Int)==32)=false:=by
   rcases qs with q1 | ⟨_,q2⟩
   ·omega
   ·exact q2
  clear qs hbad;by_cases QW:(aP s k).take 2=[36,36];case neg=>
   have HV:Hid (V=false):=by show V=false;rw [HE2.out,decide_eq_false QW,Bool.and_false];rfl
   rw [decide_eq_false QW] at hD;clear QW HE2;exact nQ
  rw [decide_eq_true QW] at hD;have xI:Hid (V=((dn (aP s (k+2))).isEmpty||rT (dn (aP s (k+2))))):=by show V=_;rw [HE2.out,decide_eq_true QW,decide_eq_true hk3];rfl
  have R1:Hid (∃ q:Nat,k+2<=q/\q<=s.size/\Value.int .i64 ((k:Int)+2)=.int .i64 q/\dn (aP s q)=dn (aP s (k+2))):=⟨k+2,jFk _,hk2,by go_num,rfl⟩;clear QW HE2;go_wp2
  go_loop [3] (fun vi=>∃ q:Nat,k+2<=q/\q<=s.size/\vi=.int .i64 q/\dn (aP s q)=dn (aP s (k+2))) (fun i=>s.size-(intOf i).toNat)
  case atStart=>exact R1.out
  case round=>
   clear R1 hD q3 q4 q3n q4n q5;obtain ⟨q,hkq,hq,rfl,hsk⟩:=hrel;by_cases hgo:∃ h:q<s.size,s[q]=32
   ·obtain ⟨hlt2,h32⟩:=hgo;have q1:((s[q].toNat:Int)==32)=true:=by rw [h32];rfl
    have KT:Hid (dn (aP s (q+1))=dn (aP s (k+2))):=(FV s q hlt2 h32).1.trans hsk;clear hsk h32;go_wp2
    go_round
    case rel=>exact ⟨q+1,by omega,by omega,by go_num,KT.out⟩
    case measure=>simp [intOf];omega
   have hstop:s.size<=q\/∃ h:q<s.size,s[q]≠32:=by
    rcases Nat.lt_or_ge q s.size with h | h
    ·exact .inr ⟨h,fun e=>hgo ⟨h,e⟩⟩
    ·exact .inl h
   have hF:dn (aP s (k+2))=aP s q:=by rw [<- hsk,(vI s q hstop).1]
   have F4:Hid (V=((aP s q).isEmpty||rT (aP s q))):=by show V=_;rw [xI.out,hF]
   clear hsk hF xI hgo;rcases hstop with hge | ⟨hlt2,hn⟩
   ·have hqe:q=s.size:=by omega
    have HV:Hid (V=true):=by show V=_;rw [F4.out,Ir s q hge];rfl
    have e1:((q:Int)==(s.size:Int))=true:=by rw [beq_iff_eq];omega
    clear F4 hqe;exact nQ
   have e1:((q:Int)==(s.size:Int))=false:=by rw [beq_eq_false_iff_ne];omega
   have q1:((s[q].toNat:Int)==32)=false:=by exact V9
   have HE5:Hid (V=match Cc (aP s q) with
    | none=>false
    | some (_,r)=>r.all fu):=by
    show V=_;rw [F4.out,q0z s q hlt2];rfl
   have PA:=hid (Ms s q w hs hq);clear F4 hn;go_wp2_with fail
   refine PA.out.mono ?_;rintro e w1 ⟨x,a1,n1,c1,a2,n2,c2,t,m,rfl,hb1,hres⟩;have HB1:=hid hb1;have iW:=hid hres;have Za:=hid (hb1.alloc hb1.size (.cells #[.string x,.slice a1 n1 c1,.slice a2 n2 c2] 43));clear hb1 hres PA;by_cases hm:m=0;case neg=>
    have e5:(m != 0)=true:=by rw [bne_iff_ne];exact hm
    have HV:Hid (V=false):=by
     show V=_;rcases iW.out with ⟨h,_⟩ | ⟨_,h⟩
     ·exact absurd h hm
     ·rw [HE5.out,h]
    clear iW HE5;go_wp2;go_ret;exact ⟨by rw [HV.out];rfl,Za.out⟩
   subst hm;obtain ⟨a',z,hto,rfl,HP⟩:∃ (a':At) (z:Nat),z<=s.size/\t=z/\Hid (Cc (aP s q)=some (a',aP s z)):=by
    rcases iW.out with ⟨_,h⟩ | ⟨h,_⟩
    ·exact h
    ·exact absurd rfl h
   have HE6:Hid (V=(dn (aP s z)).isEmpty):=by show V=_;rw [HE5.out,HP.out];exact jr7 _
   have R2:Hid (∃ r:Nat,r<=s.size/\Value.int .i64 (z:Int)=.int .i64 r/\dn (aP s r)=dn (aP s z)):=⟨z,hto,rfl,rfl⟩;clear iW HE5 HP;go_wp2;obtain ⟨W,hW⟩:∃ W,W=w1.alloc (.cells #[.string x,.slice a1 n1 c1,.slice a2 n2 c2] 43):=⟨_,rfl⟩;rw [<- hW] at Za ⊢;clear hW
   go_loop [5] (fun vi=>∃ r:Nat,r<=s.size/\vi=.int .i64 r/\dn (aP s r)=dn (aP s z)) (fun i=>s.size-(intOf i).toNat)
   case atStart=>exact R2.out
   case round=>
    clear R2;obtain ⟨r,hr,rfl,hsk⟩:=hrel;by_cases hgo:∃ h:r<s.size,s[r]=32
    ·obtain ⟨hlt3,h32⟩:=hgo;have q2:((s[r].toNat:Int)==32)=true:=by rw [h32];rfl
     have KT:Hid (dn (aP s (r+1))=dn (aP s z)):=(FV s r hlt3 h32).1.trans hsk;clear hsk h32;go_wp2
     go_round
     case rel=>exact ⟨r+1,by omega,by go_num,KT.out⟩
     case measure=>simp [intOf];omega
    have hstop:s.size<=r\/∃ h:r<s.size,s[r]≠32:=by
     rcases Nat.lt_or_ge r s.size with h | h
     ·exact .inr ⟨h,fun e=>hgo ⟨h,e⟩⟩
     ·exact .inl h
    have HV:Hid (V=decide (r=s.size)):=by show V=_;rw [HE6.out,<- hsk,(vI s r hstop).1,Zc s r hr]
    clear hsk HE6 hgo;rcases hstop with hge | ⟨hlt3,hn⟩
    ·go_wp2;go_ret;refine ⟨wW ?_,Za.out⟩;rw [HV.out,jFz];simp;omega
    ·have q2:((s[r].toNat:Int)==32)=false:=by
      exact V9
     clear hn;go_wp2;go_ret;refine ⟨wW ?_,Za.out⟩;rw [HV.out,jFz];simp;omega
def jk9 (s:ByteArray) (V:Bool) (w:jIq) (vf vi:Value) (wr:jIq):Prop:=
 ∃ i f:Nat,f<=i/\i<=s.size/\vf=.int .i64 f/\vi=.int .i64 i/\((jN (s.extract f i).data.toList (aP s i)).any gF)=V/\jIx w.heap.size w wr
theorem ext_nil (s:ByteArray) (i:Nat):(s.extract i i).data.toList=[]:=by rw [ByteArray.data_extract,Array.toList_extract,List.extract_eq_take_drop];simp
theorem Jm (s:ByteArray) (f i:Nat) (hf:f<=i) (h:i<s.size):(s.extract f (i+1)).data.toList=(s.extract f i).data.toList++[s[i]]:=by
 rw [ByteArray.data_extract,Array.toList_extract,ByteArray.data_extract,Array.toList_extract,List.extract_eq_take_drop,List.extract_eq_take_drop];have h1:i<s.data.toList.length:=by simpa using h
 have e:i+1-f=(i-f)+1:=by omega
 rw [e,List.take_add_one,List.getElem?_drop];have e2:f+(i-f)=i:=by omega
 rw [e2,jF9 h1];rfl
theorem Jo (s:ByteArray) (w:jIq) (hs:s.size<=100000) : Calls prog 134 #[.string s] w (dP (.bool (gG s)) w):=by
 obtain ⟨V,hV⟩:∃ V,V=gG s:=⟨_,rfl⟩;rw [<- hV];have R0:Hid (jk9 s V w (.int .i64 0) (.int .i64 0) w):=by refine ⟨0,0,jFk _,jG6 _,rfl,rfl,?_,jFj _ _⟩;rw [ext_nil,hV];rfl
 clear hV;go_enter func134,ntmps134;go_wp2
 go_loopw [3,4] (fun vf vi wr=>jk9 s V w vf vi wr) (fun _ i _=>s.size-(intOf i).toNat)
 case atStart=>exact R0.out
 case round=>
  clear R0;obtain ⟨i,f,hf,hi,rfl,rfl,hv,hbel⟩:=hrel;have HB:=hid hbel;have HV:=hid hv;clear hv hbel;by_cases hlt:i<s.size
  ·have hcn:=q0z s i hlt;by_cases h10:s[i]=10
   ·have q1:((s[i].toNat:Int)==10)=true:=by rw [h10];rfl
    have EN:=hid (Jl (s.extract f i) wr (by rw [ByteArray.size_extract];omega));have rW:Hid ((gF (s.extract f i).data.toList||(jN [] (aP s (i+1))).any gF)=V):=by show _=V;rw [<- HV.out,hcn,jN,if_pos h10,List.any_cons]
    clear hcn h10 HV;cases hen:gF (s.extract f i).data.toList with
    | true=>
     rw [hen] at EN;have Md:Hid (V=true):=by show V=_;rw [<- rW.out,hen];rfl
     clear hen rW;go_wp2_with fail
     refine EN.out.mono ?_;rintro e w1 ⟨rfl,hb1⟩;have HB1:=hid (q01 HB.out hb1);clear hb1;go_wp2;go_ret;exact ⟨by rw [Md.out];rfl,HB1.out⟩
    | false=>
     rw [hen] at EN;have Md:Hid ((jN (s.extract (i+1) (i+1)).data.toList (aP s (i+1))).any gF=V):=by show _=V;rw [<- rW.out,hen,ext_nil];rfl
     clear hen rW;go_wp2_with fail
     refine EN.out.mono ?_;rintro e w1 ⟨rfl,hb1⟩;have HB1:=hid (q01 HB.out hb1);clear hb1;go_wp2;go_roundw;case rel=>exact ⟨i+1,i+1,jFk _,hlt,by go_num,by go_num,Md.out,HB1.out⟩
     case measure=>simp [intOf];omega
   ·have q1:((s[i].toNat:Int)==10)=false:=by
     rw [beq_eq_false_iff_ne];intro e;exact h10 (by rw [<- UInt8.toNat_inj];show _=10;omega)
    have rW:Hid ((jN (s.extract f (i+1)).data.toList (aP s (i+1))).any gF=V):=by show _=V;rw [<- HV.out,hcn,jN,if_neg h10,Jm s f i hf hlt]
    clear hcn h10 HV;go_wp2;go_roundw;case rel=>exact ⟨i+1,f,by omega,hlt,rfl,by go_num,rW.out,HB.out⟩
    case measure=>simp [intOf];omega
  ·have rW:Hid (V=false):=by show V=_;rw [<- HV.out,Ir s i (by omega)];rfl
   clear HV;go_wp2;go_ret;exact ⟨by rw [rW.out];rfl,HB.out⟩
theorem Qv (s:ByteArray) (w:jIq) (hs:s.size<=1000000000) : Calls prog 133 #[.string s] w (dP (.bool (iy s)) w):=by
 rcases fA s with rfl | ⟨hne,hp,hie,hes⟩
 ·go_enter func133,ntmps133;exact vO
 ·have hv:iy s=(DF s&&decide (bt s (s.size-1)=10)):=by
   unfold iy;rw [hes,FN s 10 hp];rfl
  rw [hv];have e1:=jh s (s.size-1) (by omega);have VA:=hid (mq s w hs);generalize bt s (s.size-1)=b1 at *;generalize DF s=V at *;have hsub:((s.size:Int)-1).toNat=s.size-1:=by omega
  clear hv hes;cases V
  all_goals
   go_enter func133,ntmps133;go_wp2_with fail
   refine VA.out.mono ?_;rintro e w1 ⟨rfl,hb1⟩;have HB1:=hid hb1;clear hb1;go_wp2;all_goals
    go_ret;refine ⟨wW ?_,HB1.out⟩;exact jg9
theorem Mt (k par:Int) (w:jIq):Calls prog 103 #[.int .i64 k,.int .i64 par] w fun e w'=>e=.returned (.bool (dX k par))/\w=w':=by
 obtain ⟨V,hV⟩:∃ V,V=dX k par:=⟨_,rfl⟩;rw [<- hV];have HV:=hid hV;clear hV;go_enter func103,ntmps103;go_wp2;all_goals
  go_ret;refine ⟨wW ?_,rfl⟩;rw [HV.out];unfold dX;simp only [beq_iff_eq,beq_eq_false_iff_ne,ne_eq,bne_iff_ne,bne_eq_false_iff_eq] at *
  (repeat' split)<;>first | omega | (rw [jFz];simp;done) | (simp;omega) | (simp [*];done) | (rw [jFz];simp;omega)
theorem Zd (k:Int):(k<1\/15<k)\/(1<=k/\k<=15)/\( (([2,8]:List Int).contains k=false/\([3,10,13,14,15]:List Int).contains k=false/\([3,4]:List Int).contains k=false/\([2,4,13]:List Int).contains k=false/\([1,2,12]:List Int).contains k=true/\([6,7,8,9,10,11,13,14]:List Int).contains k=false/\(k==15)=false) \/ (([2,8]:List Int).contains k=true/\([3,10,13,14,15]:List Int).contains k=false/\([3,4]:List Int).contains k=false/\([2,4,13]:List Int).contains k=true/\([1,2,12]:List Int).contains k=true/\([6,7,8,9,10,11,13,14]:List Int).contains k=false/\(k==15)=false) \/ (([2,8]:List Int).contains k=false/\([3,10,13,14,15]:List Int).contains k=true/\([3,4]:List Int).contains k=true/\([2,4,13]:List Int).contains k=false/\([1,2,12]:List Int).contains k=false/\([6,7,8,9,10,11,13,14]:List Int).contains k=false/\(k==15)=false) \/ (([2,8]:List Int).contains k=false/\([3,10,13,14,15]:List Int).contains k=false/\([3,4]:List Int).contains k=true/\([2,4,13]:List Int).contains k=true/\([1,2,12]:List Int).contains k=false/\([6,7,8,9,10,11,13,14]:List Int).contains k=false/\(k==15)=false) \/ (([2,8]:List Int).contains k=false/\([3,10,13,14,15]:List Int).contains k=false/\([3,4]:List Int).contains k=false/\([2,4,13]:List Int).contains k=false/\([1,2,12]:List Int).contains k=false/\([6,7,8,9,10,11,13,14]:List Int).contains k=false/\(k==15)=false) \/ (([2,8]:List Int).contains k=false/\([3,10,13,14,15]:List Int).contains k=false/\([3,4]:List Int).contains k=false/\([2,4,13]:List Int).contains k=false/\([1,2,12]:List Int).contains k=false/\([6,7,8,9,10,11,13,14]:List Int).contains k=true/\(k==15)=false) \/ (([2,8]:List Int).contains k=true/\([3,10,13,14,15]:List Int).contains k=false/\([3,4]:List Int).contains k=false/\([2,4,13]:List Int).contains k=false/\([1,2,12]:List Int).contains k=false/\([6,7,8,9,10,11,13,14]:List Int).contains k=true/\(k==15)=false) \/ (([2,8]:List Int).contains k=false/\([3,10,13,14,15]:List Int).contains k=true/\([3,4]:List Int).contains k=false/\([2,4,13]:List Int).contains k=false/\([1,2,12]:List Int).contains k=false/\([6,7,8,9,10,11,13,14]:List Int).contains k=true/\(k==15)=false) \/ (([2,8]:List Int).contains k=false/\([3,10,13,14,15]:List Int).contains k=true/\([3,4]:List Int).contains k=false/\([2,4,13]:List Int).contains k=true/\([1,2,12]:List Int).contains k=false/\([6,7,8,9,10,11,13,14]:List Int).contains k=true/\(k==15)=false) \/ (([2,8]:List Int).contains k=false/\([3,10,13,14,15]:List Int).contains k=true/\([3,4]:List Int).contains k=false/\([2,4,13]:List Int).contains k=false/\([1,2,12]:List Int).contains k=false/\([6,7,8,9,10,11,13,14]:List Int).contains k=false/\(k==15)=true)):=by
 rcases uo k with rfl | rfl | rfl | rfl | rfl | rfl | rfl | rfl | rfl | rfl | rfl | rfl | rfl | rfl | rfl | hk
 case inr.inr.inr.inr.inr.inr.inr.inr.inr.inr.inr.inr.inr.inr.inr=>exact .inl hk
 all_goals (right;simp)
theorem vJ (w:jIq) (k lv:Int) (i t d ti:ByteArray) (at_:At) (li:List aj) (ks:List ah) (ac ap al ak:Option Addr) (cc cp cl ck:Nat) (h:eT (·<w.heap.size) w at_ li ks (.slice ac at_.cls.length cc) (.slice ap at_.aF.length cp) (.slice al li.length cl) (.slice ak ks.length ck)) : Calls prog 102 #[.agg #[.int .i64 k,.int .i64 lv,.string i,.string t,.string d,.string ti,.string at_.id,.slice ac at_.cls.length cc,.slice ap at_.aF.length cp,.slice al li.length cl,.slice ak ks.length ck]] w (dP (.bool (yJ k lv i t d ti at_ li ks)) w):=by
 have l1:=(sF h.at_.cls).2;have l2:=(sF h.at_.aF).2;obtain ⟨-,l4,m4⟩:=sF h.line;obtain ⟨-,l5,m5⟩:=sF h.kids;unfold maxLen at m4 m5;have AE:=hid (fun w=>oL at_ ac ap cc cp w (by omega) (by omega));clear l1 l2;have HV:Hid (yJ k lv i t d ti at_ li ks=(decide (1<=k)&&decide (k<=15)&&(([2,8]:List Int).contains k||(lv==0))&&(([3,10,13,14,15]:List Int).contains k||i.toList.isEmpty)&&(([3,4]:List Int).contains k||t.toList.isEmpty) &&
 ((k==15)||(d.toList.isEmpty&&ti.toList.isEmpty))&&(([2,4,13]:List Int).contains k||at_.none)&&(([1,2,12]:List Int).contains k||((li.length:Int)==0))&&(([6,7,8,9,10,11,13,14]:List Int).contains k||((ks.length:Int)==0)))):=by show _=_;rw [oQ,oQ,oQ,oQ,jT,jT];rfl
 obtain ⟨V,hV⟩:∃ V,V=yJ k lv i t d ti at_ li ks:=⟨_,rfl⟩
 rw [<- hV] at HV ⊢;have VW:=Zd k;have IL1:=hid (fun (w:jIq)=>iZ k [2,8] w 3 (by decide));have IL2:=hid (fun (w:jIq)=>iZ k [3,10,13,14,15] w 3 (by decide));have IL3:=hid (fun (w:jIq)=>iZ k [3,4] w 3 (by decide));have IL4:=hid (fun (w:jIq)=>iZ k [2,4,13] w 3 (by decide));have IL5:=hid (fun (w:jIq)=>iZ k [1,2,12] w 3 (by decide));have IL6:=hid (fun (w:jIq)=>iZ k [6,7,8,9,10,11,13,14] w 3 (by decide));generalize ([2,8]:List Int).contains k=b1 at *;generalize ([3,10,13,14,15]:List Int).contains k=b2 at *;generalize ([3,4]:List Int).contains k=b3 at *;generalize ([2,4,13]:List Int).contains k=b4 at *;generalize ([1,2,12]:List Int).contains k=b5 at *;generalize ([6,7,8,9,10,11,13,14]:List Int).contains k=b6 at *;generalize at_.none=bn at *
 obtain ⟨w1,hw1⟩:∃ w1,w1=w.alloc (.cells #[.int .i64 k,.int .i64 lv,.string i,.string t,.string d,.string ti,.string at_.id,.slice ac at_.cls.length cc,.slice ap at_.aF.length cp,.slice al li.length cl,.slice ak ks.length ck] 51):=⟨_,rfl⟩;have k1:CB 51 w.heap.size [.int .i64 k,.int .i64 lv,.string i,.string t,.string d,.string ti,.string at_.id,.slice ac at_.cls.length cc,.slice ap at_.aF.length cp,.slice al li.length cl,.slice ak ks.length ck] w1:=by rw [hw1];exact CB.new _ _ _
 have B1:Hid (jIx w.heap.size w w1):=by show jIx _ _ _;rw [hw1];exact (jFj _ _).alloc (jFk _) _
 have p0:=k1.cell 0 _ rfl;have K1:=hid k1;clear hV h k1;go_enter func102,ntmps102;simp only [List.append_eq,List.cons_append,List.nil_append];go_upto_region 1 with (fail)
 rw [<- hw1];clear hw1;go_wp2_with fail
 refine (IL1.out w1).mono ?_;rintro e w2 ⟨rfl,b2_⟩;have K2:=hid (K1.out.below b2_);have B2:=hid (q01 B1.out b2_);have p0:=K2.out.cell 0 _ rfl;clear b2_ K1 B1;go_wp2_with fail
 refine (IL2.out w2).mono ?_;rintro e w3 ⟨rfl,b3_⟩;have K3:=hid (K2.out.below b3_);have B3:=hid (q01 B2.out b3_);have p0:=K3.out.cell 0 _ rfl;clear b3_ K2 B2;go_wp2_with fail
 refine (IL3.out w3).mono ?_;rintro e w4 ⟨rfl,b4_⟩;have K4:=hid (K3.out.below b4_);have B4:=hid (q01 B3.out b4_);have p0:=K4.out.cell 0 _ rfl;clear b4_ K3 B3;go_wp2_with fail
 refine (IL4.out w4).mono ?_;rintro e w5 ⟨rfl,b5_⟩;have K5:=hid (K4.out.below b5_);have B5:=hid (q01 B4.out b5_);have p0:=K5.out.cell 0 _ rfl;clear b5_ K4 B4;go_wp2_with fail
 refine (IL5.out w5).mono ?_;rintro e w6 ⟨rfl,b6_⟩;have K6:=hid (K5.out.below b6_);have B6:=hid (q01 B5.out b6_);have p0:=K6.out.cell 0 _ rfl;clear b6_ K5 B5;go_wp2_with fail
 refine (IL6.out w6).mono ?_;rintro e w7 ⟨rfl,b7_⟩;have K7:=hid (K6.out.below b7_);have B7:=hid (q01 B6.out b7_);have p0:=K7.out.cell 0 _ rfl;clear b7_ K6 B6;have p0:=K7.out.cell 0 _ rfl;have p1:=K7.out.cell 1 _ rfl;have p2:=K7.out.cell 2 _ rfl;have p3:=K7.out.cell 3 _ rfl;have p4:=K7.out.cell 4 _ rfl;have p5:=K7.out.cell 5 _ rfl;have p6:=K7.out.cell 6 _ rfl;have p7:=K7.out.cell 7 _ rfl;have p8:=K7.out.cell 8 _ rfl;have p9:=K7.out.cell 9 _ rfl;have rZ:=K7.out.cell 10 _ rfl;rcases VW with hk | ⟨⟨hk1,hk2⟩,hpat⟩
 ·have hv:V=false:=by
   exact jj5
  have HE:=hid hv;by_cases hk1:1<=k
  ·have q1:decide ((1:Int)<=k)=true:=by simpa using hk1
   have q2:decide (k<=(15:Int))=false:=by simp;omega
   clear hv hk;go_wp2;go_ret;exact ⟨by rw [HE.out];rfl,B7.out⟩
  ·have q1:decide ((1:Int)<=k)=false:=by simpa using hk1
   clear hv hk;go_wp2;go_ret;exact ⟨by rw [HE.out];rfl,B7.out⟩
 have q1:decide ((1:Int)<=k)=true:=by simpa using hk1
 have q2:decide (k<=(15:Int))=true:=by simpa using hk2
 rw [q1,q2] at HV;generalize jBx:(k==15)=QC at *;clear hk1 hk2;rcases hpat with ⟨rfl,rfl,rfl,rfl,rfl,rfl,rfl⟩ | ⟨rfl,rfl,rfl,rfl,rfl,rfl,rfl⟩ | ⟨rfl,rfl,rfl,rfl,rfl,rfl,rfl⟩ | ⟨rfl,rfl,rfl,rfl,rfl,rfl,rfl⟩ | ⟨rfl,rfl,rfl,rfl,rfl,rfl,rfl⟩ | ⟨rfl,rfl,rfl,rfl,rfl,rfl,rfl⟩ | ⟨rfl,rfl,rfl,rfl,rfl,rfl,rfl⟩ | ⟨rfl,rfl,rfl,rfl,rfl,rfl,rfl⟩ | ⟨rfl,rfl,rfl,rfl,rfl,rfl,rfl⟩ | ⟨rfl,rfl,rfl,rfl,rfl,rfl,rfl⟩
 all_goals
  go_wp2_with (go_at_call 131;refine (AE.out _).mono ?_;rintro e w8 ⟨rfl,hb8⟩;have K8:=K7.out.below hb8;have p9:=K8.cell 9 _ rfl;have rZ:=K8.cell 10 _ rfl;have p0:=K8.cell 0 _ rfl)
  all_goals
   go_ret;refine ⟨wW ?_,?_⟩
   ·rw [HV.out]
    (try simp only [*])
    (try simp)
    (try (simp only [<- List.length_eq_zero_iff];omega))
   ·first | exact q01 B7.out hb8 | exact B7.out
open Go.RowKit
theorem Ze (i:ByteArray) (k:Nat) (h:k<i.size):mZ (i.extract k (k+1)) iA=iA.contains i[k]:=by unfold mZ;rw [Jm i k k (jFk _) h,ext_nil];simp
def jkj (i:ByteArray) (w:jIq) (T p:Nat) (cs:List Value) (vi:Value) (wr:jIq):Prop:=
 ∃ k:Nat,k<=i.size/\vi=.int .i64 k/\CB T p cs wr/\jIx w.heap.size w wr/\(i.data.toList.take k).all (fun c=>iA.contains c)=true
def jkk (ks:List ah) (n:Nat) (w:jIq) (T p:Nat) (cs:List Value) (vi:Value) (wr:jIq):Prop:=
 ∃ k:Nat,k<=ks.length/\vi=.int .i64 k/\CB T p cs wr/\jIx w.heap.size w wr/\(ks.take k).any (fun b=>!decide (b.oC=n))=false
theorem jkq{P Q:Prop}(q:Q)(h:Nonempty Q->P:=by
 intro qQ;have p0:=hcb.cell 0 _ rfl;have p1:=hcb.cell 1 _ rfl;have p2:=hcb.cell 2 _ rfl;have p3:=hcb.cell 3 _ rfl;have p4:=hcb.cell 4 _ rfl;have p5:=hcb.cell 5 _ rfl;have p6:=hcb.cell 6 _ rfl;have p7:=hcb.cell 7 _ rfl;have p8:=hcb.cell 8 _ rfl;have p9:=hcb.cell 9 _ rfl;have rZ:=hcb.cell 10 _ rfl;have xQ:=hid hcb;have HB:=hid hbel;revert p0 p1 p2 p3 p4 p5 p6 p7 p8 p9 rZ xQ HB;exact qQ.elim fun x=>x):P:=h ⟨q⟩
theorem Mv (w:World) (k lv:Int) (i t d ti:ByteArray) (at_:At) (li:List aj) (ks:List ah) (ac ap al ak:Option Addr) (cc cp cl ck:Nat) (h:eT (·<w.heap.size) w at_ li ks (.slice ac at_.cls.length cc) (.slice ap at_.aF.length cp) (.slice al li.length cl) (.slice ak ks.length ck)) (hi:i.size<=1000000000) : Calls prog 136 #[.agg #[.int .i64 k,.int .i64 lv,.string i,.string t,.string d,.string ti,.string at_.id,.slice ac at_.cls.length cc,.slice ap at_.aF.length cp,.slice al li.length cl,.slice ak ks.length ck]] w (dP (.int .i64 (QT i ks:Nat)) w):=by
 obtain ⟨a',c',hv,hs⟩:=Rd.ay h.kids;obtain ⟨rfl,rfl⟩:a'=ak/\c'=ck:=by simp at hv;exact ⟨hv.1.symm,hv.2.symm⟩
 have hcap:ks.length<=c':=by simpa using hs.le
 have hmx:=hs.max;unfold maxLen at hmx;have HS:=hid hs;have e3:=jT ks;have HE:Hid (QT i ks=if 32<i.size then 3 else if bq i=true then 5 else if i.data.toList.any (fun c=>!(iA:List UInt8).contains c) then 5
   else if ks.isEmpty=true then 8 else if ks.any (fun b=>!decide (b.oC=i.size)) then 15 else 0):=rfl
 generalize QT i ks=V at *;obtain ⟨w1,hw1⟩:∃ w1,w1=w.alloc (.cells #[.int .i64 k,.int .i64 lv,.string i,.string t,.string d,.string ti,.string at_.id,.slice ac at_.cls.length cc,.slice ap at_.aF.length cp,.slice al li.length cl,.slice a' ks.length c'] 51):=⟨_,rfl⟩;have k1:CB 51 w.heap.size [.int .i64 k,.int .i64 lv,.string i,.string t,.string d,.string ti,.string at_.id,.slice ac at_.cls.length cc,.slice ap at_.aF.length cp,.slice al li.length cl,.slice a' ks.length c'] w1:=by rw [hw1];exact CB.new _ _ _
 refine Nu ?_;intro b1;have p0:=k1.cell 0 _ rfl;have p1:=k1.cell 1 _ rfl;have p2:=k1.cell 2 _ rfl;have p3:=k1.cell 3 _ rfl;have p4:=k1.cell 4 _ rfl;have p5:=k1.cell 5 _ rfl;have p6:=k1.cell 6 _ rfl;have p7:=k1.cell 7 _ rfl;have p8:=k1.cell 8 _ rfl;have p9:=k1.cell 9 _ rfl;have rZ:=k1.cell 10 _ rfl;have K1:=hid k1;have B1:=hid b1;clear hv hs h k1 b1;by_cases h32:32<i.size
 ·have HV:Hid (V=3):=by show V=3;rw [HE.out,if_pos h32]
  have q:decide ((32:Int)<(i.size:Int))=true:=by simp;omega
  clear HE;go_enter func136,ntmps136;go_upto_region 1 with (fail)
  rw [<- hw1];clear hw1;exact qF
 have q:decide ((32:Int)<(i.size:Int))=false:=by simp;omega
 rcases fA i with rfl | ⟨i1,i2,i3,i4⟩
 ·have HV:Hid (V=5):=by show V=5;rw [HE.out,if_neg h32,if_pos (by decide)]
  clear HE;go_enter func136,ntmps136;go_upto_region 1 with (fail)
  rw [<- hw1];clear hw1;exact qF
 have HE2:Hid (V=if i.data.toList.any (fun c=>!(iA:List UInt8).contains c) then 5
   else if ks.isEmpty=true then 8 else if ks.any (fun b=>!decide (b.oC=i.size)) then 15 else 0):=by
  show V=_;rw [HE.out,if_neg h32,if_neg (by rw [i4];decide)]
 have R0:Hid (jkj i w 51 w.heap.size [.int .i64 k,.int .i64 lv,.string i,.string t,.string d,.string ti,.string at_.id,.slice ac at_.cls.length cc,.slice ap at_.aF.length cp,.slice al li.length cl,.slice a' ks.length c'] (.int .i64 0) w1):=⟨0,Nat.zero_le _,rfl,K1.out,B1.out,by simp⟩;clear HE;go_enter func136,ntmps136;go_upto_region 1 with (fail)
 rw [<- hw1];clear hw1;go_wp2
 go_loopw [3] (fun vi wr=>jkj i w 51 w.heap.size [.int .i64 k,.int .i64 lv,.string i,.string t,.string d,.string ti,.string at_.id,.slice ac at_.cls.length cc,.slice ap at_.aF.length cp,.slice al li.length cl,.slice a' ks.length c'] vi wr) (fun vi _=>i.size-(intOf vi).toNat)
 case atStart=>exact R0.out
 case round=>
  clear R0 p0 p1 p2 p3 p4 p5 p6 p7 p8 p9 rZ;obtain ⟨k',hk',rfl,hcb,hbel,hal⟩:=hrel;refine jkq ?_;intro p0 p1 p2 p3 p4 p5 p6 p7 p8 p9 rZ xQ HB;have Bj:=hid hal;clear hcb hbel hal;by_cases hlt:k'<i.size
  ·have RH:=hid (jw (i.extract k' (k'+1)) ⟨#[45,108,99,114]⟩ wr (by rw [ByteArray.size_extract];omega) (by decide));have hho:mZ (i.extract k' (k'+1)) (ByteArray.mk #[45,108,99,114]).data.toList=iA.contains i[k']:=Ze i k' hlt;rw [hho] at RH;have hg:=Cu i k' hlt;cases hc:iA.contains i[k'] with
   | true=>
    rw [hc] at RH;have Y3:Hid ((i.data.toList.take (k'+1)).all (fun c=>iA.contains c)=true):=by show _=true;rw [List.take_add_one,hg,List.all_append,Bj.out];simpa using hc
    clear hho hg hc;go_wp2_with fail
    refine RH.out.mono ?_;rintro e w2 ⟨rfl,hb2⟩;have Wd:=hid (xQ.out.below hb2);have HB2:=hid (q01 HB.out hb2);clear hb2;go_wp2;go_roundw;case rel=>exact ⟨k'+1,by omega,by go_num,Wd.out,HB2.out,Y3.out⟩
    case measure=>simp [intOf];omega
   | false=>
    rw [hc] at RH;have HV:Hid (V=5):=by show V=5;rw [HE2.out,if_pos];rw [List.any_eq_true];exact ⟨_,List.mem_of_getElem? hg,by rw [hc];rfl⟩
    clear hho hg hc;go_wp2_with fail
    refine RH.out.mono ?_;rintro e w2 ⟨rfl,hb2⟩;have HB2:=hid (q01 HB.out hb2);clear hb2;go_wp2;go_ret;exact ⟨by rw [HV.out];rfl,HB2.out⟩
  ·have hall:i.data.toList.all (fun c=>iA.contains c)=true:=by
    have:=Bj.out
    rwa [List.take_of_length_le (by simpa using (by omega:i.size<=k'))] at this
   have xI:Hid (V=if ks.isEmpty=true then 8 else if ks.any (fun b=>!decide (b.oC=i.size)) then 15 else 0):=by
    show V=_;have h2:(i.data.toList.any fun c=>!(iA:List UInt8).contains c)=false:=by rw [List.any_eq_false];intro x hx;have:=List.all_eq_true.1 hall x hx;rw [this];decide
    rw [HE2.out,h2,if_neg (by decide)]
   clear hall HE2 Bj;cases hk0:ks.isEmpty with
   | true=>
    rw [hk0] at e3;have rW:Hid (V=8):=by show V=8;rw [xI.out,if_pos hk0]
    clear hk0;go_wp2;go_ret;exact ⟨by rw [rW.out];rfl,HB.out⟩
   | false=>
    rw [hk0] at e3;have rW:Hid (V=if ks.any (fun b=>!decide (b.oC=i.size)) then 15 else 0):=by show V=_;rw [xI.out,if_neg (by rw [hk0];decide)]
    have R0:Hid (jkk ks i.size w 51 w.heap.size [.int .i64 k,.int .i64 lv,.string i,.string t,.string d,.string ti,.string at_.id,.slice ac at_.cls.length cc,.slice ap at_.aF.length cp,.slice al li.length cl,.slice a' ks.length c'] (.int .i64 0) wr):=⟨0,Nat.zero_le _,rfl,xQ.out,HB.out,by simp⟩;clear hk0 xI HB xQ;go_wp2
    go_loopw [4] (fun vi wr=>jkk ks i.size w 51 w.heap.size [.int .i64 k,.int .i64 lv,.string i,.string t,.string d,.string ti,.string at_.id,.slice ac at_.cls.length cc,.slice ap at_.aF.length cp,.slice al li.length cl,.slice a' ks.length c'] vi wr) (fun vi _=>ks.length-(intOf vi).toNat)
    case atStart=>exact R0.out
    case round=>
     clear R0 p0 p1 p2 p3 p4 p5 p6 p7 p8 p9 rZ;obtain ⟨j,hj,rfl,hcb,hbel,hno⟩:=hrel;refine jkq ?_;intro p0 p1 p2 p3 p4 p5 p6 p7 p8 p9 rZ xQ HB;have FZ:=hid hno;by_cases hlt:j<ks.length
     ·refine jjk ?_;intro x hx gZ HAT;obtain ⟨kd',lv',i',t',d',ti',at',li',ks'⟩:=x;obtain ⟨b',off',ac',ap',al',ak',cc',cp',cl',ck',ha',hP'⟩:=Ew HS.out hx;have k10:=(hP'.up hbel).cells.c10;subst ha';have HKN:Hid ((ah.mk kd' lv' i' t' d' ti' at' li' ks').oC=ks'.length):=rfl;clear hP' hx hno hbel hcb;by_cases hq:ks'.length=i.size
      ·have q1:((ks'.length:Int) != (i.size:Int))=false:=by rw [bne_eq_false_iff_eq];omega
       have HQ:=hid hq;clear hq;go_wp2_with fail
       go_quiet (fail)
       go_wp2;go_roundw;case rel=>exact ⟨j+1,by omega,by go_num,xQ.out.dN 1,ig HB.out _,by rw [gZ.out,FZ.out,HKN.out,HQ.out];simp⟩
       case measure=>simp [intOf];omega
      ·exact jjj
     ·have hv:V=0:=by
       have:=FZ.out;rw [List.take_of_length_le (by omega)] at this;rw [rW.out,if_neg (by rw [this];decide)]
      have Md:=hid hv;clear hv hno hbel hcb;go_wp2;go_ret;exact ⟨by rw [Md.out];rfl,HB.out⟩
def ql (k lv:Int) (a:At) (li:List aj):Nat:=
 if k=1 then (if li.isEmpty=true then 8 else pO li)
 else if k=2 then (if lv<1\/6<lv then 9 else if a.err≠0 then a.err else if aj.dx bY li=true then 5 else pO li)
 else (if aj.dx bY li=true then 5 else pO li)
theorem FW (w:World) (k lv:Int) (i t d ti:ByteArray) (at_:At) (li:List aj) (ks:List ah) (ac ap al ak:Option Addr) (cc cp cl ck:Nat) (h:eT (·<w.heap.size) w at_ li ks (.slice ac at_.cls.length cc) (.slice ap at_.aF.length cp) (.slice al li.length cl) (.slice ak ks.length ck)) (hs:BlS i t d ti at_ li) (hk:k=1\/k=2\/k=12) : Calls prog 132 #[.agg #[.int .i64 k,.int .i64 lv,.string i,.string t,.string d,.string ti,.string at_.id,.slice ac at_.cls.length cc,.slice ap at_.aF.length cp,.slice al li.length cl,.slice ak ks.length ck]] w (dP (.int .i64 (ql k lv at_ li:Nat)) w):=by
 obtain ⟨-,l4,m4⟩:=sF h.line;unfold maxLen at m4;have AC:=hid (fun wx (hb:Below w.heap.size w wx)=>kK at_ ac ap cc cp wx (h.at_.up hb) hs.at_);have AK:=hid (fun wx (hb:Below w.heap.size w wx)=>AU _ li (.slice al li.length cl) true wx (Nat.le_refl _) (h.line.up hb));change Hid (∀ wx,Below w.heap.size w wx->Calls prog 155 #[.slice al li.length cl,.bool true] wx (dP (.bool (aj.dx bY li)) wx)) at AK;have LE:=hid (fun wx (hb:Below w.heap.size w wx)=>FP li al cl wx hs.li (h.line.up hb));have e2:=jT li;have HE:Hid (ql k lv at_ li=if k=1 then (if li.isEmpty=true then 8 else pO li)
 else if k=2 then (if lv<1\/6<lv then 9 else if at_.err≠0 then at_.err else if aj.dx bY li=true then 5 else pO li)
 else (if aj.dx bY li=true then 5 else pO li)):=rfl
 generalize ql k lv at_ li=V at *
 generalize pO li=E1 at *;generalize aj.dx bY li=A at *;generalize at_.err=E at *
 generalize li.isEmpty=bl at *;obtain ⟨w1,hw1⟩:∃ w1,w1=w.alloc (.cells #[.int .i64 k,.int .i64 lv,.string i,.string t,.string d,.string ti,.string at_.id,.slice ac at_.cls.length cc,.slice ap at_.aF.length cp,.slice al li.length cl,.slice ak ks.length ck] 51):=⟨_,rfl⟩;have k1:CB 51 w.heap.size [.int .i64 k,.int .i64 lv,.string i,.string t,.string d,.string ti,.string at_.id,.slice ac at_.cls.length cc,.slice ap at_.aF.length cp,.slice al li.length cl,.slice ak ks.length ck] w1:=by rw [hw1];exact CB.new _ _ _
 have b1:Below w.heap.size w w1:=by rw [hw1];exact (Below.refl _ _).alloc (Nat.le_refl _) _
 have p0:=k1.cell 0 _ rfl;have p1:=k1.cell 1 _ rfl;have p2:=k1.cell 2 _ rfl;have p3:=k1.cell 3 _ rfl;have p4:=k1.cell 4 _ rfl;have p5:=k1.cell 5 _ rfl;have p6:=k1.cell 6 _ rfl;have p7:=k1.cell 7 _ rfl;have p8:=k1.cell 8 _ rfl;have p9:=k1.cell 9 _ rfl;have rZ:=k1.cell 10 _ rfl;have K1:=hid k1;have B1:=hid b1;clear h hs k1 b1;rcases hk with rfl | rfl | rfl
 ·go_enter func132,ntmps132;refine kL ?_;go_upto_region 1 with (fail)
  rw [<- hw1];clear hw1;cases bl
  all_goals
   go_wp2_with (go_at_call 156;refine (LE.out _ B1.out).mono ?_;rintro e w2 ⟨rfl,hb2⟩;have HB2:=hid (q01 B1.out hb2))
   all_goals
    go_ret;refine ⟨JK ?_,?_⟩
    ·rw [HE.out];simp
    ·first | exact HB2.out | exact B1.out
 ·have hlv:lv<1\/(1<=lv/\6<lv)\/(1<=lv/\lv<=6):=by omega
  rcases hlv with hl | ⟨hl1,hl2⟩ | ⟨hl1,hl2⟩
  ·have HV:Hid (V=9):=by show V=9;rw [HE.out];simp [hl]
   have q1:decide (lv<1)=true:=by simpa using hl
   clear HE hl;go_enter func132,ntmps132;refine kL ?_;go_upto_region 1 with (fail)
   rw [<- hw1];clear hw1;exact qF
  ·have HV:Hid (V=9):=by show V=9;rw [HE.out];simp [hl2]
   have q1:decide (lv<1)=false:=by simp;omega
   have q2:decide (6<lv)=true:=by simpa using hl2
   clear HE hl1 hl2;go_enter func132,ntmps132;refine kL ?_;go_upto_region 1 with (fail)
   rw [<- hw1];clear hw1;exact qF
  ·have HV:Hid (V=if E≠0 then E else if A=true then 5 else E1):=by
    show V=_;rw [HE.out,if_neg (by decide),if_pos rfl,if_neg (by omega)]
   have q1:decide (lv<1)=false:=by simp;omega
   have q2:decide (6<lv)=false:=by simp;omega
   clear HE hl1 hl2;by_cases hE:E=0
   ·subst hE;cases A
    all_goals
     go_enter func132,ntmps132;refine kL ?_;go_upto_region 1 with (fail)
     rw [<- hw1];clear hw1;go_wp2_with (first
      | (go_at_call 135;refine (AC.out _ B1.out).mono ?_;rintro e w2 ⟨rfl,hb2⟩;have K2:=K1.out.below hb2;have HB2:=hid (q01 B1.out hb2);have p0:=K2.cell 0 _ rfl;have p9:=K2.cell 9 _ rfl)
      | (go_at_call 155;refine (AK.out _ HB2.out).mono ?_;rintro e w3 ⟨rfl,hb3⟩;have K3:=K2.below hb3;have HB3:=hid (q01 HB2.out hb3);have p0:=K3.cell 0 _ rfl;have p9:=K3.cell 9 _ rfl)
      | (go_at_call 156;refine (LE.out _ HB3.out).mono ?_;rintro e w4 ⟨rfl,hb4⟩;have kS:=hid (q01 HB3.out hb4)))
     all_goals
      go_ret;refine ⟨JK ?_,?_⟩
      ·rw [HV.out];simp
      ·first | exact kS.out | exact HB3.out
   ·have q3:((E:Int) != 0)=true:=by rw [bne_iff_ne];omega
    have rW:Hid (V=E):=by show V=E;rw [HV.out,if_pos hE]
    clear HV hE;go_enter func132,ntmps132;refine kL ?_;go_upto_region 1 with (fail)
    rw [<- hw1];clear hw1;go_wp2_with fail
    refine (AC.out _ B1.out).mono ?_;rintro e w2 ⟨rfl,hb2⟩;have HB2:=hid (q01 B1.out hb2);clear hb2;go_wp2;go_ret;exact ⟨by rw [rW.out];rfl,HB2.out⟩
 ·cases A
  all_goals
   go_enter func132,ntmps132;refine kL ?_;go_upto_region 1 with (fail)
   rw [<- hw1];clear hw1;go_wp2_with (first
    | (go_at_call 155;refine (AK.out _ B1.out).mono ?_;rintro e w3 ⟨rfl,hb3⟩;have K3:=K1.out.below hb3;have HB3:=hid (q01 B1.out hb3);have p0:=K3.cell 0 _ rfl;have p9:=K3.cell 9 _ rfl)
    | (go_at_call 156;refine (LE.out _ HB3.out).mono ?_;rintro e w4 ⟨rfl,hb4⟩;have kS:=hid (q01 HB3.out hb4)))
   all_goals
    go_ret;refine ⟨JK ?_,?_⟩
    ·rw [HE.out];simp
    ·first | exact kS.out | exact HB3.out
theorem Wh{P:Prop}(h:P:=by
 go_upto_region 1 with (fail)
 rw [<- hw1];clear hw1;go_wp2;go_ret;refine ⟨JK ?_,B1.out⟩;rw [HE.out];simp [HQ.out]):P:=h
theorem Jp (w:jIq) (k lv:Int) (i t d ti:ByteArray) (at_:At) (li:List aj) (ks:List ah) (ac ap al ak:Option Addr) (cc cp cl ck:Nat) (h:eT (·<w.heap.size) w at_ li ks (.slice ac at_.cls.length cc) (.slice ap at_.aF.length cp) (.slice al li.length cl) (.slice ak ks.length ck)) (hs:BlS i t d ti at_ li) (hf:yJ k lv i t d ti at_ li ks=true) : Calls prog 104 #[.agg #[.int .i64 k,.int .i64 lv,.string i,.string t,.string d,.string ti,.string at_.id,.slice ac at_.cls.length cc,.slice ap at_.aF.length cp,.slice al li.length cl,.slice ak ks.length ck]] w (dP (.int .i64 (qX gG k lv i t d ti at_ li ks:Nat)) w):=by
 obtain ⟨f1,f2,f3⟩:=uz hf;obtain ⟨-,l4,m4⟩:=sF h.line;obtain ⟨-,l5,m5⟩:=sF h.kids;unfold maxLen at m4 m5;have WR:=hid (fun wx (hb:jIx w.heap.size w wx) hk=>FW wx k lv i t d ti at_ li ks ac ap al ak cc cp cl ck (h.up hb) hs hk);have TB:=hid (fun wx (hb:jIx w.heap.size w wx)=>Mv wx k lv i t d ti at_ li ks ac ap al ak cc cp cl ck (h.up hb) (by have:=hs.i;omega));have CLI:=hid (fun w=>VP i w (by have:=hs.i;omega));have CTR:=hid (fun w=>qh i w (by have:=hs.i;omega));have CBD:=hid (fun w=>Qv t w (by have:=hs.t;omega));have CCL:=hid (fun w=>Jo t w (by have:=hs.t;omega));have CNM:=hid (fun w=>QS i w (by have:=hs.i;omega));have CLB:=hid (fun w=>AY i w (by have:=hs.i;omega));have CLD:=hid (fun w=>VP d w (by have:=hs.d;omega));have CLT:=hid (fun w=>VP ti w (by have:=hs.ti;omega));have AC:=hid (fun wx (hb:jIx w.heap.size w wx)=>kK at_ ac ap cc cp wx (h.at_.up hb) hs.at_);have e3:=jT ks;have HE:Hid (qX gG k lv i t d ti at_ li ks=if k=1\/k=2\/k=12 then ql k lv at_ li
 else if k=3 then (if dG i=false\/trimS i=false\/iy t=false then 17 else 0)
 else if k=4 then (if iy t=false then 17 else if gG t=true then 5 else at_.err)
 else if k=7\/k=8 then (if ks.isEmpty=true then 8 else if k=8/\(lv<0\/999999999<lv) then 9 else 0)
 else if k=10 then QT i ks
 else if k=13\/k=14 then (if dU i=false then 6 else at_.err)
 else if k=15 then (if uJ i=false then 6 else if dG d=false\/dG ti=false then 17 else 0)
 else 0):=by
  show _=_;unfold qX ql;by_cases g1:k=1
  ·simp [g1]
  by_cases g2:k=2
  ·simp [g2]
  by_cases g3:k=12
  ·simp [g3]
  simp [g1,g2,g3]
 generalize qX gG k lv i t d ti at_ li ks=V at *
 generalize hwe:ql k lv at_ li=E1 at *
 generalize QT i ks=E5 at *;generalize at_.err=E6 at *
 generalize dG i=b1 at *;generalize trimS i=b2 at *;generalize iy t=b3 at *;generalize dU i=b4 at *;generalize uJ i=b5 at *;generalize dG d=b6 at *;generalize dG ti=b7 at *;generalize gG t=b8 at *;generalize ks.isEmpty=bk at *;obtain ⟨w1,hw1⟩:∃ w1,w1=w.alloc (.cells #[.int .i64 k,.int .i64 lv,.string i,.string t,.string d,.string ti,.string at_.id,.slice ac at_.cls.length cc,.slice ap at_.aF.length cp,.slice al li.length cl,.slice ak ks.length ck] 51):=⟨_,rfl⟩;have k1:CB 51 w.heap.size [.int .i64 k,.int .i64 lv,.string i,.string t,.string d,.string ti,.string at_.id,.slice ac at_.cls.length cc,.slice ap at_.aF.length cp,.slice al li.length cl,.slice ak ks.length ck] w1:=by rw [hw1];exact CB.new _ _ _
 have bb1:jIx w.heap.size w w1:=by rw [hw1];exact (jFj _ _).alloc (jFk _) _
 have p0:=k1.cell 0 _ rfl;have p1:=k1.cell 1 _ rfl;have p2:=k1.cell 2 _ rfl;have p3:=k1.cell 3 _ rfl;have p4:=k1.cell 4 _ rfl;have p5:=k1.cell 5 _ rfl;have p6:=k1.cell 6 _ rfl;have p7:=k1.cell 7 _ rfl;have p8:=k1.cell 8 _ rfl;have p9:=k1.cell 9 _ rfl;have rZ:=k1.cell 10 _ rfl;have K1:=hid k1;have B1:=hid bb1;clear h hs hf k1 bb1 hwe;rcases uo k with rfl | rfl | rfl | rfl | rfl | rfl | rfl | rfl | rfl | rfl | rfl | rfl | rfl | rfl | rfl | hk
 case inr.inr.inr.inr.inr.inr.inr.inr.inr.inr.inr.inr.inr.inr.inr=>omega
 case inr.inr.inr.inr.inr.inr.inr.inl=>
  clear f1 f2 f3;have hlv:lv<0\/(0<=lv/\999999999<lv)\/(0<=lv/\lv<=999999999):=by omega
  have HG:Hid ((lv<0\/999999999<lv)↔¬ (0<=lv/\lv<=999999999)):=by show _↔_;omega
  rcases hlv with g | ⟨g1,g2⟩ | ⟨g1,g2⟩
  ·have q1:decide (lv<0)=true:=by simpa using g
   have HQ:Hid (lv<0\/999999999<lv):=.inl g;clear g HG;cases bk
   all_goals
    go_enter func104,ntmps104;refine kL ?_;exact Wh
  ·have q1:decide (lv<0)=false:=by simp;omega
   have q2:decide (999999999<lv)=true:=by simpa using g2
   have HQ:Hid (lv<0\/999999999<lv):=.inr g2;clear g1 g2 HG;cases bk
   all_goals
    go_enter func104,ntmps104;refine kL ?_;exact Wh
  ·have q1:decide (lv<0)=false:=by simp;omega
   have q2:decide (999999999<lv)=false:=by simp;omega
   have HQ:Hid (¬ (lv<0\/999999999<lv)):=by show ¬ _;omega
   clear g1 g2 HG;cases bk
   all_goals
    go_enter func104,ntmps104;refine kL ?_;exact Wh
 all_goals
  clear f1 f2 f3;go_enter func104,ntmps104;refine kL ?_;go_upto_region 1 with (fail)
  rw [<- hw1];clear hw1;go_wp2_with (first
   | (go_at_call 132;refine (WR.out _ B1.out (by simp)).mono ?_;rintro e w9 ⟨rfl,hb9⟩;have HB9:=hid (q01 B1.out hb9))
   | (go_at_call 136;refine (TB.out _ B1.out).mono ?_;rintro e w9 ⟨rfl,hb9⟩;have HB9:=hid (q01 B1.out hb9))
   | (go_at_call 137;refine (CLB.out _).mono ?_;rintro e w2 ⟨rfl,hb2⟩;have K2:=K1.out.below hb2;have HB2:=hid (q01 B1.out hb2);have p4:=K2.cell 4 _ rfl;have p5:=K2.cell 5 _ rfl)
   | (go_at_call 42;refine (CNM.out _).mono ?_;rintro e w2 ⟨rfl,rfl⟩)
   | (go_at_call 74;refine (CTR.out _).mono ?_;rintro e w5 ⟨rfl,rfl⟩)
   | (go_at_call 133;refine (CBD.out _).mono ?_;rintro e w3 ⟨rfl,hb3⟩;have K3:=(by first | exact K2.below hb3 | exact K1.out.below hb3:CB 51 w.heap.size _ w3);have HB3:Hid (jIx w.heap.size w w3):=(by first | exact hid (q01 HB2.out hb3) | exact hid (q01 B1.out hb3));have p3:=K3.cell 3 _ rfl;have p6:=K3.cell 6 _ rfl;have p7:=K3.cell 7 _ rfl;have p8:=K3.cell 8 _ rfl)
   | (go_at_call 134;refine (CCL.out _).mono ?_;rintro e w4 ⟨rfl,hb4⟩;have K4:=K3.below hb4;have kS:=hid (q01 HB3.out hb4);have p6:=K4.cell 6 _ rfl;have p7:=K4.cell 7 _ rfl;have p8:=K4.cell 8 _ rfl)
   | (go_at_call 135;refine (AC.out _ (by first | exact kS.out | exact B1.out)).mono ?_;rintro e w9 ⟨rfl,hb9⟩;have HB9:Hid (jIx w.heap.size w w9):=(by first | exact hid (q01 kS.out hb9) | exact hid (q01 B1.out hb9)))
   | (go_at_call 73;(with_reducible refine (CLI.out _).mono ?_);rintro e w2 ⟨rfl,hb2⟩;have K2:=K1.out.below hb2;have HB2:=hid (q01 B1.out hb2);have p2:=K2.cell 2 _ rfl;have p3:=K2.cell 3 _ rfl)
   | (go_at_call 73;(with_reducible refine (CLD.out _).mono ?_);rintro e w6 ⟨rfl,hb6⟩;have K6:=K2.below hb6;have HB6:=hid (q01 HB2.out hb6);have p5:=K6.cell 5 _ rfl)
   | (go_at_call 73;(with_reducible refine (CLT.out _).mono ?_);rintro e w7 ⟨rfl,QN⟩;have HB7:=hid (q01 HB6.out QN)))
  all_goals
   go_ret;refine ⟨JK ?_,?_⟩
   ·exact Oo
   ·first | exact HB9.out | exact HB7.out | exact HB6.out | exact kS.out | exact HB3.out | exact HB2.out | exact B1.out
open Go.RowKit
theorem FX (n:Nat):∀ (l:List ah) (par:Int) (dp:Nat) (a:Option Addr) (cap:Nat) (w:jIq),ah.aY l<=n->dp<=1000000->ah.aC l->Rd (·<w.heap.size) w (lu l) [.slice a l.length cap] -> Calls prog 79 #[.slice a l.length cap,.int .i64 par,.int .i64 (dp:Int)] w (dP (.int .i64 (ah.aT gG par dp l:Nat)) w):=by
 induction n using Nat.strongRecOn with
 | _ n ih=>
  intro l par dp a cap w hn hdp hsm h;obtain ⟨a',c',hv,hs⟩:=Rd.ay h;obtain ⟨rfl,rfl⟩:a'=a/\c'=cap:=by simp at hv;exact ⟨hv.1.symm,hv.2.symm⟩
  have hcap:l.length<=c':=by simpa using hs.le
  refine Gy ?_;intro hmx HS IH;have SM:=hid hsm;obtain ⟨E,hE⟩:∃ E,ah.aT gG par dp l=E:=⟨_,rfl⟩;rw [hE];have R0:Hid (Gx gG l par dp E w (.int .i64 0) w):=⟨0,jG6 _,rfl,jFj _ _,hE⟩;clear hs hv h ih hsm hE;go_enter func79,ntmps79;go_wp2
  go_loopw [7] (fun i wr=>Gx gG l par dp E w i wr) (fun i _=>l.length-(intOf i).toNat)
  case atStart=>exact R0.out
  case round=>
   clear R0;obtain ⟨k,hk,rfl,hbel,bg⟩:=hrel;have HB:=hid hbel;by_cases hlt:k<l.length
   ·obtain ⟨x,hx⟩:∃ x,l[k]?=some x:=⟨_,jF9 hlt⟩;have hxs:x.small:=ah.jA SM.out hx;have hsz:=ah.bI l k _ hx;rw [Gu l k x hx] at bg;obtain ⟨kd,lv,i,t,d,ti,at_,li,ks⟩:=x;rw [ah.sz] at hsz;obtain ⟨hbs,hks⟩:=jlq hxs;obtain ⟨b,off,ac,ap,al,ak,cc,cp,cl,ck,rfl,Rj⟩:=Ew HS.out hx;have hP:=Rj.up hbel;obtain ⟨c0,c1,c2,c3,c4,c5,c6,c7,c8,c9,c10⟩:=hP.cells;obtain ⟨wi,hwi⟩:∃ wi,wi=wr.alloc (.cells #[.int .i64 kd,.int .i64 lv,.string i,.string t,.string d,.string ti,.string at_.id,.slice ac at_.cls.length cc,.slice ap at_.aF.length cp,.slice al li.length cl,.slice ak ks.length ck] 51):=⟨_,rfl⟩;have bi:jIx wr.heap.size wr wi:=by rw [hwi];exact (jFj _ _).alloc (jFk _) _
    have kb:CB 51 wr.heap.size [.int .i64 kd,.int .i64 lv,.string i,.string t,.string d,.string ti,.string at_.id,.slice ac at_.cls.length cc,.slice ap at_.aF.length cp,.slice al li.length cl,.slice ak ks.length ck] wi:=by rw [hwi];exact CB.new _ _ _
    have O6:=hid (hP.rd.up bi);have KB:=hid kb;have BI:=hid (q01 HB.out bi);have bV:=hid bg;clear hxs hP Rj bg hx hbel bi kb;go_upto_region 5 with (fail)
    rw [<- hwi];clear hwi c0 c1 c2 c3 c4 c5 c6 c7 c8 c9 c10;by_cases qE:15<dp
    ·have QC:decide ((15:Int)<(dp:Int))=true:=by simp;omega
     have HE:Hid (E=11):=by show E=11;rw [<- bV.out,ah.aT,ah.err,if_pos qE];rfl
     go_wp2;go_ret;exact ⟨by rw [HE.out];rfl,BI.out⟩
    have QC:decide ((15:Int)<(dp:Int))=false:=by simp;omega
    have bg:=bV.out;rw [sH _ _ _ _ _ _ _ _ _ _ _ _ _ qE] at bg;have bV:=hid bg;have Gz:=hid (vJ wi kd lv i t d ti at_ li ks ac ap al ak cc cp cl ck O6.out);have FT:=hid (fun w=>Mt kd par w);have CI:=hid (fun wx (hb:jIx wi.heap.size wi wx) hf=>Jp wx kd lv i t d ti at_ li ks ac ap al ak cc cp cl ck (O6.out.up hb) hbs hf);have CK:=hid (fun wx (hb:jIx wi.heap.size wi wx)=>IH.out (ah.aY ks) (by omega) ks kd (dp+1) ak ck wx (jFk _) (by omega) hks (O6.out.up hb).kids);simp only [Int.natCast_add,Int.natCast_one] at CK;have p0:=KB.out.cell 0 _ rfl;have p1:=KB.out.cell 1 _ rfl;have p2:=KB.out.cell 2 _ rfl;have p3:=KB.out.cell 3 _ rfl;have p4:=KB.out.cell 4 _ rfl;have p5:=KB.out.cell 5 _ rfl;have p6:=KB.out.cell 6 _ rfl;have p7:=KB.out.cell 7 _ rfl;have p8:=KB.out.cell 8 _ rfl;have p9:=KB.out.cell 9 _ rfl;have rZ:=KB.out.cell 10 _ rfl;clear hsz hbs hks bg qE;cases hf:yJ kd lv i t d ti at_ li ks with
    | false=>
     rw [hf] at Gz;have HE:Hid (E=5):=by show E=5;have:=bV.out;rw [if_pos (.inl hf)] at this;exact this.symm
     clear hf;go_wp2_with fail
     refine Gz.out.mono ?_;rintro e w2 ⟨rfl,hb2⟩;have B2:=hid (q01 BI.out hb2);clear hb2;go_wp2;go_ret;exact ⟨by rw [HE.out];rfl,B2.out⟩
    | true=>
     rw [hf] at Gz;cases hpl:dX kd par with
     | false=>
      rw [hpl] at FT;have HE:Hid (E=5):=by show E=5;have:=bV.out;rw [if_pos (.inr hpl)] at this;exact this.symm
      clear hf hpl;go_wp2_with fail
      refine Gz.out.mono ?_;rintro e w2 ⟨rfl,hb2⟩;have B2:=hid (q01 BI.out hb2);have k2:=KB.out.below hb2;clear p0 hb2;have p0:=k2.cell 0 _ rfl;clear k2;go_wp2_with fail
      refine (FT.out _).mono ?_;rintro e w3 ⟨rfl,rfl⟩;go_wp2;go_ret;exact ⟨by rw [HE.out];rfl,B2.out⟩
     | true=>
      rw [hpl] at FT;have vR:Hid ((if qX gG kd lv i t d ti at_ li ks≠0 then qX gG kd lv i t d ti at_ li ks else if ah.aT gG kd (dp+1) ks≠0 then ah.aT gG kd (dp+1) ks else ah.aT gG par dp (l.drop (k+1)))=E):=by show _=_;have:=bV.out;rw [if_neg (by rw [hf,hpl];simp)] at this;exact this
      have ZF:=hid (fun wx hb=>CI.out wx hb hf);clear hf hpl bV CI;generalize qX gG kd lv i t d ti at_ li ks=E1 at *
      generalize ah.aT gG kd (dp+1) ks=E2 at *;go_wp2_with fail
      refine Gz.out.mono ?_;rintro e w2 ⟨rfl,hb2⟩;have k2:=KB.out.below hb2;have B2:=hid hb2;clear p0 p1 p2 p3 p4 p5 p6 p7 p8 p9 rZ hb2;have p0:=k2.cell 0 _ rfl;have p1:=k2.cell 1 _ rfl;have p2:=k2.cell 2 _ rfl;have p3:=k2.cell 3 _ rfl;have p4:=k2.cell 4 _ rfl;have p5:=k2.cell 5 _ rfl;have p6:=k2.cell 6 _ rfl;have p7:=k2.cell 7 _ rfl;have p8:=k2.cell 8 _ rfl;have p9:=k2.cell 9 _ rfl;have rZ:=k2.cell 10 _ rfl;have K2:=hid k2;clear k2;go_wp2_with fail
      refine (FT.out _).mono ?_;rintro e w3 ⟨rfl,rfl⟩;go_wp2_with fail
      refine (ZF.out _ B2.out).mono ?_;rintro e w4 ⟨rfl,hb4⟩;have B4:=hid (q01 B2.out hb4);have k4:=K2.out.below hb4;clear p0 p1 p2 p3 p4 p5 p6 p7 p8 p9 rZ hb4;have p0:=k4.cell 0 _ rfl;have rZ:=k4.cell 10 _ rfl;clear k4;by_cases h1:E1=0
      ·have xI:Hid ((if E2≠0 then E2 else ah.aT gG par dp (l.drop (k+1)))=E):=by
        exact Rl
       subst h1;clear vR;go_wp2_with fail
       refine (CK.out _ B4.out).mono ?_;rintro e w5 ⟨rfl,hb5⟩;have B5:=hid (q01 B4.out hb5);clear hb5;by_cases h2:E2=0
       ·have F4:Hid (ah.aT gG par dp (l.drop (k+1))=E):=by
         exact Rm
        subst h2;go_wp2;go_roundw;case rel=>exact ⟨k+1,by omega,by go_num,q01 BI.out B5.out,F4.out⟩
        case measure=>simp [intOf];omega
       ·refine Rn ?_;intro F4 hn2;clear h2;go_wp2;go_ret;exact ⟨by rw [F4.out];rfl,q01 BI.out B5.out⟩
      ·have xI:Hid (E=E1):=by
        show _=_;have:=vR.out;rw [if_pos h1] at this;exact this.symm
       have hn1:((E1:Int) != 0)=true:=by rw [bne_iff_ne];omega
       clear h1;go_wp2;go_ret;exact ⟨by rw [xI.out];rfl,q01 BI.out B4.out⟩
   ·have HE:Hid (E=0):=by
     exact Ri
    clear bg hbel;exact jd
theorem vU (l:List ah) (a:Option Addr) (cap:Nat) (w:jIq) (hsm:ah.aC l) (h:Rd (·<w.heap.size) w (lu l) [.slice a l.length cap]) : Calls prog 45 #[.slice a l.length cap] w (dP (.int .i64 (ah.aT gG 0 0 l:Nat)) w):=by have CK:=hid (FX _ l 0 0 a cap w (jFk _) (by omega) hsm h);generalize ah.aT gG 0 0 l=E at *;clear h hsm;go_enter func45,ntmps45;exact Ro
def jkx (T:TypeId) (p:Nat) (cs:List Value) (w:jIq) (l:List Pr) (E:Nat) (vi:Value) (wr:jIq):Prop:=
 ∃ k:Nat,k<=l.length/\vi=.int .i64 k/\CB T p cs wr/\jIx w.heap.size w wr/\uL ((l.take k).map Pr.key) (l.drop k)=E
def jx9 (K:List ByteArray) (key:ByteArray) (wl:jIq) (n:Nat) (vj:Value) (wx:jIq):Prop:=
 ∃ j q:Nat,j<=n/\vj=.int .i64 j/\q22 (K.take j) key=false/\wx=wl.drewN q
theorem KZ (me:List Pr) (l:List ah) (am ab:Option Addr) (cm nb cb:Nat) (w:jIq) (hme:me.length<=1000) (fQ:∀ p∈me,p.key.size<=1000/\p.val.size<=1000) (hall:ah.bX l<=32768) (hsm:ah.aC l) (h1:Rd (·<w.heap.size) w (fJ me) [.slice am me.length cm]) (h2:Rd (·<w.heap.size) w (lu l) [.slice ab nb cb]) : Calls prog 40 #[.agg #[.slice am me.length cm,.slice ab nb cb]] w (dP (.int .i64 (Cw gG me l:Nat)) w):=by
 obtain ⟨a1,c1,hv1,hs1⟩:=Rd.ay h1;obtain ⟨rfl,rfl⟩:a1=am/\c1=cm:=by simp at hv1;exact ⟨hv1.1.symm,hv1.2.symm⟩
 obtain ⟨a2,c2,hv2,hs2⟩:=Rd.ay h2;obtain ⟨rfl,rfl,rfl⟩:a2=ab/\nb=l.length/\c2=cb:=by simp at hv2;exact ⟨hv2.1.symm,hv2.2.1,hv2.2.2.symm⟩
 have l1:me.length<=c1:=by simpa using hs1.le
 have m1:=hs1.max;unfold maxLen at m1;have HS1:=hid hs1;have SP:=hid fQ;have HB:=hid h2;have SM:=hid hsm;obtain ⟨V,hV⟩:∃ V,V=Cw gG me l:=⟨_,rfl⟩;have HE:Hid (V=Cw gG me l):=hV;have Bj:=hid hall;rw [<- hV];clear hV hs1 fQ h2 hsm h1 hv1 hv2 hall hs2;refine ZI ?_;intro w0 hw0 hb0 k1;have SZ:=hid (Qj l a1 a2 me.length c1 l.length c2 w0 (by have:=Bj.out;omega) (HB.out.up hb0));have x0:=k1.cell 0 _ rfl;have x1:=k1.cell 1 _ rfl;have HK:=hid k1;have HB0:=hid hb0;have hall:=Bj.out;obtain ⟨N,hN⟩:∃ N,N=ah.bX l:=⟨_,rfl⟩;have HN:Hid (N=ah.bX l):=hN;rw [<- hN] at SZ hall;have hb3:decide ((32768:Int)<(N:Int))=false:=by simp;omega
 clear k1 hb0 hN hall;go_enter func40,ntmps40;go_upto_region 1 with (fail)
 rw [<- hw0];clear hw0;go_wp2_with fail
 refine SZ.out.mono ?_;rintro e w1 ⟨rfl,b1⟩;have K1:=hid (HK.out.below b1);have B1:=hid (q01 HB0.out b1);clear x0 x1 SZ b1;have x0:=K1.out.cell 0 _ rfl;have x1:=K1.out.cell 1 _ rfl;by_cases hml:64<me.length
 ·have q1:decide ((64:Int)<(me.length:Int))=true:=by simp;omega
  have HV:Hid (V=3):=by show V=3;rw [HE.out,Cw,if_pos (.inr hml)]
  exact qF
 have q1:decide ((64:Int)<(me.length:Int))=false:=by simp;omega
 have HE2:Hid (V=if uL [] me≠0 then uL [] me else ah.aT gG 0 0 l):=by show V=_;rw [HE.out,Cw,if_neg (by have:=Bj.out;omega)]
 have R0:Hid (jkx 25 w.heap.size [.slice a1 me.length c1,.slice a2 l.length c2] w me (uL [] me) (.int .i64 0) w1):=⟨0,jG6 _,rfl,K1.out,B1.out,rfl⟩;obtain ⟨E1,hE1⟩:∃ E1,E1=uL [] me:=⟨_,rfl⟩;rw [<- hE1] at HE2 R0;clear hE1 hml;go_wp2;clear x0 x1
 go_loopw [3] (fun i wr=>jkx 25 w.heap.size [.slice a1 me.length c1,.slice a2 l.length c2] w me E1 i wr) (fun i _=>me.length-(intOf i).toNat)
 case atStart=>exact R0.out
 case round=>
  clear R0;obtain ⟨k,hk,rfl,hcb,hbel,bg⟩:=hrel;have x0:=hcb.cell 0 _ rfl;have x1:=hcb.cell 1 _ rfl;have xQ:=hid hcb;have qp:=hid hbel;by_cases hlt:k<me.length
  ·obtain ⟨x,hx⟩:∃ x,me[k]?=some x:=⟨_,jF9 hlt⟩;obtain ⟨b,off,rfl,-,-,c0,c1'⟩:=jB HS1.out hx;have c0:wr.cell? ⟨b,off+k*2,none⟩=some (.string x.key):=by rw [hbel.cell (p:=⟨b,off+k*2,none⟩) (nO c0)];exact c0
   have c1':wr.cell? ⟨b,off+k*2+1,none⟩=some (.string x.val):=by rw [hbel.cell (p:=⟨b,off+k*2+1,none⟩) (nO c1')];exact c1'
   have hxs:=SP.out x (List.mem_of_getElem? hx);have bV:Hid (uL ((me.take k).map Pr.key) (x::me.drop (k+1))=E1):=by show _=_;rw [<- Gu me k x hx];exact bg
   have QE:Hid ((me.take (k+1)).map Pr.key=(me.take k).map Pr.key++[x.key]):=by show _=_;rw [List.take_add_one,hx];simp
   obtain ⟨key,val⟩:=x;dsimp only at c0 c1' hxs QE;have CN:=hid (fun w=>QS key w (by omega));have CV:=hid (fun w=>VP val w (by omega));have CT:=hid (fun w=>qh val w (by omega));obtain ⟨wi,hwi⟩:∃ wi,wi=wr.alloc (.cells #[.string key,.string val] 37):=⟨_,rfl⟩;have bi:jIx wr.heap.size wr wi:=by rw [hwi];exact (jFj _ _).alloc (jFk _) _
   have kp:CB 37 wr.heap.size [.string key,.string val] wi:=by rw [hwi];exact CB.new _ _ _
   have YV:=hid kp;have KD:=hid (xQ.out.below bi);have BI:=hid (q01 qp.out bi);have i0:=kp.cell 0 _ rfl;have i1:=kp.cell 1 _ rfl;clear bg hx hbel hcb bi kp;go_upto_region 7 with (fail)
   rw [<- hwi];clear hwi c0 c1' x0 x1;cases hn:dU key with
   | false=>
    rw [hn] at CN;have HV:Hid (V=6):=by show V=6;have:=bV.out;rw [uL,if_pos hn] at this;rw [HE2.out,<- this];rfl
    clear hn;go_wp2_with fail
    refine (CN.out _).mono ?_;rintro e w3 ⟨rfl,rfl⟩;go_wp2;go_ret;exact ⟨by rw [HV.out];rfl,BI.out⟩
   | true=>
    rw [hn] at CN;cases hln:dG val with
    | false=>
     rw [hln] at CV;have HV:Hid (V=17):=by exact ZJ
     clear hn hln;go_wp2_with fail
     refine (CN.out _).mono ?_;rintro e w3 ⟨rfl,rfl⟩;go_wp2_with fail
     refine (CV.out _).mono ?_;rintro e w3 ⟨rfl,hb3⟩;have B3:=hid (q01 BI.out hb3);clear hb3;go_wp2;go_ret;exact ⟨by rw [HV.out];rfl,B3.out⟩
    | true=>
     rw [hln] at CV;cases htr:trimS val with
     | false=>
      rw [htr] at CT;have HV:Hid (V=17):=by exact ZK
      clear hn hln htr;go_wp2_with fail
      refine (CN.out _).mono ?_;rintro e w3 ⟨rfl,rfl⟩;go_wp2_with fail
      refine (CV.out _).mono ?_;rintro e w3 ⟨rfl,hb3⟩;have B3:=hid (q01 BI.out hb3);have k3:=YV.out.below hb3;clear hb3 i0 i1;have i0:=k3.cell 0 _ rfl;have i1:=k3.cell 1 _ rfl;clear k3;go_wp2_with fail
      refine (CT.out _).mono ?_;rintro e w4 ⟨rfl,rfl⟩;go_wp2;go_ret;exact ⟨by rw [HV.out];rfl,B3.out⟩
     | true=>
      rw [htr] at CT;have hor:¬ (dG val=false\/trimS val=false):=by rw [hln,htr];decide
      have fB:Hid ((if q22 ((me.take k).map Pr.key) key=true then 7 else uL ((me.take (k+1)).map Pr.key) (me.drop (k+1)))=E1):=by show _=_;have:=bV.out;rw [uL,if_neg (by rw [hn];decide),if_neg hor] at this;rw [QE.out];exact this
      clear hn hln htr hor bV;go_wp2_with fail
      refine (CN.out _).mono ?_;rintro e w3 ⟨rfl,rfl⟩;go_wp2_with fail
      refine (CV.out _).mono ?_;rintro e w3 ⟨rfl,hb3⟩;have B3:=hid (q01 BI.out hb3);have K3P:=hid (YV.out.below hb3);have K3D:=hid (KD.out.below hb3);clear hb3 i0 i1;have i0:=K3P.out.cell 0 _ rfl;have i1:=K3P.out.cell 1 _ rfl;have x0:=K3D.out.cell 0 _ rfl;go_wp2_with fail
      refine (CT.out _).mono ?_;rintro e w4 ⟨rfl,rfl⟩;obtain ⟨KS,hKS⟩:∃ KS,KS=(me.take k).map Pr.key:=⟨_,rfl⟩;have hKl:KS.length=k:=by rw [hKS];simp;omega
      have HKG:Hid (∀ j,j<k->∃ p,me[j]?=some p/\KS[j]?=some p.key):=by intro j hj;obtain ⟨p,hp⟩:∃ p,me[j]?=some p:=⟨_,jF9 (by omega)⟩;exact ⟨p,hp,by rw [hKS,List.getElem?_map,List.getElem?_take,if_pos hj,hp];rfl⟩
      rw [<- hKS] at fB;have RI:Hid (jx9 KS key w3 k (.int .i64 0) w3):=⟨0,0,jG6 _,rfl,rfl,rfl⟩;clear hKS i1;go_wp2
      go_loopw [5] (fun vj wx=>jx9 KS key w3 k vj wx) (fun vj _=>k-(intOf vj).toNat)
      case atStart=>exact RI.out
      case round=>
       clear RI;obtain ⟨j,q,hj,rfl,hno,rfl⟩:=hrel;have FZ:=hid hno;clear hno;by_cases hjl:j<k
       ·obtain ⟨p,hp,hKp⟩:=HKG.out j hjl;obtain ⟨b',off',hbe,-,-,d0,-⟩:=jB HS1.out hp;obtain ⟨rfl,rfl⟩:b=b'/\off=off':=by simpa using hbe
        have d0:w3.cell? ⟨b,off+j*2,none⟩=some (.string p.key):=by rw [B3.out.cell (p:=⟨b,off+j*2,none⟩) (nO d0)];exact d0
        obtain ⟨y,val'⟩:=p;dsimp only at d0 hKp;have hsn:=uM KS j y key hKp;rw [FZ.out] at hsn;have gZ:=hid hsn;have HT:=hid (uN KS (j+1) key);clear hp hKp hsn hbe;by_cases hyx:y=key
        ·subst hyx;have e1:(y.toList==y.toList)=true:=beq_self_eq_true _;have HV:Hid (V=7):=by
          show V=7;have:=fB.out;rw [if_pos (HT.out (by rw [gZ.out];simp))] at this;rw [HE2.out,<- this];rfl
         go_wp2_with fail
         go_quiet (fail)
         go_wp2;go_ret;exact ⟨by rw [HV.out];rfl,ig (ig B3.out q) _⟩
        ·have e1:=yN hyx;go_wp2_with fail
         go_quiet (fail)
         go_wp2;go_roundw;case rel=>exact ⟨j+1,_,by omega,by go_num,(by rw [gZ.out];simp [hyx]),rfl⟩
         case measure=>simp [intOf];omega
       ·have hjk:j=KS.length:=by omega
        have hN:=FZ.out;rw [hjk,List.take_length] at hN;have JO:Hid (uL ((me.take (k+1)).map Pr.key) (me.drop (k+1))=E1):=by show _=_;have:=fB.out;rw [hN,if_neg (by decide)] at this;exact this
        clear hjk hN;go_wp2;go_roundw;case rel=>exact ⟨k+1,by omega,by go_num,K3D.out.dN q,ig B3.out q,JO.out⟩
        case measure=>simp [intOf];omega
  ·obtain rfl:k=me.length:=by omega
   have HV:Hid (V=ah.aT gG 0 0 l):=by show V=_;rw [List.drop_length,uL] at bg;rw [HE2.out,<- bg];rfl
   have TB:=hid (vU l a2 c2 wr SM.out (HB.out.up hbel));rw [<- HV.out] at TB;clear bg hbel hcb hk hlt;go_wp2_with fail
   refine TB.out.mono ?_;rintro e w4 ⟨rfl,b4⟩;go_wp2;go_ret;exact ⟨rfl,q01 qp.out b4⟩
end Go.Proofs.YtklhajbpfelliaaGreatDoor

