/- Contracts of publisherref04.ending, closes, body, place, blockFields, table, written, itself. Contracts of publisherref04.table, written, itself. Contracts of publisherref04.blocks, Blocks, Check. -/
import Derived.Test.YtkfnkeflalcphaaGreatDoorKRpC
import Derived.Test.YtkfnkeflalcphaaGreatDoorKPaJ
import Derived.Test.YtkfnkeflalcphaaGreatDoorKChW
set_option maxHeartbeats 8000000
set_option maxRecDepth 100000
open Go.Lib (hid)
namespace Go.Proofs.YtkfnkeflalcphaaGreatDoor
open Go.RowKit.Below renaming refl->jD7
open Nat renaming le_refl->jD8
open Bool renaming eq_iff_iff->jDk
open Go renaming World->jG9
open Go.RowKit
set_option linter.unusedVariables false
set_option linter.unusedSimpArgs false
theorem jp8 (l:List UInt8):l.all eZ=(cu l).isEmpty:=by
 unfold cu;induction l with
 | nil=>rfl
 | cons c l ih=>
  rw [List.all_cons];cases h:eZ c with
  | true=>rw [List.dropWhile_cons_of_pos h,Bool.true_and];exact ih
  | false=>rw [List.dropWhile_cons_of_neg (by rw [h];decide)];rfl
theorem uZ (s:ByteArray) (k:Nat) (h:s.size<=k\/∃ h:k<s.size,s[k]≠32):cu (aN s k)=aN s k/\(aN s k).takeWhile eZ=[]:=by
 rcases h with h | ⟨h,hn⟩
 ·rw [q1z s k h];exact ⟨rfl,rfl⟩
 ·rw [q0z s k h];have:eZ s[k]=false:=by unfold eZ;simp [hn]
  unfold cu;exact ⟨List.dropWhile_cons_of_neg (by rw [this];decide),List.takeWhile_cons_of_neg (by rw [this];decide)⟩
theorem Fj (s:ByteArray) (k:Nat) (h:k<s.size) (hn:s[k]=32):cu (aN s (k+1))=cu (aN s k)/\((aN s k).takeWhile eZ).length=1+((aN s (k+1)).takeWhile eZ).length:=by
 rw [q0z s k h];have:eZ s[k]=true:=by rw [hn];rfl
 unfold cu;rw [List.dropWhile_cons_of_pos this,List.takeWhile_cons_of_pos this,List.length_cons];exact ⟨rfl,by omega⟩
theorem take2 (s:ByteArray) (k:Nat):(s.extract k (k+2)).data.toList=(aN s k).take 2:=by rw [ByteArray.data_extract,Array.toList_extract];unfold aN;rw [List.extract_eq_take_drop,Nat.add_sub_cancel_left]
theorem YJ (s:ByteArray) (k:Nat):((s.extract k (k+2)).toList==[36,36])=decide ((aN s k).take 2=[36,36]):=by rw [Lib.toList_data,take2,jDk,beq_iff_eq,decide_eq_true_eq]
theorem Vs (s:ByteArray) (k n:Nat):(aN s k).drop n=aN s (k+n):=by unfold aN;rw [List.drop_drop]
theorem YK (s:ByteArray) (k:Nat) (h:k<=s.size):(aN s k).isEmpty=decide (k=s.size):=by
 have:=iG s k;cases hf:aN s k with
 | nil=>rw [hf] at this;simp at this ⊢;omega
 | cons c l=>rw [hf] at this;simp at this ⊢;omega
theorem Vt{P:Prop}(h:P:=by
 rw [beq_eq_false_iff_ne];intro e;exact hn (by rw [<- UInt8.toNat_inj];show _=32;omega)):P:=h
theorem IW (s:ByteArray) (w:jG9) (hs:s.size<=100000) : Calls Tryz.prog 211 #[.string s] w (eX (.bool (fU s.data.toList)) w):=by
 have HE:Hid (fU (aN s 0)=(decide (((aN s 0).takeWhile eZ).length<=3)&&decide ((cu (aN s 0)).take 2=[36,36])&&((cu ((cu (aN s 0)).drop 2)).isEmpty||rG (cu ((cu (aN s 0)).drop 2))))):=rfl;have h00:aN s 0=s.data.toList:=rfl;rw [<- h00];obtain ⟨V,hV⟩:∃ V,V=fU (aN s 0):=⟨_,rfl⟩;rw [<- hV] at HE ⊢;have R0:Hid (∃ k:Nat,k<=s.size/\Value.int .i64 0=.int .i64 k/\cu (aN s k)=cu (aN s 0)/\((aN s 0).takeWhile eZ).length=k+((aN s k).takeWhile eZ).length):=⟨0,Nat.zero_le _,rfl,rfl,by omega⟩;clear hV h00;go_enter Tryz.func211,Tryz.ntmps211;refine kI ?_;go_wp2
 go_loop [3] (fun vi=>∃ k:Nat,k<=s.size/\vi=.int .i64 k/\cu (aN s k)=cu (aN s 0)/\((aN s 0).takeWhile eZ).length=k+((aN s k).takeWhile eZ).length) (fun i=>s.size-(intOf i).toNat)
 case atStart=>exact R0.out
 case round=>
  clear R0;obtain ⟨k,hk,rfl,hsk,hln⟩:=hrel;by_cases hgo:∃ h:k<s.size,s[k]=32
  ·obtain ⟨hlt,h32⟩:=hgo;have q1:((s[k].toNat:Int)==32)=true:=by rw [h32];rfl
   have g1:=Fj s k hlt h32;have Kw:Hid (cu (aN s (k+1))=cu (aN s 0)):=g1.1.trans hsk;have HLN:Hid (((aN s 0).takeWhile eZ).length=k+1+((aN s (k+1)).takeWhile eZ).length):=by have:=g1.2;show _=_;omega
   clear hsk hln h32 g1;go_wp2
   go_round
   case rel=>exact ⟨k+1,by omega,by go_num,Kw.out,HLN.out⟩
   case measure=>simp [intOf];omega
  have hstop:s.size<=k\/∃ h:k<s.size,s[k]≠32:=by
   rcases Nat.lt_or_ge k s.size with h | h
   ·exact .inr ⟨h,fun e=>hgo ⟨h,e⟩⟩
   ·exact .inl h
  obtain ⟨g1,g2⟩:=uZ s k hstop;have hF:cu (aN s 0)=aN s k:=by rw [<- hsk,g1]
  have hL:((aN s 0).takeWhile eZ).length=k:=by rw [hln,g2];rfl
  have HE2:Hid (V=(decide (k<=3)&&decide ((aN s k).take 2=[36,36])&&((cu (aN s (k+2))).isEmpty||rG (cu (aN s (k+2)))))):=by show V=_;rw [HE.out,hF,hL,Vs]
  clear hsk hln g1 g2 hF hL HE hgo;have qs:s.size<=k\/∃ h:k<s.size,((s[k].toNat:Int)==32)=false:=by
   rcases hstop with h | ⟨h,hn⟩
   ·exact .inl h
   ·right;refine ⟨h,?_⟩;exact Vt
  clear hstop;by_cases hbad:3<k\/s.size<k+2
  ·have HV:Hid (V=false):=by
    show V=false;rw [HE2.out];rcases hbad with h | h
    ·rw [decide_eq_false (show ¬ k<=3 by omega)];rfl
    ·have h2:(aN s k).take 2≠[36,36]:=by
      intro e;have:=congrArg List.length e;rw [List.length_take,iG] at this;simp at this;omega
     rw [decide_eq_false h2,Bool.and_false];rfl
   have q34:(decide ((3:Int)<(k:Int))=true/\decide (3<k)=true)\/(decide ((3:Int)<(k:Int))=false/\decide (3<k)=false/\decide ((s.size:Int)<(k:Int)+2)=true/\decide (s.size<k+2)=true):=by
    by_cases h:3<k
    ·left;exact ⟨by simp;omega,by simp;omega⟩
    ·right;exact ⟨by simp;omega,by simp;omega,by simp;omega,by simp;omega⟩
   clear HE2 hbad;rcases qs with q1 | ⟨hlt,q2⟩<;>rcases q34 with ⟨q3,q3n⟩ | ⟨q3,q3n,q4,q4n⟩
   all_goals
    exact nJ
  have q3:decide ((3:Int)<(k:Int))=false:=by simp;omega
  have q4:decide ((s.size:Int)<(k:Int)+2)=false:=by simp;omega
  have q3n:decide (3<k)=false:=by simp;omega
  have q4n:decide (s.size<k+2)=false:=by simp;omega
  have hk3:k<=3:=by omega
  have hk2:k+2<=s.size:=by omega
  have hlt:k<s.size:=by omega
  have hD:=YJ s k;have q5:((s[k].toNat:Int)==32)=false:=by
   rcases qs with q1 | ⟨_,q2⟩
   ·omega
   ·exact q2
  clear qs hbad;by_cases Qs:(aN s k).take 2=[36,36];case neg=>
   have HV:Hid (V=false):=by show V=false;rw [HE2.out,decide_eq_false Qs,Bool.and_false];rfl
   rw [decide_eq_false Qs] at hD;clear Qs HE2;exact nJ
  rw [decide_eq_true Qs] at hD;have wX:Hid (V=((cu (aN s (k+2))).isEmpty||rG (cu (aN s (k+2))))):=by show V=_;rw [HE2.out,decide_eq_true Qs,decide_eq_true hk3];rfl
  have R1:Hid (∃ q:Nat,k+2<=q/\q<=s.size/\Value.int .i64 ((k:Int)+2)=.int .i64 q/\cu (aN s q)=cu (aN s (k+2))):=⟨k+2,jD8 _,hk2,by go_num,rfl⟩;clear Qs HE2;go_wp2
  go_loop [3] (fun vi=>∃ q:Nat,k+2<=q/\q<=s.size/\vi=.int .i64 q/\cu (aN s q)=cu (aN s (k+2))) (fun i=>s.size-(intOf i).toNat)
  case atStart=>exact R1.out
  case round=>
   clear R1 hD q3 q4 q3n q4n q5;obtain ⟨q,hkq,hq,rfl,hsk⟩:=hrel;by_cases hgo:∃ h:q<s.size,s[q]=32
   ·obtain ⟨hlt2,h32⟩:=hgo;have q1:((s[q].toNat:Int)==32)=true:=by rw [h32];rfl
    have Kw:Hid (cu (aN s (q+1))=cu (aN s (k+2))):=(Fj s q hlt2 h32).1.trans hsk;clear hsk h32;go_wp2
    go_round
    case rel=>exact ⟨q+1,by omega,by omega,by go_num,Kw.out⟩
    case measure=>simp [intOf];omega
   have hstop:s.size<=q\/∃ h:q<s.size,s[q]≠32:=by
    rcases Nat.lt_or_ge q s.size with h | h
    ·exact .inr ⟨h,fun e=>hgo ⟨h,e⟩⟩
    ·exact .inl h
   have hF:cu (aN s (k+2))=aN s q:=by rw [<- hsk,(uZ s q hstop).1]
   have Fv:Hid (V=((aN s q).isEmpty||rG (aN s q))):=by show V=_;rw [wX.out,hF]
   clear hsk hF wX hgo;rcases hstop with hge | ⟨hlt2,hn⟩
   ·have hqe:q=s.size:=by omega
    have HV:Hid (V=true):=by show V=_;rw [Fv.out,q1z s q hge];rfl
    have e1:((q:Int)==(s.size:Int))=true:=by rw [beq_iff_eq];omega
    clear Fv hqe;exact nJ
   have e1:((q:Int)==(s.size:Int))=false:=by rw [beq_eq_false_iff_ne];omega
   have q1:((s[q].toNat:Int)==32)=false:=by exact Vt
   have HE5:Hid (V=match q22 (aN s q) with
    | none=>false
    | some (_,r)=>r.all eZ):=by
    show V=_;rw [Fv.out,q0z s q hlt2];rfl
   have PA:=hid (LW s q w hs hq);clear Fv hn;go_wp2_with fail
   refine PA.out.mono ?_;rintro e w1 ⟨x,a1,n1,c1,a2,n2,c2,t,m,rfl,hb1,hres⟩;have HB1:=hid hb1;have iO:=hid hres;have YI:=hid (hb1.alloc hb1.size (.cells #[.string x,.slice a1 n1 c1,.slice a2 n2 c2] 45));clear hb1 hres PA;by_cases hm:m=0;case neg=>
    have e5:(m != 0)=true:=by rw [bne_iff_ne];exact hm
    have HV:Hid (V=false):=by
     show V=_;rcases iO.out with ⟨h,_⟩ | ⟨_,h⟩
     ·exact absurd h hm
     ·rw [HE5.out,h]
    clear iO HE5;go_wp2;go_ret;exact ⟨by rw [HV.out];rfl,YI.out⟩
   subst hm;obtain ⟨a',z,hto,rfl,HP⟩:∃ (a':At) (z:Nat),z<=s.size/\t=z/\Hid (q22 (aN s q)=some (a',aN s z)):=by
    rcases iO.out with ⟨_,h⟩ | ⟨h,_⟩
    ·exact h
    ·exact absurd rfl h
   have HE6:Hid (V=(cu (aN s z)).isEmpty):=by show V=_;rw [HE5.out,HP.out];exact jp8 _
   have R2:Hid (∃ r:Nat,r<=s.size/\Value.int .i64 (z:Int)=.int .i64 r/\cu (aN s r)=cu (aN s z)):=⟨z,hto,rfl,rfl⟩;clear iO HE5 HP;go_wp2;obtain ⟨W,hW⟩:∃ W,W=w1.alloc (.cells #[.string x,.slice a1 n1 c1,.slice a2 n2 c2] 45):=⟨_,rfl⟩;rw [<- hW] at YI ⊢;clear hW
   go_loop [5] (fun vi=>∃ r:Nat,r<=s.size/\vi=.int .i64 r/\cu (aN s r)=cu (aN s z)) (fun i=>s.size-(intOf i).toNat)
   case atStart=>exact R2.out
   case round=>
    clear R2;obtain ⟨r,hr,rfl,hsk⟩:=hrel;by_cases hgo:∃ h:r<s.size,s[r]=32
    ·obtain ⟨hlt3,h32⟩:=hgo;have q2:((s[r].toNat:Int)==32)=true:=by rw [h32];rfl
     have Kw:Hid (cu (aN s (r+1))=cu (aN s z)):=(Fj s r hlt3 h32).1.trans hsk;clear hsk h32;go_wp2
     go_round
     case rel=>exact ⟨r+1,by omega,by go_num,Kw.out⟩
     case measure=>simp [intOf];omega
    have hstop:s.size<=r\/∃ h:r<s.size,s[r]≠32:=by
     rcases Nat.lt_or_ge r s.size with h | h
     ·exact .inr ⟨h,fun e=>hgo ⟨h,e⟩⟩
     ·exact .inl h
    have HV:Hid (V=decide (r=s.size)):=by show V=_;rw [HE6.out,<- hsk,(uZ s r hstop).1,YK s r hr]
    clear hsk HE6 hgo;rcases hstop with hge | ⟨hlt3,hn⟩
    ·go_wp2;go_ret;refine ⟨wF ?_,YI.out⟩;rw [HV.out,jDk];simp;omega
    ·have q2:((s[r].toNat:Int)==32)=false:=by
      exact Vt
     clear hn;go_wp2;go_ret;refine ⟨wF ?_,YI.out⟩;rw [HV.out,jDk];simp;omega
def jiq (s:ByteArray) (V:Bool) (w:jG9) (vf vi:Value) (wr:jG9):Prop:=
 ∃ i f:Nat,f<=i/\i<=s.size/\vf=.int .i64 f/\vi=.int .i64 i/\((jL (s.extract f i).data.toList (aN s i)).any fU)=V/\Below w.heap.size w wr
theorem ext_nil (s:ByteArray) (i:Nat):(s.extract i i).data.toList=[]:=by rw [ByteArray.data_extract,Array.toList_extract,List.extract_eq_take_drop];simp
theorem IY (s:ByteArray) (f i:Nat) (hf:f<=i) (h:i<s.size):(s.extract f (i+1)).data.toList=(s.extract f i).data.toList++[s[i]]:=by
 rw [ByteArray.data_extract,Array.toList_extract,ByteArray.data_extract,Array.toList_extract,List.extract_eq_take_drop,List.extract_eq_take_drop];have h1:i<s.data.toList.length:=by simpa using h
 have e:i+1-f=(i-f)+1:=by omega
 rw [e,List.take_add_one,List.getElem?_drop];have e2:f+(i-f)=i:=by omega
 rw [e2,List.getElem?_eq_getElem h1];rfl
theorem IZ (s:ByteArray) (w:jG9) (hs:s.size<=100000) : Calls Tryz.prog 179 #[.string s] w (eX (.bool (iT s)) w):=by
 obtain ⟨V,hV⟩:∃ V,V=iT s:=⟨_,rfl⟩;rw [<- hV];have R0:Hid (jiq s V w (.int .i64 0) (.int .i64 0) w):=by refine ⟨0,0,jD8 _,Nat.zero_le _,rfl,rfl,?_,jD7 _ _⟩;rw [ext_nil,hV];rfl
 clear hV;go_enter Tryz.func179,Tryz.ntmps179;go_wp2
 go_loopw [3,4] (fun vf vi wr=>jiq s V w vf vi wr) (fun _ i _=>s.size-(intOf i).toNat)
 case atStart=>exact R0.out
 case round=>
  clear R0;obtain ⟨i,f,hf,hi,rfl,rfl,hv,hbel⟩:=hrel;have HB:=hid hbel;have HV:=hid hv;clear hv hbel;by_cases hlt:i<s.size
  ·have hcn:=q0z s i hlt;by_cases h10:s[i]=10
   ·have q1:((s[i].toNat:Int)==10)=true:=by rw [h10];rfl
    have EN:=hid (IW (s.extract f i) wr (by rw [ByteArray.size_extract];omega));have rO:Hid ((fU (s.extract f i).data.toList||(jL [] (aN s (i+1))).any fU)=V):=by show _=V;rw [<- HV.out,hcn,jL,if_pos h10,List.any_cons]
    clear hcn h10 HV;cases hen:fU (s.extract f i).data.toList with
    | true=>
     rw [hen] at EN;have Lu:Hid (V=true):=by show V=_;rw [<- rO.out,hen];rfl
     clear hen rO;go_wp2_with fail
     refine EN.out.mono ?_;rintro e w1 ⟨rfl,hb1⟩;have HB1:=hid (q01 HB.out hb1);clear hb1;go_wp2;go_ret;exact ⟨by rw [Lu.out];rfl,HB1.out⟩
    | false=>
     rw [hen] at EN;have Lu:Hid ((jL (s.extract (i+1) (i+1)).data.toList (aN s (i+1))).any fU=V):=by show _=V;rw [<- rO.out,hen,ext_nil];rfl
     clear hen rO;go_wp2_with fail
     refine EN.out.mono ?_;rintro e w1 ⟨rfl,hb1⟩;have HB1:=hid (q01 HB.out hb1);clear hb1;go_wp2;go_roundw;case rel=>exact ⟨i+1,i+1,jD8 _,hlt,by go_num,by go_num,Lu.out,HB1.out⟩
     case measure=>simp [intOf];omega
   ·have q1:((s[i].toNat:Int)==10)=false:=by
     rw [beq_eq_false_iff_ne];intro e;exact h10 (by rw [<- UInt8.toNat_inj];show _=10;omega)
    have rO:Hid ((jL (s.extract f (i+1)).data.toList (aN s (i+1))).any fU=V):=by show _=V;rw [<- HV.out,hcn,jL,if_neg h10,IY s f i hf hlt]
    clear hcn h10 HV;go_wp2;go_roundw;case rel=>exact ⟨i+1,f,by omega,hlt,rfl,by go_num,rO.out,HB.out⟩
    case measure=>simp [intOf];omega
  ·have rO:Hid (V=false):=by show V=_;rw [<- HV.out,q1z s i (by omega)];rfl
   clear HV;go_wp2;go_ret;exact ⟨by rw [rO.out];rfl,HB.out⟩
theorem P5 (s:ByteArray) (w:jG9) (hs:s.size<=1000000000) : Calls Tryz.prog 178 #[.string s] w (eX (.bool (gQ s)) w):=by
 rcases fq s with rfl | ⟨hne,hp,hie,hes⟩
 ·go_enter Tryz.func178,Tryz.ntmps178;exact vC
 ·have hv:gQ s=(dM s&&decide (bt s (s.size-1)=10)):=by
   unfold gQ;rw [hes,Fa s 10 hp];rfl
  rw [hv];have e1:=jk s (s.size-1) (by omega);have VA:=hid (rM s w hs);generalize bt s (s.size-1)=b1 at *;generalize dM s=V at *;have hsub:((s.size:Int)-1).toNat=s.size-1:=by omega
  clear hv hes;cases V
  all_goals
   go_enter Tryz.func178,Tryz.ntmps178;go_wp2_with fail
   refine VA.out.mono ?_;rintro e w1 ⟨rfl,hb1⟩;have HB1:=hid hb1;clear hb1;go_wp2;all_goals
    go_ret;refine ⟨wF ?_,HB1.out⟩;exact jf0
theorem LX (k par:Int) (w:jG9):Calls Tryz.prog 140 #[.int .i64 k,.int .i64 par] w fun e w'=>e=.returned (.bool (dU k par))/\w=w':=by
 obtain ⟨V,hV⟩:∃ V,V=dU k par:=⟨_,rfl⟩;rw [<- hV];have HV:=hid hV;clear hV;go_enter Tryz.func140,Tryz.ntmps140;go_wp2;all_goals
  go_ret;refine ⟨wF ?_,rfl⟩;rw [HV.out];unfold dU;simp only [beq_iff_eq,beq_eq_false_iff_ne,ne_eq,bne_iff_ne,bne_eq_false_iff_eq] at *
  (repeat' split)<;>first | omega | (rw [jDk];simp;done) | (simp;omega) | (simp [*];done) | (rw [jDk];simp;omega)
theorem YL (k:Int):(k<1\/15<k)\/(1<=k/\k<=15)/\( (([2,8]:List Int).contains k=false/\([3,10,13,14,15]:List Int).contains k=false/\([3,4]:List Int).contains k=false/\([2,4,13]:List Int).contains k=false/\([1,2,12]:List Int).contains k=true/\([6,7,8,9,10,11,13,14]:List Int).contains k=false/\(k==15)=false) \/ (([2,8]:List Int).contains k=true/\([3,10,13,14,15]:List Int).contains k=false/\([3,4]:List Int).contains k=false/\([2,4,13]:List Int).contains k=true/\([1,2,12]:List Int).contains k=true/\([6,7,8,9,10,11,13,14]:List Int).contains k=false/\(k==15)=false) \/ (([2,8]:List Int).contains k=false/\([3,10,13,14,15]:List Int).contains k=true/\([3,4]:List Int).contains k=true/\([2,4,13]:List Int).contains k=false/\([1,2,12]:List Int).contains k=false/\([6,7,8,9,10,11,13,14]:List Int).contains k=false/\(k==15)=false) \/ (([2,8]:List Int).contains k=false/\([3,10,13,14,15]:List Int).contains k=false/\([3,4]:List Int).contains k=true/\([2,4,13]:List Int).contains k=true/\([1,2,12]:List Int).contains k=false/\([6,7,8,9,10,11,13,14]:List Int).contains k=false/\(k==15)=false) \/ (([2,8]:List Int).contains k=false/\([3,10,13,14,15]:List Int).contains k=false/\([3,4]:List Int).contains k=false/\([2,4,13]:List Int).contains k=false/\([1,2,12]:List Int).contains k=false/\([6,7,8,9,10,11,13,14]:List Int).contains k=false/\(k==15)=false) \/ (([2,8]:List Int).contains k=false/\([3,10,13,14,15]:List Int).contains k=false/\([3,4]:List Int).contains k=false/\([2,4,13]:List Int).contains k=false/\([1,2,12]:List Int).contains k=false/\([6,7,8,9,10,11,13,14]:List Int).contains k=true/\(k==15)=false) \/ (([2,8]:List Int).contains k=true/\([3,10,13,14,15]:List Int).contains k=false/\([3,4]:List Int).contains k=false/\([2,4,13]:List Int).contains k=false/\([1,2,12]:List Int).contains k=false/\([6,7,8,9,10,11,13,14]:List Int).contains k=true/\(k==15)=false) \/ (([2,8]:List Int).contains k=false/\([3,10,13,14,15]:List Int).contains k=true/\([3,4]:List Int).contains k=false/\([2,4,13]:List Int).contains k=false/\([1,2,12]:List Int).contains k=false/\([6,7,8,9,10,11,13,14]:List Int).contains k=true/\(k==15)=false) \/ (([2,8]:List Int).contains k=false/\([3,10,13,14,15]:List Int).contains k=true/\([3,4]:List Int).contains k=false/\([2,4,13]:List Int).contains k=true/\([1,2,12]:List Int).contains k=false/\([6,7,8,9,10,11,13,14]:List Int).contains k=true/\(k==15)=false) \/ (([2,8]:List Int).contains k=false/\([3,10,13,14,15]:List Int).contains k=true/\([3,4]:List Int).contains k=false/\([2,4,13]:List Int).contains k=false/\([1,2,12]:List Int).contains k=false/\([6,7,8,9,10,11,13,14]:List Int).contains k=false/\(k==15)=true)):=by
 rcases tY k with rfl | rfl | rfl | rfl | rfl | rfl | rfl | rfl | rfl | rfl | rfl | rfl | rfl | rfl | rfl | hk
 case inr.inr.inr.inr.inr.inr.inr.inr.inr.inr.inr.inr.inr.inr.inr=>exact .inl hk
 all_goals (right;simp)
theorem vv (w:jG9) (k lv:Int) (i t d ti:ByteArray) (at_:At) (li:List aj) (ks:List ah) (ac ap al ak:Option Addr) (cc cp cl ck:Nat) (h:eP (·<w.heap.size) w at_ li ks (.slice ac at_.cls.length cc) (.slice ap at_.aD.length cp) (.slice al li.length cl) (.slice ak ks.length ck)) : Calls Tryz.prog 139 #[.agg #[.int .i64 k,.int .i64 lv,.string i,.string t,.string d,.string ti,.string at_.id,.slice ac at_.cls.length cc,.slice ap at_.aD.length cp,.slice al li.length cl,.slice ak ks.length ck]] w (eX (.bool (xW k lv i t d ti at_ li ks)) w):=by
 have l1:=(rX h.at_.cls).2;have l2:=(rX h.at_.aD).2;obtain ⟨-,l4,m4⟩:=rX h.line;obtain ⟨-,l5,m5⟩:=rX h.kids;unfold maxLen at m4 m5;have AE:=hid (fun w=>oI at_ ac ap cc cp w (by omega) (by omega));clear l1 l2;have HV:Hid (xW k lv i t d ti at_ li ks=(decide (1<=k)&&decide (k<=15)&&(([2,8]:List Int).contains k||(lv==0))&&(([3,10,13,14,15]:List Int).contains k||i.toList.isEmpty)&&(([3,4]:List Int).contains k||t.toList.isEmpty) &&
 ((k==15)||(d.toList.isEmpty&&ti.toList.isEmpty))&&(([2,4,13]:List Int).contains k||at_.none)&&(([1,2,12]:List Int).contains k||((li.length:Int)==0))&&(([6,7,8,9,10,11,13,14]:List Int).contains k||((ks.length:Int)==0)))):=by show _=_;rw [oN,oN,oN,oN,jR,jR];rfl
 obtain ⟨V,hV⟩:∃ V,V=xW k lv i t d ti at_ li ks:=⟨_,rfl⟩
 rw [<- hV] at HV ⊢;have Vj:=YL k;have IL1:=hid (fun (w:jG9)=>iW k [2,8] w 3 (by decide));have IL2:=hid (fun (w:jG9)=>iW k [3,10,13,14,15] w 3 (by decide));have IL3:=hid (fun (w:jG9)=>iW k [3,4] w 3 (by decide));have IL4:=hid (fun (w:jG9)=>iW k [2,4,13] w 3 (by decide));have IL5:=hid (fun (w:jG9)=>iW k [1,2,12] w 3 (by decide));have IL6:=hid (fun (w:jG9)=>iW k [6,7,8,9,10,11,13,14] w 3 (by decide));generalize ([2,8]:List Int).contains k=b1 at *;generalize ([3,10,13,14,15]:List Int).contains k=b2 at *;generalize ([3,4]:List Int).contains k=b3 at *;generalize ([2,4,13]:List Int).contains k=b4 at *;generalize ([1,2,12]:List Int).contains k=b5 at *;generalize ([6,7,8,9,10,11,13,14]:List Int).contains k=b6 at *;generalize at_.none=bn at *
 obtain ⟨w1,hw1⟩:∃ w1,w1=w.alloc (.cells #[.int .i64 k,.int .i64 lv,.string i,.string t,.string d,.string ti,.string at_.id,.slice ac at_.cls.length cc,.slice ap at_.aD.length cp,.slice al li.length cl,.slice ak ks.length ck] 48):=⟨_,rfl⟩;have k1:CB 48 w.heap.size [.int .i64 k,.int .i64 lv,.string i,.string t,.string d,.string ti,.string at_.id,.slice ac at_.cls.length cc,.slice ap at_.aD.length cp,.slice al li.length cl,.slice ak ks.length ck] w1:=by rw [hw1];exact CB.new _ _ _
 have B1:Hid (Below w.heap.size w w1):=by show Below _ _ _;rw [hw1];exact (jD7 _ _).alloc (jD8 _) _
 have p0:=k1.cell 0 _ rfl;have K1:=hid k1;clear hV h k1;go_enter Tryz.func139,Tryz.ntmps139;simp only [List.append_eq,List.cons_append,List.nil_append];go_upto_region 1 with (fail)
 rw [<- hw1];clear hw1;go_wp2_with fail
 refine (IL1.out w1).mono ?_;rintro e w2 ⟨rfl,b2_⟩;have K2:=hid (K1.out.below b2_);have B2:=hid (q01 B1.out b2_);have p0:=K2.out.cell 0 _ rfl;clear b2_ K1 B1;go_wp2_with fail
 refine (IL2.out w2).mono ?_;rintro e w3 ⟨rfl,b3_⟩;have K3:=hid (K2.out.below b3_);have B3:=hid (q01 B2.out b3_);have p0:=K3.out.cell 0 _ rfl;clear b3_ K2 B2;go_wp2_with fail
 refine (IL3.out w3).mono ?_;rintro e w4 ⟨rfl,b4_⟩;have K4:=hid (K3.out.below b4_);have B4:=hid (q01 B3.out b4_);have p0:=K4.out.cell 0 _ rfl;clear b4_ K3 B3;go_wp2_with fail
 refine (IL4.out w4).mono ?_;rintro e w5 ⟨rfl,b5_⟩;have K5:=hid (K4.out.below b5_);have B5:=hid (q01 B4.out b5_);have p0:=K5.out.cell 0 _ rfl;clear b5_ K4 B4;go_wp2_with fail
 refine (IL5.out w5).mono ?_;rintro e w6 ⟨rfl,b6_⟩;have K6:=hid (K5.out.below b6_);have B6:=hid (q01 B5.out b6_);have p0:=K6.out.cell 0 _ rfl;clear b6_ K5 B5;go_wp2_with fail
 refine (IL6.out w6).mono ?_;rintro e w7 ⟨rfl,b7_⟩;have K7:=hid (K6.out.below b7_);have B7:=hid (q01 B6.out b7_);have p0:=K7.out.cell 0 _ rfl;clear b7_ K6 B6;have p0:=K7.out.cell 0 _ rfl;have p1:=K7.out.cell 1 _ rfl;have p2:=K7.out.cell 2 _ rfl;have p3:=K7.out.cell 3 _ rfl;have p4:=K7.out.cell 4 _ rfl;have p5:=K7.out.cell 5 _ rfl;have p6:=K7.out.cell 6 _ rfl;have p7:=K7.out.cell 7 _ rfl;have p8:=K7.out.cell 8 _ rfl;have p9:=K7.out.cell 9 _ rfl;have sj:=K7.out.cell 10 _ rfl;rcases Vj with hk | ⟨⟨hk1,hk2⟩,hpat⟩
 ·have hv:V=false:=by
   exact jh8
  have HE:=hid hv;by_cases hk1:1<=k
  ·have q1:decide ((1:Int)<=k)=true:=by simpa using hk1
   have q2:decide (k<=(15:Int))=false:=by simp;omega
   clear hv hk;go_wp2;go_ret;exact ⟨by rw [HE.out];rfl,B7.out⟩
  ·have q1:decide ((1:Int)<=k)=false:=by simpa using hk1
   clear hv hk;go_wp2;go_ret;exact ⟨by rw [HE.out];rfl,B7.out⟩
 have q1:decide ((1:Int)<=k)=true:=by simpa using hk1
 have q2:decide (k<=(15:Int))=true:=by simpa using hk2
 rw [q1,q2] at HV;generalize jz9:(k==15)=Qb at *;clear hk1 hk2;rcases hpat with ⟨rfl,rfl,rfl,rfl,rfl,rfl,rfl⟩ | ⟨rfl,rfl,rfl,rfl,rfl,rfl,rfl⟩ | ⟨rfl,rfl,rfl,rfl,rfl,rfl,rfl⟩ | ⟨rfl,rfl,rfl,rfl,rfl,rfl,rfl⟩ | ⟨rfl,rfl,rfl,rfl,rfl,rfl,rfl⟩ | ⟨rfl,rfl,rfl,rfl,rfl,rfl,rfl⟩ | ⟨rfl,rfl,rfl,rfl,rfl,rfl,rfl⟩ | ⟨rfl,rfl,rfl,rfl,rfl,rfl,rfl⟩ | ⟨rfl,rfl,rfl,rfl,rfl,rfl,rfl⟩ | ⟨rfl,rfl,rfl,rfl,rfl,rfl,rfl⟩
 all_goals
  go_wp2_with (go_at_call 176;refine (AE.out _).mono ?_;rintro e w8 ⟨rfl,hb8⟩;have K8:=K7.out.below hb8;have p9:=K8.cell 9 _ rfl;have sj:=K8.cell 10 _ rfl;have p0:=K8.cell 0 _ rfl)
  all_goals
   go_ret;refine ⟨wF ?_,?_⟩
   ·rw [HV.out]
    (try simp only [*])
    (try simp)
    (try (simp only [<- List.length_eq_zero_iff];omega))
   ·first | exact q01 B7.out hb8 | exact B7.out
open Go.RowKit
theorem YM (i:ByteArray) (k:Nat) (h:k<i.size):mV (i.extract k (k+1)) gT=gT.contains i[k]:=by unfold mV;rw [IY i k k (jD8 _) h,ext_nil];simp
def jix (i:ByteArray) (w:jG9) (T p:Nat) (cs:List Value) (vi:Value) (wr:jG9):Prop:=
 ∃ k:Nat,k<=i.size/\vi=.int .i64 k/\CB T p cs wr/\Below w.heap.size w wr/\(i.data.toList.take k).all (fun c=>gT.contains c)=true
def jiz (ks:List ah) (n:Nat) (w:jG9) (T p:Nat) (cs:List Value) (vi:Value) (wr:jG9):Prop:=
 ∃ k:Nat,k<=ks.length/\vi=.int .i64 k/\CB T p cs wr/\Below w.heap.size w wr/\(ks.take k).any (fun b=>!decide (b.ow=n))=false
theorem jj0{P Q:Prop}(q:Q)(h:Nonempty Q->P:=by
 intro qQ;have p0:=hcb.cell 0 _ rfl;have p1:=hcb.cell 1 _ rfl;have p2:=hcb.cell 2 _ rfl;have p3:=hcb.cell 3 _ rfl;have p4:=hcb.cell 4 _ rfl;have p5:=hcb.cell 5 _ rfl;have p6:=hcb.cell 6 _ rfl;have p7:=hcb.cell 7 _ rfl;have p8:=hcb.cell 8 _ rfl;have p9:=hcb.cell 9 _ rfl;have sj:=hcb.cell 10 _ rfl;have AX:=hid hcb;have HB:=hid hbel;revert p0 p1 p2 p3 p4 p5 p6 p7 p8 p9 sj AX HB;exact qQ.elim fun x=>x):P:=h ⟨q⟩
theorem LY (w:World) (k lv:Int) (i t d ti:ByteArray) (at_:At) (li:List aj) (ks:List ah) (ac ap al ak:Option Addr) (cc cp cl ck:Nat) (h:eP (·<w.heap.size) w at_ li ks (.slice ac at_.cls.length cc) (.slice ap at_.aD.length cp) (.slice al li.length cl) (.slice ak ks.length ck)) (hi:i.size<=1000000000) : Calls Tryz.prog 181 #[.agg #[.int .i64 k,.int .i64 lv,.string i,.string t,.string d,.string ti,.string at_.id,.slice ac at_.cls.length cc,.slice ap at_.aD.length cp,.slice al li.length cl,.slice ak ks.length ck]] w (eX (.int .i64 (Qp i ks:Nat)) w):=by
 obtain ⟨a',c',hv,hs⟩:=Rd.ay h.kids;obtain ⟨rfl,rfl⟩:a'=ak/\c'=ck:=by simp at hv;exact ⟨hv.1.symm,hv.2.symm⟩
 have hcap:ks.length<=c':=by simpa using hs.le
 have hmx:=hs.max;unfold maxLen at hmx;have HS:=hid hs;have e3:=jR ks;have HE:Hid (Qp i ks=if 32<i.size then 3 else if aW i=true then 5 else if i.data.toList.any (fun c=>!(gT:List UInt8).contains c) then 5
   else if ks.isEmpty=true then 8 else if ks.any (fun b=>!decide (b.ow=i.size)) then 15 else 0):=rfl
 generalize Qp i ks=V at *;obtain ⟨w1,hw1⟩:∃ w1,w1=w.alloc (.cells #[.int .i64 k,.int .i64 lv,.string i,.string t,.string d,.string ti,.string at_.id,.slice ac at_.cls.length cc,.slice ap at_.aD.length cp,.slice al li.length cl,.slice a' ks.length c'] 48):=⟨_,rfl⟩;have k1:CB 48 w.heap.size [.int .i64 k,.int .i64 lv,.string i,.string t,.string d,.string ti,.string at_.id,.slice ac at_.cls.length cc,.slice ap at_.aD.length cp,.slice al li.length cl,.slice a' ks.length c'] w1:=by rw [hw1];exact CB.new _ _ _
 refine Ng ?_;intro b1;have p0:=k1.cell 0 _ rfl;have p1:=k1.cell 1 _ rfl;have p2:=k1.cell 2 _ rfl;have p3:=k1.cell 3 _ rfl;have p4:=k1.cell 4 _ rfl;have p5:=k1.cell 5 _ rfl;have p6:=k1.cell 6 _ rfl;have p7:=k1.cell 7 _ rfl;have p8:=k1.cell 8 _ rfl;have p9:=k1.cell 9 _ rfl;have sj:=k1.cell 10 _ rfl;have K1:=hid k1;have B1:=hid b1;clear hv hs h k1 b1;by_cases h32:32<i.size
 ·have HV:Hid (V=3):=by show V=3;rw [HE.out,if_pos h32]
  have q:decide ((32:Int)<(i.size:Int))=true:=by simp;omega
  clear HE;go_enter Tryz.func181,Tryz.ntmps181;go_upto_region 1 with (fail)
  rw [<- hw1];clear hw1;exact su
 have q:decide ((32:Int)<(i.size:Int))=false:=by simp;omega
 rcases fq i with rfl | ⟨i1,i2,i3,i4⟩
 ·have HV:Hid (V=5):=by show V=5;rw [HE.out,if_neg h32,if_pos (by decide)]
  clear HE;go_enter Tryz.func181,Tryz.ntmps181;go_upto_region 1 with (fail)
  rw [<- hw1];clear hw1;exact su
 have HE2:Hid (V=if i.data.toList.any (fun c=>!(gT:List UInt8).contains c) then 5
   else if ks.isEmpty=true then 8 else if ks.any (fun b=>!decide (b.ow=i.size)) then 15 else 0):=by
  show V=_;rw [HE.out,if_neg h32,if_neg (by rw [i4];decide)]
 have R0:Hid (jix i w 48 w.heap.size [.int .i64 k,.int .i64 lv,.string i,.string t,.string d,.string ti,.string at_.id,.slice ac at_.cls.length cc,.slice ap at_.aD.length cp,.slice al li.length cl,.slice a' ks.length c'] (.int .i64 0) w1):=⟨0,Nat.zero_le _,rfl,K1.out,B1.out,by simp⟩;clear HE;go_enter Tryz.func181,Tryz.ntmps181;go_upto_region 1 with (fail)
 rw [<- hw1];clear hw1;go_wp2
 go_loopw [3] (fun vi wr=>jix i w 48 w.heap.size [.int .i64 k,.int .i64 lv,.string i,.string t,.string d,.string ti,.string at_.id,.slice ac at_.cls.length cc,.slice ap at_.aD.length cp,.slice al li.length cl,.slice a' ks.length c'] vi wr) (fun vi _=>i.size-(intOf vi).toNat)
 case atStart=>exact R0.out
 case round=>
  clear R0 p0 p1 p2 p3 p4 p5 p6 p7 p8 p9 sj;obtain ⟨k',hk',rfl,hcb,hbel,hal⟩:=hrel;refine jj0 ?_;intro p0 p1 p2 p3 p4 p5 p6 p7 p8 p9 sj AX HB;have Fw:=hid hal;clear hcb hbel hal;by_cases hlt:k'<i.size
  ·have RH:=hid (jo (i.extract k' (k'+1)) ⟨#[45,108,99,114]⟩ wr (by rw [ByteArray.size_extract];omega) (by decide));have hho:mV (i.extract k' (k'+1)) (ByteArray.mk #[45,108,99,114]).data.toList=gT.contains i[k']:=YM i k' hlt;rw [hho] at RH;have hg:=Cc i k' hlt;cases hc:gT.contains i[k'] with
   | true=>
    rw [hc] at RH;have YB:Hid ((i.data.toList.take (k'+1)).all (fun c=>gT.contains c)=true):=by show _=true;rw [List.take_add_one,hg,List.all_append,Fw.out];simpa using hc
    clear hho hg hc;go_wp2_with fail
    refine RH.out.mono ?_;rintro e w2 ⟨rfl,hb2⟩;have Vu:=hid (AX.out.below hb2);have HB2:=hid (q01 HB.out hb2);clear hb2;go_wp2;go_roundw;case rel=>exact ⟨k'+1,by omega,by go_num,Vu.out,HB2.out,YB.out⟩
    case measure=>simp [intOf];omega
   | false=>
    rw [hc] at RH;have HV:Hid (V=5):=by show V=5;rw [HE2.out,if_pos];rw [List.any_eq_true];exact ⟨_,List.mem_of_getElem? hg,by rw [hc];rfl⟩
    clear hho hg hc;go_wp2_with fail
    refine RH.out.mono ?_;rintro e w2 ⟨rfl,hb2⟩;have HB2:=hid (q01 HB.out hb2);clear hb2;go_wp2;go_ret;exact ⟨by rw [HV.out];rfl,HB2.out⟩
  ·have hall:i.data.toList.all (fun c=>gT.contains c)=true:=by
    have:=Fw.out
    rwa [List.take_of_length_le (by simpa using (by omega:i.size<=k'))] at this
   have wX:Hid (V=if ks.isEmpty=true then 8 else if ks.any (fun b=>!decide (b.ow=i.size)) then 15 else 0):=by
    show V=_;have h2:(i.data.toList.any fun c=>!(gT:List UInt8).contains c)=false:=by rw [List.any_eq_false];intro x hx;have:=List.all_eq_true.1 hall x hx;rw [this];decide
    rw [HE2.out,h2,if_neg (by decide)]
   clear hall HE2 Fw;cases hk0:ks.isEmpty with
   | true=>
    rw [hk0] at e3;have rO:Hid (V=8):=by show V=8;rw [wX.out,if_pos hk0]
    clear hk0;go_wp2;go_ret;exact ⟨by rw [rO.out];rfl,HB.out⟩
   | false=>
    rw [hk0] at e3;have rO:Hid (V=if ks.any (fun b=>!decide (b.ow=i.size)) then 15 else 0):=by show V=_;rw [wX.out,if_neg (by rw [hk0];decide)]
    have R0:Hid (jiz ks i.size w 48 w.heap.size [.int .i64 k,.int .i64 lv,.string i,.string t,.string d,.string ti,.string at_.id,.slice ac at_.cls.length cc,.slice ap at_.aD.length cp,.slice al li.length cl,.slice a' ks.length c'] (.int .i64 0) wr):=⟨0,Nat.zero_le _,rfl,AX.out,HB.out,by simp⟩;clear hk0 wX HB AX;go_wp2
    go_loopw [4] (fun vi wr=>jiz ks i.size w 48 w.heap.size [.int .i64 k,.int .i64 lv,.string i,.string t,.string d,.string ti,.string at_.id,.slice ac at_.cls.length cc,.slice ap at_.aD.length cp,.slice al li.length cl,.slice a' ks.length c'] vi wr) (fun vi _=>ks.length-(intOf vi).toNat)
    case atStart=>exact R0.out
    case round=>
     clear R0 p0 p1 p2 p3 p4 p5 p6 p7 p8 p9 sj;obtain ⟨j,hj,rfl,hcb,hbel,hno⟩:=hrel;refine jj0 ?_;intro p0 p1 p2 p3 p4 p5 p6 p7 p8 p9 sj AX HB;have Js:=hid hno;by_cases hlt:j<ks.length
     ·refine jhz ?_;intro x hx gV HAT;obtain ⟨kd',lv',i',t',d',ti',at',li',ks'⟩:=x;obtain ⟨b',off',ac',ap',al',ak',cc',cp',cl',ck',ha',hP'⟩:=Ec HS.out hx;have k10:=(hP'.up hbel).cells.c10;subst ha';have ZQ:Hid ((ah.mk kd' lv' i' t' d' ti' at' li' ks').ow=ks'.length):=rfl;clear hP' hx hno hbel hcb;by_cases hq:ks'.length=i.size
      ·have q1:((ks'.length:Int) != (i.size:Int))=false:=by rw [bne_eq_false_iff_eq];omega
       have HQ:=hid hq;clear hq;go_wp2_with fail
       go_quiet (fail)
       go_wp2;go_roundw;case rel=>exact ⟨j+1,by omega,by go_num,AX.out.dN 1,iR HB.out _,by rw [gV.out,Js.out,ZQ.out,HQ.out];simp⟩
       case measure=>simp [intOf];omega
      ·exact jhx
     ·have hv:V=0:=by
       have:=Js.out;rw [List.take_of_length_le (by omega)] at this;rw [rO.out,if_neg (by rw [this];decide)]
      have Lu:=hid hv;clear hv hno hbel hcb;go_wp2;go_ret;exact ⟨by rw [Lu.out];rfl,HB.out⟩
def pW (k lv:Int) (a:At) (li:List aj):Nat:=
 if k=1 then (if li.isEmpty=true then 8 else oV li)
 else if k=2 then (if lv<1\/6<lv then 9 else if a.err≠0 then a.err else if aj.cZ bS li=true then 5 else oV li)
 else (if aj.cZ bS li=true then 5 else oV li)
theorem Fp (w:World) (k lv:Int) (i t d ti:ByteArray) (at_:At) (li:List aj) (ks:List ah) (ac ap al ak:Option Addr) (cc cp cl ck:Nat) (h:eP (·<w.heap.size) w at_ li ks (.slice ac at_.cls.length cc) (.slice ap at_.aD.length cp) (.slice al li.length cl) (.slice ak ks.length ck)) (hs:BlS i t d ti at_ li) (hk:k=1\/k=2\/k=12) : Calls Tryz.prog 177 #[.agg #[.int .i64 k,.int .i64 lv,.string i,.string t,.string d,.string ti,.string at_.id,.slice ac at_.cls.length cc,.slice ap at_.aD.length cp,.slice al li.length cl,.slice ak ks.length ck]] w (eX (.int .i64 (pW k lv at_ li:Nat)) w):=by
 obtain ⟨-,l4,m4⟩:=rX h.line;unfold maxLen at m4;have AC:=hid (fun wx (hb:Below w.heap.size w wx)=>kG at_ ac ap cc cp wx (h.at_.up hb) hs.at_);have AK:=hid (fun wx (hb:Below w.heap.size w wx)=>Aq _ li (.slice al li.length cl) true wx (Nat.le_refl _) (h.line.up hb));change Hid (∀ wx,Below w.heap.size w wx->Calls Tryz.prog 209 #[.slice al li.length cl,.bool true] wx (eX (.bool (aj.cZ bS li)) wx)) at AK;have LE:=hid (fun wx (hb:Below w.heap.size w wx)=>Fb li al cl wx hs.li (h.line.up hb));have e2:=jR li;have HE:Hid (pW k lv at_ li=if k=1 then (if li.isEmpty=true then 8 else oV li)
 else if k=2 then (if lv<1\/6<lv then 9 else if at_.err≠0 then at_.err else if aj.cZ bS li=true then 5 else oV li)
 else (if aj.cZ bS li=true then 5 else oV li)):=rfl
 generalize pW k lv at_ li=V at *
 generalize oV li=E1 at *;generalize aj.cZ bS li=A at *;generalize at_.err=E at *
 generalize li.isEmpty=bl at *;obtain ⟨w1,hw1⟩:∃ w1,w1=w.alloc (.cells #[.int .i64 k,.int .i64 lv,.string i,.string t,.string d,.string ti,.string at_.id,.slice ac at_.cls.length cc,.slice ap at_.aD.length cp,.slice al li.length cl,.slice ak ks.length ck] 48):=⟨_,rfl⟩;have k1:CB 48 w.heap.size [.int .i64 k,.int .i64 lv,.string i,.string t,.string d,.string ti,.string at_.id,.slice ac at_.cls.length cc,.slice ap at_.aD.length cp,.slice al li.length cl,.slice ak ks.length ck] w1:=by rw [hw1];exact CB.new _ _ _
 have b1:Below w.heap.size w w1:=by rw [hw1];exact (Below.refl _ _).alloc (Nat.le_refl _) _
 have p0:=k1.cell 0 _ rfl;have p1:=k1.cell 1 _ rfl;have p2:=k1.cell 2 _ rfl;have p3:=k1.cell 3 _ rfl;have p4:=k1.cell 4 _ rfl;have p5:=k1.cell 5 _ rfl;have p6:=k1.cell 6 _ rfl;have p7:=k1.cell 7 _ rfl;have p8:=k1.cell 8 _ rfl;have p9:=k1.cell 9 _ rfl;have sj:=k1.cell 10 _ rfl;have K1:=hid k1;have B1:=hid b1;clear h hs k1 b1;rcases hk with rfl | rfl | rfl
 ·go_enter Tryz.func177,Tryz.ntmps177;refine kI ?_;go_upto_region 1 with (fail)
  rw [<- hw1];clear hw1;cases bl
  all_goals
   go_wp2_with (go_at_call 210;refine (LE.out _ B1.out).mono ?_;rintro e w2 ⟨rfl,hb2⟩;have HB2:=hid (q01 B1.out hb2))
   all_goals
    go_ret;refine ⟨Jt ?_,?_⟩
    ·rw [HE.out];simp
    ·first | exact HB2.out | exact B1.out
 ·have hlv:lv<1\/(1<=lv/\6<lv)\/(1<=lv/\lv<=6):=by omega
  rcases hlv with hl | ⟨hl1,hl2⟩ | ⟨hl1,hl2⟩
  ·have HV:Hid (V=9):=by show V=9;rw [HE.out];simp [hl]
   have q1:decide (lv<1)=true:=by simpa using hl
   clear HE hl;go_enter Tryz.func177,Tryz.ntmps177;refine kI ?_;go_upto_region 1 with (fail)
   rw [<- hw1];clear hw1;exact su
  ·have HV:Hid (V=9):=by show V=9;rw [HE.out];simp [hl2]
   have q1:decide (lv<1)=false:=by simp;omega
   have q2:decide (6<lv)=true:=by simpa using hl2
   clear HE hl1 hl2;go_enter Tryz.func177,Tryz.ntmps177;refine kI ?_;go_upto_region 1 with (fail)
   rw [<- hw1];clear hw1;exact su
  ·have HV:Hid (V=if E≠0 then E else if A=true then 5 else E1):=by
    show V=_;rw [HE.out,if_neg (by decide),if_pos rfl,if_neg (by omega)]
   have q1:decide (lv<1)=false:=by simp;omega
   have q2:decide (6<lv)=false:=by simp;omega
   clear HE hl1 hl2;by_cases hE:E=0
   ·subst hE;cases A
    all_goals
     go_enter Tryz.func177,Tryz.ntmps177;refine kI ?_;go_upto_region 1 with (fail)
     rw [<- hw1];clear hw1;go_wp2_with (first
      | (go_at_call 180;refine (AC.out _ B1.out).mono ?_;rintro e w2 ⟨rfl,hb2⟩;have K2:=K1.out.below hb2;have HB2:=hid (q01 B1.out hb2);have p0:=K2.cell 0 _ rfl;have p9:=K2.cell 9 _ rfl)
      | (go_at_call 209;refine (AK.out _ HB2.out).mono ?_;rintro e w3 ⟨rfl,hb3⟩;have K3:=K2.below hb3;have HB3:=hid (q01 HB2.out hb3);have p0:=K3.cell 0 _ rfl;have p9:=K3.cell 9 _ rfl)
      | (go_at_call 210;refine (LE.out _ HB3.out).mono ?_;rintro e w4 ⟨rfl,hb4⟩;have kM:=hid (q01 HB3.out hb4)))
     all_goals
      go_ret;refine ⟨Jt ?_,?_⟩
      ·rw [HV.out];simp
      ·first | exact kM.out | exact HB3.out
   ·have q3:((E:Int) != 0)=true:=by rw [bne_iff_ne];omega
    have rO:Hid (V=E):=by show V=E;rw [HV.out,if_pos hE]
    clear HV hE;go_enter Tryz.func177,Tryz.ntmps177;refine kI ?_;go_upto_region 1 with (fail)
    rw [<- hw1];clear hw1;go_wp2_with fail
    refine (AC.out _ B1.out).mono ?_;rintro e w2 ⟨rfl,hb2⟩;have HB2:=hid (q01 B1.out hb2);clear hb2;go_wp2;go_ret;exact ⟨by rw [rO.out];rfl,HB2.out⟩
 ·cases A
  all_goals
   go_enter Tryz.func177,Tryz.ntmps177;refine kI ?_;go_upto_region 1 with (fail)
   rw [<- hw1];clear hw1;go_wp2_with (first
    | (go_at_call 209;refine (AK.out _ B1.out).mono ?_;rintro e w3 ⟨rfl,hb3⟩;have K3:=K1.out.below hb3;have HB3:=hid (q01 B1.out hb3);have p0:=K3.cell 0 _ rfl;have p9:=K3.cell 9 _ rfl)
    | (go_at_call 210;refine (LE.out _ HB3.out).mono ?_;rintro e w4 ⟨rfl,hb4⟩;have kM:=hid (q01 HB3.out hb4)))
   all_goals
    go_ret;refine ⟨Jt ?_,?_⟩
    ·rw [HE.out];simp
    ·first | exact kM.out | exact HB3.out
theorem Vv{P:Prop}(h:P:=by
 go_upto_region 1 with (fail)
 rw [<- hw1];clear hw1;go_wp2;go_ret;refine ⟨Jt ?_,B1.out⟩;rw [HE.out];simp [HQ.out]):P:=h
theorem I5 (w:jG9) (k lv:Int) (i t d ti:ByteArray) (at_:At) (li:List aj) (ks:List ah) (ac ap al ak:Option Addr) (cc cp cl ck:Nat) (h:eP (·<w.heap.size) w at_ li ks (.slice ac at_.cls.length cc) (.slice ap at_.aD.length cp) (.slice al li.length cl) (.slice ak ks.length ck)) (hs:BlS i t d ti at_ li) (hf:xW k lv i t d ti at_ li ks=true) : Calls Tryz.prog 141 #[.agg #[.int .i64 k,.int .i64 lv,.string i,.string t,.string d,.string ti,.string at_.id,.slice ac at_.cls.length cc,.slice ap at_.aD.length cp,.slice al li.length cl,.slice ak ks.length ck]] w (eX (.int .i64 (qN iT k lv i t d ti at_ li ks:Nat)) w):=by
 obtain ⟨f1,f2,f3⟩:=uj hf;obtain ⟨-,l4,m4⟩:=rX h.line;obtain ⟨-,l5,m5⟩:=rX h.kids;unfold maxLen at m4 m5;have WR:=hid (fun wx (hb:Below w.heap.size w wx) hk=>Fp wx k lv i t d ti at_ li ks ac ap al ak cc cp cl ck (h.up hb) hs hk);have TB:=hid (fun wx (hb:Below w.heap.size w wx)=>LY wx k lv i t d ti at_ li ks ac ap al ak cc cp cl ck (h.up hb) (by have:=hs.i;omega));have CLI:=hid (fun w=>V7 i w (by have:=hs.i;omega));have CTR:=hid (fun w=>uV i w (by have:=hs.i;omega));have CBD:=hid (fun w=>P5 t w (by have:=hs.t;omega));have CCL:=hid (fun w=>IZ t w (by have:=hs.t;omega));have CNM:=hid (fun w=>V8 i w (by have:=hs.i;omega));have CLB:=hid (fun w=>Au i w (by have:=hs.i;omega));have CLD:=hid (fun w=>V7 d w (by have:=hs.d;omega));have CLT:=hid (fun w=>V7 ti w (by have:=hs.ti;omega));have AC:=hid (fun wx (hb:Below w.heap.size w wx)=>kG at_ ac ap cc cp wx (h.at_.up hb) hs.at_);have e3:=jR ks;have HE:Hid (qN iT k lv i t d ti at_ li ks=if k=1\/k=2\/k=12 then pW k lv at_ li
 else if k=3 then (if dG i=false\/trimS i=false\/gQ t=false then 17 else 0)
 else if k=4 then (if gQ t=false then 17 else if iT t=true then 5 else at_.err)
 else if k=7\/k=8 then (if ks.isEmpty=true then 8 else if k=8/\(lv<0\/999999999<lv) then 9 else 0)
 else if k=10 then Qp i ks
 else if k=13\/k=14 then (if dZ i=false then 6 else at_.err)
 else if k=15 then (if uD i=false then 6 else if dG d=false\/dG ti=false then 17 else 0)
 else 0):=by
  show _=_;unfold qN pW;by_cases g1:k=1
  ·simp [g1]
  by_cases g2:k=2
  ·simp [g2]
  by_cases g3:k=12
  ·simp [g3]
  simp [g1,g2,g3]
 generalize qN iT k lv i t d ti at_ li ks=V at *
 generalize hwe:pW k lv at_ li=E1 at *
 generalize Qp i ks=E5 at *;generalize at_.err=E6 at *
 generalize dG i=b1 at *;generalize trimS i=b2 at *;generalize gQ t=b3 at *;generalize dZ i=b4 at *;generalize uD i=b5 at *;generalize dG d=b6 at *;generalize dG ti=b7 at *;generalize iT t=b8 at *;generalize ks.isEmpty=bk at *;obtain ⟨w1,hw1⟩:∃ w1,w1=w.alloc (.cells #[.int .i64 k,.int .i64 lv,.string i,.string t,.string d,.string ti,.string at_.id,.slice ac at_.cls.length cc,.slice ap at_.aD.length cp,.slice al li.length cl,.slice ak ks.length ck] 48):=⟨_,rfl⟩;have k1:CB 48 w.heap.size [.int .i64 k,.int .i64 lv,.string i,.string t,.string d,.string ti,.string at_.id,.slice ac at_.cls.length cc,.slice ap at_.aD.length cp,.slice al li.length cl,.slice ak ks.length ck] w1:=by rw [hw1];exact CB.new _ _ _
 have bb1:Below w.heap.size w w1:=by rw [hw1];exact (jD7 _ _).alloc (jD8 _) _
 have p0:=k1.cell 0 _ rfl;have p1:=k1.cell 1 _ rfl;have p2:=k1.cell 2 _ rfl;have p3:=k1.cell 3 _ rfl;have p4:=k1.cell 4 _ rfl;have p5:=k1.cell 5 _ rfl;have p6:=k1.cell 6 _ rfl;have p7:=k1.cell 7 _ rfl;have p8:=k1.cell 8 _ rfl;have p9:=k1.cell 9 _ rfl;have sj:=k1.cell 10 _ rfl;have K1:=hid k1;have B1:=hid bb1;clear h hs hf k1 bb1 hwe;rcases tY k with rfl | rfl | rfl | rfl | rfl | rfl | rfl | rfl | rfl | rfl | rfl | rfl | rfl | rfl | rfl | hk
 case inr.inr.inr.inr.inr.inr.inr.inr.inr.inr.inr.inr.inr.inr.inr=>omega
 case inr.inr.inr.inr.inr.inr.inr.inl=>
  clear f1 f2 f3;have hlv:lv<0\/(0<=lv/\999999999<lv)\/(0<=lv/\lv<=999999999):=by omega
  have HG:Hid ((lv<0\/999999999<lv)↔¬ (0<=lv/\lv<=999999999)):=by show _↔_;omega
  rcases hlv with g | ⟨g1,g2⟩ | ⟨g1,g2⟩
  ·have q1:decide (lv<0)=true:=by simpa using g
   have HQ:Hid (lv<0\/999999999<lv):=.inl g;clear g HG;cases bk
   all_goals
    go_enter Tryz.func141,Tryz.ntmps141;refine kI ?_;exact Vv
  ·have q1:decide (lv<0)=false:=by simp;omega
   have q2:decide (999999999<lv)=true:=by simpa using g2
   have HQ:Hid (lv<0\/999999999<lv):=.inr g2;clear g1 g2 HG;cases bk
   all_goals
    go_enter Tryz.func141,Tryz.ntmps141;refine kI ?_;exact Vv
  ·have q1:decide (lv<0)=false:=by simp;omega
   have q2:decide (999999999<lv)=false:=by simp;omega
   have HQ:Hid (¬ (lv<0\/999999999<lv)):=by show ¬ _;omega
   clear g1 g2 HG;cases bk
   all_goals
    go_enter Tryz.func141,Tryz.ntmps141;refine kI ?_;exact Vv
 all_goals
  clear f1 f2 f3;go_enter Tryz.func141,Tryz.ntmps141;refine kI ?_;go_upto_region 1 with (fail)
  rw [<- hw1];clear hw1;go_wp2_with (first
   | (go_at_call 177;refine (WR.out _ B1.out (by simp)).mono ?_;rintro e w9 ⟨rfl,hb9⟩;have HB9:=hid (q01 B1.out hb9))
   | (go_at_call 181;refine (TB.out _ B1.out).mono ?_;rintro e w9 ⟨rfl,hb9⟩;have HB9:=hid (q01 B1.out hb9))
   | (go_at_call 182;refine (CLB.out _).mono ?_;rintro e w2 ⟨rfl,hb2⟩;have K2:=K1.out.below hb2;have HB2:=hid (q01 B1.out hb2);have p4:=K2.cell 4 _ rfl;have p5:=K2.cell 5 _ rfl)
   | (go_at_call 70;refine (CNM.out _).mono ?_;rintro e w2 ⟨rfl,rfl⟩)
   | (go_at_call 112;refine (CTR.out _).mono ?_;rintro e w5 ⟨rfl,rfl⟩)
   | (go_at_call 178;refine (CBD.out _).mono ?_;rintro e w3 ⟨rfl,hb3⟩;have K3:=(by first | exact K2.below hb3 | exact K1.out.below hb3:CB 48 w.heap.size _ w3);have HB3:Hid (Below w.heap.size w w3):=(by first | exact hid (q01 HB2.out hb3) | exact hid (q01 B1.out hb3));have p3:=K3.cell 3 _ rfl;have p6:=K3.cell 6 _ rfl;have p7:=K3.cell 7 _ rfl;have p8:=K3.cell 8 _ rfl)
   | (go_at_call 179;refine (CCL.out _).mono ?_;rintro e w4 ⟨rfl,hb4⟩;have K4:=K3.below hb4;have kM:=hid (q01 HB3.out hb4);have p6:=K4.cell 6 _ rfl;have p7:=K4.cell 7 _ rfl;have p8:=K4.cell 8 _ rfl)
   | (go_at_call 180;refine (AC.out _ (by first | exact kM.out | exact B1.out)).mono ?_;rintro e w9 ⟨rfl,hb9⟩;have HB9:Hid (Below w.heap.size w w9):=(by first | exact hid (q01 kM.out hb9) | exact hid (q01 B1.out hb9)))
   | (go_at_call 111;(with_reducible refine (CLI.out _).mono ?_);rintro e w2 ⟨rfl,hb2⟩;have K2:=K1.out.below hb2;have HB2:=hid (q01 B1.out hb2);have p2:=K2.cell 2 _ rfl;have p3:=K2.cell 3 _ rfl)
   | (go_at_call 111;(with_reducible refine (CLD.out _).mono ?_);rintro e w6 ⟨rfl,hb6⟩;have K6:=K2.below hb6;have HB6:=hid (q01 HB2.out hb6);have p5:=K6.cell 5 _ rfl)
   | (go_at_call 111;(with_reducible refine (CLT.out _).mono ?_);rintro e w7 ⟨rfl,Ql⟩;have HB7:=hid (q01 HB6.out Ql)))
  all_goals
   go_ret;refine ⟨Jt ?_,?_⟩
   ·exact NP
   ·first | exact HB9.out | exact HB7.out | exact HB6.out | exact kM.out | exact HB3.out | exact HB2.out | exact B1.out
open Go.RowKit
theorem Fq (n:Nat):∀ (l:List ah) (par:Int) (dp:Nat) (a:Option Addr) (cap:Nat) (w:jG9),ah.aY l<=n->dp<=1000000->ah.aB l->Rd (·<w.heap.size) w (nN l) [.slice a l.length cap] -> Calls Tryz.prog 89 #[.slice a l.length cap,.int .i64 par,.int .i64 (dp:Int)] w (eX (.int .i64 (ah.aQ iT par dp l:Nat)) w):=by
 induction n using Nat.strongRecOn with
 | _ n ih=>
  intro l par dp a cap w hn hdp hsm h;obtain ⟨a',c',hv,hs⟩:=Rd.ay h;obtain ⟨rfl,rfl⟩:a'=a/\c'=cap:=by simp at hv;exact ⟨hv.1.symm,hv.2.symm⟩
  have hcap:l.length<=c':=by simpa using hs.le
  refine F8 ?_;intro hmx HS IH;have SM:=hid hsm;obtain ⟨E,hE⟩:∃ E,ah.aQ iT par dp l=E:=⟨_,rfl⟩;rw [hE];have R0:Hid (F7 iT l par dp E w (.int .i64 0) w):=⟨0,Nat.zero_le _,rfl,jD7 _ _,hE⟩;clear hs hv h ih hsm hE;go_enter Tryz.func89,Tryz.ntmps89;go_wp2
  go_loopw [7] (fun i wr=>F7 iT l par dp E w i wr) (fun i _=>l.length-(intOf i).toNat)
  case atStart=>exact R0.out
  case round=>
   clear R0;obtain ⟨k,hk,rfl,hbel,bq⟩:=hrel;have HB:=hid hbel;by_cases hlt:k<l.length
   ·obtain ⟨x,hx⟩:∃ x,l[k]?=some x:=⟨_,List.getElem?_eq_getElem hlt⟩;have hxs:x.small:=ah.jv SM.out hx;have hsz:=ah.bE l k _ hx;rw [I9 l k x hx] at bq;obtain ⟨kd,lv,i,t,d,ti,at_,li,ks⟩:=x;rw [ah.sz] at hsz;obtain ⟨hbs,hks⟩:=jjz hxs;obtain ⟨b,off,ac,ap,al,ak,cc,cp,cl,ck,rfl,QH⟩:=Ec HS.out hx;have hP:=QH.up hbel;obtain ⟨c0,c1,c2,c3,c4,c5,c6,c7,c8,c9,c10⟩:=hP.cells;obtain ⟨wi,hwi⟩:∃ wi,wi=wr.alloc (.cells #[.int .i64 kd,.int .i64 lv,.string i,.string t,.string d,.string ti,.string at_.id,.slice ac at_.cls.length cc,.slice ap at_.aD.length cp,.slice al li.length cl,.slice ak ks.length ck] 48):=⟨_,rfl⟩;have bi:Below wr.heap.size wr wi:=by rw [hwi];exact (jD7 _ _).alloc (jD8 _) _
    have kb:CB 48 wr.heap.size [.int .i64 kd,.int .i64 lv,.string i,.string t,.string d,.string ti,.string at_.id,.slice ac at_.cls.length cc,.slice ap at_.aD.length cp,.slice al li.length cl,.slice ak ks.length ck] wi:=by rw [hwi];exact CB.new _ _ _
    have Oi:=hid (hP.rd.up bi);have KB:=hid kb;have BI:=hid (q01 HB.out bi);have bX:=hid bq;clear hxs hP QH bq hx hbel bi kb;go_upto_region 5 with (fail)
    rw [<- hwi];clear hwi c0 c1 c2 c3 c4 c5 c6 c7 c8 c9 c10;by_cases qy:15<dp
    ·have Qb:decide ((15:Int)<(dp:Int))=true:=by simp;omega
     have HE:Hid (E=11):=by show E=11;rw [<- bX.out,ah.aQ,ah.err,if_pos qy];rfl
     go_wp2;go_ret;exact ⟨by rw [HE.out];rfl,BI.out⟩
    have Qb:decide ((15:Int)<(dp:Int))=false:=by simp;omega
    have bq:=bX.out;rw [rZ _ _ _ _ _ _ _ _ _ _ _ _ _ qy] at bq;have bX:=hid bq;have F9:=hid (vv wi kd lv i t d ti at_ li ks ac ap al ak cc cp cl ck Oi.out);have FT:=hid (fun w=>LX kd par w);have CI:=hid (fun wx (hb:Below wi.heap.size wi wx) hf=>I5 wx kd lv i t d ti at_ li ks ac ap al ak cc cp cl ck (Oi.out.up hb) hbs hf);have CK:=hid (fun wx (hb:Below wi.heap.size wi wx)=>IH.out (ah.aY ks) (by omega) ks kd (dp+1) ak ck wx (jD8 _) (by omega) hks (Oi.out.up hb).kids);simp only [Int.natCast_add,Int.natCast_one] at CK;have p0:=KB.out.cell 0 _ rfl;have p1:=KB.out.cell 1 _ rfl;have p2:=KB.out.cell 2 _ rfl;have p3:=KB.out.cell 3 _ rfl;have p4:=KB.out.cell 4 _ rfl;have p5:=KB.out.cell 5 _ rfl;have p6:=KB.out.cell 6 _ rfl;have p7:=KB.out.cell 7 _ rfl;have p8:=KB.out.cell 8 _ rfl;have p9:=KB.out.cell 9 _ rfl;have sj:=KB.out.cell 10 _ rfl;clear hsz hbs hks bq qy;cases hf:xW kd lv i t d ti at_ li ks with
    | false=>
     rw [hf] at F9;have HE:Hid (E=5):=by show E=5;have:=bX.out;rw [if_pos (.inl hf)] at this;exact this.symm
     clear hf;go_wp2_with fail
     refine F9.out.mono ?_;rintro e w2 ⟨rfl,hb2⟩;have B2:=hid (q01 BI.out hb2);clear hb2;go_wp2;go_ret;exact ⟨by rw [HE.out];rfl,B2.out⟩
    | true=>
     rw [hf] at F9;cases hpl:dU kd par with
     | false=>
      rw [hpl] at FT;have HE:Hid (E=5):=by show E=5;have:=bX.out;rw [if_pos (.inr hpl)] at this;exact this.symm
      clear hf hpl;go_wp2_with fail
      refine F9.out.mono ?_;rintro e w2 ⟨rfl,hb2⟩;have B2:=hid (q01 BI.out hb2);have k2:=KB.out.below hb2;clear p0 hb2;have p0:=k2.cell 0 _ rfl;clear k2;go_wp2_with fail
      refine (FT.out _).mono ?_;rintro e w3 ⟨rfl,rfl⟩;go_wp2;go_ret;exact ⟨by rw [HE.out];rfl,B2.out⟩
     | true=>
      rw [hpl] at FT;have vF:Hid ((if qN iT kd lv i t d ti at_ li ks≠0 then qN iT kd lv i t d ti at_ li ks else if ah.aQ iT kd (dp+1) ks≠0 then ah.aQ iT kd (dp+1) ks else ah.aQ iT par dp (l.drop (k+1)))=E):=by show _=_;have:=bX.out;rw [if_neg (by rw [hf,hpl];simp)] at this;exact this
      have Za:=hid (fun wx hb=>CI.out wx hb hf);clear hf hpl bX CI;generalize qN iT kd lv i t d ti at_ li ks=E1 at *
      generalize ah.aQ iT kd (dp+1) ks=E2 at *;go_wp2_with fail
      refine F9.out.mono ?_;rintro e w2 ⟨rfl,hb2⟩;have k2:=KB.out.below hb2;have B2:=hid hb2;clear p0 p1 p2 p3 p4 p5 p6 p7 p8 p9 sj hb2;have p0:=k2.cell 0 _ rfl;have p1:=k2.cell 1 _ rfl;have p2:=k2.cell 2 _ rfl;have p3:=k2.cell 3 _ rfl;have p4:=k2.cell 4 _ rfl;have p5:=k2.cell 5 _ rfl;have p6:=k2.cell 6 _ rfl;have p7:=k2.cell 7 _ rfl;have p8:=k2.cell 8 _ rfl;have p9:=k2.cell 9 _ rfl;have sj:=k2.cell 10 _ rfl;have K2:=hid k2;clear k2;go_wp2_with fail
      refine (FT.out _).mono ?_;rintro e w3 ⟨rfl,rfl⟩;go_wp2_with fail
      refine (Za.out _ B2.out).mono ?_;rintro e w4 ⟨rfl,hb4⟩;have B4:=hid (q01 B2.out hb4);have k4:=K2.out.below hb4;clear p0 p1 p2 p3 p4 p5 p6 p7 p8 p9 sj hb4;have p0:=k4.cell 0 _ rfl;have sj:=k4.cell 10 _ rfl;clear k4;by_cases h1:E1=0
      ·have wX:Hid ((if E2≠0 then E2 else ah.aQ iT par dp (l.drop (k+1)))=E):=by
        exact QJ
       subst h1;clear vF;go_wp2_with fail
       refine (CK.out _ B4.out).mono ?_;rintro e w5 ⟨rfl,hb5⟩;have B5:=hid (q01 B4.out hb5);clear hb5;by_cases h2:E2=0
       ·have Fv:Hid (ah.aQ iT par dp (l.drop (k+1))=E):=by
         exact QK
        subst h2;go_wp2;go_roundw;case rel=>exact ⟨k+1,by omega,by go_num,q01 BI.out B5.out,Fv.out⟩
        case measure=>simp [intOf];omega
       ·refine QL ?_;intro Fv hn2;clear h2;go_wp2;go_ret;exact ⟨by rw [Fv.out];rfl,q01 BI.out B5.out⟩
      ·have wX:Hid (E=E1):=by
        show _=_;have:=vF.out;rw [if_pos h1] at this;exact this.symm
       have hn1:((E1:Int) != 0)=true:=by rw [bne_iff_ne];omega
       clear h1;go_wp2;go_ret;exact ⟨by rw [wX.out];rfl,q01 BI.out B4.out⟩
   ·have HE:Hid (E=0):=by
     exact QG
    clear bq hbel;exact jr
theorem Ho (l:List ah) (a:Option Addr) (cap:Nat) (w:jG9) (hsm:ah.aB l) (h:Rd (·<w.heap.size) w (nN l) [.slice a l.length cap]) : Calls Tryz.prog 43 #[.slice a l.length cap] w (eX (.int .i64 (ah.aQ iT 0 0 l:Nat)) w):=by have CK:=hid (Fq _ l 0 0 a cap w (jD8 _) (by omega) hsm h);generalize ah.aQ iT 0 0 l=E at *;clear h hsm;go_enter Tryz.func43,Tryz.ntmps43;exact QM
end Go.Proofs.YtkfnkeflalcphaaGreatDoor

