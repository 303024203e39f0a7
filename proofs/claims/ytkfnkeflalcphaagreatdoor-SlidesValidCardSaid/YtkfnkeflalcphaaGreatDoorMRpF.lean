/- Steps of the checks of a page. -/
import Derived.Test.YtkfnkeflalcphaaGreatDoorMRpC
import Derived.Test.YtkfnkeflalcphaaGreatDoorMRwC
import Derived.Test.YtkfnkeflalcphaaGreatDoorMRfJ
import Derived.Test.YtkfnkeflalcphaaGreatDoorMChW
set_option maxHeartbeats 8000000
set_option maxRecDepth 100000
open Go.Lib (hid)
namespace Go.Proofs.YtkfnkeflalcphaaGreatDoor
open Tryz
open List renaming getElem?_eq_getElem->jK6,cons_append->jL6,nil_append->jL7,map_append->jL8,take_of_length_le->jLj
open Go.RowKit.Below renaming refl->jK7,heap_setCell->jL1
open Nat renaming le_refl->jK8,le_trans->jK9,zero_le->jL3
open Bool renaming eq_iff_iff->jKk
open Go.World renaming size_alloc->jL5
open Go renaming World->jN9
open Go.RowKit renaming Below->jNj
open Go.RowKit
set_option linter.unusedVariables false
set_option linter.unusedSimpArgs false
theorem jc0 (c:UInt8):(c==32)=eZ c:=by unfold eZ;rw [jKk];simp
theorem qO (l:List UInt8):Lib.trimLeftB l 32=cu l:=by unfold Lib.trimLeftB cu;congr 1
theorem KY (l:List UInt8):Lib.trimRightB l 32=fT l:=by unfold Lib.trimRightB fT;rw [show (fun x:UInt8=>x==32)=eZ from funext jc0]
theorem XT (l:List UInt8):Lib.trimB l 32=cu (fT l):=by unfold Lib.trimB;rw [qO,KY]
theorem jB9 (l:List UInt8) (h:∀ c∈l,eZ c=true):cu l=[]:=by
 induction l with
 | nil=>rfl
 | cons c l ih=>
  unfold cu at ih ⊢;rw [List.dropWhile_cons_of_pos (h c (by simp))];exact ih (fun d hd=>h d (by simp [hd]))
theorem Od (l:List UInt8):∀ c,(fT l).getLast?=some c->eZ c=false:=by intro c hc;unfold fT at hc;rw [List.getLast?_reverse] at hc;exact (gI eZ l.reverse).2 c hc
theorem XU (x r:List UInt8) (hx:∃ c∈x,eZ c=false):cu (x++r)=cu x++r:=by
 induction x with
 | nil=>obtain ⟨c,hc,_⟩:=hx;cases hc
 | cons a x ih=>
  unfold cu at ih ⊢;rw [jL6];cases ha:eZ a with
  | true=>
   rw [List.dropWhile_cons_of_pos ha,List.dropWhile_cons_of_pos ha];apply ih;obtain ⟨c,hc,h2⟩:=hx;rcases List.mem_cons.1 hc with rfl | hc
   ·rw [ha] at h2;cases h2
   ·exact ⟨c,hc,h2⟩
  | false=>
   rw [List.dropWhile_cons_of_neg (by rw [ha];decide),List.dropWhile_cons_of_neg (by rw [ha];decide)];rfl
theorem Sy (x:List UInt8) (h:∀ c,x.getLast?=some c->eZ c=false):∀ c,(cu x).getLast?=some c->eZ c=false:=by intro c hc;obtain ⟨p,hp⟩:=List.dropWhile_suffix eZ (l:=x);have e:x=p++cu x:=hp.symm;apply h;rw [e,List.getLast?_append,hc];rfl
theorem FM (m:List UInt8):fT (cu m)=cu (fT m):=by
 obtain ⟨r,h1,h2⟩:=oZ m;have hl:=Od m;by_cases h0:fT m=[]
 ·rw [h0] at h1 ⊢;rw [jL7] at h1;rw [h1,jB9 r h2];rfl
 ·have hx:∃ c∈fT m,eZ c=false:=⟨_,List.getLast_mem h0,hl _ (List.getLast?_eq_some_getLast h0)⟩
  conv=>lhs;rw [h1]
  rw [XU _ r hx];exact Fg _ _ h2 (Sy _ hl)
theorem XV (m:List UInt8):(cu (fT m)).isEmpty=(cu m).isEmpty:=by
 rw [<- FM];obtain ⟨r,h1,h2⟩:=oZ (cu m);cases h:cu m with
 | nil=>rfl
 | cons c l=>
  have hc:eZ c=false:=(gI eZ m).2 c (by show (cu m).head?=_;rw [h];rfl);rw [h] at h1;cases hh:fT (c::l) with
  | nil=>
   rw [hh,jL7] at h1;have:=h2 c (by rw [<- h1];simp);rw [hc] at this;cases this
  | cons d t=>rfl
def uX (l:List UInt8):List UInt8:=cu (fT ((cu l).drop 2))
theorem XW (l:List UInt8):fU l=(decide ((l.takeWhile eZ).length<=3)&&(decide ((cu l).take 2=[36,36])&&((uX l).isEmpty||(match q22 (uX l) with
  | none=>false
  | some (_,r)=>r.isEmpty)))):=by
 unfold fU uX;rw [XV,D6];unfold Nr;rw [FM,Bool.and_assoc];rfl
theorem jG1 (l:List UInt8):Lib.hasPrefix l [36,36]=decide (l.take 2=[36,36]):=by
 unfold Lib.hasPrefix;rcases l with _ | ⟨a,_ | ⟨b,l⟩⟩<;>rw [jKk]<;>simp [List.isPrefixOf]
 constructor<;>(rintro ⟨h1,h2⟩;exact ⟨h1.symm,h2.symm⟩)
theorem jc1 (l:List UInt8):(l.takeWhile eZ).length=l.length-(cu l).length:=by have:=congrArg List.length (List.takeWhile_append_dropWhile (p:=eZ) (l:=l));rw [List.length_append] at this;unfold cu;omega
theorem jmk{P:Prop}(h:P:=by
 go_wp2;go_ret;exact ⟨by rw [HV.out,ht];rfl,(jg.out.alloc (Nat.le_trans (Nat.le_refl _) jg.out.size) _)⟩):P:=h
theorem Cv (s:ByteArray) (w:jN9) (hs:s.size<=100000) : Calls prog 201 #[.string s] w (dF (.bool (fU s.data.toList)) w):=by
 obtain ⟨C,hC⟩:∃ C:ByteArray,C=⟨(cu s.data.toList).toArray⟩:=⟨_,rfl⟩;have hCl:C.data.toList=cu s.data.toList:=by rw [hC]
 have hCs:C.size<=s.size:=by
  have h1:=wR s.data.toList;have e1:C.size=(cu s.data.toList).length:=by rw [hC];exact List.size_toArray
  have e2:s.data.toList.length=s.size:=by rw [Array.length_toList];rfl
  omega
 have e2:s.data.toList.length=s.size:=by rw [Array.length_toList];rfl
 have e3:(cu s.data.toList).length=C.size:=by rw [<- hCl,Array.length_toList];rfl
 have TL:Hid (∀ w,Calls prog 224 #[.string s,.string ⟨#[32]⟩] w fun e w'=>e=.returned (.string C)/\w'=w):=by intro w;refine (Tryz.strings_TrimLeft_one s 32 (by decide) w).mono ?_;rintro e w' ⟨rfl,rfl⟩;exact ⟨by rw [qO,hC],rfl⟩
 have HP:Hid (∀ w,Calls prog 225 #[.string C,.string ⟨#[36,36]⟩] w fun e w'=>e=.returned (.bool (decide ((cu s.data.toList).take 2=[36,36])))/\w'=w):=by intro w;refine (Tryz.strings_HasPrefix C ⟨#[36,36]⟩ w).mono ?_;rintro e w' ⟨rfl,rfl⟩;exact ⟨by rw [<- hCl,<- jG1],rfl⟩
 have HE:=hid (XW s.data.toList);rw [jc1,e2,e3] at HE;obtain ⟨V,hV⟩:∃ V,V=fU s.data.toList:=⟨_,rfl⟩;rw [<- hV] at HE ⊢;clear hV;by_cases h3:s.size-C.size<=3;case neg=>
  have q1:decide ((3:Int)<(s.size:Int)-(C.size:Int))=true:=by simp;omega
  have HV:Hid (V=false):=by show V=_;rw [HE.out,decide_eq_false h3];rfl
  clear HE h3 hC hCl e3 e2;go_enter func201,ntmps201;go_wp2_with fail
  refine (TL.out _).mono ?_;rintro e w1 ⟨rfl,rfl⟩;exact nY
 have q1:decide ((3:Int)<(s.size:Int)-(C.size:Int))=false:=by simp;omega
 rw [decide_eq_true h3,Bool.true_and] at HE;by_cases TT:(cu s.data.toList).take 2=[36,36];case neg=>
  rw [decide_eq_false TT] at HP HE;have HV:Hid (V=false):=HE.out;clear HE h3 hC hCl e3 e2 TT;go_enter func201,ntmps201;go_wp2_with fail
  refine (TL.out _).mono ?_;rintro e w1 ⟨rfl,rfl⟩;go_wp2_with fail
  refine (HP.out _).mono ?_;rintro e w1 ⟨rfl,rfl⟩;exact nY
 rw [decide_eq_true TT] at HP HE;rw [Bool.true_and] at HE;have h2C:2<=C.size:=by have:=congrArg List.length TT;rw [List.length_take,e3] at this;simp at this;omega
 obtain ⟨X,hX⟩:∃ X:ByteArray,X=⟨(uX s.data.toList).toArray⟩:=⟨_,rfl⟩;have hXl:X.data.toList=uX s.data.toList:=by rw [hX]
 have hXs:X.size<=100000:=by
  have e1:X.size=(uX s.data.toList).length:=by rw [hX];exact List.size_toArray
  have h1:(uX s.data.toList).length<=s.data.toList.length:=by unfold uX;refine jK9 (wR _) ?_;unfold fT;rw [List.length_reverse];refine jK9 (List.dropWhile_sublist _).length_le ?_;rw [List.length_reverse,List.length_drop];have:=wR s.data.toList;omega
  omega
 have TR:Hid (∀ w,Calls prog 202 #[.string (C.extract 2 C.size),.string ⟨#[32]⟩] w fun e w'=>e=.returned (.string X)/\∃ q,w'=w.drewN q):=by
  intro w;refine (Tryz.strings_Trim_one (C.extract 2 C.size) 32 (by decide) w (by rw [ByteArray.size_extract];omega)).mono ?_;rintro e w' ⟨rfl,hw⟩;refine ⟨?_,?_⟩
  ·rw [hX];unfold uX;rw [XT];congr 4;rw [<- hCl];rw [ByteArray.data_extract,Array.toList_extract];have:C.size=C.data.toList.length:=by rw [Array.length_toList];rfl
   rw [this];simp [List.extract_eq_take_drop];rw [jLj (by rw [List.length_drop,Array.length_toList];exact jK8 _)]
  ·rcases hw with rfl | rfl
   ·exact ⟨0,rfl⟩
   ·exact ⟨1,rfl⟩
 have HE2:Hid (V=(X.toList.isEmpty||(match q22 X.data.toList with
  | none=>false
  | some (_,r)=>r.isEmpty))):=by
  show V=_;rw [HE.out,Lib.toList_data,hXl]
 clear HE h3 hC hCl e3 e2 TT hX hXl;cases hem:X.toList.isEmpty with
 | true=>
  have HV:Hid (V=true):=by show V=_;rw [HE2.out,hem];rfl
  clear HE2;go_enter func201,ntmps201;go_wp2_with fail
  refine (TL.out _).mono ?_;rintro e w1 ⟨rfl,rfl⟩;go_wp2_with fail
  refine (HP.out _).mono ?_;rintro e w1 ⟨rfl,rfl⟩;go_wp2_with fail
  refine (TR.out _).mono ?_;rintro e w1 ⟨rfl,q,rfl⟩;go_wp2;go_ret;exact ⟨by rw [HV.out];rfl,gQ (jK7 _ _) q⟩
 | false=>
  have yw:Hid (V=(match q22 X.data.toList with
   | none=>false
   | some (_,r)=>r.isEmpty)):=by show V=_;rw [HE2.out,hem];rfl
  have PA:Hid (∀ w,Calls prog 226 #[.string X,.int .i64 0] w (N9 X 0 w)):=fun w=>Sr X 0 w hXs (jL3 _)
  clear HE2;go_enter func201,ntmps201;go_wp2_with fail
  refine (TL.out _).mono ?_;rintro e w1 ⟨rfl,rfl⟩;go_wp2_with fail
  refine (HP.out _).mono ?_;rintro e w1 ⟨rfl,rfl⟩;go_wp2_with fail
  refine (TR.out _).mono ?_;rintro e w1 ⟨rfl,q,rfl⟩;go_wp2_with fail
  refine (PA.out _).mono ?_;rintro e w2 ⟨x0,a1,n1,c1,a2,n2,c2,t,n,rfl,hbel,hres⟩;have jg:Hid (jNj w1.heap.size w1 w2):=⟨hbel.os,hbel.tape,hbel.output,hbel.size,hbel.block⟩;by_cases hn:n=0
  ·subst hn;have HV:Hid (V=(t==(X.size:Int))):=by
    show V=_;rcases hres with ⟨_,a',q',h1,rfl,h2⟩ | ⟨h,_⟩
    ·have h3:q22 X.data.toList=some (a',aP X q'):=h2;rw [yw.out,h3];simp only;rw [jKk];simp only [List.isEmpty_iff,beq_iff_eq];constructor
     ·intro h4;have:=congrArg List.length h4;rw [iY] at this;simp at this;omega
     ·intro h4;exact JZ X q' (by omega)
    ·exact absurd rfl h
   clear hres hbel yw;cases ht:(t==(X.size:Int)) with
   | true=>
    exact jmk
   | false=>
    exact jmk
  ·have e1:(n==0)=false:=by rw [beq_eq_false_iff_ne];exact hn
   have HV:Hid (V=false):=by
    show V=_;rcases hres with ⟨h,_⟩ | ⟨_,h⟩
    ·exact absurd h hn
    ·have h3:q22 X.data.toList=none:=h;rw [yw.out,h3]
   clear hres hbel yw;go_wp2;go_ret;exact ⟨by rw [HV.out];rfl,(jg.out.alloc (jK9 (jK8 _) jg.out.size) _)⟩
open Go.RowKit
def eY:List UInt8->List UInt8->List (List UInt8)
 | acc,[]=>[acc]
 | acc,c::l=>if c=10 then acc::eY [] l else eY (acc++[c]) l
def pieces (s:ByteArray):List ByteArray:=(eY [] s.data.toList).map bX
theorem Sz (acc l:List UInt8) (h:∀ c∈l,c≠10):eY acc l=[acc++l]:=by
 induction l generalizing acc with
 | nil=>rw [eY,List.append_nil]
 | cons c l ih=>
  rw [eY,if_neg (h c (by simp)),ih _ (fun d hd=>h d (by simp [hd]))];simp
theorem SA (acc x r:List UInt8) (h:∀ c∈x,c≠10):eY acc (x++10::r)=(acc++x)::eY [] r:=by
 induction x generalizing acc with
 | nil=>rw [jL7,eY,if_pos rfl,List.append_nil]
 | cons c x ih=>
  rw [jL6,eY,if_neg (h c (by simp)),ih _ (fun d hd=>h d (by simp [hd]))];simp
theorem Hr (acc l:List UInt8) (h:l=[]/\acc=[]\/l.getLast?=some 10):eY acc l=jY acc l++[[]]:=by
 induction l generalizing acc with
 | nil=>
  rcases h with ⟨_,rfl⟩ | h
  ·rfl
  ·cases h
 | cons c l ih=>
  rw [eY,jY];have h2:l=[]/\c=10\/l.getLast?=some 10:=by
   rcases h with ⟨h,_⟩ | h
   ·cases h
   ·cases l with
    | nil=>left;simpa using h
    | cons d l=>right;rw [<- h];simp [List.getLast?_cons_cons]
  by_cases hc:c=10
  ·rw [if_pos hc,if_pos hc,ih [] (by
    rcases h2 with ⟨h3,_⟩ | h3
    ·exact .inl ⟨h3,rfl⟩
    ·exact .inr h3)]
   rfl
  ·rw [if_neg hc,if_neg hc];refine ih _ ?_;rcases h2 with ⟨_,h3⟩ | h3
   ·exact absurd h3 hc
   ·exact .inr h3
theorem Oe (l:List UInt8):(Lib.indexByte l 10=-1/\∀ c∈l,c≠10)\/∃ k:Nat,Lib.indexByte l 10=k/\k<l.length/\l=l.take k++10::l.drop (k+1)/\∀ c∈l.take k,c≠10:=by
 induction l with
 | nil=>left;exact ⟨rfl,by simp⟩
 | cons b l ih=>
  unfold Lib.indexByte;by_cases hb:b=10
  ·right;refine ⟨0,by rw [if_pos (by rw [hb];rfl)];rfl,by simp,by rw [hb];simp,by simp⟩
  ·have hb2:¬ (b==(10:UInt8))=true:=by simpa using hb
   rw [if_neg hb2];rcases ih with ⟨h1,h2⟩ | ⟨k,h1,h2,h3,h4⟩
   ·left;rw [h1];refine ⟨by decide,?_⟩;intro c hc;rcases List.mem_cons.1 hc with rfl | hc
    ·exact hb
    ·exact h2 c hc
   ·right;rw [h1];refine ⟨k+1,?_,by simp;omega,?_,?_⟩
    ·have:¬ ((k:Int)==-1)=true:=by simp
     rw [if_neg this];simp
    ·rw [List.take_succ_cons,List.drop_succ_cons,jL6,<- h3]
    ·intro c hc;rw [List.take_succ_cons] at hc;rcases List.mem_cons.1 hc with rfl | hc
     ·exact hb
     ·exact h4 c hc
def cellS (w:jN9) (b:Nat):Nat:=match w.cell? ⟨b,0,none⟩ with
 | some (.string r)=>r.size
 | _=>0
theorem FN {w:jN9} {b:Nat} {r:ByteArray} {t:TypeId} (h:aH b (.string r) t w):cellS w b=r.size:=by unfold cellS;rw [h.cell]
def jmq (s:ByteArray) (bs:Nat) (J:List ByteArray->jN9->Prop) (wr:jN9):Prop:=
 ∃ (pre:List (List UInt8)) (r:ByteArray),J (pre.map bX) wr/\aH bs (.string r) 9 wr/\eY [] s.data.toList=pre++eY [] r.data.toList/\r.size<=s.size
theorem XY (m l bs:Nat) (s:ByteArray) (J Jx:List ByteArray->jN9->Prop) (W:jN9) (hs:s.size<=100000) (hJs:∀ pre W u,J pre W->J pre (W.setCell ⟨bs,0,none⟩ u)) (hJB:∀ pre W,J pre W->aH (bs+1) (.string ⟨#[10]⟩) 9 W/\aH (bs+2) (.int .i64 0) 3 W) (hY:∀ (m:Nat) (pre:List ByteArray) (x:ByteArray) (W:jN9),J pre W->x.size<=s.size->YieldAt Fence.wide m prog l #[.string x] W fun e W'=> (e=.returned (.bool true)/\J (pre++[x]) W'/\W'.heap[bs]?=W.heap[bs]?)\/(e=.returned (.bool false)/\Jx (pre++[x]) W')) (hb:aH bs (.string s) 9 W) (h0:J [] W) : CallsIn Fence.wide m prog 251 #[.func (.yield l) #[] #[],.pointer (some ⟨bs+1,0,none⟩),.pointer (some ⟨bs,0,none⟩),.pointer (some ⟨bs+2,0,none⟩)] W fun e W'=> (∃ v,e=.returned v)/\(J (pieces s) W'\/∃ pre,pre <+: pieces s/\Jx pre W'):=by
 have hdd:∀ k:Nat,(Fence.wide.depth.isSome=true->1<=k):=fun k h=>by cases h
 have HJS:=hid hJs;have HJB:=hid hJB;have HY:=hid hY;have R0:Hid (jmq s bs J W):=⟨[],s,h0,hb,rfl,jK8 _⟩;obtain ⟨hb1,hb2⟩:=hJB _ _ h0;have s0:=hb1.cell;clear hJs hJB hY hb h0 hb1 hb2;refine callsIn_of_wp func251 rfl trivial ?_ rfl;simp only [ntmps251,List.size_toArray,List.length_cons,List.length_nil,Nat.reduceAdd,Nat.reduceSub,Array.replicate_succ,Array.replicate_zero,List.push_toArray,List.append_toArray,jL7,jL6]
 gi_wp2
 clear s0
 gi_loopw [] (fun wr=>jmq s bs J wr) (fun wr=>cellS wr bs)
 case atStart=>exact R0.out
 case round=>
  clear R0;obtain ⟨pre,r,hJ,hbx,hsp,hrs⟩:=hrel;obtain ⟨hb1,hb2⟩:=HJB.out _ _ hJ;have s0:=hbx.cell;have s1:=hb1.cell;have s2:=hb2.cell;have hrl:r.data.toList.length=r.size:=by rw [Array.length_toList];rfl
  have HJ:=hid hJ;have lK:=hid hbx;have YT:=hid hsp;rcases Oe r.data.toList with ⟨hi,hno⟩ | ⟨k,hi,hk,hcut,hno⟩
  ·have IX:Hid (∀ w,Calls prog 253 #[.string r,.string ⟨#[10]⟩] w fun e w'=>e=.returned (.int .i64 (-1))/\w'=w):=by
    intro w;have:=Tryz.strings_Index_one r 10 w;rw [hi] at this;exact this
   have HP:Hid (pieces s=pre.map bX++[r]):=by show _=_;unfold pieces;rw [YT.out,Sz [] _ hno,jL8];simp [bX]
   obtain ⟨fn,tmps,assign,body,hy,hR⟩:=HY.out (m-1) (pre.map bX) r wr hJ hrs;have HR:=hid hR;clear hJ hbx hsp hb1 hb2 hi hno hR
   gi_wp2_with (first | (refine ⟨trivial,hdd _,?_⟩;gi_at_call 253;refine (callsIn_wide.2 (IX.out _)).mono ?_;rintro e w' ⟨rfl,rfl⟩))
   refine ⟨hdd _,?_⟩;refine HR.out.mono ?_;rintro e W1 (⟨rfl,hJ1,_⟩ | ⟨rfl,hx⟩)
   ·have HJ1:=hid hJ1;clear hJ1
    gi_wp2
    first | go_end0 | go_ret
    exact ⟨⟨_,rfl⟩,.inl (by rw [HP.out];exact HJ1.out)⟩
   ·have HX1:=hid hx;clear hx
    gi_wp2
    first | go_end0 | go_ret
    exact ⟨⟨_,rfl⟩,.inr ⟨_,by rw [HP.out];exact List.prefix_rfl,HX1.out⟩⟩
  ·have IX:Hid (∀ w,Calls prog 253 #[.string r,.string ⟨#[10]⟩] w fun e w'=>e=.returned (.int .i64 k)/\w'=w):=by
    intro w;have:=Tryz.strings_Index_one r 10 w;rw [hi] at this;exact this
   have hxl:(r.extract 0 k).data.toList=r.data.toList.take k:=by rw [ByteArray.data_extract,Array.toList_extract];simp [List.extract_eq_take_drop]
   have hrl2:(r.extract (k+1) r.size).data.toList=r.data.toList.drop (k+1):=by rw [ByteArray.data_extract,Array.toList_extract,<- hrl];simp only [List.extract_eq_take_drop];exact jLj (by rw [List.length_drop];exact jK8 _)
   have jBj:Hid (eY [] s.data.toList=(pre++[r.data.toList.take k])++eY [] (r.extract (k+1) r.size).data.toList):=by
    show _=_;rw [YT.out,hrl2]
    conv=>lhs;rw [hcut]
    rw [SA [] _ _ hno,jL7,List.append_assoc];rfl
   have HX:Hid ((pre++[r.data.toList.take k]).map bX=pre.map bX++[r.extract 0 k]):=by show _=_;rw [jL8,List.map_singleton,<- hxl];rfl
   have HPP:Hid (pre.map bX++[r.extract 0 k] <+: pieces s):=by show _ <+: _;unfold pieces;rw [jBj.out,jL8,HX.out];exact ⟨_,rfl⟩
   obtain ⟨fn,tmps,assign,body,hy,hR⟩:=HY.out (m-1) (pre.map bX) (r.extract 0 k) wr hJ (by rw [ByteArray.size_extract];omega);have HR:=hid hR;have hkr:k<r.size:=by omega
   clear hJ hbx hsp hb1 hb2 hi hno hR hcut hk hxl hrl2 hrl
   gi_wp2_with (first | (refine ⟨trivial,hdd _,?_⟩;gi_at_call 253;refine (callsIn_wide.2 (IX.out _)).mono ?_;rintro e w' ⟨rfl,rfl⟩))
   refine ⟨hdd _,?_⟩;refine HR.out.mono ?_;rintro e W1 (⟨rfl,hJ1,hk1⟩ | ⟨rfl,hx⟩)
   ·obtain ⟨hb1,hb2⟩:=HJB.out _ _ hJ1;have jc2:aH bs (.string r) 9 W1:=hk1.trans lK.out;have jBk:=hid jc2;have HJ1:=hid hJ1;clear s0 s1 s2 hJ1 hk1;have s0:=jc2.cell;have s1:=hb1.cell;have s2:=hb2.cell;have f0:=jc2.free;clear hb1 hb2 jc2
    gi_wp2
    go_roundw;case rel=>exact ⟨pre++[r.data.toList.take k],r.extract (k+1) r.size,by rw [HX.out];exact HJS.out _ _ _ HJ1.out,jBk.out.set _,jBj.out,by rw [ByteArray.size_extract];omega⟩
    case measure=>
     rw [FN lK.out,FN (jBk.out.set (.string (r.extract (k+1) r.size))),ByteArray.size_extract];omega
   ·have HX1:=hid hx;clear hx
    gi_wp2
    refine bodyPost_ret (results_none rfl _ _ _) rfl ?_;exact ⟨⟨_,rfl⟩,.inr ⟨_,HPP.out,HX1.out⟩⟩
structure Kz (bs:Nat) (w W:jN9):Prop where
 os:W.os=w.os
 tape:W.tape=w.tape
 output:W.output=w.output
 size:w.heap.size<=W.heap.size
 block:∀ k,k<w.heap.size->k≠bs->W.heap[k]?=w.heap[k]?
structure Kr (bs res:Nat) (w W:jN9):Prop where
 os:W.os=w.os
 tape:W.tape=w.tape
 output:W.output=w.output
 size:w.heap.size<=W.heap.size
 block:∀ k,k<w.heap.size->k≠bs->k≠res->W.heap[k]?=w.heap[k]?
section
variable {bs res:Nat} {w W W1:jN9}
theorem Kz.below (h:Kz bs w W) (hb:jNj W.heap.size W W1):Kz bs w W1:=
 ⟨hb.os.trans h.os,hb.tape.trans h.tape,hb.output.trans h.output,jK9 h.size hb.size,fun k h1 h2=>(hb.block k (Nat.lt_of_lt_of_le h1 h.size)).trans (h.block k h1 h2)⟩
theorem Kz.put (h:Kz bs w W) {l:Nat} (hl:w.heap.size<=l) (o:Obj):Kz bs w (W.putObj l o):=
 ⟨h.os,h.tape,h.output,by rw [World.putObj_size];exact h.size,fun k h1 h2=>(World.putObj_heap_other (by omega)).trans (h.block k h1 h2)⟩
theorem Kz.set (h:Kz bs w W) (u:Value):Kz bs w (W.setCell ⟨bs,0,none⟩ u):=
 ⟨h.os,h.tape,h.output,by simpa [World.setCell] using h.size,fun k h1 h2=>(jL1 W ⟨bs,0,none⟩ u k h2).trans (h.block k h1 h2)⟩
theorem Kz.kr (h:Kz bs w W) (u:Value):Kr bs res w (W.setCell ⟨res,0,none⟩ u):=
 ⟨h.os,h.tape,h.output,by simpa [World.setCell] using h.size,fun k h1 h2 h3=>(jL1 W ⟨res,0,none⟩ u k h3).trans (h.block k h1 h2)⟩
theorem Kr.put (h:Kr bs res w W) {l:Nat} (hl:w.heap.size<=l) (o:Obj):Kr bs res w (W.putObj l o):=
 ⟨h.os,h.tape,h.output,by rw [World.putObj_size];exact h.size,fun k h1 h2 h3=>(World.putObj_heap_other (by omega)).trans (h.block k h1 h2 h3)⟩
end
def juz (res:Nat) (bad:ByteArray->Bool) (x:ByteArray) (W:jN9):Exit->Act->jN9->Prop
 | .normal,_,W'=>jNj W.heap.size W W'/\bad x=false
 | .ret,_,W'=>bad x=true/\∃ W1,jNj W.heap.size W W1/\W'=W1.setCell ⟨res,0,none⟩ (.int .i64 5)
 | .exit _,_,_=>False
 | .goto _,_,_=>False
 | .panic _,_,_=>False
 | .outgrown,_,_=>False
theorem KZ {ps:Array Tmp} {assign body:Code} {Q:Exit->Act->jN9->Prop} {a:Act} {w:jN9} {g:Operand} (bs res:Nat) (s:ByteArray) (bad:ByteArray->Bool) (a₁:ByteArray->Act) (hg:a.eval g=.func (.func 251) #[] #[.pointer (some ⟨bs+1,0,none⟩),.pointer (some ⟨bs,0,none⟩),.pointer (some ⟨bs+2,0,none⟩)]) (hps:ps.size=1) (hsz:bs+2<w.heap.size) (hrb:res<bs) (hs:s.size<=100000) (B0:aH bs (.string s) 9 w) (B1:aH (bs+1) (.string ⟨#[10]⟩) 9 w) (B2:aH (bs+2) (.int .i64 0) 3 w) (BR:aH res (.int .i64 0) 29 w) (hassign:∀ (l m:Nat) (x:ByteArray) (W:jN9) (K:Act->jN9->Prop),K (a₁ x) W -> assign.wpIn (Fence.wide.inRound l) m prog (Exit.then K (fun _ _ _=>False)) { tmps:=(ps.zip #[.string x]).foldl (fun t (p,v)=>t.setIfInBounds p v) a.tmps,defers:=[] } W) (hbody:∀ (l m:Nat) (x:ByteArray) (W:jN9),x.size<=s.size->aH res (.int .i64 0) 29 W->body.wpIn (Fence.wide.inRound l) m prog (juz res bad x W) (a₁ x) W) (hdone:∀ (D:Nat) (W:jN9),w.heap.size<=D->(∀ x∈pieces s,bad x=false)->Kz bs w W->W.heap[D]?=some (.deferred (some []))->Q .normal { a with defers:={ target:=.collected D,args:=#[] }::a.defers } W) (hstop:∀ (D:Nat) (W:jN9),w.heap.size<=D->(∃ x∈pieces s,bad x=true)->Kr bs res w W->aH res (.int .i64 5) 29 W->W.heap[D]?=some (.deferred (some [])) -> Code.ret.wpIn Fence.wide 3 prog Q { a with defers:={ target:=.collected D,args:=#[] }::a.defers } W) : (Code.rangeFunc g ps assign body).wpIn Fence.wide 3 prog Q a w:=by
 refine wpIn_rangeFunc ?_;intro fn hfn;have hro:Fence.wide.round=none:=rfl;rw [hro];obtain ⟨rec,hrec⟩:∃ rec:LoopState->Option Code->Loop,rec=fun st pe=>{ state:=st,pending:=pe,fn,tmps:=a.tmps,params:=ps,assign,body,defers:=w.heap.size }:=⟨_,rfl⟩
 obtain ⟨W1,hW1⟩:∃ W1,W1=(w.alloc (.deferred (some []))).alloc (.loop (rec .ready none)):=⟨_,rfl⟩;have hL1:W1.heap[w.heap.size+1]?=some (.loop (rec .ready none)):=by rw [hW1];have:=World.alloc_heap_new (w.alloc (.deferred (some []))) (.loop (rec .ready none));rwa [jL5] at this
 have hD1:W1.heap[w.heap.size]?=some (.deferred (some [])):=by rw [hW1];exact (Below.heap_alloc _ _ _ (by simp)).trans (World.alloc_heap_new w _)
 have hb1:jNj w.heap.size w W1:=by rw [hW1];exact ((jK7 _ w).alloc (jK8 _) _).alloc (by simp) _
 obtain ⟨J,hJ⟩:∃ J:List ByteArray->jN9->Prop,J=fun pre W=>(∀ x∈pre,bad x=false)/\Kz bs w W/\W.heap[w.heap.size+1]?=some (.loop (rec .ready none))/\W.heap[w.heap.size]?=some (.deferred (some [])):=⟨_,rfl⟩
 obtain ⟨Jx,hJx⟩:∃ Jx:List ByteArray->jN9->Prop,Jx=fun pre W=>(∃ x∈pre,bad x=true)/\Kr bs res w W/\aH res (.int .i64 5) 29 W/\W.heap[w.heap.size+1]?=some (.loop (rec .done (some .ret)))/\W.heap[w.heap.size]?=some (.deferred (some [])):=⟨_,rfl⟩
 have hend:∀ {W:jN9} {st:LoopState} {pe:Option Code},W.heap[w.heap.size+1]?=some (.loop (rec st pe))->st≠.busy->∃ o:Obj,(Instr.endLoop (w.heap.size+1)).run prog W=.ok pe (W.putObj (w.heap.size+1) o):=by intro W st pe h hst;have:=run_endLoop (P:=prog) h (by rw [hrec];exact hst);rw [hrec] at this;exact ⟨_,this⟩
 refine ⟨w.heap.size+1,[{ target:=.collected w.heap.size,args:=#[] }],W1,{ target:=.fn (.func 251) #[.pointer (some ⟨bs+1,0,none⟩),.pointer (some ⟨bs,0,none⟩),.pointer (some ⟨bs+2,0,none⟩)],args:=#[.func (.yield (w.heap.size+1)) #[] #[]] },W1,251,
  #[.func (.yield (w.heap.size+1)) #[] #[],.pointer (some ⟨bs+1,0,none⟩),.pointer (some ⟨bs,0,none⟩),.pointer (some ⟨bs+2,0,none⟩)],W1,?_,?_,?_,?_,fun _=>by omega,?_⟩
 ·rw [hW1,hrec];exact run_enterLoop_outer _ _ _ _ _
 ·simp only [resolve,hg];simp [go_sem]
 ·intro f' _;trivial
 ·have eg:=enters_of func251 (by kernel_rfl) rfl;simp [invoke,go_sem,eg]
 ·refine (XY 2 (w.heap.size+1) bs s J Jx W1 hs ?_ ?_ ?_ ?_ ?_).mono ?_
  ·intro pre W u h;rw [hJ] at h ⊢;exact ⟨h.1,h.2.1.set u,(jL1 W ⟨bs,0,none⟩ u _ (by show _≠bs;omega)).trans h.2.2.1,(jL1 W ⟨bs,0,none⟩ u _ (by show _≠bs;omega)).trans h.2.2.2⟩
  ·intro pre W h;rw [hJ] at h;exact ⟨(h.2.1.block _ (by omega) (by omega)).trans B1,(h.2.1.block _ (by omega) (by omega)).trans B2⟩
  ·intro m pre x W h hx;rw [hJ] at h;obtain ⟨h1,h2,h3,h4⟩:=h;have hlt:w.heap.size+1<W.heap.size:=(Array.getElem?_eq_some_iff.1 h3).1;have hy:=run_yield (P:=prog) (args:=#[.string x]) h3 (by rw [hrec];exact hps.symm);rw [hrec] at hy;refine ⟨fn,_,assign,body,hy,roundIn_of_wpIn hfn (hassign _ _ x W _ ?_)⟩;clear hy;refine ⟨_,run_beginRound h3 (by rw [hrec]),?_⟩;obtain ⟨W2,hW2⟩:∃ W2,W2=W.putObj (w.heap.size+1) (.loop { rec .ready none with state:=.busy }):=⟨_,rfl⟩;have hl2:W2.heap[w.heap.size+1]?=some (.loop { rec .ready none with state:=.busy }):=by rw [hW2];exact World.putObj_heap_same hlt
   have hd2:W2.heap[w.heap.size]?=some (.deferred (some [])):=by rw [hW2];exact (World.putObj_heap_other (by omega)).trans h4
   have hk2:Kz bs w W2:=by rw [hW2];exact h2.put (by omega) _
   have jG2:W2.heap[bs]?=W.heap[bs]?:=by rw [hW2];exact World.putObj_heap_other (by omega)
   have hr2:aH res (.int .i64 0) 29 W2:=(hk2.block _ (by omega) (by omega)).trans BR;have hz2:w.heap.size+1<W2.heap.size:=(Array.getElem?_eq_some_iff.1 hl2).1;rw [<- hW2];refine wpIn_mono (hbody _ _ x W2 hx hr2) ?_;rintro e a3 W3 hp;cases e with
   | normal=>
    obtain ⟨hb3,hbad⟩:=hp;have hl3:=(hb3.block _ hz2).trans hl2;have he:=run_endRound (P:=prog) none hl3;rw [hrec] at he;refine ⟨_,_,he,.inl ⟨rfl,?_,?_⟩⟩
    ·rw [hJ];refine ⟨?_,(hk2.below hb3).put (by omega) _,?_,(World.putObj_heap_other (by omega)).trans ((hb3.block _ (by omega)).trans hd2)⟩
     ·intro y hy;rcases List.mem_append.1 hy with hy | hy
      ·exact h1 y hy
      ·rw [List.mem_singleton.1 hy];exact hbad
     ·rw [World.putObj_heap_same (Array.getElem?_eq_some_iff.1 hl3).1,hrec];rfl
    ·exact (World.putObj_heap_other (by omega)).trans ((hb3.block _ (by omega)).trans jG2)
   | ret=>
    obtain ⟨hbad,W4,hb4,rfl⟩:=hp;have hl4:(W4.setCell ⟨res,0,none⟩ (.int .i64 5)).heap[w.heap.size+1]?=some (.loop { rec .ready none with state:=.busy }):=(jL1 W4 ⟨res,0,none⟩ _ _ (by show _≠res;omega)).trans ((hb4.block _ hz2).trans hl2);have hd4:(W4.setCell ⟨res,0,none⟩ (.int .i64 5)).heap[w.heap.size]?=some (.deferred (some [])):=(jL1 W4 ⟨res,0,none⟩ _ _ (by show _≠res;omega)).trans ((hb4.block _ (by omega)).trans hd2);have hr4:aH res (.int .i64 0) 29 W4:=(hb4.block _ (by omega)).trans hr2;have he:=run_endRound (P:=prog) (some .ret) hl4;rw [hrec] at he;refine ⟨_,_,he,.inr ⟨rfl,?_⟩⟩;rw [hJx];refine ⟨⟨x,by simp,hbad⟩,((hk2.below hb4).kr _).put (by omega) _,(World.putObj_heap_other (by omega)).trans (hr4.set _),?_,(World.putObj_heap_other (by omega)).trans hd4⟩;rw [World.putObj_heap_same (Array.getElem?_eq_some_iff.1 hl4).1,hrec];rfl
   | exit id=>exact hp.elim
   | goto t=>exact hp.elim
   | panic ch=>exact hp.elim
   | outgrown=>exact hp.elim
  ·exact (hb1.block _ (by omega)).trans B0
  ·rw [hJ];exact ⟨by simp,⟨hb1.os,hb1.tape,hb1.output,hb1.size,fun k h1 _=>hb1.block k h1⟩,hL1,hD1⟩
  ·rintro e W2 ⟨⟨v,rfl⟩,h | ⟨pre,hpre,h⟩⟩
   ·rw [hJ] at h;obtain ⟨h1,h2,h3,h4⟩:=h;obtain ⟨o,ho⟩:=hend h3 (by simp);exact ⟨none,_,ho,hdone _ _ (jK8 _) h1 (h2.put (by omega) _) ((World.putObj_heap_other (by omega)).trans h4)⟩
   ·rw [hJx] at h;obtain ⟨⟨x,hx,hbad⟩,h2,h3,h4,h5⟩:=h;obtain ⟨o,ho⟩:=hend h4 (by simp);exact ⟨some .ret,_,ho,hstop _ _ (jK8 _) ⟨x,hpre.subset hx,hbad⟩ (h2.put (by omega) _) ((World.putObj_heap_other (by omega)).trans h3) ((World.putObj_heap_other (by omega)).trans h5)⟩
open Go.RowKit
attribute [local go_sem] Oper.semAt_some
theorem jv0 {fn:Func} {R:Ending->jN9->Prop} {a:Act} {w:jN9} {v:Value} (hd:a.defers=[]) (hr:(results fn a.tmps).run prog w=.ok v w) (h:R (.returned v) w):bodyPostM Fence.wide 3 prog fn R .ret a w:=by show LeavesInM _ _ _ _ _ _ a.defers _ _;rw [hd];unfold LeavesInM LeavesIn;exact ⟨v,hr,h⟩
theorem XZ {fn:Func} {R:Ending->jN9->Prop} {a:Act} {w:jN9} {v:Value} {D:Nat} (hd:a.defers=[{ target:=.collected D,args:=#[] }]) (hf:w.heap[D]?=some (.deferred (some []))) (hr:(results fn a.tmps).run prog (w.putObj D (.deferred none))=.ok v (w.putObj D (.deferred none))) (h:R (.returned v) (w.putObj D (.deferred none))):bodyPostM Fence.wide 3 prog fn R .ret a w:=by show LeavesInM _ _ _ _ _ _ a.defers _ _;rw [hd];refine ⟨by simp,.inl ⟨D,_,rfl,run_takeDeferred hf,?_⟩⟩;exact ⟨v,hr,h⟩
theorem D8 (s:ByteArray) (w:jN9):Calls prog 223 #[.string s,.string ⟨#[10]⟩,.int .i64 0] w fun e w'=> e=.returned (.func (.func 251) #[] #[.pointer (some ⟨w.heap.size+1,0,none⟩),.pointer (some ⟨w.heap.size,0,none⟩),.pointer (some ⟨w.heap.size+2,0,none⟩)]) /\ w'=((w.alloc (.cells #[.string s] 9)).alloc (.cells #[.string ⟨#[10]⟩] 9)).alloc (.cells #[.int .i64 0] 3):=by
 have hmf:∀ (fn:Fn) (first cap:Array Value) (w:jN9),(Instr.makeFunc fn first cap).run prog w=.ok (.func fn first cap) w:=fun _ _ _ _=>rfl
 go_enter func223,ntmps223;go_wp2;go_ret;exact ⟨rfl,rfl⟩
theorem Ht (s:ByteArray) (w:jN9):Calls prog 200 #[.string s,.string ⟨#[10]⟩] w fun e w'=> e=.returned (.func (.func 251) #[] #[.pointer (some ⟨w.heap.size+1,0,none⟩),.pointer (some ⟨w.heap.size,0,none⟩),.pointer (some ⟨w.heap.size+2,0,none⟩)]) /\ w'=((w.alloc (.cells #[.string s] 9)).alloc (.cells #[.string ⟨#[10]⟩] 9)).alloc (.cells #[.int .i64 0] 3):=by
 have SS:=hid (D8 s w);go_enter func200,ntmps200;go_wp2_with fail
 refine SS.out.mono ?_;rintro e w1 ⟨rfl,rfl⟩;go_wp2;go_ret;exact ⟨rfl,rfl⟩
theorem Og (s:ByteArray) (h:fA s=true):(pieces s).any (fun x=>fU x.data.toList)=fZ s:=by
 unfold pieces fZ;have h2:s.data.toList=[]/\([]:List UInt8)=[]\/s.data.toList.getLast?=some 10:=by
  unfold fA at h;rcases Bool.or_eq_true _ _ ▸ h with h | h
  ·left;refine ⟨?_,rfl⟩;rw [<- pI,Lib.toList_data] at h;simpa using h
  ·right;have:=(Bool.and_eq_true _ _ ▸ h).2;simpa using this
 rw [Hr _ _ h2,jL8,List.any_append,List.any_map];have e:((fun x:ByteArray=>fU x.data.toList) ∘ bX)=fU:=by funext l;simp [bX]
 rw [e];have e2:fU []=false:=by decide
 simp [bX,e2]
theorem Ki:xC fZ:=by
 intro w b o k lv i t d ti at_ li ks ac ap al ak cc cp cl' ck hP hts hsh
 have hdd:∀ k:Nat,(Fence.wide.depth.isSome=true->1<=k):=fun k h=>by cases h
 have HE:Hid (tq fZ t at_=if fA t=false then 17 else if fZ t=true then 5 else at_.err):=rfl;obtain ⟨V,hV⟩:∃ V,V=tq fZ t at_:=⟨_,rfl⟩
 rw [<- hV] at HE ⊢;obtain ⟨w1,hw1⟩:∃ w1,w1=w.alloc (.cells #[.int .i64 0] 29):=⟨_,rfl⟩;have b1:jNj w.heap.size w w1:=by rw [hw1];exact (jK7 _ _).alloc (jK8 _) _
 have r1:aH w.heap.size (.int .i64 0) 29 w1:=by rw [hw1];exact aH.new _ _ _
 have P1:=hid (hP.up b1);have HR1:=hid r1;have HB1:=hid b1;have CT:=hid (fun w=>qG t w (by omega));obtain ⟨c0,c1,c2,c3,c4,c5,c6,c7,c8,c9,c10⟩:=P1.out.cells;have f1:=r1.free;have d1:=r1.cell;clear hV hP b1 r1;refine (callsIn_wide (n:=3)).1 ?_;refine callsIn_of_wp_marks func168 rfl trivial ?_ rfl;simp only [ntmps168,List.size_toArray,List.length_cons,List.length_nil,Nat.reduceAdd,Nat.reduceSub,Array.replicate_succ,Array.replicate_zero,List.push_toArray,List.append_toArray,jL7,jL6];refine wpIn_wide.2 ?_;go_upto_region 1 with (fail)
 rw [<- hw1];clear hw1;cases hbt:fA t with
 | false=>
  have HV:Hid (V=17):=by show V=_;rw [HE.out,if_pos hbt]
  rw [hbt] at CT;clear HE hbt;go_wp2_with fail
  refine (CT.out _).mono ?_;rintro e w2 ⟨rfl,q,rfl⟩;have f2:(w1.drewN q).frozen? ⟨w.heap.size,0,none⟩=false:=f1;have d2:(w1.drewN q).cell? ⟨w.heap.size,0,none⟩=some (.int .i64 0):=d1;have lK:Hid (aH w.heap.size (.int .i64 17) 29 ((w1.drewN q).setCell ⟨w.heap.size,0,none⟩ (.int .i64 17))):=aH.set (show aH w.heap.size (.int .i64 0) 29 (w1.drewN q) from HR1.out) _;go_wp2;refine jv0 (v:=.int .i64 17) rfl (by simp [results,results168,go_sem,lK.out.cell]) ⟨by rw [HV.out];rfl,(gQ HB1.out q).setCell (p:=⟨w.heap.size,0,none⟩) (jK8 _) _⟩
 | true=>
  have HCL:=hid (Og t hbt);have HE2:Hid (V=if fZ t=true then 5 else at_.err):=by show V=_;rw [HE.out,if_neg (by rw [hbt];decide)]
  rw [hbt] at CT;clear HE hbt;go_wp2_with fail
  refine (CT.out _).mono ?_;rintro e w2 ⟨rfl,q,rfl⟩;have P2:YU (w1.drewN q) b o k lv i t d ti at_ li ks ac ap al ak cc cp cl' ck:=P1.out.up (gQ (jK7 _ _) q)
  have r2:aH w.heap.size (.int .i64 0) 29 (w1.drewN q):=HR1.out;have hB2:jNj w.heap.size w (w1.drewN q):=gQ HB1.out q;clear c0 c1 c2 c3 c4 c5 c6 c7 c8 c9 c10 f1 d1;obtain ⟨w2,hw2⟩:∃ w2,w2=w1.drewN q:=⟨_,rfl⟩;rw [<- hw2] at P2 r2 hB2;have P2:=hid P2;have R2:=hid r2;have B2:=hid hB2;obtain ⟨c0,c1,c2,c3,c4,c5,c6,c7,c8,c9,c10⟩:=P2.out.cells;rw [<- hw2];clear hw2 r2 hB2;go_wp2_with fail
  refine (Ht t w2).mono ?_;rintro e w3 ⟨rfl,hw3⟩;have hb3:jNj w2.heap.size w2 w3:=by rw [hw3];exact (((jK7 _ _).alloc (jK8 _) _).alloc (by simp) _).alloc (by simp;omega) _
  have B0:aH w2.heap.size (.string t) 9 w3:=by rw [hw3];exact ((aH.new _ _ _).alloc _).alloc _
  have B1:aH (w2.heap.size+1) (.string ⟨#[10]⟩) 9 w3:=by rw [hw3];have:=aH.new (w2.alloc (.cells #[.string t] 9)) (.string ⟨#[10]⟩) 9;rw [jL5] at this;exact this.alloc _
  have B3:aH (w2.heap.size+2) (.int .i64 0) 3 w3:=by rw [hw3];have:=aH.new ((w2.alloc (.cells #[.string t] 9)).alloc (.cells #[.string ⟨#[10]⟩] 9)) (.int .i64 0) 3;rw [jL5,jL5] at this;exact this
  have z3:w3.heap.size=w2.heap.size+3:=by rw [hw3];simp [jL5]
  have hnz:w.heap.size<w2.heap.size:=R2.out.lt;have R3:=hid (R2.out.below R2.out.lt hb3);have P3:=hid (P2.out.up hb3);have BB3:=hid (q01 (w:=w) B2.out hb3);have HB3:=hid hb3;clear c0 c1 c2 c3 c4 c5 c6 c7 c8 c9 c10 hw3 hb3;go_wp2;refine wpIn_wide (n:=3) |>.1 ?_
  refine KZ w2.heap.size w.heap.size t (fun x=>fU x.data.toList) (fun x=>{ tmps:=#[.pointer (some ⟨b,o,none⟩),undef,.pointer (some ⟨w.heap.size,0,none⟩),.string x,.pointer (some ⟨b,o,none⟩),.pointer (some ⟨b,o,none⟩),.pointer (some ⟨b,o+3,none⟩),.string t,.bool true,.bool false,.pointer (some ⟨b,o,none⟩),.pointer (some ⟨b,o,none⟩),.pointer (some ⟨b,o+3,none⟩),.string t,.func (.func 251) #[] #[.pointer (some ⟨w2.heap.size+1,0,none⟩),.pointer (some ⟨w2.heap.size,0,none⟩),.pointer (some ⟨w2.heap.size+2,0,none⟩)],.string x,undef,undef,undef,undef,undef,undef,undef],defers:=[] }) rfl rfl (by omega) hnz (by omega) B0 B1 B3 R3.out ?assign ?body ?done ?stop;case assign=>
   intro l m x W K hK
   gi_wp2
   exact hK
  case body=>
   intro l m x W hxs hrb;have CM:=hid (Cv x W (by omega));have hlt:=hrb.lt;have HRB:=hid hrb;cases hbad:fU x.data.toList with
   | true=>
    rw [hbad] at CM
    gi_wp2_with (first | (refine ⟨trivial,hdd _,?_⟩;gi_at_call 201;refine (CallsIn.inRound l (callsIn_wide.2 CM.out)).mono ?_;rintro e W1 ⟨rfl,hbw⟩;have hb1:=HRB.out.below hlt hbw;have f1:=hb1.free;have d1:=hb1.cell))
    exact ⟨hbad,W1,hbw,rfl⟩
   | false=>
    rw [hbad] at CM
    gi_wp2_with (first | (refine ⟨trivial,hdd _,?_⟩;gi_at_call 201;refine (CallsIn.inRound l (callsIn_wide.2 CM.out)).mono ?_;rintro e W1 ⟨rfl,hbw⟩))
    exact ⟨hbw,hbad⟩
  case stop=>
   intro D W hD hbad hkr hbx hdf;have HV:Hid (V=5):=by show V=_;rw [HE2.out,if_pos];rw [<- HCL.out];obtain ⟨x,hx,h2⟩:=hbad;exact List.any_eq_true.2 ⟨x,hx,h2⟩
   have jv1:aH w.heap.size (.int .i64 5) 29 (W.putObj D (.deferred none)):=(World.putObj_heap_other (by omega)).trans hbx
   gi_wp2
   refine XZ (v:=.int .i64 5) rfl hdf (by simp [results,results168,go_sem,jv1.cell]) ⟨by rw [HV.out];rfl,?_⟩;refine ⟨hkr.os.trans BB3.out.os,hkr.tape.trans BB3.out.tape,hkr.output.trans BB3.out.output,by rw [World.putObj_size];exact jK9 BB3.out.size hkr.size,fun k2 hk2=>?_⟩;exact (World.putObj_heap_other (by omega)).trans ((hkr.block k2 (by omega) (by omega) (by omega)).trans (BB3.out.block k2 hk2))
  case done=>
   intro D W hD hgood hkz hdf;have HVc:fZ t=false:=by rw [<- HCL.out,List.any_eq_false];intro x hx;simp [hgood x hx]
   have HV:Hid (V=at_.err):=by show V=_;rw [HE2.out,HVc];rfl
   have hBW:jNj w2.heap.size w2 W:=⟨hkz.os.trans HB3.out.os,hkz.tape.trans HB3.out.tape,hkz.output.trans HB3.out.output,by have:=hkz.size;omega,fun k2 hk2=>(hkz.block k2 (by omega) (by omega)).trans (HB3.out.block k2 hk2)⟩;have PW:=P2.out.up hBW;have hrW:aH w.heap.size (.int .i64 0) 29 W:=(hkz.block _ (by omega) (by omega)).trans R3.out;have AC:=hid (iy at_ ac ap cc cp W PW.rd.at_ hsh);have HRW:=hid hrW;have Kw:=hid (q01 (w:=w) B2.out hBW);have HDL:Hid (D<W.heap.size):=(Array.getElem?_eq_some_iff.1 hdf).1;obtain ⟨c0,c1,c2,c3,c4,c5,c6,c7,c8,c9,c10⟩:=PW.cells;clear hBW PW hrW hkz hgood HE2 HCL;go_wp2_with fail
   refine AC.out.mono ?_;rintro e W1 ⟨rfl,hb1⟩;have hrb:=HRW.out.below HRW.out.lt hb1;have f1:=hrb.free;have d1:=hrb.cell;have HBE:=hid (q01 (w:=w) Kw.out hb1);have jG3:W1.heap[D]?=some (.deferred (some [])):=(hb1.block D HDL.out).trans hdf;have HRB:=hid (hrb.set (.int .i64 (at_.err:Nat)));clear c0 c1 c2 c3 c4 c5 c6 c7 c8 c9 c10 hb1 hrb;go_wp2;have jG4:(W1.setCell ⟨w.heap.size,0,none⟩ (.int .i64 (at_.err:Nat))).heap[D]?=some (.deferred (some [])):=(jL1 W1 ⟨w.heap.size,0,none⟩ _ D (by show D≠w.heap.size;omega)).trans jG3;have jv1:aH w.heap.size (.int .i64 (at_.err:Nat)) 29 ((W1.setCell ⟨w.heap.size,0,none⟩ (.int .i64 (at_.err:Nat))).putObj D (.deferred none)):=(World.putObj_heap_other (by omega)).trans HRB.out;refine XZ (v:=.int .i64 (at_.err:Nat)) rfl jG4 (by simp [results,results168,go_sem,jv1.cell]) ⟨by rw [HV.out],?_⟩;have hx:=HBE.out.setCell (p:=⟨w.heap.size,0,none⟩) (jK8 _) (.int .i64 (at_.err:Nat));exact ⟨hx.os,hx.tape,hx.output,by rw [World.putObj_size];exact hx.size,fun k2 hk2=>(World.putObj_heap_other (by omega)).trans (hx.block k2 hk2)⟩
open Go.RowKit
theorem jv2 (l:List UInt8):l.all eZ=(cu l).isEmpty:=by
 unfold cu;induction l with
 | nil=>rfl
 | cons c l ih=>
  rw [List.all_cons];cases h:eZ c with
  | true=>rw [List.dropWhile_cons_of_pos h,Bool.true_and];exact ih
  | false=>rw [List.dropWhile_cons_of_neg (by rw [h];decide)];rfl
theorem wU (s:ByteArray) (k:Nat) (h:s.size<=k\/∃ h:k<s.size,s[k]≠32):cu (aP s k)=aP s k/\(aP s k).takeWhile eZ=[]:=by
 rcases h with h | ⟨h,hn⟩
 ·rw [JZ s k h];exact ⟨rfl,rfl⟩
 ·rw [Dc s k h];have:eZ s[k]=false:=by unfold eZ;simp [hn]
  unfold cu;exact ⟨List.dropWhile_cons_of_neg (by rw [this];decide),List.takeWhile_cons_of_neg (by rw [this];decide)⟩
theorem Hu (s:ByteArray) (k:Nat) (h:k<s.size) (hn:s[k]=32):cu (aP s (k+1))=cu (aP s k)/\((aP s k).takeWhile eZ).length=1+((aP s (k+1)).takeWhile eZ).length:=by
 rw [Dc s k h];have:eZ s[k]=true:=by rw [hn];rfl
 unfold cu;rw [List.dropWhile_cons_of_pos this,List.takeWhile_cons_of_pos this,List.length_cons];exact ⟨rfl,by omega⟩
theorem take2 (s:ByteArray) (k:Nat):(s.extract k (k+2)).data.toList=(aP s k).take 2:=by rw [ByteArray.data_extract,Array.toList_extract];unfold aP;rw [List.extract_eq_take_drop,Nat.add_sub_cancel_left]
theorem jc3 (s:ByteArray) (k:Nat):((s.extract k (k+2)).toList==[36,36])=decide ((aP s k).take 2=[36,36]):=by rw [Lib.toList_data,take2,jKk,beq_iff_eq,decide_eq_true_eq]
theorem X3 (s:ByteArray) (k n:Nat):(aP s k).drop n=aP s (k+n):=by unfold aP;rw [List.drop_drop]
theorem jc4 (s:ByteArray) (k:Nat) (h:k<=s.size):(aP s k).isEmpty=decide (k=s.size):=by
 have:=iY s k;cases hf:aP s k with
 | nil=>rw [hf] at this;simp at this ⊢;omega
 | cons c l=>rw [hf] at this;simp at this ⊢;omega
theorem Ya{P:Prop}(h:P:=by
 rw [beq_eq_false_iff_ne];intro e;exact hn (by rw [<- UInt8.toNat_inj];show _=32;omega)):P:=h
theorem K9 (s:ByteArray) (w:jN9) (hs:s.size<=100000) : Calls prog 211 #[.string s] w (dF (.bool (fU s.data.toList)) w):=by
 have HE:Hid (fU (aP s 0)=(decide (((aP s 0).takeWhile eZ).length<=3)&&decide ((cu (aP s 0)).take 2=[36,36])&&((cu ((cu (aP s 0)).drop 2)).isEmpty||su (cu ((cu (aP s 0)).drop 2))))):=rfl;have h00:aP s 0=s.data.toList:=rfl;rw [<- h00];obtain ⟨V,hV⟩:∃ V,V=fU (aP s 0):=⟨_,rfl⟩;rw [<- hV] at HE ⊢;have R0:Hid (∃ k:Nat,k<=s.size/\Value.int .i64 0=.int .i64 k/\cu (aP s k)=cu (aP s 0)/\((aP s 0).takeWhile eZ).length=k+((aP s k).takeWhile eZ).length):=⟨0,jL3 _,rfl,rfl,by omega⟩;clear hV h00;go_enter func211,ntmps211;refine kZ ?_;go_wp2
 go_loop [3] (fun vi=>∃ k:Nat,k<=s.size/\vi=.int .i64 k/\cu (aP s k)=cu (aP s 0)/\((aP s 0).takeWhile eZ).length=k+((aP s k).takeWhile eZ).length) (fun i=>s.size-(intOf i).toNat)
 case atStart=>exact R0.out
 case round=>
  clear R0;obtain ⟨k,hk,rfl,hsk,hln⟩:=hrel;by_cases hgo:∃ h:k<s.size,s[k]=32
  ·obtain ⟨hlt,h32⟩:=hgo;have q1:((s[k].toNat:Int)==32)=true:=by rw [h32];rfl
   have g1:=Hu s k hlt h32;have Sq:Hid (cu (aP s (k+1))=cu (aP s 0)):=g1.1.trans hsk;have TD:Hid (((aP s 0).takeWhile eZ).length=k+1+((aP s (k+1)).takeWhile eZ).length):=by have:=g1.2;show _=_;omega
   clear hsk hln h32 g1;go_wp2
   go_round
   case rel=>exact ⟨k+1,by omega,by go_num,Sq.out,TD.out⟩
   case measure=>simp [intOf];omega
  have hstop:s.size<=k\/∃ h:k<s.size,s[k]≠32:=by
   rcases Nat.lt_or_ge k s.size with h | h
   ·exact .inr ⟨h,fun e=>hgo ⟨h,e⟩⟩
   ·exact .inl h
  obtain ⟨g1,g2⟩:=wU s k hstop;have hF:cu (aP s 0)=aP s k:=by rw [<- hsk,g1]
  have hL:((aP s 0).takeWhile eZ).length=k:=by rw [hln,g2];rfl
  have HE2:Hid (V=(decide (k<=3)&&decide ((aP s k).take 2=[36,36])&&((cu (aP s (k+2))).isEmpty||su (cu (aP s (k+2)))))):=by show V=_;rw [HE.out,hF,hL,X3]
  clear hsk hln g1 g2 hF hL HE hgo;have qs:s.size<=k\/∃ h:k<s.size,((s[k].toNat:Int)==32)=false:=by
   rcases hstop with h | ⟨h,hn⟩
   ·exact .inl h
   ·right;refine ⟨h,?_⟩;exact Ya
  clear hstop;by_cases hbad:3<k\/s.size<k+2
  ·have HV:Hid (V=false):=by
    show V=false;rw [HE2.out];rcases hbad with h | h
    ·rw [decide_eq_false (show ¬ k<=3 by omega)];rfl
    ·have h2:(aP s k).take 2≠[36,36]:=by
      intro e;have:=congrArg List.length e;rw [List.length_take,iY] at this;simp at this;omega
     rw [decide_eq_false h2,Bool.and_false];rfl
   have q34:(decide ((3:Int)<(k:Int))=true/\decide (3<k)=true)\/(decide ((3:Int)<(k:Int))=false/\decide (3<k)=false/\decide ((s.size:Int)<(k:Int)+2)=true/\decide (s.size<k+2)=true):=by
    by_cases h:3<k
    ·left;exact ⟨by simp;omega,by simp;omega⟩
    ·right;exact ⟨by simp;omega,by simp;omega,by simp;omega,by simp;omega⟩
   clear HE2 hbad;rcases qs with q1 | ⟨hlt,q2⟩<;>rcases q34 with ⟨q3,q3n⟩ | ⟨q3,q3n,q4,q4n⟩
   all_goals
    exact nY
  have q3:decide ((3:Int)<(k:Int))=false:=by simp;omega
  have q4:decide ((s.size:Int)<(k:Int)+2)=false:=by simp;omega
  have q3n:decide (3<k)=false:=by simp;omega
  have q4n:decide (s.size<k+2)=false:=by simp;omega
  have hk3:k<=3:=by omega
  have hk2:k+2<=s.size:=by omega
  have hlt:k<s.size:=by omega
  have hD:=jc3 s k;have q5:((s[k].toNat:Int)==32)=false:=by
   rcases qs with q1 | ⟨_,q2⟩
   ·omega
   ·exact q2
  clear qs hbad;by_cases TT:(aP s k).take 2=[36,36];case neg=>
   have HV:Hid (V=false):=by show V=false;rw [HE2.out,decide_eq_false TT,Bool.and_false];rfl
   rw [decide_eq_false TT] at hD;clear TT HE2;exact nY
  rw [decide_eq_true TT] at hD;have yw:Hid (V=((cu (aP s (k+2))).isEmpty||su (cu (aP s (k+2))))):=by show V=_;rw [HE2.out,decide_eq_true TT,decide_eq_true hk3];rfl
  have R1:Hid (∃ q:Nat,k+2<=q/\q<=s.size/\Value.int .i64 ((k:Int)+2)=.int .i64 q/\cu (aP s q)=cu (aP s (k+2))):=⟨k+2,jK8 _,hk2,by go_num,rfl⟩;clear TT HE2;go_wp2
  go_loop [3] (fun vi=>∃ q:Nat,k+2<=q/\q<=s.size/\vi=.int .i64 q/\cu (aP s q)=cu (aP s (k+2))) (fun i=>s.size-(intOf i).toNat)
  case atStart=>exact R1.out
  case round=>
   clear R1 hD q3 q4 q3n q4n q5;obtain ⟨q,hkq,hq,rfl,hsk⟩:=hrel;by_cases hgo:∃ h:q<s.size,s[q]=32
   ·obtain ⟨hlt2,h32⟩:=hgo;have q1:((s[q].toNat:Int)==32)=true:=by rw [h32];rfl
    have Sq:Hid (cu (aP s (q+1))=cu (aP s (k+2))):=(Hu s q hlt2 h32).1.trans hsk;clear hsk h32;go_wp2
    go_round
    case rel=>exact ⟨q+1,by omega,by omega,by go_num,Sq.out⟩
    case measure=>simp [intOf];omega
   have hstop:s.size<=q\/∃ h:q<s.size,s[q]≠32:=by
    rcases Nat.lt_or_ge q s.size with h | h
    ·exact .inr ⟨h,fun e=>hgo ⟨h,e⟩⟩
    ·exact .inl h
   have hF:cu (aP s (k+2))=aP s q:=by rw [<- hsk,(wU s q hstop).1]
   have LD:Hid (V=((aP s q).isEmpty||su (aP s q))):=by show V=_;rw [yw.out,hF]
   clear hsk hF yw hgo;rcases hstop with hge | ⟨hlt2,hn⟩
   ·have hqe:q=s.size:=by omega
    have HV:Hid (V=true):=by show V=_;rw [LD.out,JZ s q hge];rfl
    have e1:((q:Int)==(s.size:Int))=true:=by rw [beq_iff_eq];omega
    clear LD hqe;exact nY
   have e1:((q:Int)==(s.size:Int))=false:=by rw [beq_eq_false_iff_ne];omega
   have q1:((s[q].toNat:Int)==32)=false:=by exact Ya
   have HE5:Hid (V=match q22 (aP s q) with
    | none=>false
    | some (_,r)=>r.all eZ):=by
    show V=_;rw [LD.out,Dc s q hlt2];rfl
   have PA:=hid (Oc s q w hs hq);clear LD hn;go_wp2_with fail
   refine PA.out.mono ?_;rintro e w1 ⟨x,a1,n1,c1,a2,n2,c2,t,m,rfl,hb1,hres⟩;have HB1:=hid hb1;have ji:=hid hres;have Sw:=hid (hb1.alloc hb1.size (.cells #[.string x,.slice a1 n1 c1,.slice a2 n2 c2] 45));clear hb1 hres PA;by_cases hm:m=0;case neg=>
    have e5:(m != 0)=true:=by rw [bne_iff_ne];exact hm
    have HV:Hid (V=false):=by
     show V=_;rcases ji.out with ⟨h,_⟩ | ⟨_,h⟩
     ·exact absurd h hm
     ·rw [HE5.out,h]
    clear ji HE5;go_wp2;go_ret;exact ⟨by rw [HV.out];rfl,Sw.out⟩
   subst hm;obtain ⟨a',z,hto,rfl,HP⟩:∃ (a':At) (z:Nat),z<=s.size/\t=z/\Hid (q22 (aP s q)=some (a',aP s z)):=by
    rcases ji.out with ⟨_,h⟩ | ⟨h,_⟩
    ·exact h
    ·exact absurd rfl h
   have HE6:Hid (V=(cu (aP s z)).isEmpty):=by show V=_;rw [HE5.out,HP.out];exact jv2 _
   have R2:Hid (∃ r:Nat,r<=s.size/\Value.int .i64 (z:Int)=.int .i64 r/\cu (aP s r)=cu (aP s z)):=⟨z,hto,rfl,rfl⟩;clear ji HE5 HP;go_wp2;obtain ⟨W,hW⟩:∃ W,W=w1.alloc (.cells #[.string x,.slice a1 n1 c1,.slice a2 n2 c2] 45):=⟨_,rfl⟩;rw [<- hW] at Sw ⊢;clear hW
   go_loop [5] (fun vi=>∃ r:Nat,r<=s.size/\vi=.int .i64 r/\cu (aP s r)=cu (aP s z)) (fun i=>s.size-(intOf i).toNat)
   case atStart=>exact R2.out
   case round=>
    clear R2;obtain ⟨r,hr,rfl,hsk⟩:=hrel;by_cases hgo:∃ h:r<s.size,s[r]=32
    ·obtain ⟨hlt3,h32⟩:=hgo;have q2:((s[r].toNat:Int)==32)=true:=by rw [h32];rfl
     have Sq:Hid (cu (aP s (r+1))=cu (aP s z)):=(Hu s r hlt3 h32).1.trans hsk;clear hsk h32;go_wp2
     go_round
     case rel=>exact ⟨r+1,by omega,by go_num,Sq.out⟩
     case measure=>simp [intOf];omega
    have hstop:s.size<=r\/∃ h:r<s.size,s[r]≠32:=by
     rcases Nat.lt_or_ge r s.size with h | h
     ·exact .inr ⟨h,fun e=>hgo ⟨h,e⟩⟩
     ·exact .inl h
    have HV:Hid (V=decide (r=s.size)):=by show V=_;rw [HE6.out,<- hsk,(wU s r hstop).1,jc4 s r hr]
    clear hsk HE6 hgo;rcases hstop with hge | ⟨hlt3,hn⟩
    ·go_wp2;go_ret;refine ⟨vB ?_,Sw.out⟩;rw [HV.out,jKk];simp;omega
    ·have q2:((s[r].toNat:Int)==32)=false:=by
      exact Ya
     clear hn;go_wp2;go_ret;refine ⟨vB ?_,Sw.out⟩;rw [HV.out,jKk];simp;omega
def jmx (s:ByteArray) (V:Bool) (w:jN9) (vf vi:Value) (wr:jN9):Prop:=
 ∃ i f:Nat,f<=i/\i<=s.size/\vf=.int .i64 f/\vi=.int .i64 i/\((jY (s.extract f i).data.toList (aP s i)).any fU)=V/\jNj w.heap.size w wr
theorem ext_nil (s:ByteArray) (i:Nat):(s.extract i i).data.toList=[]:=by rw [ByteArray.data_extract,Array.toList_extract,List.extract_eq_take_drop];simp
theorem La (s:ByteArray) (f i:Nat) (hf:f<=i) (h:i<s.size):(s.extract f (i+1)).data.toList=(s.extract f i).data.toList++[s[i]]:=by
 rw [ByteArray.data_extract,Array.toList_extract,ByteArray.data_extract,Array.toList_extract,List.extract_eq_take_drop,List.extract_eq_take_drop];have h1:i<s.data.toList.length:=by simpa using h
 have e:i+1-f=(i-f)+1:=by omega
 rw [e,List.take_add_one,List.getElem?_drop];have e2:f+(i-f)=i:=by omega
 rw [e2,jK6 h1];rfl
theorem Lb (s:ByteArray) (w:jN9) (hs:s.size<=100000) : Calls prog 179 #[.string s] w (dF (.bool (fZ s)) w):=by
 obtain ⟨V,hV⟩:∃ V,V=fZ s:=⟨_,rfl⟩;rw [<- hV];have R0:Hid (jmx s V w (.int .i64 0) (.int .i64 0) w):=by refine ⟨0,0,jK8 _,jL3 _,rfl,rfl,?_,jK7 _ _⟩;rw [ext_nil,hV];rfl
 clear hV;go_enter func179,ntmps179;go_wp2
 go_loopw [3,4] (fun vf vi wr=>jmx s V w vf vi wr) (fun _ i _=>s.size-(intOf i).toNat)
 case atStart=>exact R0.out
 case round=>
  clear R0;obtain ⟨i,f,hf,hi,rfl,rfl,hv,hbel⟩:=hrel;have HB:=hid hbel;have HV:=hid hv;clear hv hbel;by_cases hlt:i<s.size
  ·have hcn:=Dc s i hlt;by_cases h10:s[i]=10
   ·have q1:((s[i].toNat:Int)==10)=true:=by rw [h10];rfl
    have EN:=hid (K9 (s.extract f i) wr (by rw [ByteArray.size_extract];omega));have qV:Hid ((fU (s.extract f i).data.toList||(jY [] (aP s (i+1))).any fU)=V):=by show _=V;rw [<- HV.out,hcn,jY,if_pos h10,List.any_cons]
    clear hcn h10 HV;cases hen:fU (s.extract f i).data.toList with
    | true=>
     rw [hen] at EN;have Ms:Hid (V=true):=by show V=_;rw [<- qV.out,hen];rfl
     clear hen qV;go_wp2_with fail
     refine EN.out.mono ?_;rintro e w1 ⟨rfl,hb1⟩;have HB1:=hid (q01 HB.out hb1);clear hb1;go_wp2;go_ret;exact ⟨by rw [Ms.out];rfl,HB1.out⟩
    | false=>
     rw [hen] at EN;have Ms:Hid ((jY (s.extract (i+1) (i+1)).data.toList (aP s (i+1))).any fU=V):=by show _=V;rw [<- qV.out,hen,ext_nil];rfl
     clear hen qV;go_wp2_with fail
     refine EN.out.mono ?_;rintro e w1 ⟨rfl,hb1⟩;have HB1:=hid (q01 HB.out hb1);clear hb1;go_wp2;go_roundw;case rel=>exact ⟨i+1,i+1,jK8 _,hlt,by go_num,by go_num,Ms.out,HB1.out⟩
     case measure=>simp [intOf];omega
   ·have q1:((s[i].toNat:Int)==10)=false:=by
     rw [beq_eq_false_iff_ne];intro e;exact h10 (by rw [<- UInt8.toNat_inj];show _=10;omega)
    have qV:Hid ((jY (s.extract f (i+1)).data.toList (aP s (i+1))).any fU=V):=by show _=V;rw [<- HV.out,hcn,jY,if_neg h10,La s f i hf hlt]
    clear hcn h10 HV;go_wp2;go_roundw;case rel=>exact ⟨i+1,f,by omega,hlt,rfl,by go_num,qV.out,HB.out⟩
    case measure=>simp [intOf];omega
  ·have qV:Hid (V=false):=by show V=_;rw [<- HV.out,JZ s i (by omega)];rfl
   clear HV;go_wp2;go_ret;exact ⟨by rw [qV.out];rfl,HB.out⟩
theorem SE (s:ByteArray) (w:jN9) (hs:s.size<=1000000000) : Calls prog 178 #[.string s] w (dF (.bool (fA s)) w):=by
 rcases fq s with rfl | ⟨hne,hp,hie,hes⟩
 ·go_enter func178,ntmps178;exact xA
 ·have hv:fA s=(je s&&decide (bt s (s.size-1)=10)):=by
   unfold fA;rw [hes,G8 s 10 hp];rfl
  rw [hv];have e1:=jE s (s.size-1) (by omega);have VA:=hid (iF s w hs);generalize bt s (s.size-1)=b1 at *;generalize je s=V at *;have hsub:((s.size:Int)-1).toNat=s.size-1:=by omega
  clear hv hes;cases V
  all_goals
   go_enter func178,ntmps178;go_wp2_with fail
   refine VA.out.mono ?_;rintro e w1 ⟨rfl,hb1⟩;have HB1:=hid hb1;clear hb1;go_wp2;all_goals
    go_ret;refine ⟨vB ?_,HB1.out⟩;exact jj0
theorem Oh (k par:Int) (w:jN9):Calls prog 140 #[.int .i64 k,.int .i64 par] w fun e w'=>e=.returned (.bool (dX k par))/\w=w':=by
 obtain ⟨V,hV⟩:∃ V,V=dX k par:=⟨_,rfl⟩;rw [<- hV];have HV:=hid hV;clear hV;go_enter func140,ntmps140;go_wp2;all_goals
  go_ret;refine ⟨vB ?_,rfl⟩;rw [HV.out];unfold dX;simp only [beq_iff_eq,beq_eq_false_iff_ne,ne_eq,bne_iff_ne,bne_eq_false_iff_eq] at *
  (repeat' split)<;>first | omega | (rw [jKk];simp;done) | (simp;omega) | (simp [*];done) | (rw [jKk];simp;omega)
theorem jc5 (k:Int):(k<1\/15<k)\/(1<=k/\k<=15)/\( (([2,8]:List Int).contains k=false/\([3,10,13,14,15]:List Int).contains k=false/\([3,4]:List Int).contains k=false/\([2,4,13]:List Int).contains k=false/\([1,2,12]:List Int).contains k=true/\([6,7,8,9,10,11,13,14]:List Int).contains k=false/\(k==15)=false) \/ (([2,8]:List Int).contains k=true/\([3,10,13,14,15]:List Int).contains k=false/\([3,4]:List Int).contains k=false/\([2,4,13]:List Int).contains k=true/\([1,2,12]:List Int).contains k=true/\([6,7,8,9,10,11,13,14]:List Int).contains k=false/\(k==15)=false) \/ (([2,8]:List Int).contains k=false/\([3,10,13,14,15]:List Int).contains k=true/\([3,4]:List Int).contains k=true/\([2,4,13]:List Int).contains k=false/\([1,2,12]:List Int).contains k=false/\([6,7,8,9,10,11,13,14]:List Int).contains k=false/\(k==15)=false) \/ (([2,8]:List Int).contains k=false/\([3,10,13,14,15]:List Int).contains k=false/\([3,4]:List Int).contains k=true/\([2,4,13]:List Int).contains k=true/\([1,2,12]:List Int).contains k=false/\([6,7,8,9,10,11,13,14]:List Int).contains k=false/\(k==15)=false) \/ (([2,8]:List Int).contains k=false/\([3,10,13,14,15]:List Int).contains k=false/\([3,4]:List Int).contains k=false/\([2,4,13]:List Int).contains k=false/\([1,2,12]:List Int).contains k=false/\([6,7,8,9,10,11,13,14]:List Int).contains k=false/\(k==15)=false) \/ (([2,8]:List Int).contains k=false/\([3,10,13,14,15]:List Int).contains k=false/\([3,4]:List Int).contains k=false/\([2,4,13]:List Int).contains k=false/\([1,2,12]:List Int).contains k=false/\([6,7,8,9,10,11,13,14]:List Int).contains k=true/\(k==15)=false) \/ (([2,8]:List Int).contains k=true/\([3,10,13,14,15]:List Int).contains k=false/\([3,4]:List Int).contains k=false/\([2,4,13]:List Int).contains k=false/\([1,2,12]:List Int).contains k=false/\([6,7,8,9,10,11,13,14]:List Int).contains k=true/\(k==15)=false) \/ (([2,8]:List Int).contains k=false/\([3,10,13,14,15]:List Int).contains k=true/\([3,4]:List Int).contains k=false/\([2,4,13]:List Int).contains k=false/\([1,2,12]:List Int).contains k=false/\([6,7,8,9,10,11,13,14]:List Int).contains k=true/\(k==15)=false) \/ (([2,8]:List Int).contains k=false/\([3,10,13,14,15]:List Int).contains k=true/\([3,4]:List Int).contains k=false/\([2,4,13]:List Int).contains k=true/\([1,2,12]:List Int).contains k=false/\([6,7,8,9,10,11,13,14]:List Int).contains k=true/\(k==15)=false) \/ (([2,8]:List Int).contains k=false/\([3,10,13,14,15]:List Int).contains k=true/\([3,4]:List Int).contains k=false/\([2,4,13]:List Int).contains k=false/\([1,2,12]:List Int).contains k=false/\([6,7,8,9,10,11,13,14]:List Int).contains k=false/\(k==15)=true)):=by
 rcases tC k with rfl | rfl | rfl | rfl | rfl | rfl | rfl | rfl | rfl | rfl | rfl | rfl | rfl | rfl | rfl | hk
 case inr.inr.inr.inr.inr.inr.inr.inr.inr.inr.inr.inr.inr.inr.inr=>exact .inl hk
 all_goals (right;simp)
theorem wV (w:jN9) (k lv:Int) (i t d ti:ByteArray) (at_:At) (li:List aj) (ks:List ah) (ac ap al ak:Option Addr) (cc cp cl ck:Nat) (h:kG (·<w.heap.size) w at_ li ks (.slice ac at_.cls.length cc) (.slice ap at_.aD.length cp) (.slice al li.length cl) (.slice ak ks.length ck)) : Calls prog 139 #[.agg #[.int .i64 k,.int .i64 lv,.string i,.string t,.string d,.string ti,.string at_.id,.slice ac at_.cls.length cc,.slice ap at_.aD.length cp,.slice al li.length cl,.slice ak ks.length ck]] w (dF (.bool (zP k lv i t d ti at_ li ks)) w):=by
 have l1:=(sS h.at_.cls).2;have l2:=(sS h.at_.aD).2;obtain ⟨-,l4,m4⟩:=sS h.line;obtain ⟨-,l5,m5⟩:=sS h.kids;unfold maxLen at m4 m5;have AE:=hid (fun w=>o8 at_ ac ap cc cp w (by omega) (by omega));clear l1 l2;have HV:Hid (zP k lv i t d ti at_ li ks=(decide (1<=k)&&decide (k<=15)&&(([2,8]:List Int).contains k||(lv==0))&&(([3,10,13,14,15]:List Int).contains k||i.toList.isEmpty)&&(([3,4]:List Int).contains k||t.toList.isEmpty) &&
 ((k==15)||(d.toList.isEmpty&&ti.toList.isEmpty))&&(([2,4,13]:List Int).contains k||at_.none)&&(([1,2,12]:List Int).contains k||((li.length:Int)==0))&&(([6,7,8,9,10,11,13,14]:List Int).contains k||((ks.length:Int)==0)))):=by show _=_;rw [pI,pI,pI,pI,kF,kF];rfl
 obtain ⟨V,hV⟩:∃ V,V=zP k lv i t d ti at_ li ks:=⟨_,rfl⟩
 rw [<- hV] at HV ⊢;have Xv:=jc5 k;have IL1:=hid (fun (w:jN9)=>jw k [2,8] w 3 (by decide));have IL2:=hid (fun (w:jN9)=>jw k [3,10,13,14,15] w 3 (by decide));have IL3:=hid (fun (w:jN9)=>jw k [3,4] w 3 (by decide));have IL4:=hid (fun (w:jN9)=>jw k [2,4,13] w 3 (by decide));have IL5:=hid (fun (w:jN9)=>jw k [1,2,12] w 3 (by decide));have IL6:=hid (fun (w:jN9)=>jw k [6,7,8,9,10,11,13,14] w 3 (by decide));generalize ([2,8]:List Int).contains k=b1 at *;generalize ([3,10,13,14,15]:List Int).contains k=b2 at *;generalize ([3,4]:List Int).contains k=b3 at *;generalize ([2,4,13]:List Int).contains k=b4 at *;generalize ([1,2,12]:List Int).contains k=b5 at *;generalize ([6,7,8,9,10,11,13,14]:List Int).contains k=b6 at *;generalize at_.none=bn at *
 obtain ⟨w1,hw1⟩:∃ w1,w1=w.alloc (.cells #[.int .i64 k,.int .i64 lv,.string i,.string t,.string d,.string ti,.string at_.id,.slice ac at_.cls.length cc,.slice ap at_.aD.length cp,.slice al li.length cl,.slice ak ks.length ck] 48):=⟨_,rfl⟩;have k1:CB 48 w.heap.size [.int .i64 k,.int .i64 lv,.string i,.string t,.string d,.string ti,.string at_.id,.slice ac at_.cls.length cc,.slice ap at_.aD.length cp,.slice al li.length cl,.slice ak ks.length ck] w1:=by rw [hw1];exact CB.new _ _ _
 have B1:Hid (jNj w.heap.size w w1):=by show jNj _ _ _;rw [hw1];exact (jK7 _ _).alloc (jK8 _) _
 have p0:=k1.cell 0 _ rfl;have K1:=hid k1;clear hV h k1;go_enter func139,ntmps139;simp only [List.append_eq,jL6,jL7];go_upto_region 1 with (fail)
 rw [<- hw1];clear hw1;go_wp2_with fail
 refine (IL1.out w1).mono ?_;rintro e w2 ⟨rfl,b2_⟩;have K2:=hid (K1.out.below b2_);have B2:=hid (q01 B1.out b2_);have p0:=K2.out.cell 0 _ rfl;clear b2_ K1 B1;go_wp2_with fail
 refine (IL2.out w2).mono ?_;rintro e w3 ⟨rfl,b3_⟩;have K3:=hid (K2.out.below b3_);have B3:=hid (q01 B2.out b3_);have p0:=K3.out.cell 0 _ rfl;clear b3_ K2 B2;go_wp2_with fail
 refine (IL3.out w3).mono ?_;rintro e w4 ⟨rfl,b4_⟩;have K4:=hid (K3.out.below b4_);have B4:=hid (q01 B3.out b4_);have p0:=K4.out.cell 0 _ rfl;clear b4_ K3 B3;go_wp2_with fail
 refine (IL4.out w4).mono ?_;rintro e w5 ⟨rfl,b5_⟩;have K5:=hid (K4.out.below b5_);have B5:=hid (q01 B4.out b5_);have p0:=K5.out.cell 0 _ rfl;clear b5_ K4 B4;go_wp2_with fail
 refine (IL5.out w5).mono ?_;rintro e w6 ⟨rfl,b6_⟩;have K6:=hid (K5.out.below b6_);have B6:=hid (q01 B5.out b6_);have p0:=K6.out.cell 0 _ rfl;clear b6_ K5 B5;go_wp2_with fail
 refine (IL6.out w6).mono ?_;rintro e w7 ⟨rfl,b7_⟩;have K7:=hid (K6.out.below b7_);have B7:=hid (q01 B6.out b7_);have p0:=K7.out.cell 0 _ rfl;clear b7_ K6 B6;have p0:=K7.out.cell 0 _ rfl;have p1:=K7.out.cell 1 _ rfl;have p2:=K7.out.cell 2 _ rfl;have p3:=K7.out.cell 3 _ rfl;have p4:=K7.out.cell 4 _ rfl;have p5:=K7.out.cell 5 _ rfl;have p6:=K7.out.cell 6 _ rfl;have p7:=K7.out.cell 7 _ rfl;have p8:=K7.out.cell 8 _ rfl;have p9:=K7.out.cell 9 _ rfl;have sM:=K7.out.cell 10 _ rfl;rcases Xv with hk | ⟨⟨hk1,hk2⟩,hpat⟩
 ·have hv:V=false:=by
   exact jk9
  have HE:=hid hv;by_cases hk1:1<=k
  ·have q1:decide ((1:Int)<=k)=true:=by simpa using hk1
   have q2:decide (k<=(15:Int))=false:=by simp;omega
   clear hv hk;go_wp2;go_ret;exact ⟨by rw [HE.out];rfl,B7.out⟩
  ·have q1:decide ((1:Int)<=k)=false:=by simpa using hk1
   clear hv hk;go_wp2;go_ret;exact ⟨by rw [HE.out];rfl,B7.out⟩
 have q1:decide ((1:Int)<=k)=true:=by simpa using hk1
 have q2:decide (k<=(15:Int))=true:=by simpa using hk2
 rw [q1,q2] at HV;generalize jFx:(k==15)=Tt at *;clear hk1 hk2;rcases hpat with ⟨rfl,rfl,rfl,rfl,rfl,rfl,rfl⟩ | ⟨rfl,rfl,rfl,rfl,rfl,rfl,rfl⟩ | ⟨rfl,rfl,rfl,rfl,rfl,rfl,rfl⟩ | ⟨rfl,rfl,rfl,rfl,rfl,rfl,rfl⟩ | ⟨rfl,rfl,rfl,rfl,rfl,rfl,rfl⟩ | ⟨rfl,rfl,rfl,rfl,rfl,rfl,rfl⟩ | ⟨rfl,rfl,rfl,rfl,rfl,rfl,rfl⟩ | ⟨rfl,rfl,rfl,rfl,rfl,rfl,rfl⟩ | ⟨rfl,rfl,rfl,rfl,rfl,rfl,rfl⟩ | ⟨rfl,rfl,rfl,rfl,rfl,rfl,rfl⟩
 all_goals
  go_wp2_with (go_at_call 176;refine (AE.out _).mono ?_;rintro e w8 ⟨rfl,hb8⟩;have K8:=K7.out.below hb8;have p9:=K8.cell 9 _ rfl;have sM:=K8.cell 10 _ rfl;have p0:=K8.cell 0 _ rfl)
  all_goals
   go_ret;refine ⟨vB ?_,?_⟩
   ·rw [HV.out]
    (try simp only [*])
    (try simp)
    (try (simp only [<- List.length_eq_zero_iff];omega))
   ·first | exact q01 B7.out hb8 | exact B7.out
open Go.RowKit
theorem jc6 (i:ByteArray) (k:Nat) (h:k<i.size):nI (i.extract k (k+1)) gT=gT.contains i[k]:=by unfold nI;rw [La i k k (jK8 _) h,ext_nil];simp
def jmz (i:ByteArray) (w:jN9) (T p:Nat) (cs:List Value) (vi:Value) (wr:jN9):Prop:=
 ∃ k:Nat,k<=i.size/\vi=.int .i64 k/\CB T p cs wr/\jNj w.heap.size w wr/\(i.data.toList.take k).all (fun c=>gT.contains c)=true
def jn0 (ks:List ah) (n:Nat) (w:jN9) (T p:Nat) (cs:List Value) (vi:Value) (wr:jN9):Prop:=
 ∃ k:Nat,k<=ks.length/\vi=.int .i64 k/\CB T p cs wr/\jNj w.heap.size w wr/\(ks.take k).any (fun b=>!decide (b.oo=n))=false
theorem jn1{P Q:Prop}(q:Q)(h:Nonempty Q->P:=by
 intro qQ;have p0:=hcb.cell 0 _ rfl;have p1:=hcb.cell 1 _ rfl;have p2:=hcb.cell 2 _ rfl;have p3:=hcb.cell 3 _ rfl;have p4:=hcb.cell 4 _ rfl;have p5:=hcb.cell 5 _ rfl;have p6:=hcb.cell 6 _ rfl;have p7:=hcb.cell 7 _ rfl;have p8:=hcb.cell 8 _ rfl;have p9:=hcb.cell 9 _ rfl;have sM:=hcb.cell 10 _ rfl;have xQ:=hid hcb;have HB:=hid hbel;revert p0 p1 p2 p3 p4 p5 p6 p7 p8 p9 sM xQ HB;exact qQ.elim fun x=>x):P:=h ⟨q⟩
theorem Oi (w:World) (k lv:Int) (i t d ti:ByteArray) (at_:At) (li:List aj) (ks:List ah) (ac ap al ak:Option Addr) (cc cp cl ck:Nat) (h:kG (·<w.heap.size) w at_ li ks (.slice ac at_.cls.length cc) (.slice ap at_.aD.length cp) (.slice al li.length cl) (.slice ak ks.length ck)) (hi:i.size<=1000000000) : Calls prog 181 #[.agg #[.int .i64 k,.int .i64 lv,.string i,.string t,.string d,.string ti,.string at_.id,.slice ac at_.cls.length cc,.slice ap at_.aD.length cp,.slice al li.length cl,.slice ak ks.length ck]] w (dF (.int .i64 (Tv i ks:Nat)) w):=by
 obtain ⟨a',c',hv,hs⟩:=Rd.aB h.kids;obtain ⟨rfl,rfl⟩:a'=ak/\c'=ck:=by simp at hv;exact ⟨hv.1.symm,hv.2.symm⟩
 have hcap:ks.length<=c':=by simpa using hs.le
 have hmx:=hs.max;unfold maxLen at hmx;have HS:=hid hs;have e3:=kF ks;have HE:Hid (Tv i ks=if 32<i.size then 3 else if aV i=true then 5 else if i.data.toList.any (fun c=>!(gT:List UInt8).contains c) then 5
   else if ks.isEmpty=true then 8 else if ks.any (fun b=>!decide (b.oo=i.size)) then 15 else 0):=rfl
 generalize Tv i ks=V at *;obtain ⟨w1,hw1⟩:∃ w1,w1=w.alloc (.cells #[.int .i64 k,.int .i64 lv,.string i,.string t,.string d,.string ti,.string at_.id,.slice ac at_.cls.length cc,.slice ap at_.aD.length cp,.slice al li.length cl,.slice a' ks.length c'] 48):=⟨_,rfl⟩;have k1:CB 48 w.heap.size [.int .i64 k,.int .i64 lv,.string i,.string t,.string d,.string ti,.string at_.id,.slice ac at_.cls.length cc,.slice ap at_.aD.length cp,.slice al li.length cl,.slice a' ks.length c'] w1:=by rw [hw1];exact CB.new _ _ _
 refine XR ?_;intro b1;have p0:=k1.cell 0 _ rfl;have p1:=k1.cell 1 _ rfl;have p2:=k1.cell 2 _ rfl;have p3:=k1.cell 3 _ rfl;have p4:=k1.cell 4 _ rfl;have p5:=k1.cell 5 _ rfl;have p6:=k1.cell 6 _ rfl;have p7:=k1.cell 7 _ rfl;have p8:=k1.cell 8 _ rfl;have p9:=k1.cell 9 _ rfl;have sM:=k1.cell 10 _ rfl;have K1:=hid k1;have B1:=hid b1;clear hv hs h k1 b1;by_cases h32:32<i.size
 ·have HV:Hid (V=3):=by show V=3;rw [HE.out,if_pos h32]
  have q:decide ((32:Int)<(i.size:Int))=true:=by simp;omega
  clear HE;go_enter func181,ntmps181;go_upto_region 1 with (fail)
  rw [<- hw1];clear hw1;exact qH
 have q:decide ((32:Int)<(i.size:Int))=false:=by simp;omega
 rcases fq i with rfl | ⟨i1,i2,i3,i4⟩
 ·have HV:Hid (V=5):=by show V=5;rw [HE.out,if_neg h32,if_pos (by decide)]
  clear HE;go_enter func181,ntmps181;go_upto_region 1 with (fail)
  rw [<- hw1];clear hw1;exact qH
 have HE2:Hid (V=if i.data.toList.any (fun c=>!(gT:List UInt8).contains c) then 5
   else if ks.isEmpty=true then 8 else if ks.any (fun b=>!decide (b.oo=i.size)) then 15 else 0):=by
  show V=_;rw [HE.out,if_neg h32,if_neg (by rw [i4];decide)]
 have R0:Hid (jmz i w 48 w.heap.size [.int .i64 k,.int .i64 lv,.string i,.string t,.string d,.string ti,.string at_.id,.slice ac at_.cls.length cc,.slice ap at_.aD.length cp,.slice al li.length cl,.slice a' ks.length c'] (.int .i64 0) w1):=⟨0,Nat.zero_le _,rfl,K1.out,B1.out,by simp⟩;clear HE;go_enter func181,ntmps181;go_upto_region 1 with (fail)
 rw [<- hw1];clear hw1;go_wp2
 go_loopw [3] (fun vi wr=>jmz i w 48 w.heap.size [.int .i64 k,.int .i64 lv,.string i,.string t,.string d,.string ti,.string at_.id,.slice ac at_.cls.length cc,.slice ap at_.aD.length cp,.slice al li.length cl,.slice a' ks.length c'] vi wr) (fun vi _=>i.size-(intOf vi).toNat)
 case atStart=>exact R0.out
 case round=>
  clear R0 p0 p1 p2 p3 p4 p5 p6 p7 p8 p9 sM;obtain ⟨k',hk',rfl,hcb,hbel,hal⟩:=hrel;refine jn1 ?_;intro p0 p1 p2 p3 p4 p5 p6 p7 p8 p9 sM xQ HB;have Dn:=hid hal;clear hcb hbel hal;by_cases hlt:k'<i.size
  ·have RH:=hid (jP (i.extract k' (k'+1)) ⟨#[45,108,99,114]⟩ wr (by rw [ByteArray.size_extract];omega) (by decide));have hho:nI (i.extract k' (k'+1)) (ByteArray.mk #[45,108,99,114]).data.toList=gT.contains i[k']:=jc6 i k' hlt;rw [hho] at RH;have hg:=CY i k' hlt;cases hc:gT.contains i[k'] with
   | true=>
    rw [hc] at RH;have jc7:Hid ((i.data.toList.take (k'+1)).all (fun c=>gT.contains c)=true):=by show _=true;rw [List.take_add_one,hg,List.all_append,Dn.out];simpa using hc
    clear hho hg hc;go_wp2_with fail
    refine RH.out.mono ?_;rintro e w2 ⟨rfl,hb2⟩;have Yb:=hid (xQ.out.below hb2);have HB2:=hid (q01 HB.out hb2);clear hb2;go_wp2;go_roundw;case rel=>exact ⟨k'+1,by omega,by go_num,Yb.out,HB2.out,jc7.out⟩
    case measure=>simp [intOf];omega
   | false=>
    rw [hc] at RH;have HV:Hid (V=5):=by show V=5;rw [HE2.out,if_pos];rw [List.any_eq_true];exact ⟨_,List.mem_of_getElem? hg,by rw [hc];rfl⟩
    clear hho hg hc;go_wp2_with fail
    refine RH.out.mono ?_;rintro e w2 ⟨rfl,hb2⟩;have HB2:=hid (q01 HB.out hb2);clear hb2;go_wp2;go_ret;exact ⟨by rw [HV.out];rfl,HB2.out⟩
  ·have hall:i.data.toList.all (fun c=>gT.contains c)=true:=by
    have:=Dn.out
    rwa [List.take_of_length_le (by simpa using (by omega:i.size<=k'))] at this
   have yw:Hid (V=if ks.isEmpty=true then 8 else if ks.any (fun b=>!decide (b.oo=i.size)) then 15 else 0):=by
    show V=_;have h2:(i.data.toList.any fun c=>!(gT:List UInt8).contains c)=false:=by rw [List.any_eq_false];intro x hx;have:=List.all_eq_true.1 hall x hx;rw [this];decide
    rw [HE2.out,h2,if_neg (by decide)]
   clear hall HE2 Dn;cases hk0:ks.isEmpty with
   | true=>
    rw [hk0] at e3;have qV:Hid (V=8):=by show V=8;rw [yw.out,if_pos hk0]
    clear hk0;go_wp2;go_ret;exact ⟨by rw [qV.out];rfl,HB.out⟩
   | false=>
    rw [hk0] at e3;have qV:Hid (V=if ks.any (fun b=>!decide (b.oo=i.size)) then 15 else 0):=by show V=_;rw [yw.out,if_neg (by rw [hk0];decide)]
    have R0:Hid (jn0 ks i.size w 48 w.heap.size [.int .i64 k,.int .i64 lv,.string i,.string t,.string d,.string ti,.string at_.id,.slice ac at_.cls.length cc,.slice ap at_.aD.length cp,.slice al li.length cl,.slice a' ks.length c'] (.int .i64 0) wr):=⟨0,Nat.zero_le _,rfl,xQ.out,HB.out,by simp⟩;clear hk0 yw HB xQ;go_wp2
    go_loopw [4] (fun vi wr=>jn0 ks i.size w 48 w.heap.size [.int .i64 k,.int .i64 lv,.string i,.string t,.string d,.string ti,.string at_.id,.slice ac at_.cls.length cc,.slice ap at_.aD.length cp,.slice al li.length cl,.slice a' ks.length c'] vi wr) (fun vi _=>ks.length-(intOf vi).toNat)
    case atStart=>exact R0.out
    case round=>
     clear R0 p0 p1 p2 p3 p4 p5 p6 p7 p8 p9 sM;obtain ⟨j,hj,rfl,hcb,hbel,hno⟩:=hrel;refine jn1 ?_;intro p0 p1 p2 p3 p4 p5 p6 p7 p8 p9 sM xQ HB;have Ib:=hid hno;by_cases hlt:j<ks.length
     ·refine je7 ?_;intro x hx kg HAT;obtain ⟨kd',lv',i',t',d',ti',at',li',ks'⟩:=x;obtain ⟨b',off',ac',ap',al',ak',cc',cp',cl',ck',ha',hP'⟩:=Gd HS.out hx;have k10:=(hP'.up hbel).cells.c10;subst ha';have HKN:Hid ((ah.mk kd' lv' i' t' d' ti' at' li' ks').oo=ks'.length):=rfl;clear hP' hx hno hbel hcb;by_cases hq:ks'.length=i.size
      ·have q1:((ks'.length:Int) != (i.size:Int))=false:=by rw [bne_eq_false_iff_eq];omega
       have HQ:=hid hq;clear hq;go_wp2_with fail
       go_quiet (fail)
       go_wp2;go_roundw;case rel=>exact ⟨j+1,by omega,by go_num,xQ.out.dN 1,gQ HB.out _,by rw [kg.out,Ib.out,HKN.out,HQ.out];simp⟩
       case measure=>simp [intOf];omega
      ·exact je6
     ·have hv:V=0:=by
       have:=Ib.out;rw [List.take_of_length_le (by omega)] at this;rw [qV.out,if_neg (by rw [this];decide)]
      have Ms:=hid hv;clear hv hno hbel hcb;go_wp2;go_ret;exact ⟨by rw [Ms.out];rfl,HB.out⟩
def qo (k lv:Int) (a:At) (li:List aj):Nat:=
 if k=1 then (if li.isEmpty=true then 8 else q0z li)
 else if k=2 then (if lv<1\/6<lv then 9 else if a.err≠0 then a.err else if aj.cO bT li=true then 5 else q0z li)
 else (if aj.cO bT li=true then 5 else q0z li)
theorem Hw (w:World) (k lv:Int) (i t d ti:ByteArray) (at_:At) (li:List aj) (ks:List ah) (ac ap al ak:Option Addr) (cc cp cl ck:Nat) (h:kG (·<w.heap.size) w at_ li ks (.slice ac at_.cls.length cc) (.slice ap at_.aD.length cp) (.slice al li.length cl) (.slice ak ks.length ck)) (hs:BlS i t d ti at_ li) (hk:k=1\/k=2\/k=12) : Calls prog 177 #[.agg #[.int .i64 k,.int .i64 lv,.string i,.string t,.string d,.string ti,.string at_.id,.slice ac at_.cls.length cc,.slice ap at_.aD.length cp,.slice al li.length cl,.slice ak ks.length ck]] w (dF (.int .i64 (qo k lv at_ li:Nat)) w):=by
 obtain ⟨-,l4,m4⟩:=sS h.line;unfold maxLen at m4;have AC:=hid (fun wx (hb:Below w.heap.size w wx)=>lg at_ ac ap cc cp wx (h.at_.up hb) hs.at_);have AK:=hid (fun wx (hb:Below w.heap.size w wx)=>Cg _ li (.slice al li.length cl) true wx (Nat.le_refl _) (h.line.up hb));change Hid (∀ wx,Below w.heap.size w wx->Calls prog 209 #[.slice al li.length cl,.bool true] wx (dF (.bool (aj.cO bT li)) wx)) at AK;have LE:=hid (fun wx (hb:Below w.heap.size w wx)=>Hf li al cl wx hs.li (h.line.up hb));have e2:=kF li;have HE:Hid (qo k lv at_ li=if k=1 then (if li.isEmpty=true then 8 else q0z li)
 else if k=2 then (if lv<1\/6<lv then 9 else if at_.err≠0 then at_.err else if aj.cO bT li=true then 5 else q0z li)
 else (if aj.cO bT li=true then 5 else q0z li)):=rfl
 generalize qo k lv at_ li=V at *
 generalize q0z li=E1 at *;generalize aj.cO bT li=A at *;generalize at_.err=E at *
 generalize li.isEmpty=bl at *;obtain ⟨w1,hw1⟩:∃ w1,w1=w.alloc (.cells #[.int .i64 k,.int .i64 lv,.string i,.string t,.string d,.string ti,.string at_.id,.slice ac at_.cls.length cc,.slice ap at_.aD.length cp,.slice al li.length cl,.slice ak ks.length ck] 48):=⟨_,rfl⟩;have k1:CB 48 w.heap.size [.int .i64 k,.int .i64 lv,.string i,.string t,.string d,.string ti,.string at_.id,.slice ac at_.cls.length cc,.slice ap at_.aD.length cp,.slice al li.length cl,.slice ak ks.length ck] w1:=by rw [hw1];exact CB.new _ _ _
 have b1:Below w.heap.size w w1:=by rw [hw1];exact (Below.refl _ _).alloc (Nat.le_refl _) _
 have p0:=k1.cell 0 _ rfl;have p1:=k1.cell 1 _ rfl;have p2:=k1.cell 2 _ rfl;have p3:=k1.cell 3 _ rfl;have p4:=k1.cell 4 _ rfl;have p5:=k1.cell 5 _ rfl;have p6:=k1.cell 6 _ rfl;have p7:=k1.cell 7 _ rfl;have p8:=k1.cell 8 _ rfl;have p9:=k1.cell 9 _ rfl;have sM:=k1.cell 10 _ rfl;have K1:=hid k1;have B1:=hid b1;clear h hs k1 b1;rcases hk with rfl | rfl | rfl
 ·go_enter func177,ntmps177;refine kZ ?_;go_upto_region 1 with (fail)
  rw [<- hw1];clear hw1;cases bl
  all_goals
   go_wp2_with (go_at_call 210;refine (LE.out _ B1.out).mono ?_;rintro e w2 ⟨rfl,hb2⟩;have HB2:=hid (q01 B1.out hb2))
   all_goals
    go_ret;refine ⟨Mj ?_,?_⟩
    ·rw [HE.out];simp
    ·first | exact HB2.out | exact B1.out
 ·have hlv:lv<1\/(1<=lv/\6<lv)\/(1<=lv/\lv<=6):=by omega
  rcases hlv with hl | ⟨hl1,hl2⟩ | ⟨hl1,hl2⟩
  ·have HV:Hid (V=9):=by show V=9;rw [HE.out];simp [hl]
   have q1:decide (lv<1)=true:=by simpa using hl
   clear HE hl;go_enter func177,ntmps177;refine kZ ?_;go_upto_region 1 with (fail)
   rw [<- hw1];clear hw1;exact qH
  ·have HV:Hid (V=9):=by show V=9;rw [HE.out];simp [hl2]
   have q1:decide (lv<1)=false:=by simp;omega
   have q2:decide (6<lv)=true:=by simpa using hl2
   clear HE hl1 hl2;go_enter func177,ntmps177;refine kZ ?_;go_upto_region 1 with (fail)
   rw [<- hw1];clear hw1;exact qH
  ·have HV:Hid (V=if E≠0 then E else if A=true then 5 else E1):=by
    show V=_;rw [HE.out,if_neg (by decide),if_pos rfl,if_neg (by omega)]
   have q1:decide (lv<1)=false:=by simp;omega
   have q2:decide (6<lv)=false:=by simp;omega
   clear HE hl1 hl2;by_cases hE:E=0
   ·subst hE;cases A
    all_goals
     go_enter func177,ntmps177;refine kZ ?_;go_upto_region 1 with (fail)
     rw [<- hw1];clear hw1;go_wp2_with (first
      | (go_at_call 180;refine (AC.out _ B1.out).mono ?_;rintro e w2 ⟨rfl,hb2⟩;have K2:=K1.out.below hb2;have HB2:=hid (q01 B1.out hb2);have p0:=K2.cell 0 _ rfl;have p9:=K2.cell 9 _ rfl)
      | (go_at_call 209;refine (AK.out _ HB2.out).mono ?_;rintro e w3 ⟨rfl,hb3⟩;have K3:=K2.below hb3;have HB3:=hid (q01 HB2.out hb3);have p0:=K3.cell 0 _ rfl;have p9:=K3.cell 9 _ rfl)
      | (go_at_call 210;refine (LE.out _ HB3.out).mono ?_;rintro e w4 ⟨rfl,hb4⟩;have lC:=hid (q01 HB3.out hb4)))
     all_goals
      go_ret;refine ⟨Mj ?_,?_⟩
      ·rw [HV.out];simp
      ·first | exact lC.out | exact HB3.out
   ·have q3:((E:Int) != 0)=true:=by rw [bne_iff_ne];omega
    have qV:Hid (V=E):=by show V=E;rw [HV.out,if_pos hE]
    clear HV hE;go_enter func177,ntmps177;refine kZ ?_;go_upto_region 1 with (fail)
    rw [<- hw1];clear hw1;go_wp2_with fail
    refine (AC.out _ B1.out).mono ?_;rintro e w2 ⟨rfl,hb2⟩;have HB2:=hid (q01 B1.out hb2);clear hb2;go_wp2;go_ret;exact ⟨by rw [qV.out];rfl,HB2.out⟩
 ·cases A
  all_goals
   go_enter func177,ntmps177;refine kZ ?_;go_upto_region 1 with (fail)
   rw [<- hw1];clear hw1;go_wp2_with (first
    | (go_at_call 209;refine (AK.out _ B1.out).mono ?_;rintro e w3 ⟨rfl,hb3⟩;have K3:=K1.out.below hb3;have HB3:=hid (q01 B1.out hb3);have p0:=K3.cell 0 _ rfl;have p9:=K3.cell 9 _ rfl)
    | (go_at_call 210;refine (LE.out _ HB3.out).mono ?_;rintro e w4 ⟨rfl,hb4⟩;have lC:=hid (q01 HB3.out hb4)))
   all_goals
    go_ret;refine ⟨Mj ?_,?_⟩
    ·rw [HE.out];simp
    ·first | exact lC.out | exact HB3.out
theorem Yc{P:Prop}(h:P:=by
 go_upto_region 1 with (fail)
 rw [<- hw1];clear hw1;go_wp2;go_ret;refine ⟨Mj ?_,B1.out⟩;rw [HE.out];simp [HQ.out]):P:=h
theorem Lc (w:jN9) (k lv:Int) (i t d ti:ByteArray) (at_:At) (li:List aj) (ks:List ah) (ac ap al ak:Option Addr) (cc cp cl ck:Nat) (h:kG (·<w.heap.size) w at_ li ks (.slice ac at_.cls.length cc) (.slice ap at_.aD.length cp) (.slice al li.length cl) (.slice ak ks.length ck)) (hs:BlS i t d ti at_ li) (hf:zP k lv i t d ti at_ li ks=true) : Calls prog 141 #[.agg #[.int .i64 k,.int .i64 lv,.string i,.string t,.string d,.string ti,.string at_.id,.slice ac at_.cls.length cc,.slice ap at_.aD.length cp,.slice al li.length cl,.slice ak ks.length ck]] w (dF (.int .i64 (nO fZ k lv i t d ti at_ li ks:Nat)) w):=by
 obtain ⟨f1,f2,f3⟩:=tu hf;obtain ⟨-,l4,m4⟩:=sS h.line;obtain ⟨-,l5,m5⟩:=sS h.kids;unfold maxLen at m4 m5;have WR:=hid (fun wx (hb:jNj w.heap.size w wx) hk=>Hw wx k lv i t d ti at_ li ks ac ap al ak cc cp cl ck (h.up hb) hs hk);have TB:=hid (fun wx (hb:jNj w.heap.size w wx)=>Oi wx k lv i t d ti at_ li ks ac ap al ak cc cp cl ck (h.up hb) (by have:=hs.i;omega));have CLI:=hid (fun w=>Xt i w (by have:=hs.i;omega));have CTR:=hid (fun w=>qj i w (by have:=hs.i;omega));have CBD:=hid (fun w=>SE t w (by have:=hs.t;omega));have CCL:=hid (fun w=>Lb t w (by have:=hs.t;omega));have CNM:=hid (fun w=>TS i w (by have:=hs.i;omega));have CLB:=hid (fun w=>Ck i w (by have:=hs.i;omega));have CLD:=hid (fun w=>Xt d w (by have:=hs.d;omega));have CLT:=hid (fun w=>Xt ti w (by have:=hs.ti;omega));have AC:=hid (fun wx (hb:jNj w.heap.size w wx)=>lg at_ ac ap cc cp wx (h.at_.up hb) hs.at_);have e3:=kF ks;have HE:Hid (nO fZ k lv i t d ti at_ li ks=if k=1\/k=2\/k=12 then qo k lv at_ li
 else if k=3 then (if cZ i=false\/trimS i=false\/fA t=false then 17 else 0)
 else if k=4 then (if fA t=false then 17 else if fZ t=true then 5 else at_.err)
 else if k=7\/k=8 then (if ks.isEmpty=true then 8 else if k=8/\(lv<0\/999999999<lv) then 9 else 0)
 else if k=10 then Tv i ks
 else if k=13\/k=14 then (if dQ i=false then 6 else at_.err)
 else if k=15 then (if vF i=false then 6 else if cZ d=false\/cZ ti=false then 17 else 0)
 else 0):=by
  show _=_;unfold nO qo;by_cases g1:k=1
  ·simp [g1]
  by_cases g2:k=2
  ·simp [g2]
  by_cases g3:k=12
  ·simp [g3]
  simp [g1,g2,g3]
 generalize nO fZ k lv i t d ti at_ li ks=V at *
 generalize hwe:qo k lv at_ li=E1 at *
 generalize Tv i ks=E5 at *;generalize at_.err=E6 at *
 generalize cZ i=b1 at *;generalize trimS i=b2 at *;generalize fA t=b3 at *;generalize dQ i=b4 at *;generalize vF i=b5 at *;generalize cZ d=b6 at *;generalize cZ ti=b7 at *;generalize fZ t=b8 at *;generalize ks.isEmpty=bk at *;obtain ⟨w1,hw1⟩:∃ w1,w1=w.alloc (.cells #[.int .i64 k,.int .i64 lv,.string i,.string t,.string d,.string ti,.string at_.id,.slice ac at_.cls.length cc,.slice ap at_.aD.length cp,.slice al li.length cl,.slice ak ks.length ck] 48):=⟨_,rfl⟩;have k1:CB 48 w.heap.size [.int .i64 k,.int .i64 lv,.string i,.string t,.string d,.string ti,.string at_.id,.slice ac at_.cls.length cc,.slice ap at_.aD.length cp,.slice al li.length cl,.slice ak ks.length ck] w1:=by rw [hw1];exact CB.new _ _ _
 have bb1:jNj w.heap.size w w1:=by rw [hw1];exact (jK7 _ _).alloc (jK8 _) _
 have p0:=k1.cell 0 _ rfl;have p1:=k1.cell 1 _ rfl;have p2:=k1.cell 2 _ rfl;have p3:=k1.cell 3 _ rfl;have p4:=k1.cell 4 _ rfl;have p5:=k1.cell 5 _ rfl;have p6:=k1.cell 6 _ rfl;have p7:=k1.cell 7 _ rfl;have p8:=k1.cell 8 _ rfl;have p9:=k1.cell 9 _ rfl;have sM:=k1.cell 10 _ rfl;have K1:=hid k1;have B1:=hid bb1;clear h hs hf k1 bb1 hwe;rcases tC k with rfl | rfl | rfl | rfl | rfl | rfl | rfl | rfl | rfl | rfl | rfl | rfl | rfl | rfl | rfl | hk
 case inr.inr.inr.inr.inr.inr.inr.inr.inr.inr.inr.inr.inr.inr.inr=>omega
 case inr.inr.inr.inr.inr.inr.inr.inl=>
  clear f1 f2 f3;have hlv:lv<0\/(0<=lv/\999999999<lv)\/(0<=lv/\lv<=999999999):=by omega
  have HG:Hid ((lv<0\/999999999<lv)↔¬ (0<=lv/\lv<=999999999)):=by show _↔_;omega
  rcases hlv with g | ⟨g1,g2⟩ | ⟨g1,g2⟩
  ·have q1:decide (lv<0)=true:=by simpa using g
   have HQ:Hid (lv<0\/999999999<lv):=.inl g;clear g HG;cases bk
   all_goals
    go_enter func141,ntmps141;refine kZ ?_;exact Yc
  ·have q1:decide (lv<0)=false:=by simp;omega
   have q2:decide (999999999<lv)=true:=by simpa using g2
   have HQ:Hid (lv<0\/999999999<lv):=.inr g2;clear g1 g2 HG;cases bk
   all_goals
    go_enter func141,ntmps141;refine kZ ?_;exact Yc
  ·have q1:decide (lv<0)=false:=by simp;omega
   have q2:decide (999999999<lv)=false:=by simp;omega
   have HQ:Hid (¬ (lv<0\/999999999<lv)):=by show ¬ _;omega
   clear g1 g2 HG;cases bk
   all_goals
    go_enter func141,ntmps141;refine kZ ?_;exact Yc
 all_goals
  clear f1 f2 f3;go_enter func141,ntmps141;refine kZ ?_;go_upto_region 1 with (fail)
  rw [<- hw1];clear hw1;go_wp2_with (first
   | (go_at_call 177;refine (WR.out _ B1.out (by simp)).mono ?_;rintro e w9 ⟨rfl,hb9⟩;have HB9:=hid (q01 B1.out hb9))
   | (go_at_call 181;refine (TB.out _ B1.out).mono ?_;rintro e w9 ⟨rfl,hb9⟩;have HB9:=hid (q01 B1.out hb9))
   | (go_at_call 182;refine (CLB.out _).mono ?_;rintro e w2 ⟨rfl,hb2⟩;have K2:=K1.out.below hb2;have HB2:=hid (q01 B1.out hb2);have p4:=K2.cell 4 _ rfl;have p5:=K2.cell 5 _ rfl)
   | (go_at_call 70;refine (CNM.out _).mono ?_;rintro e w2 ⟨rfl,rfl⟩)
   | (go_at_call 112;refine (CTR.out _).mono ?_;rintro e w5 ⟨rfl,rfl⟩)
   | (go_at_call 178;refine (CBD.out _).mono ?_;rintro e w3 ⟨rfl,hb3⟩;have K3:=(by first | exact K2.below hb3 | exact K1.out.below hb3:CB 48 w.heap.size _ w3);have HB3:Hid (jNj w.heap.size w w3):=(by first | exact hid (q01 HB2.out hb3) | exact hid (q01 B1.out hb3));have p3:=K3.cell 3 _ rfl;have p6:=K3.cell 6 _ rfl;have p7:=K3.cell 7 _ rfl;have p8:=K3.cell 8 _ rfl)
   | (go_at_call 179;refine (CCL.out _).mono ?_;rintro e w4 ⟨rfl,hb4⟩;have K4:=K3.below hb4;have lC:=hid (q01 HB3.out hb4);have p6:=K4.cell 6 _ rfl;have p7:=K4.cell 7 _ rfl;have p8:=K4.cell 8 _ rfl)
   | (go_at_call 180;refine (AC.out _ (by first | exact lC.out | exact B1.out)).mono ?_;rintro e w9 ⟨rfl,hb9⟩;have HB9:Hid (jNj w.heap.size w w9):=(by first | exact hid (q01 lC.out hb9) | exact hid (q01 B1.out hb9)))
   | (go_at_call 111;(with_reducible refine (CLI.out _).mono ?_);rintro e w2 ⟨rfl,hb2⟩;have K2:=K1.out.below hb2;have HB2:=hid (q01 B1.out hb2);have p2:=K2.cell 2 _ rfl;have p3:=K2.cell 3 _ rfl)
   | (go_at_call 111;(with_reducible refine (CLD.out _).mono ?_);rintro e w6 ⟨rfl,hb6⟩;have K6:=K2.below hb6;have Y8:=hid (q01 HB2.out hb6);have p5:=K6.cell 5 _ rfl)
   | (go_at_call 111;(with_reducible refine (CLT.out _).mono ?_);rintro e w7 ⟨rfl,TG⟩;have HB7:=hid (q01 Y8.out TG)))
  all_goals
   go_ret;refine ⟨Mj ?_,?_⟩
   ·exact OP
   ·first | exact HB9.out | exact HB7.out | exact Y8.out | exact lC.out | exact HB3.out | exact HB2.out | exact B1.out
open Go.RowKit
theorem Hy (n:Nat):∀ (l:List ah) (par:Int) (dp:Nat) (a:Option Addr) (cap:Nat) (w:jN9),ah.aU l<=n->dp<=1000000->ah.ay l->Rd (·<w.heap.size) w (iC l) [.slice a l.length cap] -> Calls prog 89 #[.slice a l.length cap,.int .i64 par,.int .i64 (dp:Int)] w (dF (.int .i64 (ah.aQ fZ par dp l:Nat)) w):=by
 induction n using Nat.strongRecOn with
 | _ n ih=>
  intro l par dp a cap w hn hdp hsm h;obtain ⟨a',c',hv,hs⟩:=Rd.aB h;obtain ⟨rfl,rfl⟩:a'=a/\c'=cap:=by simp at hv;exact ⟨hv.1.symm,hv.2.symm⟩
  have hcap:l.length<=c':=by simpa using hs.le
  refine IZ ?_;intro hmx HS IH;have SM:=hid hsm;obtain ⟨E,hE⟩:∃ E,ah.aQ fZ par dp l=E:=⟨_,rfl⟩;rw [hE];have R0:Hid (I6 fZ l par dp E w (.int .i64 0) w):=⟨0,jL3 _,rfl,jK7 _ _,hE⟩;clear hs hv h ih hsm hE;go_enter func89,ntmps89;go_wp2
  go_loopw [7] (fun i wr=>I6 fZ l par dp E w i wr) (fun i _=>l.length-(intOf i).toNat)
  case atStart=>exact R0.out
  case round=>
   clear R0;obtain ⟨k,hk,rfl,hbel,aX⟩:=hrel;have HB:=hid hbel;by_cases hlt:k<l.length
   ·obtain ⟨x,hx⟩:∃ x,l[k]?=some x:=⟨_,jK6 hlt⟩;have hxs:x.small:=ah.jT SM.out hx;have hsz:=ah.bK l k _ hx;rw [IU l k x hx] at aX;obtain ⟨kd,lv,i,t,d,ti,at_,li,ks⟩:=x;rw [ah.sz] at hsz;obtain ⟨hbs,hks⟩:=jqk hxs;obtain ⟨b,off,ac,ap,al,ak,cc,cp,cl,ck,rfl,Uo⟩:=Gd HS.out hx;have hP:=Uo.up hbel;obtain ⟨c0,c1,c2,c3,c4,c5,c6,c7,c8,c9,c10⟩:=hP.cells;obtain ⟨wi,hwi⟩:∃ wi,wi=wr.alloc (.cells #[.int .i64 kd,.int .i64 lv,.string i,.string t,.string d,.string ti,.string at_.id,.slice ac at_.cls.length cc,.slice ap at_.aD.length cp,.slice al li.length cl,.slice ak ks.length ck] 48):=⟨_,rfl⟩;have bi:jNj wr.heap.size wr wi:=by rw [hwi];exact (jK7 _ _).alloc (jK8 _) _
    have kb:CB 48 wr.heap.size [.int .i64 kd,.int .i64 lv,.string i,.string t,.string d,.string ti,.string at_.id,.slice ac at_.cls.length cc,.slice ap at_.aD.length cp,.slice al li.length cl,.slice ak ks.length ck] wi:=by rw [hwi];exact CB.new _ _ _
    have Fp:=hid (hP.rd.up bi);have KB:=hid kb;have BI:=hid (q01 HB.out bi);have bS:=hid aX;clear hxs hP Uo aX hx hbel bi kb;go_upto_region 5 with (fail)
    rw [<- hwi];clear hwi c0 c1 c2 c3 c4 c5 c6 c7 c8 c9 c10;by_cases qF:15<dp
    ·have Tt:decide ((15:Int)<(dp:Int))=true:=by simp;omega
     have HE:Hid (E=11):=by show E=11;rw [<- bS.out,ah.aQ,ah.err,if_pos qF];rfl
     go_wp2;go_ret;exact ⟨by rw [HE.out];rfl,BI.out⟩
    have Tt:decide ((15:Int)<(dp:Int))=false:=by simp;omega
    have aX:=bS.out;rw [tF _ _ _ _ _ _ _ _ _ _ _ _ _ qF] at aX;have bS:=hid aX;have IY:=hid (wV wi kd lv i t d ti at_ li ks ac ap al ak cc cp cl ck Fp.out);have FT:=hid (fun w=>Oh kd par w);have CI:=hid (fun wx (hb:jNj wi.heap.size wi wx) hf=>Lc wx kd lv i t d ti at_ li ks ac ap al ak cc cp cl ck (Fp.out.up hb) hbs hf);have CK:=hid (fun wx (hb:jNj wi.heap.size wi wx)=>IH.out (ah.aU ks) (by omega) ks kd (dp+1) ak ck wx (jK8 _) (by omega) hks (Fp.out.up hb).kids);simp only [Int.natCast_add,Int.natCast_one] at CK;have p0:=KB.out.cell 0 _ rfl;have p1:=KB.out.cell 1 _ rfl;have p2:=KB.out.cell 2 _ rfl;have p3:=KB.out.cell 3 _ rfl;have p4:=KB.out.cell 4 _ rfl;have p5:=KB.out.cell 5 _ rfl;have p6:=KB.out.cell 6 _ rfl;have p7:=KB.out.cell 7 _ rfl;have p8:=KB.out.cell 8 _ rfl;have p9:=KB.out.cell 9 _ rfl;have sM:=KB.out.cell 10 _ rfl;clear hsz hbs hks aX qF;cases hf:zP kd lv i t d ti at_ li ks with
    | false=>
     rw [hf] at IY;have HE:Hid (E=5):=by show E=5;have:=bS.out;rw [if_pos (.inl hf)] at this;exact this.symm
     clear hf;go_wp2_with fail
     refine IY.out.mono ?_;rintro e w2 ⟨rfl,hb2⟩;have B2:=hid (q01 BI.out hb2);clear hb2;go_wp2;go_ret;exact ⟨by rw [HE.out];rfl,B2.out⟩
    | true=>
     rw [hf] at IY;cases hpl:dX kd par with
     | false=>
      rw [hpl] at FT;have HE:Hid (E=5):=by show E=5;have:=bS.out;rw [if_pos (.inr hpl)] at this;exact this.symm
      clear hf hpl;go_wp2_with fail
      refine IY.out.mono ?_;rintro e w2 ⟨rfl,hb2⟩;have B2:=hid (q01 BI.out hb2);have k2:=KB.out.below hb2;clear p0 hb2;have p0:=k2.cell 0 _ rfl;clear k2;go_wp2_with fail
      refine (FT.out _).mono ?_;rintro e w3 ⟨rfl,rfl⟩;go_wp2;go_ret;exact ⟨by rw [HE.out];rfl,B2.out⟩
     | true=>
      rw [hpl] at FT;have zM:Hid ((if nO fZ kd lv i t d ti at_ li ks≠0 then nO fZ kd lv i t d ti at_ li ks else if ah.aQ fZ kd (dp+1) ks≠0 then ah.aQ fZ kd (dp+1) ks else ah.aQ fZ par dp (l.drop (k+1)))=E):=by show _=_;have:=bS.out;rw [if_neg (by rw [hf,hpl];simp)] at this;exact this
      have CI2:=hid (fun wx hb=>CI.out wx hb hf);clear hf hpl bS CI;generalize nO fZ kd lv i t d ti at_ li ks=E1 at *
      generalize ah.aQ fZ kd (dp+1) ks=E2 at *;go_wp2_with fail
      refine IY.out.mono ?_;rintro e w2 ⟨rfl,hb2⟩;have k2:=KB.out.below hb2;have B2:=hid hb2;clear p0 p1 p2 p3 p4 p5 p6 p7 p8 p9 sM hb2;have p0:=k2.cell 0 _ rfl;have p1:=k2.cell 1 _ rfl;have p2:=k2.cell 2 _ rfl;have p3:=k2.cell 3 _ rfl;have p4:=k2.cell 4 _ rfl;have p5:=k2.cell 5 _ rfl;have p6:=k2.cell 6 _ rfl;have p7:=k2.cell 7 _ rfl;have p8:=k2.cell 8 _ rfl;have p9:=k2.cell 9 _ rfl;have sM:=k2.cell 10 _ rfl;have K2:=hid k2;clear k2;go_wp2_with fail
      refine (FT.out _).mono ?_;rintro e w3 ⟨rfl,rfl⟩;go_wp2_with fail
      refine (CI2.out _ B2.out).mono ?_;rintro e w4 ⟨rfl,hb4⟩;have B4:=hid (q01 B2.out hb4);have k4:=K2.out.below hb4;clear p0 p1 p2 p3 p4 p5 p6 p7 p8 p9 sM hb4;have p0:=k4.cell 0 _ rfl;have sM:=k4.cell 10 _ rfl;clear k4;by_cases h1:E1=0
      ·have yw:Hid ((if E2≠0 then E2 else ah.aQ fZ par dp (l.drop (k+1)))=E):=by
        exact Uj
       subst h1;clear zM;go_wp2_with fail
       refine (CK.out _ B4.out).mono ?_;rintro e w5 ⟨rfl,hb5⟩;have B5:=hid (q01 B4.out hb5);clear hb5;by_cases h2:E2=0
       ·have LD:Hid (ah.aQ fZ par dp (l.drop (k+1))=E):=by
         exact Uk
        subst h2;go_wp2;go_roundw;case rel=>exact ⟨k+1,by omega,by go_num,q01 BI.out B5.out,LD.out⟩
        case measure=>simp [intOf];omega
       ·have LD:Hid (E=E2):=by
         exact Un
        have hn2:((E2:Int) != 0)=true:=by rw [bne_iff_ne];omega
        clear h2;go_wp2;go_ret;exact ⟨by rw [LD.out];rfl,q01 BI.out B5.out⟩
      ·have yw:Hid (E=E1):=by
        exact Um
       have hn1:((E1:Int) != 0)=true:=by rw [bne_iff_ne];omega
       clear h1;go_wp2;go_ret;exact ⟨by rw [yw.out];rfl,q01 BI.out B4.out⟩
   ·have HE:Hid (E=0):=by
     exact Ur
    clear aX hbel;exact jy
theorem Ld (l:List ah) (a:Option Addr) (cap:Nat) (w:jN9) (hsm:ah.ay l) (h:Rd (·<w.heap.size) w (iC l) [.slice a l.length cap]) : Calls prog 43 #[.slice a l.length cap] w (dF (.int .i64 (ah.aQ fZ 0 0 l:Nat)) w):=by have CK:=hid (Hy _ l 0 0 a cap w (jK8 _) (by omega) hsm h);generalize ah.aQ fZ 0 0 l=E at *;clear h hsm;go_enter func43,ntmps43;exact Uq
def jn2 (T:TypeId) (p:Nat) (cs:List Value) (w:jN9) (l:List Pr) (E:Nat) (vi:Value) (wr:jN9):Prop:=
 ∃ k:Nat,k<=l.length/\vi=.int .i64 k/\CB T p cs wr/\jNj w.heap.size w wr/\vJ ((l.take k).map Pr.key) (l.drop k)=E
def jBq (K:List ByteArray) (key:ByteArray) (wl:jN9) (n:Nat) (vj:Value) (wx:jN9):Prop:=
 ∃ j q:Nat,j<=n/\vj=.int .i64 j/\dO (K.take j) key=false/\wx=wl.drewN q
theorem Oj (me:List Pr) (l:List ah) (am ab:Option Addr) (cm nb cb:Nat) (w:jN9) (hme:me.length<=1000) (gU:∀ p∈me,p.key.size<=1000/\p.val.size<=1000) (hall:ah.bU l<=32768) (hsm:ah.ay l) (h1:Rd (·<w.heap.size) w (dx me) [.slice am me.length cm]) (h2:Rd (·<w.heap.size) w (iC l) [.slice ab nb cb]) : Calls prog 68 #[.agg #[.slice am me.length cm,.slice ab nb cb]] w (dF (.int .i64 (Ei fZ me l:Nat)) w):=by
 obtain ⟨a1,c1,hv1,hs1⟩:=Rd.aB h1;obtain ⟨rfl,rfl⟩:a1=am/\c1=cm:=by simp at hv1;exact ⟨hv1.1.symm,hv1.2.symm⟩
 obtain ⟨a2,c2,hv2,hs2⟩:=Rd.aB h2;obtain ⟨rfl,rfl,rfl⟩:a2=ab/\nb=l.length/\c2=cb:=by simp at hv2;exact ⟨hv2.1.symm,hv2.2.1,hv2.2.2.symm⟩
 have l1:me.length<=c1:=by simpa using hs1.le
 have m1:=hs1.max;unfold maxLen at m1;have HS1:=hid hs1;have SP:=hid gU;have HB:=hid h2;have SM:=hid hsm;obtain ⟨V,hV⟩:∃ V,V=Ei fZ me l:=⟨_,rfl⟩;have HE:Hid (V=Ei fZ me l):=hV;have Dn:=hid hall;rw [<- hV];clear hV hs1 gU h2 hsm h1 hv1 hv2 hall hs2;refine je9 ?_;intro w0 hw0 hb0 k1;have SZ:=hid (SG l a1 a2 me.length c1 l.length c2 w0 (by have:=Dn.out;omega) (HB.out.up hb0));have x0:=k1.cell 0 _ rfl;have x1:=k1.cell 1 _ rfl;have HK:=hid k1;have HB0:=hid hb0;have hall:=Dn.out;obtain ⟨N,hN⟩:∃ N,N=ah.bU l:=⟨_,rfl⟩;have HN:Hid (N=ah.bU l):=hN;rw [<- hN] at SZ hall;have hb3:decide ((32768:Int)<(N:Int))=false:=by simp;omega
 clear k1 hb0 hN hall;go_enter func68,ntmps68;go_upto_region 1 with (fail)
 rw [<- hw0];clear hw0;go_wp2_with fail
 refine SZ.out.mono ?_;rintro e w1 ⟨rfl,b1⟩;have K1:=hid (HK.out.below b1);have B1:=hid (q01 HB0.out b1);clear x0 x1 SZ b1;have x0:=K1.out.cell 0 _ rfl;have x1:=K1.out.cell 1 _ rfl;by_cases hml:64<me.length
 ·have q1:decide ((64:Int)<(me.length:Int))=true:=by simp;omega
  have HV:Hid (V=3):=by show V=3;rw [HE.out,Ei,if_pos (.inr hml)]
  exact qH
 have q1:decide ((64:Int)<(me.length:Int))=false:=by simp;omega
 have HE2:Hid (V=if vJ [] me≠0 then vJ [] me else ah.aQ fZ 0 0 l):=by show V=_;rw [HE.out,Ei,if_neg (by have:=Dn.out;omega)]
 have R0:Hid (jn2 26 w.heap.size [.slice a1 me.length c1,.slice a2 l.length c2] w me (vJ [] me) (.int .i64 0) w1):=⟨0,jL3 _,rfl,K1.out,B1.out,rfl⟩;obtain ⟨E1,hE1⟩:∃ E1,E1=vJ [] me:=⟨_,rfl⟩;rw [<- hE1] at HE2 R0;clear hE1 hml;go_wp2;clear x0 x1
 go_loopw [3] (fun i wr=>jn2 26 w.heap.size [.slice a1 me.length c1,.slice a2 l.length c2] w me E1 i wr) (fun i _=>me.length-(intOf i).toNat)
 case atStart=>exact R0.out
 case round=>
  clear R0;obtain ⟨k,hk,rfl,hcb,hbel,aX⟩:=hrel;have x0:=hcb.cell 0 _ rfl;have x1:=hcb.cell 1 _ rfl;have xQ:=hid hcb;have sK:=hid hbel;by_cases hlt:k<me.length
  ·obtain ⟨x,hx⟩:∃ x,me[k]?=some x:=⟨_,jK6 hlt⟩;obtain ⟨b,off,rfl,-,-,c0,c1'⟩:=jU HS1.out hx;have c0:wr.cell? ⟨b,off+k*2,none⟩=some (.string x.key):=by rw [hbel.cell (p:=⟨b,off+k*2,none⟩) (nX c0)];exact c0
   have c1':wr.cell? ⟨b,off+k*2+1,none⟩=some (.string x.val):=by rw [hbel.cell (p:=⟨b,off+k*2+1,none⟩) (nX c1')];exact c1'
   have hxs:=SP.out x (List.mem_of_getElem? hx);have bS:Hid (vJ ((me.take k).map Pr.key) (x::me.drop (k+1))=E1):=by show _=_;rw [<- IU me k x hx];exact aX
   have Tx:Hid ((me.take (k+1)).map Pr.key=(me.take k).map Pr.key++[x.key]):=by show _=_;rw [List.take_add_one,hx];simp
   obtain ⟨key,val⟩:=x;dsimp only at c0 c1' hxs Tx;have CN:=hid (fun w=>TS key w (by omega));have CV:=hid (fun w=>Xt val w (by omega));have CT:=hid (fun w=>qj val w (by omega));obtain ⟨wi,hwi⟩:∃ wi,wi=wr.alloc (.cells #[.string key,.string val] 61):=⟨_,rfl⟩;have bi:jNj wr.heap.size wr wi:=by rw [hwi];exact (jK7 _ _).alloc (jK8 _) _
   have kp:CB 61 wr.heap.size [.string key,.string val] wi:=by rw [hwi];exact CB.new _ _ _
   have HKP:=hid kp;have KD:=hid (xQ.out.below bi);have BI:=hid (q01 sK.out bi);have i0:=kp.cell 0 _ rfl;have i1:=kp.cell 1 _ rfl;clear aX hx hbel hcb bi kp;go_upto_region 7 with (fail)
   rw [<- hwi];clear hwi c0 c1' x0 x1;cases hn:dQ key with
   | false=>
    rw [hn] at CN;have HV:Hid (V=6):=by show V=6;have:=bS.out;rw [vJ,if_pos hn] at this;rw [HE2.out,<- this];rfl
    clear hn;go_wp2_with fail
    refine (CN.out _).mono ?_;rintro e w3 ⟨rfl,rfl⟩;go_wp2;go_ret;exact ⟨by rw [HV.out];rfl,BI.out⟩
   | true=>
    rw [hn] at CN;cases hln:cZ val with
    | false=>
     rw [hln] at CV;have HV:Hid (V=17):=by exact jej
     clear hn hln;go_wp2_with fail
     refine (CN.out _).mono ?_;rintro e w3 ⟨rfl,rfl⟩;go_wp2_with fail
     refine (CV.out _).mono ?_;rintro e w3 ⟨rfl,hb3⟩;have B3:=hid (q01 BI.out hb3);clear hb3;go_wp2;go_ret;exact ⟨by rw [HV.out];rfl,B3.out⟩
    | true=>
     rw [hln] at CV;cases htr:trimS val with
     | false=>
      rw [htr] at CT;have HV:Hid (V=17):=by exact jek
      clear hn hln htr;go_wp2_with fail
      refine (CN.out _).mono ?_;rintro e w3 ⟨rfl,rfl⟩;go_wp2_with fail
      refine (CV.out _).mono ?_;rintro e w3 ⟨rfl,hb3⟩;have B3:=hid (q01 BI.out hb3);have k3:=HKP.out.below hb3;clear hb3 i0 i1;have i0:=k3.cell 0 _ rfl;have i1:=k3.cell 1 _ rfl;clear k3;go_wp2_with fail
      refine (CT.out _).mono ?_;rintro e w4 ⟨rfl,rfl⟩;go_wp2;go_ret;exact ⟨by rw [HV.out];rfl,B3.out⟩
     | true=>
      rw [htr] at CT;have hor:¬ (cZ val=false\/trimS val=false):=by rw [hln,htr];decide
      have fu:Hid ((if dO ((me.take k).map Pr.key) key=true then 7 else vJ ((me.take (k+1)).map Pr.key) (me.drop (k+1)))=E1):=by show _=_;have:=bS.out;rw [vJ,if_neg (by rw [hn];decide),if_neg hor] at this;rw [Tx.out];exact this
      clear hn hln htr hor bS;go_wp2_with fail
      refine (CN.out _).mono ?_;rintro e w3 ⟨rfl,rfl⟩;go_wp2_with fail
      refine (CV.out _).mono ?_;rintro e w3 ⟨rfl,hb3⟩;have B3:=hid (q01 BI.out hb3);have K3P:=hid (HKP.out.below hb3);have K3D:=hid (KD.out.below hb3);clear hb3 i0 i1;have i0:=K3P.out.cell 0 _ rfl;have i1:=K3P.out.cell 1 _ rfl;have x0:=K3D.out.cell 0 _ rfl;go_wp2_with fail
      refine (CT.out _).mono ?_;rintro e w4 ⟨rfl,rfl⟩;obtain ⟨KS,hKS⟩:∃ KS,KS=(me.take k).map Pr.key:=⟨_,rfl⟩;have hKl:KS.length=k:=by rw [hKS];simp;omega
      have HKG:Hid (∀ j,j<k->∃ p,me[j]?=some p/\KS[j]?=some p.key):=by intro j hj;obtain ⟨p,hp⟩:∃ p,me[j]?=some p:=⟨_,jK6 (by omega)⟩;exact ⟨p,hp,by rw [hKS,List.getElem?_map,List.getElem?_take,if_pos hj,hp];rfl⟩
      rw [<- hKS] at fu;have RI:Hid (jBq KS key w3 k (.int .i64 0) w3):=⟨0,0,jL3 _,rfl,rfl,rfl⟩;clear hKS i1;go_wp2
      go_loopw [5] (fun vj wx=>jBq KS key w3 k vj wx) (fun vj _=>k-(intOf vj).toNat)
      case atStart=>exact RI.out
      case round=>
       clear RI;obtain ⟨j,q,hj,rfl,hno,rfl⟩:=hrel;have Ib:=hid hno;clear hno;by_cases hjl:j<k
       ·obtain ⟨p,hp,hKp⟩:=HKG.out j hjl;obtain ⟨b',off',hbe,-,-,d0,-⟩:=jU HS1.out hp;obtain ⟨rfl,rfl⟩:b=b'/\off=off':=by simpa using hbe
        have d0:w3.cell? ⟨b,off+j*2,none⟩=some (.string p.key):=by rw [B3.out.cell (p:=⟨b,off+j*2,none⟩) (nX d0)];exact d0
        obtain ⟨y,val'⟩:=p;dsimp only at d0 hKp;have hsn:=wL KS j y key hKp;rw [Ib.out] at hsn;have kg:=hid hsn;have HT:=hid (wM KS (j+1) key);clear hp hKp hsn hbe;by_cases hyx:y=key
        ·subst hyx;have e1:(y.toList==y.toList)=true:=beq_self_eq_true _;have HV:Hid (V=7):=by
          show V=7;have:=fu.out;rw [if_pos (HT.out (by rw [kg.out];simp))] at this;rw [HE2.out,<- this];rfl
         go_wp2_with fail
         go_quiet (fail)
         go_wp2;go_ret;exact ⟨by rw [HV.out];rfl,gQ (gQ B3.out q) _⟩
        ·have e1:=vQ hyx;go_wp2_with fail
         go_quiet (fail)
         go_wp2;go_roundw;case rel=>exact ⟨j+1,_,by omega,by go_num,(by rw [kg.out];simp [hyx]),rfl⟩
         case measure=>simp [intOf];omega
       ·have hjk:j=KS.length:=by omega
        have hN:=Ib.out;rw [hjk,List.take_length] at hN;have Ej:Hid (vJ ((me.take (k+1)).map Pr.key) (me.drop (k+1))=E1):=by show _=_;have:=fu.out;rw [hN,if_neg (by decide)] at this;exact this
        clear hjk hN;go_wp2;go_roundw;case rel=>exact ⟨k+1,by omega,by go_num,K3D.out.dN q,gQ B3.out q,Ej.out⟩
        case measure=>simp [intOf];omega
  ·obtain rfl:k=me.length:=by omega
   have HV:Hid (V=ah.aQ fZ 0 0 l):=by show V=_;rw [List.drop_length,vJ] at aX;rw [HE2.out,<- aX];rfl
   have TB:=hid (Ld l a2 c2 wr SM.out (HB.out.up hbel));rw [<- HV.out] at TB;clear aX hbel hcb hk hlt;go_wp2_with fail
   refine TB.out.mono ?_;rintro e w4 ⟨rfl,b4⟩;go_wp2;go_ret;exact ⟨rfl,q01 sK.out b4⟩
end Go.Proofs.YtkfnkeflalcphaaGreatDoor

