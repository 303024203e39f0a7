/- The contract of tree.closesMath. The pieces that strings.SplitSeq hands out at a line feed: the iterator within a fence, and the law of a range over it whose body may return. The contract of tree.checkMath: what closes a formula. -/
import Derived.Test.YtdneicipdlofiaaGreatDoorKPaG
import Derived.Test.YtdneicipdlofiaaGreatDoorKRwC
import Derived.Test.YtdneicipdlofiaaGreatDoorKChU
set_option maxHeartbeats 4000000
set_option maxRecDepth 100000
open Go.Lib (hid)
namespace Go.Proofs.YtdneicipdlofiaaGreatDoor
open Go.RowKit.Below renaming refl->jox,heap_setCell->jp8
open Nat renaming le_refl->joz,le_trans->jp0
open Go.World renaming size_alloc->jpq
open List renaming cons_append->jpx,nil_append->jpz,map_append->jq0
open Go renaming World->js1
open Go.RowKit
set_option linter.unusedVariables false
set_option linter.unusedSimpArgs false
theorem TP (c:UInt8):(c==32)=isSp c:=by unfold isSp;rw [Bool.eq_iff_iff];simp
theorem oH (l:List UInt8):Lib.trimLeftB l 32=iw l:=by unfold Lib.trimLeftB iw;congr 1
theorem FQ (l:List UInt8):Lib.trimRightB l 32=eX l:=by unfold Lib.trimRightB eX;rw [show (fun x:UInt8=>x==32)=isSp from funext TP]
theorem Qe (l:List UInt8):Lib.trimB l 32=iw (eX l):=by unfold Lib.trimB;rw [oH,FQ]
theorem jeq (l:List UInt8) (h:∀ c∈l,isSp c=true):iw l=[]:=by
 induction l with
 | nil=>rfl
 | cons c l ih=>
  unfold iw at ih ⊢;rw [List.dropWhile_cons_of_pos (h c (by simp))];exact ih (fun d hd=>h d (by simp [hd]))
theorem IQ (l:List UInt8):∀ c,(eX l).getLast?=some c->isSp c=false:=by intro c hc;unfold eX at hc;rw [List.getLast?_reverse] at hc;exact (fH isSp l.reverse).2 c hc
theorem Qf (x r:List UInt8) (hx:∃ c∈x,isSp c=false):iw (x++r)=iw x++r:=by
 induction x with
 | nil=>obtain ⟨c,hc,_⟩:=hx;cases hc
 | cons a x ih=>
  unfold iw at ih ⊢;rw [jpx];cases ha:isSp a with
  | true=>
   rw [List.dropWhile_cons_of_pos ha,List.dropWhile_cons_of_pos ha];apply ih;obtain ⟨c,hc,h2⟩:=hx;rcases List.mem_cons.1 hc with rfl | hc
   ·rw [ha] at h2;cases h2
   ·exact ⟨c,hc,h2⟩
  | false=>
   rw [List.dropWhile_cons_of_neg (by rw [ha];decide),List.dropWhile_cons_of_neg (by rw [ha];decide)];rfl
theorem Mr (x:List UInt8) (h:∀ c,x.getLast?=some c->isSp c=false):∀ c,(iw x).getLast?=some c->isSp c=false:=by intro c hc;obtain ⟨p,hp⟩:=List.dropWhile_suffix isSp (l:=x);have e:x=p++iw x:=hp.symm;apply h;rw [e,List.getLast?_append,hc];rfl
theorem Bn (m:List UInt8):eX (iw m)=iw (eX m):=by
 obtain ⟨r,h1,h2⟩:=nC m;have hl:=IQ m;by_cases h0:eX m=[]
 ·rw [h0] at h1 ⊢;rw [jpz] at h1;rw [h1,jeq r h2];rfl
 ·have hx:∃ c∈eX m,isSp c=false:=⟨_,List.getLast_mem h0,hl _ (List.getLast?_eq_some_getLast h0)⟩
  conv=>lhs;rw [h1]
  rw [Qf _ r hx];exact Bo _ _ h2 (Mr _ hl)
theorem Qg (m:List UInt8):(iw (eX m)).isEmpty=(iw m).isEmpty:=by
 rw [<- Bn];obtain ⟨r,h1,h2⟩:=nC (iw m);cases h:iw m with
 | nil=>rfl
 | cons c l=>
  have hc:isSp c=false:=(fH isSp m).2 c (by show (iw m).head?=_;rw [h];rfl);rw [h] at h1;cases hh:eX (c::l) with
  | nil=>
   rw [hh,jpz] at h1;have:=h2 c (by rw [<- h1];simp);rw [hc] at this;cases this
  | cons d t=>rfl
def rF (l:List UInt8):List UInt8:=iw (eX ((iw l).drop 2))
theorem Qh (l:List UInt8):nD l=(decide ((l.takeWhile isSp).length<=3)&&(decide ((iw l).take 2=[36,36])&&((rF l).isEmpty||(match Di (rF l) with
  | none=>false
  | some (_,r)=>r.isEmpty)))):=by
 unfold nD rF;rw [Qg,zK];unfold IU;rw [Bn,Bool.and_assoc];rfl
theorem jkj (l:List UInt8):Lib.hasPrefix l [36,36]=decide (l.take 2=[36,36]):=by
 unfold Lib.hasPrefix;rcases l with _ | ⟨a,_ | ⟨b,l⟩⟩<;>rw [Bool.eq_iff_iff]<;>simp [List.isPrefixOf]
 constructor<;>(rintro ⟨h1,h2⟩;exact ⟨h1.symm,h2.symm⟩)
theorem TQ (l:List UInt8):(l.takeWhile isSp).length=l.length-(iw l).length:=by have:=congrArg List.length (List.takeWhile_append_dropWhile (p:=isSp) (l:=l));rw [List.length_append] at this;unfold iw;omega
theorem xV (s:ByteArray) (w:js1) (hs:s.size<=100000) : Calls Tryz.prog 233 #[.string s] w (gu (.bool (nD s.data.toList)) w):=by
 obtain ⟨C,hC⟩:∃ C:ByteArray,C=⟨(iw s.data.toList).toArray⟩:=⟨_,rfl⟩;have Zb:C.data.toList=iw s.data.toList:=by rw [hC]
 have hCs:C.size<=s.size:=by
  have h1:=sW s.data.toList;have e1:C.size=(iw s.data.toList).length:=by rw [hC];exact List.size_toArray
  have e2:s.data.toList.length=s.size:=by rw [Array.length_toList];rfl
  omega
 have e2:s.data.toList.length=s.size:=by rw [Array.length_toList];rfl
 have e3:(iw s.data.toList).length=C.size:=by rw [<- Zb,Array.length_toList];rfl
 have TL:Hid (∀ w,Calls Tryz.prog 200 #[.string s,.string ⟨#[32]⟩] w fun e w'=>e=.returned (.string C)/\w'=w):=by intro w;refine (Tryz.strings_TrimLeft_one s 32 (by decide) w).mono ?_;rintro e w' ⟨rfl,rfl⟩;exact ⟨by rw [oH,hC],rfl⟩
 have HP:Hid (∀ w,Calls Tryz.prog 229 #[.string C,.string ⟨#[36,36]⟩] w fun e w'=>e=.returned (.bool (decide ((iw s.data.toList).take 2=[36,36])))/\w'=w):=by intro w;refine (Tryz.strings_HasPrefix C ⟨#[36,36]⟩ w).mono ?_;rintro e w' ⟨rfl,rfl⟩;exact ⟨by rw [<- Zb,<- jkj],rfl⟩
 have HE:=hid (Qh s.data.toList);rw [TQ,e2,e3] at HE;obtain ⟨V,hV⟩:∃ V,V=nD s.data.toList:=⟨_,rfl⟩;rw [<- hV] at HE ⊢;clear hV;by_cases h3:s.size-C.size<=3;case neg=>
  have q1:decide ((3:Int)<(s.size:Int)-(C.size:Int))=true:=by simp;omega
  have HV:Hid (V=false):=by show V=_;rw [HE.out,decide_eq_false h3];rfl
  clear HE h3 hC Zb e3 e2;go_enter Tryz.func233,Tryz.ntmps233;go_wp2_with fail
  refine (TL.out _).mono ?_;rintro e w1 ⟨rfl,rfl⟩;go_wp2;go_ret;exact ⟨by rw [HV.out];rfl,jox _ _⟩
 have q1:decide ((3:Int)<(s.size:Int)-(C.size:Int))=false:=by simp;omega
 rw [decide_eq_true h3,Bool.true_and] at HE;by_cases h36:(iw s.data.toList).take 2=[36,36];case neg=>
  rw [decide_eq_false h36] at HP HE;have HV:Hid (V=false):=HE.out;clear HE h3 hC Zb e3 e2 h36;go_enter Tryz.func233,Tryz.ntmps233;go_wp2_with fail
  refine (TL.out _).mono ?_;rintro e w1 ⟨rfl,rfl⟩;go_wp2_with fail
  refine (HP.out _).mono ?_;rintro e w1 ⟨rfl,rfl⟩;go_wp2;go_ret;exact ⟨by rw [HV.out];rfl,jox _ _⟩
 rw [decide_eq_true h36] at HP HE;rw [Bool.true_and] at HE;have h2C:2<=C.size:=by have:=congrArg List.length h36;rw [List.length_take,e3] at this;simp at this;omega
 obtain ⟨X,hX⟩:∃ X:ByteArray,X=⟨(rF s.data.toList).toArray⟩:=⟨_,rfl⟩;have Xo:X.data.toList=rF s.data.toList:=by rw [hX]
 have hXs:X.size<=100000:=by
  have e1:X.size=(rF s.data.toList).length:=by rw [hX];exact List.size_toArray
  have h1:(rF s.data.toList).length<=s.data.toList.length:=by unfold rF;refine jp0 (sW _) ?_;unfold eX;rw [List.length_reverse];refine jp0 (List.dropWhile_sublist _).length_le ?_;rw [List.length_reverse,List.length_drop];have:=sW s.data.toList;omega
  omega
 have TR:Hid (∀ w,Calls Tryz.prog 234 #[.string (C.extract 2 C.size),.string ⟨#[32]⟩] w fun e w'=>e=.returned (.string X)/\∃ q,w'=w.drewN q):=by
  intro w;refine (Tryz.strings_Trim_one (C.extract 2 C.size) 32 (by decide) w (by rw [ByteArray.size_extract];omega)).mono ?_;rintro e w' ⟨rfl,hw⟩;refine ⟨?_,?_⟩
  ·rw [hX];unfold rF;rw [Qe];congr 4;rw [<- Zb];rw [ByteArray.data_extract,Array.toList_extract];have:C.size=C.data.toList.length:=by rw [Array.length_toList];rfl
   rw [this];simp [List.extract_eq_take_drop];rw [List.take_of_length_le (by rw [List.length_drop,Array.length_toList];exact joz _)]
  ·rcases hw with rfl | rfl
   ·exact ⟨0,rfl⟩
   ·exact ⟨1,rfl⟩
 have HE2:Hid (V=(X.toList.isEmpty||(match Di X.data.toList with
  | none=>false
  | some (_,r)=>r.isEmpty))):=by
  show V=_;rw [HE.out,Lib.toList_data,Xo]
 clear HE h3 hC Zb e3 e2 h36 hX Xo;cases hem:X.toList.isEmpty with
 | true=>
  have HV:Hid (V=true):=by show V=_;rw [HE2.out,hem];rfl
  clear HE2;go_enter Tryz.func233,Tryz.ntmps233;go_wp2_with fail
  refine (TL.out _).mono ?_;rintro e w1 ⟨rfl,rfl⟩;go_wp2_with fail
  refine (HP.out _).mono ?_;rintro e w1 ⟨rfl,rfl⟩;go_wp2_with fail
  refine (TR.out _).mono ?_;rintro e w1 ⟨rfl,q,rfl⟩;go_wp2;go_ret;exact ⟨by rw [HV.out];rfl,eZ (jox _ _) q⟩
 | false=>
  have JZ:Hid (V=(match Di X.data.toList with
   | none=>false
   | some (_,r)=>r.isEmpty)):=by show V=_;rw [HE2.out,hem];rfl
  have PA:Hid (∀ w,Calls Tryz.prog 270 #[.string X,.int .i64 0] w (Qd X 0 w)):=fun w=>Ml X 0 w hXs (Nat.zero_le _)
  clear HE2;go_enter Tryz.func233,Tryz.ntmps233;go_wp2_with fail
  refine (TL.out _).mono ?_;rintro e w1 ⟨rfl,rfl⟩;go_wp2_with fail
  refine (HP.out _).mono ?_;rintro e w1 ⟨rfl,rfl⟩;go_wp2_with fail
  refine (TR.out _).mono ?_;rintro e w1 ⟨rfl,q,rfl⟩;go_wp2_with fail
  refine (PA.out _).mono ?_;rintro e w2 ⟨x0,a1,n1,c1,a2,n2,c2,t,n,rfl,hbel,hres⟩;have kW:Hid (Below w1.heap.size w1 w2):=⟨hbel.os,hbel.tape,hbel.output,hbel.size,hbel.block⟩;by_cases hn:n=0
  ·subst hn;have HV:Hid (V=(t==(X.size:Int))):=by
    show V=_;rcases hres with ⟨_,a',q',h1,rfl,h2⟩ | ⟨h,_⟩
    ·have h3:Di X.data.toList=some (a',bB X q'):=h2;rw [JZ.out,h3];simp only;rw [Bool.eq_iff_iff];simp only [List.isEmpty_iff,beq_iff_eq];constructor
     ·intro h4;have:=congrArg List.length h4;rw [lN] at this;simp at this;omega
     ·intro h4;exact gN X q' (by omega)
    ·exact absurd rfl h
   clear hres hbel JZ;cases ht:(t==(X.size:Int)) with
   | true=>
    go_wp2;go_ret;exact ⟨by rw [HV.out,ht];rfl,(kW.out.alloc (jp0 (joz _) kW.out.size) _)⟩
   | false=>
    go_wp2;go_ret;exact ⟨by rw [HV.out,ht];rfl,(kW.out.alloc (jp0 (joz _) kW.out.size) _)⟩
  ·have e1:(n==0)=false:=by rw [beq_eq_false_iff_ne];exact hn
   have HV:Hid (V=false):=by
    show V=_;rcases hres with ⟨h,_⟩ | ⟨_,h⟩
    ·exact absurd h hn
    ·have h3:Di X.data.toList=none:=h;rw [JZ.out,h3]
   clear hres hbel JZ;go_wp2;go_ret;exact ⟨by rw [HV.out];rfl,(kW.out.alloc (jp0 (joz _) kW.out.size) _)⟩
open Go.RowKit
def dU:List UInt8->List UInt8->List (List UInt8)
 | acc,[]=>[acc]
 | acc,c::l=>if c=10 then acc::dU [] l else dU (acc++[c]) l
def pieces (s:ByteArray):List ByteArray:=(dU [] s.data.toList).map bR
theorem Ms (acc l:List UInt8) (h:∀ c∈l,c≠10):dU acc l=[acc++l]:=by
 induction l generalizing acc with
 | nil=>rw [dU,List.append_nil]
 | cons c l ih=>
  rw [dU,if_neg (h c (by simp)),ih _ (fun d hd=>h d (by simp [hd]))];simp
theorem Mt (acc x r:List UInt8) (h:∀ c∈x,c≠10):dU acc (x++10::r)=(acc++x)::dU [] r:=by
 induction x generalizing acc with
 | nil=>rw [jpz,dU,if_pos rfl,List.append_nil]
 | cons c x ih=>
  rw [jpx,dU,if_neg (h c (by simp)),ih _ (fun d hd=>h d (by simp [hd]))];simp
theorem Dl (acc l:List UInt8) (h:l=[]/\acc=[]\/l.getLast?=some 10):dU acc l=xW acc l++[[]]:=by
 induction l generalizing acc with
 | nil=>
  rcases h with ⟨_,rfl⟩ | h
  ·rfl
  ·cases h
 | cons c l ih=>
  rw [dU,xW];have h2:l=[]/\c=10\/l.getLast?=some 10:=by
   rcases h with ⟨h,_⟩ | h
   ·cases h
   ·cases l with
    | nil=>left;simpa using h
    | cons d l=>right;rw [<- h];simp [List.getLast?_cons_cons]
  by_cases hc:c=10
  ·rw [if_pos hc,if_pos hc,ih [] (by
    rcases h2 with ⟨h3,_⟩ | h3
    ·exact .inl ⟨h3,rfl⟩
    ·exact .inr h3)]
   rfl
  ·rw [if_neg hc,if_neg hc];refine ih _ ?_;rcases h2 with ⟨_,h3⟩ | h3
   ·exact absurd h3 hc
   ·exact .inr h3
theorem IV (l:List UInt8):(Lib.indexByte l 10=-1/\∀ c∈l,c≠10)\/∃ k:Nat,Lib.indexByte l 10=k/\k<l.length/\l=l.take k++10::l.drop (k+1)/\∀ c∈l.take k,c≠10:=by
 induction l with
 | nil=>left;exact ⟨rfl,by simp⟩
 | cons b l ih=>
  unfold Lib.indexByte;by_cases hb:b=10
  ·right;refine ⟨0,by rw [if_pos (by rw [hb];rfl)];rfl,by simp,by rw [hb];simp,by simp⟩
  ·have hb2:¬ (b==(10:UInt8))=true:=by simpa using hb
   rw [if_neg hb2];rcases ih with ⟨h1,h2⟩ | ⟨k,h1,h2,h3,h4⟩
   ·left;rw [h1];refine ⟨by decide,?_⟩;intro c hc;rcases List.mem_cons.1 hc with rfl | hc
    ·exact hb
    ·exact h2 c hc
   ·right;rw [h1];refine ⟨k+1,?_,by simp;omega,?_,?_⟩
    ·have:¬ ((k:Int)==-1)=true:=by simp
     rw [if_neg this];simp
    ·rw [List.take_succ_cons,List.drop_succ_cons,jpx,<- h3]
    ·intro c hc;rw [List.take_succ_cons] at hc;rcases List.mem_cons.1 hc with rfl | hc
     ·exact hb
     ·exact h4 c hc
def cellS (w:js1) (b:Nat):Nat:=match w.cell? ⟨b,0,none⟩ with
 | some (.string r)=>r.size
 | _=>0
theorem Bp {w:js1} {b:Nat} {r:ByteArray} {t:TypeId} (h:aH b (.string r) t w):cellS w b=r.size:=by unfold cellS;rw [h.cell]
def VJ (s:ByteArray) (bs:Nat) (J:List ByteArray->js1->Prop) (wr:js1):Prop:=
 ∃ (pre:List (List UInt8)) (r:ByteArray),J (pre.map bR) wr/\aH bs (.string r) 9 wr/\dU [] s.data.toList=pre++dU [] r.data.toList/\r.size<=s.size
theorem Qi (m l bs:Nat) (s:ByteArray) (J Jx:List ByteArray->js1->Prop) (W:js1) (hs:s.size<=100000) (hJs:∀ pre W u,J pre W->J pre (W.setCell ⟨bs,0,none⟩ u)) (hJB:∀ pre W,J pre W->aH (bs+1) (.string ⟨#[10]⟩) 9 W/\aH (bs+2) (.int .i64 0) 3 W) (hY:∀ (m:Nat) (pre:List ByteArray) (x:ByteArray) (W:js1),J pre W->x.size<=s.size->YieldAt Fence.wide m Tryz.prog l #[.string x] W fun e W'=> (e=.returned (.bool true)/\J (pre++[x]) W'/\W'.heap[bs]?=W.heap[bs]?)\/(e=.returned (.bool false)/\Jx (pre++[x]) W')) (hb:aH bs (.string s) 9 W) (h0:J [] W) : CallsIn Fence.wide m Tryz.prog 295 #[.func (.yield l) #[] #[],.pointer (some ⟨bs+1,0,none⟩),.pointer (some ⟨bs,0,none⟩),.pointer (some ⟨bs+2,0,none⟩)] W fun e W'=> (∃ v,e=.returned v)/\(J (pieces s) W'\/∃ pre,pre <+: pieces s/\Jx pre W'):=by
 have hdd:∀ k:Nat,(Fence.wide.depth.isSome=true->1<=k):=fun k h=>by cases h
 have HJS:=hid hJs;have HJB:=hid hJB;have HY:=hid hY;have R0:Hid (VJ s bs J W):=⟨[],s,h0,hb,rfl,joz _⟩;obtain ⟨hb1,hb2⟩:=hJB _ _ h0;have s0:=hb1.cell;clear hJs hJB hY hb h0 hb1 hb2;refine callsIn_of_wp Tryz.func295 rfl trivial ?_ rfl;simp only [Tryz.ntmps295,List.size_toArray,List.length_cons,List.length_nil,Nat.reduceAdd,Nat.reduceSub,Array.replicate_succ,Array.replicate_zero,List.push_toArray,List.append_toArray,jpz,jpx]
 gi_wp2
 clear s0
 gi_loopw [] (fun wr=>VJ s bs J wr) (fun wr=>cellS wr bs)
 case atStart=>exact R0.out
 case round=>
  clear R0;obtain ⟨pre,r,hJ,hbx,hsp,hrs⟩:=hrel;obtain ⟨hb1,hb2⟩:=HJB.out _ _ hJ;have s0:=hbx.cell;have s1:=hb1.cell;have s2:=hb2.cell;have hrl:r.data.toList.length=r.size:=by rw [Array.length_toList];rfl
  have HJ:=hid hJ;have vv:=hid hbx;have MR:=hid hsp;rcases IV r.data.toList with ⟨hi,hno⟩ | ⟨k,hi,hk,hcut,hno⟩
  ·have IX:Hid (∀ w,Calls Tryz.prog 226 #[.string r,.string ⟨#[10]⟩] w fun e w'=>e=.returned (.int .i64 (-1))/\w'=w):=by
    intro w;have:=Tryz.strings_Index_one r 10 w;rw [hi] at this;exact this
   have HP:Hid (pieces s=pre.map bR++[r]):=by show _=_;unfold pieces;rw [MR.out,Ms [] _ hno,jq0];simp [bR]
   obtain ⟨fn,tmps,assign,body,hy,hR⟩:=HY.out (m-1) (pre.map bR) r wr hJ hrs;have HR:=hid hR;clear hJ hbx hsp hb1 hb2 hi hno hR
   gi_wp2_with (first | (refine ⟨trivial,hdd _,?_⟩;gi_at_call 226;refine (callsIn_wide.2 (IX.out _)).mono ?_;rintro e w' ⟨rfl,rfl⟩))
   refine ⟨hdd _,?_⟩;refine HR.out.mono ?_;rintro e W1 (⟨rfl,TU,_⟩ | ⟨rfl,hx⟩)
   ·have HJ1:=hid TU;clear TU
    gi_wp2
    first | go_end0 | go_ret
    exact ⟨⟨_,rfl⟩,.inl (by rw [HP.out];exact HJ1.out)⟩
   ·have HX1:=hid hx;clear hx
    gi_wp2
    first | go_end0 | go_ret
    exact ⟨⟨_,rfl⟩,.inr ⟨_,by rw [HP.out];exact List.prefix_rfl,HX1.out⟩⟩
  ·have IX:Hid (∀ w,Calls Tryz.prog 226 #[.string r,.string ⟨#[10]⟩] w fun e w'=>e=.returned (.int .i64 k)/\w'=w):=by
    intro w;have:=Tryz.strings_Index_one r 10 w;rw [hi] at this;exact this
   have hxl:(r.extract 0 k).data.toList=r.data.toList.take k:=by rw [ByteArray.data_extract,Array.toList_extract];simp [List.extract_eq_take_drop]
   have hrl2:(r.extract (k+1) r.size).data.toList=r.data.toList.drop (k+1):=by rw [ByteArray.data_extract,Array.toList_extract,<- hrl];simp only [List.extract_eq_take_drop];exact List.take_of_length_le (by rw [List.length_drop];exact joz _)
   have jex:Hid (dU [] s.data.toList=(pre++[r.data.toList.take k])++dU [] (r.extract (k+1) r.size).data.toList):=by
    show _=_;rw [MR.out,hrl2]
    conv=>lhs;rw [hcut]
    rw [Mt [] _ _ hno,jpz,List.append_assoc];rfl
   have HX:Hid ((pre++[r.data.toList.take k]).map bR=pre.map bR++[r.extract 0 k]):=by show _=_;rw [jq0,List.map_singleton,<- hxl];rfl
   have HPP:Hid (pre.map bR++[r.extract 0 k] <+: pieces s):=by show _ <+: _;unfold pieces;rw [jex.out,jq0,HX.out];exact ⟨_,rfl⟩
   obtain ⟨fn,tmps,assign,body,hy,hR⟩:=HY.out (m-1) (pre.map bR) (r.extract 0 k) wr hJ (by rw [ByteArray.size_extract];omega);have HR:=hid hR;have hkr:k<r.size:=by omega
   clear hJ hbx hsp hb1 hb2 hi hno hR hcut hk hxl hrl2 hrl
   gi_wp2_with (first | (refine ⟨trivial,hdd _,?_⟩;gi_at_call 226;refine (callsIn_wide.2 (IX.out _)).mono ?_;rintro e w' ⟨rfl,rfl⟩))
   refine ⟨hdd _,?_⟩;refine HR.out.mono ?_;rintro e W1 (⟨rfl,TU,hk1⟩ | ⟨rfl,hx⟩)
   ·obtain ⟨hb1,hb2⟩:=HJB.out _ _ TU;have TV:aH bs (.string r) 9 W1:=hk1.trans vv.out;have jez:=hid TV;have HJ1:=hid TU;clear s0 s1 s2 TU hk1;have s0:=TV.cell;have s1:=hb1.cell;have s2:=hb2.cell;have f0:=TV.free;clear hb1 hb2 TV
    gi_wp2
    go_roundw;case rel=>exact ⟨pre++[r.data.toList.take k],r.extract (k+1) r.size,by rw [HX.out];exact HJS.out _ _ _ HJ1.out,jez.out.set _,jex.out,by rw [ByteArray.size_extract];omega⟩
    case measure=>
     rw [Bp vv.out,Bp (jez.out.set (.string (r.extract (k+1) r.size))),ByteArray.size_extract];omega
   ·have HX1:=hid hx;clear hx
    gi_wp2
    refine bodyPost_ret (results_none rfl _ _ _) rfl ?_;exact ⟨⟨_,rfl⟩,.inr ⟨_,HPP.out,HX1.out⟩⟩
structure Kz (bs:Nat) (w W:js1):Prop where
 os:W.os=w.os
 tape:W.tape=w.tape
 output:W.output=w.output
 size:w.heap.size<=W.heap.size
 block:∀ k,k<w.heap.size->k≠bs->W.heap[k]?=w.heap[k]?
structure Kr (bs res:Nat) (w W:js1):Prop where
 os:W.os=w.os
 tape:W.tape=w.tape
 output:W.output=w.output
 size:w.heap.size<=W.heap.size
 block:∀ k,k<w.heap.size->k≠bs->k≠res->W.heap[k]?=w.heap[k]?
section
variable {bs res:Nat} {w W W1:js1}
theorem Kz.below (h:Kz bs w W) (hb:Below W.heap.size W W1):Kz bs w W1:=
 ⟨hb.os.trans h.os,hb.tape.trans h.tape,hb.output.trans h.output,jp0 h.size hb.size,fun k h1 h2=>(hb.block k (Nat.lt_of_lt_of_le h1 h.size)).trans (h.block k h1 h2)⟩
theorem Kz.put (h:Kz bs w W) {l:Nat} (hl:w.heap.size<=l) (o:Obj):Kz bs w (W.putObj l o):=
 ⟨h.os,h.tape,h.output,by rw [World.putObj_size];exact h.size,fun k h1 h2=>(World.putObj_heap_other (by omega)).trans (h.block k h1 h2)⟩
theorem Kz.set (h:Kz bs w W) (u:Value):Kz bs w (W.setCell ⟨bs,0,none⟩ u):=
 ⟨h.os,h.tape,h.output,by simpa [World.setCell] using h.size,fun k h1 h2=>(jp8 W ⟨bs,0,none⟩ u k h2).trans (h.block k h1 h2)⟩
theorem Kz.kr (h:Kz bs w W) (u:Value):Kr bs res w (W.setCell ⟨res,0,none⟩ u):=
 ⟨h.os,h.tape,h.output,by simpa [World.setCell] using h.size,fun k h1 h2 h3=>(jp8 W ⟨res,0,none⟩ u k h3).trans (h.block k h1 h2)⟩
theorem Kr.put (h:Kr bs res w W) {l:Nat} (hl:w.heap.size<=l) (o:Obj):Kr bs res w (W.putObj l o):=
 ⟨h.os,h.tape,h.output,by rw [World.putObj_size];exact h.size,fun k h1 h2 h3=>(World.putObj_heap_other (by omega)).trans (h.block k h1 h2 h3)⟩
end
def Yg (res:Nat) (bad:ByteArray->Bool) (x:ByteArray) (W:js1):Exit->Act->js1->Prop
 | .normal,_,W'=>Below W.heap.size W W'/\bad x=false
 | .ret,_,W'=>bad x=true/\∃ W1,Below W.heap.size W W1/\W'=W1.setCell ⟨res,0,none⟩ (.int .i64 5)
 | .exit _,_,_=>False
 | .goto _,_,_=>False
 | .panic _,_,_=>False
 | .outgrown,_,_=>False
theorem FU {ps:Array Tmp} {assign body:Code} {Q:Exit->Act->js1->Prop} {a:Act} {w:js1} {g:Operand} (bs res:Nat) (s:ByteArray) (bad:ByteArray->Bool) (a₁:ByteArray->Act) (hg:a.eval g=.func (.func 295) #[] #[.pointer (some ⟨bs+1,0,none⟩),.pointer (some ⟨bs,0,none⟩),.pointer (some ⟨bs+2,0,none⟩)]) (hps:ps.size=1) (hsz:bs+2<w.heap.size) (hrb:res<bs) (hs:s.size<=100000) (B0:aH bs (.string s) 9 w) (B1:aH (bs+1) (.string ⟨#[10]⟩) 9 w) (B2:aH (bs+2) (.int .i64 0) 3 w) (BR:aH res (.int .i64 0) 28 w) (hassign:∀ (l m:Nat) (x:ByteArray) (W:js1) (K:Act->js1->Prop),K (a₁ x) W -> assign.wpIn (Fence.wide.inRound l) m Tryz.prog (Exit.then K (fun _ _ _=>False)) { tmps:=(ps.zip #[.string x]).foldl (fun t (p,v)=>t.setIfInBounds p v) a.tmps,defers:=[] } W) (hbody:∀ (l m:Nat) (x:ByteArray) (W:js1),x.size<=s.size->aH res (.int .i64 0) 28 W->body.wpIn (Fence.wide.inRound l) m Tryz.prog (Yg res bad x W) (a₁ x) W) (hdone:∀ (D:Nat) (W:js1),w.heap.size<=D->(∀ x∈pieces s,bad x=false)->Kz bs w W->W.heap[D]?=some (.deferred (some []))->Q .normal { a with defers:={ target:=.collected D,args:=#[] }::a.defers } W) (hstop:∀ (D:Nat) (W:js1),w.heap.size<=D->(∃ x∈pieces s,bad x=true)->Kr bs res w W->aH res (.int .i64 5) 28 W->W.heap[D]?=some (.deferred (some [])) -> Code.ret.wpIn Fence.wide 3 Tryz.prog Q { a with defers:={ target:=.collected D,args:=#[] }::a.defers } W) : (Code.rangeFunc g ps assign body).wpIn Fence.wide 3 Tryz.prog Q a w:=by
 refine wpIn_rangeFunc ?_;intro fn hfn;have hro:Fence.wide.round=none:=rfl;rw [hro];obtain ⟨rec,hrec⟩:∃ rec:LoopState->Option Code->Loop,rec=fun st pe=>{ state:=st,pending:=pe,fn,tmps:=a.tmps,params:=ps,assign,body,defers:=w.heap.size }:=⟨_,rfl⟩
 obtain ⟨W1,hW1⟩:∃ W1,W1=(w.alloc (.deferred (some []))).alloc (.loop (rec .ready none)):=⟨_,rfl⟩;have hL1:W1.heap[w.heap.size+1]?=some (.loop (rec .ready none)):=by rw [hW1];have:=World.alloc_heap_new (w.alloc (.deferred (some []))) (.loop (rec .ready none));rwa [jpq] at this
 have hD1:W1.heap[w.heap.size]?=some (.deferred (some [])):=by rw [hW1];exact (Below.heap_alloc _ _ _ (by simp)).trans (World.alloc_heap_new w _)
 have hb1:Below w.heap.size w W1:=by rw [hW1];exact ((jox _ w).alloc (joz _) _).alloc (by simp) _
 obtain ⟨J,hJ⟩:∃ J:List ByteArray->js1->Prop,J=fun pre W=>(∀ x∈pre,bad x=false)/\Kz bs w W/\W.heap[w.heap.size+1]?=some (.loop (rec .ready none))/\W.heap[w.heap.size]?=some (.deferred (some [])):=⟨_,rfl⟩
 obtain ⟨Jx,hJx⟩:∃ Jx:List ByteArray->js1->Prop,Jx=fun pre W=>(∃ x∈pre,bad x=true)/\Kr bs res w W/\aH res (.int .i64 5) 28 W/\W.heap[w.heap.size+1]?=some (.loop (rec .done (some .ret)))/\W.heap[w.heap.size]?=some (.deferred (some [])):=⟨_,rfl⟩
 have hend:∀ {W:js1} {st:LoopState} {pe:Option Code},W.heap[w.heap.size+1]?=some (.loop (rec st pe))->st≠.busy->∃ o:Obj,(Instr.endLoop (w.heap.size+1)).run Tryz.prog W=.ok pe (W.putObj (w.heap.size+1) o):=by intro W st pe h hst;have:=run_endLoop (P:=Tryz.prog) h (by rw [hrec];exact hst);rw [hrec] at this;exact ⟨_,this⟩
 refine ⟨w.heap.size+1,[{ target:=.collected w.heap.size,args:=#[] }],W1,{ target:=.fn (.func 295) #[.pointer (some ⟨bs+1,0,none⟩),.pointer (some ⟨bs,0,none⟩),.pointer (some ⟨bs+2,0,none⟩)],args:=#[.func (.yield (w.heap.size+1)) #[] #[]] },W1,295,
  #[.func (.yield (w.heap.size+1)) #[] #[],.pointer (some ⟨bs+1,0,none⟩),.pointer (some ⟨bs,0,none⟩),.pointer (some ⟨bs+2,0,none⟩)],W1,?_,?_,?_,?_,fun _=>by omega,?_⟩
 ·rw [hW1,hrec];exact run_enterLoop_outer _ _ _ _ _
 ·simp only [resolve,hg];simp [go_sem]
 ·intro f' _;trivial
 ·have eg:=enters_of Tryz.func295 (by kernel_rfl) rfl;simp [invoke,go_sem,eg]
 ·refine (Qi 2 (w.heap.size+1) bs s J Jx W1 hs ?_ ?_ ?_ ?_ ?_).mono ?_
  ·intro pre W u h;rw [hJ] at h ⊢;exact ⟨h.1,h.2.1.set u,(jp8 W ⟨bs,0,none⟩ u _ (by show _≠bs;omega)).trans h.2.2.1,(jp8 W ⟨bs,0,none⟩ u _ (by show _≠bs;omega)).trans h.2.2.2⟩
  ·intro pre W h;rw [hJ] at h;exact ⟨(h.2.1.block _ (by omega) (by omega)).trans B1,(h.2.1.block _ (by omega) (by omega)).trans B2⟩
  ·intro m pre x W h hx;rw [hJ] at h;obtain ⟨h1,h2,h3,h4⟩:=h;have hlt:w.heap.size+1<W.heap.size:=(Array.getElem?_eq_some_iff.1 h3).1;have hy:=run_yield (P:=Tryz.prog) (args:=#[.string x]) h3 (by rw [hrec];exact hps.symm);rw [hrec] at hy;refine ⟨fn,_,assign,body,hy,roundIn_of_wpIn hfn (hassign _ _ x W _ ?_)⟩;clear hy;refine ⟨_,run_beginRound h3 (by rw [hrec]),?_⟩;obtain ⟨W2,hW2⟩:∃ W2,W2=W.putObj (w.heap.size+1) (.loop { rec .ready none with state:=.busy }):=⟨_,rfl⟩;have hl2:W2.heap[w.heap.size+1]?=some (.loop { rec .ready none with state:=.busy }):=by rw [hW2];exact World.putObj_heap_same hlt
   have hd2:W2.heap[w.heap.size]?=some (.deferred (some [])):=by rw [hW2];exact (World.putObj_heap_other (by omega)).trans h4
   have hk2:Kz bs w W2:=by rw [hW2];exact h2.put (by omega) _
   have jkk:W2.heap[bs]?=W.heap[bs]?:=by rw [hW2];exact World.putObj_heap_other (by omega)
   have hr2:aH res (.int .i64 0) 28 W2:=(hk2.block _ (by omega) (by omega)).trans BR;have hz2:w.heap.size+1<W2.heap.size:=(Array.getElem?_eq_some_iff.1 hl2).1;rw [<- hW2];refine wpIn_mono (hbody _ _ x W2 hx hr2) ?_;rintro e a3 W3 hp;cases e with
   | normal=>
    obtain ⟨hb3,hbad⟩:=hp;have hl3:=(hb3.block _ hz2).trans hl2;have he:=run_endRound (P:=Tryz.prog) none hl3;rw [hrec] at he;refine ⟨_,_,he,.inl ⟨rfl,?_,?_⟩⟩
    ·rw [hJ];refine ⟨?_,(hk2.below hb3).put (by omega) _,?_,(World.putObj_heap_other (by omega)).trans ((hb3.block _ (by omega)).trans hd2)⟩
     ·intro y hy;rcases List.mem_append.1 hy with hy | hy
      ·exact h1 y hy
      ·rw [List.mem_singleton.1 hy];exact hbad
     ·rw [World.putObj_heap_same (Array.getElem?_eq_some_iff.1 hl3).1,hrec];rfl
    ·exact (World.putObj_heap_other (by omega)).trans ((hb3.block _ (by omega)).trans jkk)
   | ret=>
    obtain ⟨hbad,W4,hb4,rfl⟩:=hp;have hl4:(W4.setCell ⟨res,0,none⟩ (.int .i64 5)).heap[w.heap.size+1]?=some (.loop { rec .ready none with state:=.busy }):=(jp8 W4 ⟨res,0,none⟩ _ _ (by show _≠res;omega)).trans ((hb4.block _ hz2).trans hl2);have hd4:(W4.setCell ⟨res,0,none⟩ (.int .i64 5)).heap[w.heap.size]?=some (.deferred (some [])):=(jp8 W4 ⟨res,0,none⟩ _ _ (by show _≠res;omega)).trans ((hb4.block _ (by omega)).trans hd2);have hr4:aH res (.int .i64 0) 28 W4:=(hb4.block _ (by omega)).trans hr2;have he:=run_endRound (P:=Tryz.prog) (some .ret) hl4;rw [hrec] at he;refine ⟨_,_,he,.inr ⟨rfl,?_⟩⟩;rw [hJx];refine ⟨⟨x,by simp,hbad⟩,((hk2.below hb4).kr _).put (by omega) _,(World.putObj_heap_other (by omega)).trans (hr4.set _),?_,(World.putObj_heap_other (by omega)).trans hd4⟩;rw [World.putObj_heap_same (Array.getElem?_eq_some_iff.1 hl4).1,hrec];rfl
   | exit id=>exact hp.elim
   | goto t=>exact hp.elim
   | panic ch=>exact hp.elim
   | outgrown=>exact hp.elim
  ·exact (hb1.block _ (by omega)).trans B0
  ·rw [hJ];exact ⟨by simp,⟨hb1.os,hb1.tape,hb1.output,hb1.size,fun k h1 _=>hb1.block k h1⟩,hL1,hD1⟩
  ·rintro e W2 ⟨⟨v,rfl⟩,h | ⟨pre,hpre,h⟩⟩
   ·rw [hJ] at h;obtain ⟨h1,h2,h3,h4⟩:=h;obtain ⟨o,ho⟩:=hend h3 (by simp);exact ⟨none,_,ho,hdone _ _ (joz _) h1 (h2.put (by omega) _) ((World.putObj_heap_other (by omega)).trans h4)⟩
   ·rw [hJx] at h;obtain ⟨⟨x,hx,hbad⟩,h2,h3,h4,h5⟩:=h;obtain ⟨o,ho⟩:=hend h4 (by simp);exact ⟨some .ret,_,ho,hstop _ _ (joz _) ⟨x,hpre.subset hx,hbad⟩ (h2.put (by omega) _) ((World.putObj_heap_other (by omega)).trans h3) ((World.putObj_heap_other (by omega)).trans h5)⟩
open Go.RowKit
attribute [local go_sem] Oper.semAt_some
theorem Yh {fn:Func} {R:Ending->js1->Prop} {a:Act} {w:js1} {v:Value} (hd:a.defers=[]) (hr:(results fn a.tmps).run Tryz.prog w=.ok v w) (h:R (.returned v) w):bodyPostM Fence.wide 3 Tryz.prog fn R .ret a w:=by show LeavesInM _ _ _ _ _ _ a.defers _ _;rw [hd];unfold LeavesInM LeavesIn;exact ⟨v,hr,h⟩
theorem Qj {fn:Func} {R:Ending->js1->Prop} {a:Act} {w:js1} {v:Value} {D:Nat} (hd:a.defers=[{ target:=.collected D,args:=#[] }]) (hf:w.heap[D]?=some (.deferred (some []))) (hr:(results fn a.tmps).run Tryz.prog (w.putObj D (.deferred none))=.ok v (w.putObj D (.deferred none))) (h:R (.returned v) (w.putObj D (.deferred none))):bodyPostM Fence.wide 3 Tryz.prog fn R .ret a w:=by show LeavesInM _ _ _ _ _ _ a.defers _ _;rw [hd];refine ⟨by simp,.inl ⟨D,_,rfl,run_takeDeferred hf,?_⟩⟩;exact ⟨v,hr,h⟩
theorem zL (s:ByteArray) (w:js1):Calls Tryz.prog 269 #[.string s,.string ⟨#[10]⟩,.int .i64 0] w fun e w'=> e=.returned (.func (.func 295) #[] #[.pointer (some ⟨w.heap.size+1,0,none⟩),.pointer (some ⟨w.heap.size,0,none⟩),.pointer (some ⟨w.heap.size+2,0,none⟩)]) /\ w'=((w.alloc (.cells #[.string s] 9)).alloc (.cells #[.string ⟨#[10]⟩] 9)).alloc (.cells #[.int .i64 0] 3):=by
 have hmf:∀ (fn:Fn) (first cap:Array Value) (w:js1),(Instr.makeFunc fn first cap).run Tryz.prog w=.ok (.func fn first cap) w:=fun _ _ _ _=>rfl
 go_enter Tryz.func269,Tryz.ntmps269;go_wp2;go_ret;exact ⟨rfl,rfl⟩
theorem Dm (s:ByteArray) (w:js1):Calls Tryz.prog 232 #[.string s,.string ⟨#[10]⟩] w fun e w'=> e=.returned (.func (.func 295) #[] #[.pointer (some ⟨w.heap.size+1,0,none⟩),.pointer (some ⟨w.heap.size,0,none⟩),.pointer (some ⟨w.heap.size+2,0,none⟩)]) /\ w'=((w.alloc (.cells #[.string s] 9)).alloc (.cells #[.string ⟨#[10]⟩] 9)).alloc (.cells #[.int .i64 0] 3):=by
 have SS:=hid (zL s w);go_enter Tryz.func232,Tryz.ntmps232;go_wp2_with fail
 refine SS.out.mono ?_;rintro e w1 ⟨rfl,rfl⟩;go_wp2;go_ret;exact ⟨rfl,rfl⟩
theorem IW (s:ByteArray) (h:gU s=true):(pieces s).any (fun x=>nD x.data.toList)=AL s:=by
 unfold pieces AL;have h2:s.data.toList=[]/\([]:List UInt8)=[]\/s.data.toList.getLast?=some 10:=by
  unfold gU at h;rcases Bool.or_eq_true _ _ ▸ h with h | h
  ·left;refine ⟨?_,rfl⟩;rw [<- Ct,Lib.toList_data] at h;simpa using h
  ·right;have:=(Bool.and_eq_true _ _ ▸ h).2;simpa using this
 rw [Dl _ _ h2,jq0,List.any_append,List.any_map];have e:((fun x:ByteArray=>nD x.data.toList) ∘ bR)=nD:=by funext l;simp [bR]
 rw [e];have e2:nD []=false:=by decide
 simp [bR,e2]
theorem OX:uf AL:=by
 intro w b o k lv i t d ti at_ li ks ac ap al ak cc cp cl' ck hP hts hsh
 have hdd:∀ k:Nat,(Fence.wide.depth.isSome=true->1<=k):=fun k h=>by cases h
 have HE:Hid (rz AL t at_=if gU t=false then 17 else if AL t=true then 5 else at_.err):=rfl;obtain ⟨V,hV⟩:∃ V,V=rz AL t at_:=⟨_,rfl⟩
 rw [<- hV] at HE ⊢;obtain ⟨w1,hw1⟩:∃ w1,w1=w.alloc (.cells #[.int .i64 0] 28):=⟨_,rfl⟩;have b1:Below w.heap.size w w1:=by rw [hw1];exact (jox _ _).alloc (joz _) _
 have r1:aH w.heap.size (.int .i64 0) 28 w1:=by rw [hw1];exact aH.new _ _ _
 have P1:=hid (hP.up b1);have HR1:=hid r1;have HB1:=hid b1;have CT:=hid (fun w=>oG t w (by omega));obtain ⟨c0,c1,c2,c3,c4,c5,c6,c7,c8,c9,c10⟩:=P1.out.cells;have f1:=r1.free;have d1:=r1.cell;clear hV hP b1 r1;refine (callsIn_wide (n:=3)).1 ?_;refine callsIn_of_wp_marks Tryz.func194 rfl trivial ?_ rfl;simp only [Tryz.ntmps194,List.size_toArray,List.length_cons,List.length_nil,Nat.reduceAdd,Nat.reduceSub,Array.replicate_succ,Array.replicate_zero,List.push_toArray,List.append_toArray,jpz,jpx];refine wpIn_wide.2 ?_;go_upto_region 1 with (fail)
 rw [<- hw1];clear hw1;cases hbt:gU t with
 | false=>
  have HV:Hid (V=17):=by show V=_;rw [HE.out,if_pos hbt]
  rw [hbt] at CT;clear HE hbt;go_wp2_with fail
  refine (CT.out _).mono ?_;rintro e w2 ⟨rfl,q,rfl⟩;have f2:(w1.drewN q).frozen? ⟨w.heap.size,0,none⟩=false:=f1;have d2:(w1.drewN q).cell? ⟨w.heap.size,0,none⟩=some (.int .i64 0):=d1;have vv:Hid (aH w.heap.size (.int .i64 17) 28 ((w1.drewN q).setCell ⟨w.heap.size,0,none⟩ (.int .i64 17))):=aH.set (show aH w.heap.size (.int .i64 0) 28 (w1.drewN q) from HR1.out) _;go_wp2;refine Yh (v:=.int .i64 17) rfl (by simp [results,Tryz.results194,go_sem,vv.out.cell]) ⟨by rw [HV.out];rfl,(eZ HB1.out q).setCell (p:=⟨w.heap.size,0,none⟩) (joz _) _⟩
 | true=>
  have YI:=hid (IW t hbt);have HE2:Hid (V=if AL t=true then 5 else at_.err):=by show V=_;rw [HE.out,if_neg (by rw [hbt];decide)]
  rw [hbt] at CT;clear HE hbt;go_wp2_with fail
  refine (CT.out _).mono ?_;rintro e w2 ⟨rfl,q,rfl⟩;have P2:Q5 (w1.drewN q) b o k lv i t d ti at_ li ks ac ap al ak cc cp cl' ck:=P1.out.up (eZ (jox _ _) q)
  have r2:aH w.heap.size (.int .i64 0) 28 (w1.drewN q):=HR1.out;have hB2:Below w.heap.size w (w1.drewN q):=eZ HB1.out q;clear c0 c1 c2 c3 c4 c5 c6 c7 c8 c9 c10 f1 d1;obtain ⟨w2,hw2⟩:∃ w2,w2=w1.drewN q:=⟨_,rfl⟩;rw [<- hw2] at P2 r2 hB2;have P2:=hid P2;have R2:=hid r2;have B2:=hid hB2;obtain ⟨c0,c1,c2,c3,c4,c5,c6,c7,c8,c9,c10⟩:=P2.out.cells;rw [<- hw2];clear hw2 r2 hB2;go_wp2_with fail
  refine (Dm t w2).mono ?_;rintro e w3 ⟨rfl,hw3⟩;have hb3:Below w2.heap.size w2 w3:=by rw [hw3];exact (((jox _ _).alloc (joz _) _).alloc (by simp) _).alloc (by simp;omega) _
  have B0:aH w2.heap.size (.string t) 9 w3:=by rw [hw3];exact ((aH.new _ _ _).alloc _).alloc _
  have B1:aH (w2.heap.size+1) (.string ⟨#[10]⟩) 9 w3:=by rw [hw3];have:=aH.new (w2.alloc (.cells #[.string t] 9)) (.string ⟨#[10]⟩) 9;rw [jpq] at this;exact this.alloc _
  have B3:aH (w2.heap.size+2) (.int .i64 0) 3 w3:=by rw [hw3];have:=aH.new ((w2.alloc (.cells #[.string t] 9)).alloc (.cells #[.string ⟨#[10]⟩] 9)) (.int .i64 0) 3;rw [jpq,jpq] at this;exact this
  have z3:w3.heap.size=w2.heap.size+3:=by rw [hw3];simp [jpq]
  have hnz:w.heap.size<w2.heap.size:=R2.out.lt;have R3:=hid (R2.out.below R2.out.lt hb3);have P3:=hid (P2.out.up hb3);have BB3:=hid (aP (w:=w) B2.out hb3);have HB3:=hid hb3;clear c0 c1 c2 c3 c4 c5 c6 c7 c8 c9 c10 hw3 hb3;go_wp2;refine wpIn_wide (n:=3) |>.1 ?_
  refine FU w2.heap.size w.heap.size t (fun x=>nD x.data.toList) (fun x=>{ tmps:=#[.pointer (some ⟨b,o,none⟩),undef,.pointer (some ⟨w.heap.size,0,none⟩),.string x,.pointer (some ⟨b,o,none⟩),.pointer (some ⟨b,o,none⟩),.pointer (some ⟨b,o+3,none⟩),.string t,.bool true,.bool false,.pointer (some ⟨b,o,none⟩),.pointer (some ⟨b,o,none⟩),.pointer (some ⟨b,o+3,none⟩),.string t,.func (.func 295) #[] #[.pointer (some ⟨w2.heap.size+1,0,none⟩),.pointer (some ⟨w2.heap.size,0,none⟩),.pointer (some ⟨w2.heap.size+2,0,none⟩)],.string x,undef,undef,undef,undef,undef,undef,undef],defers:=[] }) rfl rfl (by omega) hnz (by omega) B0 B1 B3 R3.out ?assign ?body ?done ?stop;case assign=>
   intro l m x W K hK
   gi_wp2
   exact hK
  case body=>
   intro l m x W hxs hrb;have CM:=hid (xV x W (by omega));have hlt:=hrb.lt;have HRB:=hid hrb;cases hbad:nD x.data.toList with
   | true=>
    rw [hbad] at CM
    gi_wp2_with (first | (refine ⟨trivial,hdd _,?_⟩;gi_at_call 233;refine (CallsIn.inRound l (callsIn_wide.2 CM.out)).mono ?_;rintro e W1 ⟨rfl,hbw⟩;have hb1:=HRB.out.below hlt hbw;have f1:=hb1.free;have d1:=hb1.cell))
    exact ⟨hbad,W1,hbw,rfl⟩
   | false=>
    rw [hbad] at CM
    gi_wp2_with (first | (refine ⟨trivial,hdd _,?_⟩;gi_at_call 233;refine (CallsIn.inRound l (callsIn_wide.2 CM.out)).mono ?_;rintro e W1 ⟨rfl,hbw⟩))
    exact ⟨hbw,hbad⟩
  case stop=>
   intro D W hD hbad hkr hbx hdf;have HV:Hid (V=5):=by show V=_;rw [HE2.out,if_pos];rw [<- YI.out];obtain ⟨x,hx,h2⟩:=hbad;exact List.any_eq_true.2 ⟨x,hx,h2⟩
   have Yi:aH w.heap.size (.int .i64 5) 28 (W.putObj D (.deferred none)):=(World.putObj_heap_other (by omega)).trans hbx
   gi_wp2
   refine Qj (v:=.int .i64 5) rfl hdf (by simp [results,Tryz.results194,go_sem,Yi.cell]) ⟨by rw [HV.out];rfl,?_⟩;refine ⟨hkr.os.trans BB3.out.os,hkr.tape.trans BB3.out.tape,hkr.output.trans BB3.out.output,by rw [World.putObj_size];exact jp0 BB3.out.size hkr.size,fun k2 hk2=>?_⟩;exact (World.putObj_heap_other (by omega)).trans ((hkr.block k2 (by omega) (by omega) (by omega)).trans (BB3.out.block k2 hk2))
  case done=>
   intro D W hD hgood hkz hdf;have HVc:AL t=false:=by rw [<- YI.out,List.any_eq_false];intro x hx;simp [hgood x hx]
   have HV:Hid (V=at_.err):=by show V=_;rw [HE2.out,HVc];rfl
   have hBW:Below w2.heap.size w2 W:=⟨hkz.os.trans HB3.out.os,hkz.tape.trans HB3.out.tape,hkz.output.trans HB3.out.output,by have:=hkz.size;omega,fun k2 hk2=>(hkz.block k2 (by omega) (by omega)).trans (HB3.out.block k2 hk2)⟩;have PW:=P2.out.up hBW;have hrW:aH w.heap.size (.int .i64 0) 28 W:=(hkz.block _ (by omega) (by omega)).trans R3.out;have AC:=hid (jD at_ ac ap cc cp W PW.rd.at_ hsh);have HRW:=hid hrW;have zZ:=hid (aP (w:=w) B2.out hBW);have HDL:Hid (D<W.heap.size):=(Array.getElem?_eq_some_iff.1 hdf).1;obtain ⟨c0,c1,c2,c3,c4,c5,c6,c7,c8,c9,c10⟩:=PW.cells;clear hBW PW hrW hkz hgood HE2 YI;go_wp2_with fail
   refine AC.out.mono ?_;rintro e W1 ⟨rfl,hb1⟩;have hrb:=HRW.out.below HRW.out.lt hb1;have f1:=hrb.free;have d1:=hrb.cell;have Jr:=hid (aP (w:=w) zZ.out hb1);have jkq:W1.heap[D]?=some (.deferred (some [])):=(hb1.block D HDL.out).trans hdf;have HRB:=hid (hrb.set (.int .i64 (at_.err:Nat)));clear c0 c1 c2 c3 c4 c5 c6 c7 c8 c9 c10 hb1 hrb;go_wp2;have jkx:(W1.setCell ⟨w.heap.size,0,none⟩ (.int .i64 (at_.err:Nat))).heap[D]?=some (.deferred (some [])):=(jp8 W1 ⟨w.heap.size,0,none⟩ _ D (by show D≠w.heap.size;omega)).trans jkq;have Yi:aH w.heap.size (.int .i64 (at_.err:Nat)) 28 ((W1.setCell ⟨w.heap.size,0,none⟩ (.int .i64 (at_.err:Nat))).putObj D (.deferred none)):=(World.putObj_heap_other (by omega)).trans HRB.out;refine Qj (v:=.int .i64 (at_.err:Nat)) rfl jkx (by simp [results,Tryz.results194,go_sem,Yi.cell]) ⟨by rw [HV.out],?_⟩;have hx:=Jr.out.setCell (p:=⟨w.heap.size,0,none⟩) (joz _) (.int .i64 (at_.err:Nat));exact ⟨hx.os,hx.tape,hx.output,by rw [World.putObj_size];exact hx.size,fun k2 hk2=>(World.putObj_heap_other (by omega)).trans (hx.block k2 hk2)⟩
end Go.Proofs.YtdneicipdlofiaaGreatDoor

