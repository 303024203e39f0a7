/- The contract of tree.closesMath. The pieces that strings.SplitSeq hands out at a line feed: the iterator within a fence, and the law of a range over it whose body may return. The contract of tree.checkMath: what closes a formula. Contracts of publisherref04.ending, closes, body, place, blockFields, table, written, itself. Contracts of publisherref04.table, written, itself. Contracts of publisherref04.blocks, Blocks, Check. -/
import Derived.Test.YtkfnkeflalcphaaGreatDoorKRpC
import Derived.Test.YtkfnkeflalcphaaGreatDoorKRwC
import Derived.Test.YtkfnkeflalcphaaGreatDoorKChW
set_option maxHeartbeats 4000000
set_option maxRecDepth 100000
open Go.Lib (hid)
namespace Go.Proofs.YtkfnkeflalcphaaGreatDoor
open Go.RowKit.Below renaming refl->jnk,heap_setCell->jo5
open Nat renaming le_refl->jnq,le_trans->jnx
open Go.World renaming size_alloc->jo9
open List renaming cons_append->joj,nil_append->jok,map_append->joq
open Go renaming World->jqz
open Go.RowKit
set_option linter.unusedVariables false
set_option linter.unusedSimpArgs false
theorem Uw (c:UInt8):(c==32)=isSp c:=by unfold isSp;rw [Bool.eq_iff_iff];simp
theorem pK (l:List UInt8):Lib.trimLeftB l 32=iT l:=by unfold Lib.trimLeftB iT;congr 1
theorem GA (l:List UInt8):Lib.trimRightB l 32=fF l:=by unfold Lib.trimRightB fF;rw [show (fun x:UInt8=>x==32)=isSp from funext Uw]
theorem QS (l:List UInt8):Lib.trimB l 32=iT (fF l):=by unfold Lib.trimB;rw [pK,GA]
theorem je5 (l:List UInt8) (h:∀ c∈l,isSp c=true):iT l=[]:=by
 induction l with
 | nil=>rfl
 | cons c l ih=>
  unfold iT at ih ⊢;rw [List.dropWhile_cons_of_pos (h c (by simp))];exact ih (fun d hd=>h d (by simp [hd]))
theorem JB (l:List UInt8):∀ c,(fF l).getLast?=some c->isSp c=false:=by intro c hc;unfold fF at hc;rw [List.getLast?_reverse] at hc;exact (fZ isSp l.reverse).2 c hc
theorem QT (x r:List UInt8) (hx:∃ c∈x,isSp c=false):iT (x++r)=iT x++r:=by
 induction x with
 | nil=>obtain ⟨c,hc,_⟩:=hx;cases hc
 | cons a x ih=>
  unfold iT at ih ⊢;rw [joj];cases ha:isSp a with
  | true=>
   rw [List.dropWhile_cons_of_pos ha,List.dropWhile_cons_of_pos ha];apply ih;obtain ⟨c,hc,h2⟩:=hx;rcases List.mem_cons.1 hc with rfl | hc
   ·rw [ha] at h2;cases h2
   ·exact ⟨c,hc,h2⟩
  | false=>
   rw [List.dropWhile_cons_of_neg (by rw [ha];decide),List.dropWhile_cons_of_neg (by rw [ha];decide)];rfl
theorem MJ (x:List UInt8) (h:∀ c,x.getLast?=some c->isSp c=false):∀ c,(iT x).getLast?=some c->isSp c=false:=by intro c hc;obtain ⟨p,hp⟩:=List.dropWhile_suffix isSp (l:=x);have e:x=p++iT x:=hp.symm;apply h;rw [e,List.getLast?_append,hc];rfl
theorem BO (m:List UInt8):fF (iT m)=iT (fF m):=by
 obtain ⟨r,h1,h2⟩:=om m;have hl:=JB m;by_cases h0:fF m=[]
 ·rw [h0] at h1 ⊢;rw [jok] at h1;rw [h1,je5 r h2];rfl
 ·have hx:∃ c∈fF m,isSp c=false:=⟨_,List.getLast_mem h0,hl _ (List.getLast?_eq_some_getLast h0)⟩
  conv=>lhs;rw [h1]
  rw [QT _ r hx];exact BG _ _ h2 (MJ _ hl)
theorem QU (m:List UInt8):(iT (fF m)).isEmpty=(iT m).isEmpty:=by
 rw [<- BO];obtain ⟨r,h1,h2⟩:=om (iT m);cases h:iT m with
 | nil=>rfl
 | cons c l=>
  have hc:isSp c=false:=(fZ isSp m).2 c (by show (iT m).head?=_;rw [h];rfl);rw [h] at h1;cases hh:fF (c::l) with
  | nil=>
   rw [hh,jok] at h1;have:=h2 c (by rw [<- h1];simp);rw [hc] at this;cases this
  | cons d t=>rfl
def rV (l:List UInt8):List UInt8:=iT (fF ((iT l).drop 2))
theorem QV (l:List UInt8):oo l=(decide ((l.takeWhile isSp).length<=3)&&(decide ((iT l).take 2=[36,36])&&((rV l).isEmpty||(match DJ (rV l) with
  | none=>false
  | some (_,r)=>r.isEmpty)))):=by
 unfold oo rV;rw [QU,zX];unfold Jg;rw [BO,Bool.and_assoc];rfl
theorem jj8 (l:List UInt8):Lib.hasPrefix l [36,36]=decide (l.take 2=[36,36]):=by
 unfold Lib.hasPrefix;rcases l with _ | ⟨a,_ | ⟨b,l⟩⟩<;>rw [Bool.eq_iff_iff]<;>simp [List.isPrefixOf]
 constructor<;>(rintro ⟨h1,h2⟩;exact ⟨h1.symm,h2.symm⟩)
theorem Ux (l:List UInt8):(l.takeWhile isSp).length=l.length-(iT l).length:=by have:=congrArg List.length (List.takeWhile_append_dropWhile (p:=isSp) (l:=l));rw [List.length_append] at this;unfold iT;omega
theorem y9 (s:ByteArray) (w:jqz) (hs:s.size<=100000) : Calls Tryz.prog 201 #[.string s] w (bX (.bool (oo s.data.toList)) w):=by
 obtain ⟨C,hC⟩:∃ C:ByteArray,C=⟨(iT s.data.toList).toArray⟩:=⟨_,rfl⟩;have Zx:C.data.toList=iT s.data.toList:=by rw [hC]
 have hCs:C.size<=s.size:=by
  have h1:=tF s.data.toList;have e1:C.size=(iT s.data.toList).length:=by rw [hC];exact List.size_toArray
  have e2:s.data.toList.length=s.size:=by rw [Array.length_toList];rfl
  omega
 have e2:s.data.toList.length=s.size:=by rw [Array.length_toList];rfl
 have e3:(iT s.data.toList).length=C.size:=by rw [<- Zx,Array.length_toList];rfl
 have TL:Hid (∀ w,Calls Tryz.prog 224 #[.string s,.string ⟨#[32]⟩] w fun e w'=>e=.returned (.string C)/\w'=w):=by intro w;refine (Tryz.strings_TrimLeft_one s 32 (by decide) w).mono ?_;rintro e w' ⟨rfl,rfl⟩;exact ⟨by rw [pK,hC],rfl⟩
 have HP:Hid (∀ w,Calls Tryz.prog 225 #[.string C,.string ⟨#[36,36]⟩] w fun e w'=>e=.returned (.bool (decide ((iT s.data.toList).take 2=[36,36])))/\w'=w):=by intro w;refine (Tryz.strings_HasPrefix C ⟨#[36,36]⟩ w).mono ?_;rintro e w' ⟨rfl,rfl⟩;exact ⟨by rw [<- Zx,<- jj8],rfl⟩
 have HE:=hid (QV s.data.toList);rw [Ux,e2,e3] at HE;obtain ⟨V,hV⟩:∃ V,V=oo s.data.toList:=⟨_,rfl⟩;rw [<- hV] at HE ⊢;clear hV;by_cases h3:s.size-C.size<=3;case neg=>
  have q1:decide ((3:Int)<(s.size:Int)-(C.size:Int))=true:=by simp;omega
  have HV:Hid (V=false):=by show V=_;rw [HE.out,decide_eq_false h3];rfl
  clear HE h3 hC Zx e3 e2;go_enter Tryz.func201,Tryz.ntmps201;go_wp2_with fail
  refine (TL.out _).mono ?_;rintro e w1 ⟨rfl,rfl⟩;go_wp2;go_ret;exact ⟨by rw [HV.out];rfl,jnk _ _⟩
 have q1:decide ((3:Int)<(s.size:Int)-(C.size:Int))=false:=by simp;omega
 rw [decide_eq_true h3,Bool.true_and] at HE;by_cases h36:(iT s.data.toList).take 2=[36,36];case neg=>
  rw [decide_eq_false h36] at HP HE;have HV:Hid (V=false):=HE.out;clear HE h3 hC Zx e3 e2 h36;go_enter Tryz.func201,Tryz.ntmps201;go_wp2_with fail
  refine (TL.out _).mono ?_;rintro e w1 ⟨rfl,rfl⟩;go_wp2_with fail
  refine (HP.out _).mono ?_;rintro e w1 ⟨rfl,rfl⟩;go_wp2;go_ret;exact ⟨by rw [HV.out];rfl,jnk _ _⟩
 rw [decide_eq_true h36] at HP HE;rw [Bool.true_and] at HE;have h2C:2<=C.size:=by have:=congrArg List.length h36;rw [List.length_take,e3] at this;simp at this;omega
 obtain ⟨X,hX⟩:∃ X:ByteArray,X=⟨(rV s.data.toList).toArray⟩:=⟨_,rfl⟩;have hXl:X.data.toList=rV s.data.toList:=by rw [hX]
 have hXs:X.size<=100000:=by
  have e1:X.size=(rV s.data.toList).length:=by rw [hX];exact List.size_toArray
  have h1:(rV s.data.toList).length<=s.data.toList.length:=by unfold rV;refine jnx (tF _) ?_;unfold fF;rw [List.length_reverse];refine jnx (List.dropWhile_sublist _).length_le ?_;rw [List.length_reverse,List.length_drop];have:=tF s.data.toList;omega
  omega
 have TR:Hid (∀ w,Calls Tryz.prog 202 #[.string (C.extract 2 C.size),.string ⟨#[32]⟩] w fun e w'=>e=.returned (.string X)/\∃ q,w'=w.drewN q):=by
  intro w;refine (Tryz.strings_Trim_one (C.extract 2 C.size) 32 (by decide) w (by rw [ByteArray.size_extract];omega)).mono ?_;rintro e w' ⟨rfl,hw⟩;refine ⟨?_,?_⟩
  ·rw [hX];unfold rV;rw [QS];congr 4;rw [<- Zx];rw [ByteArray.data_extract,Array.toList_extract];have:C.size=C.data.toList.length:=by rw [Array.length_toList];rfl
   rw [this];simp [List.extract_eq_take_drop];rw [List.take_of_length_le (by rw [List.length_drop,Array.length_toList];exact jnq _)]
  ·rcases hw with rfl | rfl
   ·exact ⟨0,rfl⟩
   ·exact ⟨1,rfl⟩
 have HE2:Hid (V=(X.toList.isEmpty||(match DJ X.data.toList with
  | none=>false
  | some (_,r)=>r.isEmpty))):=by
  show V=_;rw [HE.out,Lib.toList_data,hXl]
 clear HE h3 hC Zx e3 e2 h36 hX hXl;cases hem:X.toList.isEmpty with
 | true=>
  have HV:Hid (V=true):=by show V=_;rw [HE2.out,hem];rfl
  clear HE2;go_enter Tryz.func201,Tryz.ntmps201;go_wp2_with fail
  refine (TL.out _).mono ?_;rintro e w1 ⟨rfl,rfl⟩;go_wp2_with fail
  refine (HP.out _).mono ?_;rintro e w1 ⟨rfl,rfl⟩;go_wp2_with fail
  refine (TR.out _).mono ?_;rintro e w1 ⟨rfl,q,rfl⟩;go_wp2;go_ret;exact ⟨by rw [HV.out];rfl,gG (jnk _ _) q⟩
 | false=>
  have JR:Hid (V=(match DJ X.data.toList with
   | none=>false
   | some (_,r)=>r.isEmpty)):=by show V=_;rw [HE2.out,hem];rfl
  have PA:Hid (∀ w,Calls Tryz.prog 226 #[.string X,.int .i64 0] w (QO X 0 w)):=fun w=>MH X 0 w hXs (Nat.zero_le _)
  clear HE2;go_enter Tryz.func201,Tryz.ntmps201;go_wp2_with fail
  refine (TL.out _).mono ?_;rintro e w1 ⟨rfl,rfl⟩;go_wp2_with fail
  refine (HP.out _).mono ?_;rintro e w1 ⟨rfl,rfl⟩;go_wp2_with fail
  refine (TR.out _).mono ?_;rintro e w1 ⟨rfl,q,rfl⟩;go_wp2_with fail
  refine (PA.out _).mono ?_;rintro e w2 ⟨x0,a1,n1,c1,a2,n2,c2,t,n,rfl,hbel,hres⟩;have gI:Hid (Below w1.heap.size w1 w2):=⟨hbel.os,hbel.tape,hbel.output,hbel.size,hbel.block⟩;by_cases hn:n=0
  ·subst hn;have HV:Hid (V=(t==(X.size:Int))):=by
    show V=_;rcases hres with ⟨_,a',q',h1,rfl,h2⟩ | ⟨h,_⟩
    ·have h3:DJ X.data.toList=some (a',bK X q'):=h2;rw [JR.out,h3];simp only;rw [Bool.eq_iff_iff];simp only [List.isEmpty_iff,beq_iff_eq];constructor
     ·intro h4;have:=congrArg List.length h4;rw [mR] at this;simp at this;omega
     ·intro h4;exact iD X q' (by omega)
    ·exact absurd rfl h
   clear hres hbel JR;cases ht:(t==(X.size:Int)) with
   | true=>
    go_wp2;go_ret;exact ⟨by rw [HV.out,ht];rfl,(gI.out.alloc (jnx (jnq _) gI.out.size) _)⟩
   | false=>
    go_wp2;go_ret;exact ⟨by rw [HV.out,ht];rfl,(gI.out.alloc (jnx (jnq _) gI.out.size) _)⟩
  ·have e1:(n==0)=false:=by rw [beq_eq_false_iff_ne];exact hn
   have HV:Hid (V=false):=by
    show V=_;rcases hres with ⟨h,_⟩ | ⟨_,h⟩
    ·exact absurd h hn
    ·have h3:DJ X.data.toList=none:=h;rw [JR.out,h3]
   clear hres hbel JR;go_wp2;go_ret;exact ⟨by rw [HV.out];rfl,(gI.out.alloc (jnx (jnq _) gI.out.size) _)⟩
open Go.RowKit
def eO:List UInt8->List UInt8->List (List UInt8)
 | acc,[]=>[acc]
 | acc,c::l=>if c=10 then acc::eO [] l else eO (acc++[c]) l
def pieces (s:ByteArray):List ByteArray:=(eO [] s.data.toList).map dn
theorem MK (acc l:List UInt8) (h:∀ c∈l,c≠10):eO acc l=[acc++l]:=by
 induction l generalizing acc with
 | nil=>rw [eO,List.append_nil]
 | cons c l ih=>
  rw [eO,if_neg (h c (by simp)),ih _ (fun d hd=>h d (by simp [hd]))];simp
theorem ML (acc x r:List UInt8) (h:∀ c∈x,c≠10):eO acc (x++10::r)=(acc++x)::eO [] r:=by
 induction x generalizing acc with
 | nil=>rw [jok,eO,if_pos rfl,List.append_nil]
 | cons c x ih=>
  rw [joj,eO,if_neg (h c (by simp)),ih _ (fun d hd=>h d (by simp [hd]))];simp
theorem DX (acc l:List UInt8) (h:l=[]/\acc=[]\/l.getLast?=some 10):eO acc l=yM acc l++[[]]:=by
 induction l generalizing acc with
 | nil=>
  rcases h with ⟨_,rfl⟩ | h
  ·rfl
  ·cases h
 | cons c l ih=>
  rw [eO,yM];have h2:l=[]/\c=10\/l.getLast?=some 10:=by
   rcases h with ⟨h,_⟩ | h
   ·cases h
   ·cases l with
    | nil=>left;simpa using h
    | cons d l=>right;rw [<- h];simp [List.getLast?_cons_cons]
  by_cases hc:c=10
  ·rw [if_pos hc,if_pos hc,ih [] (by
    rcases h2 with ⟨h3,_⟩ | h3
    ·exact .inl ⟨h3,rfl⟩
    ·exact .inr h3)]
   rfl
  ·rw [if_neg hc,if_neg hc];refine ih _ ?_;rcases h2 with ⟨_,h3⟩ | h3
   ·exact absurd h3 hc
   ·exact .inr h3
theorem JC (l:List UInt8):(Lib.indexByte l 10=-1/\∀ c∈l,c≠10)\/∃ k:Nat,Lib.indexByte l 10=k/\k<l.length/\l=l.take k++10::l.drop (k+1)/\∀ c∈l.take k,c≠10:=by
 induction l with
 | nil=>left;exact ⟨rfl,by simp⟩
 | cons b l ih=>
  unfold Lib.indexByte;by_cases hb:b=10
  ·right;refine ⟨0,by rw [if_pos (by rw [hb];rfl)];rfl,by simp,by rw [hb];simp,by simp⟩
  ·have hb2:¬ (b==(10:UInt8))=true:=by simpa using hb
   rw [if_neg hb2];rcases ih with ⟨h1,h2⟩ | ⟨k,h1,h2,h3,h4⟩
   ·left;rw [h1];refine ⟨by decide,?_⟩;intro c hc;rcases List.mem_cons.1 hc with rfl | hc
    ·exact hb
    ·exact h2 c hc
   ·right;rw [h1];refine ⟨k+1,?_,by simp;omega,?_,?_⟩
    ·have:¬ ((k:Int)==-1)=true:=by simp
     rw [if_neg this];simp
    ·rw [List.take_succ_cons,List.drop_succ_cons,joj,<- h3]
    ·intro c hc;rw [List.take_succ_cons] at hc;rcases List.mem_cons.1 hc with rfl | hc
     ·exact hb
     ·exact h4 c hc
def cellS (w:jqz) (b:Nat):Nat:=match w.cell? ⟨b,0,none⟩ with
 | some (.string r)=>r.size
 | _=>0
theorem BQ {w:jqz} {b:Nat} {r:ByteArray} {t:TypeId} (h:aF b (.string r) t w):cellS w b=r.size:=by unfold cellS;rw [h.cell]
def Wi (s:ByteArray) (bs:Nat) (J:List ByteArray->jqz->Prop) (wr:jqz):Prop:=
 ∃ (pre:List (List UInt8)) (r:ByteArray),J (pre.map dn) wr/\aF bs (.string r) 9 wr/\eO [] s.data.toList=pre++eO [] r.data.toList/\r.size<=s.size
theorem QW (m l bs:Nat) (s:ByteArray) (J Jx:List ByteArray->jqz->Prop) (W:jqz) (hs:s.size<=100000) (hJs:∀ pre W u,J pre W->J pre (W.setCell ⟨bs,0,none⟩ u)) (hJB:∀ pre W,J pre W->aF (bs+1) (.string ⟨#[10]⟩) 9 W/\aF (bs+2) (.int .i64 0) 3 W) (hY:∀ (m:Nat) (pre:List ByteArray) (x:ByteArray) (W:jqz),J pre W->x.size<=s.size->YieldAt Fence.wide m Tryz.prog l #[.string x] W fun e W'=> (e=.returned (.bool true)/\J (pre++[x]) W'/\W'.heap[bs]?=W.heap[bs]?)\/(e=.returned (.bool false)/\Jx (pre++[x]) W')) (hb:aF bs (.string s) 9 W) (h0:J [] W) : CallsIn Fence.wide m Tryz.prog 251 #[.func (.yield l) #[] #[],.pointer (some ⟨bs+1,0,none⟩),.pointer (some ⟨bs,0,none⟩),.pointer (some ⟨bs+2,0,none⟩)] W fun e W'=> (∃ v,e=.returned v)/\(J (pieces s) W'\/∃ pre,pre <+: pieces s/\Jx pre W'):=by
 have hdd:∀ k:Nat,(Fence.wide.depth.isSome=true->1<=k):=fun k h=>by cases h
 have HJS:=hid hJs;have HJB:=hid hJB;have HY:=hid hY;have R0:Hid (Wi s bs J W):=⟨[],s,h0,hb,rfl,jnq _⟩;obtain ⟨hb1,hb2⟩:=hJB _ _ h0;have s0:=hb1.cell;clear hJs hJB hY hb h0 hb1 hb2;refine callsIn_of_wp Tryz.func251 rfl trivial ?_ rfl;simp only [Tryz.ntmps251,List.size_toArray,List.length_cons,List.length_nil,Nat.reduceAdd,Nat.reduceSub,Array.replicate_succ,Array.replicate_zero,List.push_toArray,List.append_toArray,jok,joj]
 gi_wp2
 clear s0
 gi_loopw [] (fun wr=>Wi s bs J wr) (fun wr=>cellS wr bs)
 case atStart=>exact R0.out
 case round=>
  clear R0;obtain ⟨pre,r,hJ,hbx,hsp,hrs⟩:=hrel;obtain ⟨hb1,hb2⟩:=HJB.out _ _ hJ;have s0:=hbx.cell;have s1:=hb1.cell;have s2:=hb2.cell;have hrl:r.data.toList.length=r.size:=by rw [Array.length_toList];rfl
  have HJ:=hid hJ;have oz:=hid hbx;have Y0:=hid hsp;rcases JC r.data.toList with ⟨hi,hno⟩ | ⟨k,hi,hk,hcut,hno⟩
  ·have IX:Hid (∀ w,Calls Tryz.prog 253 #[.string r,.string ⟨#[10]⟩] w fun e w'=>e=.returned (.int .i64 (-1))/\w'=w):=by
    intro w;have:=Tryz.strings_Index_one r 10 w;rw [hi] at this;exact this
   have HP:Hid (pieces s=pre.map dn++[r]):=by show _=_;unfold pieces;rw [Y0.out,MK [] _ hno,joq];simp [dn]
   obtain ⟨fn,tmps,assign,body,hy,hR⟩:=HY.out (m-1) (pre.map dn) r wr hJ hrs;have HR:=hid hR;clear hJ hbx hsp hb1 hb2 hi hno hR
   gi_wp2_with (first | (refine ⟨trivial,hdd _,?_⟩;gi_at_call 253;refine (callsIn_wide.2 (IX.out _)).mono ?_;rintro e w' ⟨rfl,rfl⟩))
   refine ⟨hdd _,?_⟩;refine HR.out.mono ?_;rintro e W1 (⟨rfl,TW,_⟩ | ⟨rfl,hx⟩)
   ·have HJ1:=hid TW;clear TW
    gi_wp2
    first | go_end0 | go_ret
    exact ⟨⟨_,rfl⟩,.inl (by rw [HP.out];exact HJ1.out)⟩
   ·have HX1:=hid hx;clear hx
    gi_wp2
    first | go_end0 | go_ret
    exact ⟨⟨_,rfl⟩,.inr ⟨_,by rw [HP.out];exact List.prefix_rfl,HX1.out⟩⟩
  ·have IX:Hid (∀ w,Calls Tryz.prog 253 #[.string r,.string ⟨#[10]⟩] w fun e w'=>e=.returned (.int .i64 k)/\w'=w):=by
    intro w;have:=Tryz.strings_Index_one r 10 w;rw [hi] at this;exact this
   have hxl:(r.extract 0 k).data.toList=r.data.toList.take k:=by rw [ByteArray.data_extract,Array.toList_extract];simp [List.extract_eq_take_drop]
   have hrl2:(r.extract (k+1) r.size).data.toList=r.data.toList.drop (k+1):=by rw [ByteArray.data_extract,Array.toList_extract,<- hrl];simp only [List.extract_eq_take_drop];exact List.take_of_length_le (by rw [List.length_drop];exact jnq _)
   have je6:Hid (eO [] s.data.toList=(pre++[r.data.toList.take k])++eO [] (r.extract (k+1) r.size).data.toList):=by
    show _=_;rw [Y0.out,hrl2]
    conv=>lhs;rw [hcut]
    rw [ML [] _ _ hno,jok,List.append_assoc];rfl
   have HX:Hid ((pre++[r.data.toList.take k]).map dn=pre.map dn++[r.extract 0 k]):=by show _=_;rw [joq,List.map_singleton,<- hxl];rfl
   have HPP:Hid (pre.map dn++[r.extract 0 k] <+: pieces s):=by show _ <+: _;unfold pieces;rw [je6.out,joq,HX.out];exact ⟨_,rfl⟩
   obtain ⟨fn,tmps,assign,body,hy,hR⟩:=HY.out (m-1) (pre.map dn) (r.extract 0 k) wr hJ (by rw [ByteArray.size_extract];omega);have HR:=hid hR;have hkr:k<r.size:=by omega
   clear hJ hbx hsp hb1 hb2 hi hno hR hcut hk hxl hrl2 hrl
   gi_wp2_with (first | (refine ⟨trivial,hdd _,?_⟩;gi_at_call 253;refine (callsIn_wide.2 (IX.out _)).mono ?_;rintro e w' ⟨rfl,rfl⟩))
   refine ⟨hdd _,?_⟩;refine HR.out.mono ?_;rintro e W1 (⟨rfl,TW,hk1⟩ | ⟨rfl,hx⟩)
   ·obtain ⟨hb1,hb2⟩:=HJB.out _ _ TW;have Uy:aF bs (.string r) 9 W1:=hk1.trans oz.out;have je7:=hid Uy;have HJ1:=hid TW;clear s0 s1 s2 TW hk1;have s0:=Uy.cell;have s1:=hb1.cell;have s2:=hb2.cell;have f0:=Uy.free;clear hb1 hb2 Uy
    gi_wp2
    go_roundw;case rel=>exact ⟨pre++[r.data.toList.take k],r.extract (k+1) r.size,by rw [HX.out];exact HJS.out _ _ _ HJ1.out,je7.out.set _,je6.out,by rw [ByteArray.size_extract];omega⟩
    case measure=>
     rw [BQ oz.out,BQ (je7.out.set (.string (r.extract (k+1) r.size))),ByteArray.size_extract];omega
   ·have HX1:=hid hx;clear hx
    gi_wp2
    refine bodyPost_ret (results_none rfl _ _ _) rfl ?_;exact ⟨⟨_,rfl⟩,.inr ⟨_,HPP.out,HX1.out⟩⟩
structure Kz (bs:Nat) (w W:jqz):Prop where
 os:W.os=w.os
 tape:W.tape=w.tape
 output:W.output=w.output
 size:w.heap.size<=W.heap.size
 block:∀ k,k<w.heap.size->k≠bs->W.heap[k]?=w.heap[k]?
structure Kr (bs res:Nat) (w W:jqz):Prop where
 os:W.os=w.os
 tape:W.tape=w.tape
 output:W.output=w.output
 size:w.heap.size<=W.heap.size
 block:∀ k,k<w.heap.size->k≠bs->k≠res->W.heap[k]?=w.heap[k]?
section
variable {bs res:Nat} {w W W1:jqz}
theorem Kz.below (h:Kz bs w W) (hb:Below W.heap.size W W1):Kz bs w W1:=
 ⟨hb.os.trans h.os,hb.tape.trans h.tape,hb.output.trans h.output,jnx h.size hb.size,fun k h1 h2=>(hb.block k (Nat.lt_of_lt_of_le h1 h.size)).trans (h.block k h1 h2)⟩
theorem Kz.put (h:Kz bs w W) {l:Nat} (hl:w.heap.size<=l) (o:Obj):Kz bs w (W.putObj l o):=
 ⟨h.os,h.tape,h.output,by rw [World.putObj_size];exact h.size,fun k h1 h2=>(World.putObj_heap_other (by omega)).trans (h.block k h1 h2)⟩
theorem Kz.set (h:Kz bs w W) (u:Value):Kz bs w (W.setCell ⟨bs,0,none⟩ u):=
 ⟨h.os,h.tape,h.output,by simpa [World.setCell] using h.size,fun k h1 h2=>(jo5 W ⟨bs,0,none⟩ u k h2).trans (h.block k h1 h2)⟩
theorem Kz.kr (h:Kz bs w W) (u:Value):Kr bs res w (W.setCell ⟨res,0,none⟩ u):=
 ⟨h.os,h.tape,h.output,by simpa [World.setCell] using h.size,fun k h1 h2 h3=>(jo5 W ⟨res,0,none⟩ u k h3).trans (h.block k h1 h2)⟩
theorem Kr.put (h:Kr bs res w W) {l:Nat} (hl:w.heap.size<=l) (o:Obj):Kr bs res w (W.putObj l o):=
 ⟨h.os,h.tape,h.output,by rw [World.putObj_size];exact h.size,fun k h1 h2 h3=>(World.putObj_heap_other (by omega)).trans (h.block k h1 h2 h3)⟩
end
def YO (res:Nat) (bad:ByteArray->Bool) (x:ByteArray) (W:jqz):Exit->Act->jqz->Prop
 | .normal,_,W'=>Below W.heap.size W W'/\bad x=false
 | .ret,_,W'=>bad x=true/\∃ W1,Below W.heap.size W W1/\W'=W1.setCell ⟨res,0,none⟩ (.int .i64 5)
 | .exit _,_,_=>False
 | .goto _,_,_=>False
 | .panic _,_,_=>False
 | .outgrown,_,_=>False
theorem GD {ps:Array Tmp} {assign body:Code} {Q:Exit->Act->jqz->Prop} {a:Act} {w:jqz} {g:Operand} (bs res:Nat) (s:ByteArray) (bad:ByteArray->Bool) (a₁:ByteArray->Act) (hg:a.eval g=.func (.func 251) #[] #[.pointer (some ⟨bs+1,0,none⟩),.pointer (some ⟨bs,0,none⟩),.pointer (some ⟨bs+2,0,none⟩)]) (hps:ps.size=1) (hsz:bs+2<w.heap.size) (hrb:res<bs) (hs:s.size<=100000) (B0:aF bs (.string s) 9 w) (B1:aF (bs+1) (.string ⟨#[10]⟩) 9 w) (B2:aF (bs+2) (.int .i64 0) 3 w) (BR:aF res (.int .i64 0) 29 w) (hassign:∀ (l m:Nat) (x:ByteArray) (W:jqz) (K:Act->jqz->Prop),K (a₁ x) W -> assign.wpIn (Fence.wide.inRound l) m Tryz.prog (Exit.then K (fun _ _ _=>False)) { tmps:=(ps.zip #[.string x]).foldl (fun t (p,v)=>t.setIfInBounds p v) a.tmps,defers:=[] } W) (hbody:∀ (l m:Nat) (x:ByteArray) (W:jqz),x.size<=s.size->aF res (.int .i64 0) 29 W->body.wpIn (Fence.wide.inRound l) m Tryz.prog (YO res bad x W) (a₁ x) W) (hdone:∀ (D:Nat) (W:jqz),w.heap.size<=D->(∀ x∈pieces s,bad x=false)->Kz bs w W->W.heap[D]?=some (.deferred (some []))->Q .normal { a with defers:={ target:=.collected D,args:=#[] }::a.defers } W) (hstop:∀ (D:Nat) (W:jqz),w.heap.size<=D->(∃ x∈pieces s,bad x=true)->Kr bs res w W->aF res (.int .i64 5) 29 W->W.heap[D]?=some (.deferred (some [])) -> Code.ret.wpIn Fence.wide 3 Tryz.prog Q { a with defers:={ target:=.collected D,args:=#[] }::a.defers } W) : (Code.rangeFunc g ps assign body).wpIn Fence.wide 3 Tryz.prog Q a w:=by
 refine wpIn_rangeFunc ?_;intro fn hfn;have hro:Fence.wide.round=none:=rfl;rw [hro];obtain ⟨rec,hrec⟩:∃ rec:LoopState->Option Code->Loop,rec=fun st pe=>{ state:=st,pending:=pe,fn,tmps:=a.tmps,params:=ps,assign,body,defers:=w.heap.size }:=⟨_,rfl⟩
 obtain ⟨W1,hW1⟩:∃ W1,W1=(w.alloc (.deferred (some []))).alloc (.loop (rec .ready none)):=⟨_,rfl⟩;have hL1:W1.heap[w.heap.size+1]?=some (.loop (rec .ready none)):=by rw [hW1];have:=World.alloc_heap_new (w.alloc (.deferred (some []))) (.loop (rec .ready none));rwa [jo9] at this
 have hD1:W1.heap[w.heap.size]?=some (.deferred (some [])):=by rw [hW1];exact (Below.heap_alloc _ _ _ (by simp)).trans (World.alloc_heap_new w _)
 have hb1:Below w.heap.size w W1:=by rw [hW1];exact ((jnk _ w).alloc (jnq _) _).alloc (by simp) _
 obtain ⟨J,hJ⟩:∃ J:List ByteArray->jqz->Prop,J=fun pre W=>(∀ x∈pre,bad x=false)/\Kz bs w W/\W.heap[w.heap.size+1]?=some (.loop (rec .ready none))/\W.heap[w.heap.size]?=some (.deferred (some [])):=⟨_,rfl⟩
 obtain ⟨Jx,hJx⟩:∃ Jx:List ByteArray->jqz->Prop,Jx=fun pre W=>(∃ x∈pre,bad x=true)/\Kr bs res w W/\aF res (.int .i64 5) 29 W/\W.heap[w.heap.size+1]?=some (.loop (rec .done (some .ret)))/\W.heap[w.heap.size]?=some (.deferred (some [])):=⟨_,rfl⟩
 have hend:∀ {W:jqz} {st:LoopState} {pe:Option Code},W.heap[w.heap.size+1]?=some (.loop (rec st pe))->st≠.busy->∃ o:Obj,(Instr.endLoop (w.heap.size+1)).run Tryz.prog W=.ok pe (W.putObj (w.heap.size+1) o):=by intro W st pe h hst;have:=run_endLoop (P:=Tryz.prog) h (by rw [hrec];exact hst);rw [hrec] at this;exact ⟨_,this⟩
 refine ⟨w.heap.size+1,[{ target:=.collected w.heap.size,args:=#[] }],W1,{ target:=.fn (.func 251) #[.pointer (some ⟨bs+1,0,none⟩),.pointer (some ⟨bs,0,none⟩),.pointer (some ⟨bs+2,0,none⟩)],args:=#[.func (.yield (w.heap.size+1)) #[] #[]] },W1,251,
  #[.func (.yield (w.heap.size+1)) #[] #[],.pointer (some ⟨bs+1,0,none⟩),.pointer (some ⟨bs,0,none⟩),.pointer (some ⟨bs+2,0,none⟩)],W1,?_,?_,?_,?_,fun _=>by omega,?_⟩
 ·rw [hW1,hrec];exact run_enterLoop_outer _ _ _ _ _
 ·simp only [resolve,hg];simp [go_sem]
 ·intro f' _;trivial
 ·have eg:=enters_of Tryz.func251 (by kernel_rfl) rfl;simp [invoke,go_sem,eg]
 ·refine (QW 2 (w.heap.size+1) bs s J Jx W1 hs ?_ ?_ ?_ ?_ ?_).mono ?_
  ·intro pre W u h;rw [hJ] at h ⊢;exact ⟨h.1,h.2.1.set u,(jo5 W ⟨bs,0,none⟩ u _ (by show _≠bs;omega)).trans h.2.2.1,(jo5 W ⟨bs,0,none⟩ u _ (by show _≠bs;omega)).trans h.2.2.2⟩
  ·intro pre W h;rw [hJ] at h;exact ⟨(h.2.1.block _ (by omega) (by omega)).trans B1,(h.2.1.block _ (by omega) (by omega)).trans B2⟩
  ·intro m pre x W h hx;rw [hJ] at h;obtain ⟨h1,h2,h3,h4⟩:=h;have hlt:w.heap.size+1<W.heap.size:=(Array.getElem?_eq_some_iff.1 h3).1;have hy:=run_yield (P:=Tryz.prog) (args:=#[.string x]) h3 (by rw [hrec];exact hps.symm);rw [hrec] at hy;refine ⟨fn,_,assign,body,hy,roundIn_of_wpIn hfn (hassign _ _ x W _ ?_)⟩;clear hy;refine ⟨_,run_beginRound h3 (by rw [hrec]),?_⟩;obtain ⟨W2,hW2⟩:∃ W2,W2=W.putObj (w.heap.size+1) (.loop { rec .ready none with state:=.busy }):=⟨_,rfl⟩;have hl2:W2.heap[w.heap.size+1]?=some (.loop { rec .ready none with state:=.busy }):=by rw [hW2];exact World.putObj_heap_same hlt
   have hd2:W2.heap[w.heap.size]?=some (.deferred (some [])):=by rw [hW2];exact (World.putObj_heap_other (by omega)).trans h4
   have hk2:Kz bs w W2:=by rw [hW2];exact h2.put (by omega) _
   have jj9:W2.heap[bs]?=W.heap[bs]?:=by rw [hW2];exact World.putObj_heap_other (by omega)
   have hr2:aF res (.int .i64 0) 29 W2:=(hk2.block _ (by omega) (by omega)).trans BR;have hz2:w.heap.size+1<W2.heap.size:=(Array.getElem?_eq_some_iff.1 hl2).1;rw [<- hW2];refine wpIn_mono (hbody _ _ x W2 hx hr2) ?_;rintro e a3 W3 hp;cases e with
   | normal=>
    obtain ⟨hb3,hbad⟩:=hp;have hl3:=(hb3.block _ hz2).trans hl2;have he:=run_endRound (P:=Tryz.prog) none hl3;rw [hrec] at he;refine ⟨_,_,he,.inl ⟨rfl,?_,?_⟩⟩
    ·rw [hJ];refine ⟨?_,(hk2.below hb3).put (by omega) _,?_,(World.putObj_heap_other (by omega)).trans ((hb3.block _ (by omega)).trans hd2)⟩
     ·intro y hy;rcases List.mem_append.1 hy with hy | hy
      ·exact h1 y hy
      ·rw [List.mem_singleton.1 hy];exact hbad
     ·rw [World.putObj_heap_same (Array.getElem?_eq_some_iff.1 hl3).1,hrec];rfl
    ·exact (World.putObj_heap_other (by omega)).trans ((hb3.block _ (by omega)).trans jj9)
   | ret=>
    obtain ⟨hbad,W4,hb4,rfl⟩:=hp;have hl4:(W4.setCell ⟨res,0,none⟩ (.int .i64 5)).heap[w.heap.size+1]?=some (.loop { rec .ready none with state:=.busy }):=(jo5 W4 ⟨res,0,none⟩ _ _ (by show _≠res;omega)).trans ((hb4.block _ hz2).trans hl2);have hd4:(W4.setCell ⟨res,0,none⟩ (.int .i64 5)).heap[w.heap.size]?=some (.deferred (some [])):=(jo5 W4 ⟨res,0,none⟩ _ _ (by show _≠res;omega)).trans ((hb4.block _ (by omega)).trans hd2);have hr4:aF res (.int .i64 0) 29 W4:=(hb4.block _ (by omega)).trans hr2;have he:=run_endRound (P:=Tryz.prog) (some .ret) hl4;rw [hrec] at he;refine ⟨_,_,he,.inr ⟨rfl,?_⟩⟩;rw [hJx];refine ⟨⟨x,by simp,hbad⟩,((hk2.below hb4).kr _).put (by omega) _,(World.putObj_heap_other (by omega)).trans (hr4.set _),?_,(World.putObj_heap_other (by omega)).trans hd4⟩;rw [World.putObj_heap_same (Array.getElem?_eq_some_iff.1 hl4).1,hrec];rfl
   | exit id=>exact hp.elim
   | goto t=>exact hp.elim
   | panic ch=>exact hp.elim
   | outgrown=>exact hp.elim
  ·exact (hb1.block _ (by omega)).trans B0
  ·rw [hJ];exact ⟨by simp,⟨hb1.os,hb1.tape,hb1.output,hb1.size,fun k h1 _=>hb1.block k h1⟩,hL1,hD1⟩
  ·rintro e W2 ⟨⟨v,rfl⟩,h | ⟨pre,hpre,h⟩⟩
   ·rw [hJ] at h;obtain ⟨h1,h2,h3,h4⟩:=h;obtain ⟨o,ho⟩:=hend h3 (by simp);exact ⟨none,_,ho,hdone _ _ (jnq _) h1 (h2.put (by omega) _) ((World.putObj_heap_other (by omega)).trans h4)⟩
   ·rw [hJx] at h;obtain ⟨⟨x,hx,hbad⟩,h2,h3,h4,h5⟩:=h;obtain ⟨o,ho⟩:=hend h4 (by simp);exact ⟨some .ret,_,ho,hstop _ _ (jnq _) ⟨x,hpre.subset hx,hbad⟩ (h2.put (by omega) _) ((World.putObj_heap_other (by omega)).trans h3) ((World.putObj_heap_other (by omega)).trans h5)⟩
open Go.RowKit
attribute [local go_sem] Oper.semAt_some
theorem YP {fn:Func} {R:Ending->jqz->Prop} {a:Act} {w:jqz} {v:Value} (hd:a.defers=[]) (hr:(results fn a.tmps).run Tryz.prog w=.ok v w) (h:R (.returned v) w):bodyPostM Fence.wide 3 Tryz.prog fn R .ret a w:=by show LeavesInM _ _ _ _ _ _ a.defers _ _;rw [hd];unfold LeavesInM LeavesIn;exact ⟨v,hr,h⟩
theorem QX {fn:Func} {R:Ending->jqz->Prop} {a:Act} {w:jqz} {v:Value} {D:Nat} (hd:a.defers=[{ target:=.collected D,args:=#[] }]) (hf:w.heap[D]?=some (.deferred (some []))) (hr:(results fn a.tmps).run Tryz.prog (w.putObj D (.deferred none))=.ok v (w.putObj D (.deferred none))) (h:R (.returned v) (w.putObj D (.deferred none))):bodyPostM Fence.wide 3 Tryz.prog fn R .ret a w:=by show LeavesInM _ _ _ _ _ _ a.defers _ _;rw [hd];refine ⟨by simp,.inl ⟨D,_,rfl,run_takeDeferred hf,?_⟩⟩;exact ⟨v,hr,h⟩
theorem Ae (s:ByteArray) (w:jqz):Calls Tryz.prog 223 #[.string s,.string ⟨#[10]⟩,.int .i64 0] w fun e w'=> e=.returned (.func (.func 251) #[] #[.pointer (some ⟨w.heap.size+1,0,none⟩),.pointer (some ⟨w.heap.size,0,none⟩),.pointer (some ⟨w.heap.size+2,0,none⟩)]) /\ w'=((w.alloc (.cells #[.string s] 9)).alloc (.cells #[.string ⟨#[10]⟩] 9)).alloc (.cells #[.int .i64 0] 3):=by
 have hmf:∀ (fn:Fn) (first cap:Array Value) (w:jqz),(Instr.makeFunc fn first cap).run Tryz.prog w=.ok (.func fn first cap) w:=fun _ _ _ _=>rfl
 go_enter Tryz.func223,Tryz.ntmps223;go_wp2;go_ret;exact ⟨rfl,rfl⟩
theorem DY (s:ByteArray) (w:jqz):Calls Tryz.prog 200 #[.string s,.string ⟨#[10]⟩] w fun e w'=> e=.returned (.func (.func 251) #[] #[.pointer (some ⟨w.heap.size+1,0,none⟩),.pointer (some ⟨w.heap.size,0,none⟩),.pointer (some ⟨w.heap.size+2,0,none⟩)]) /\ w'=((w.alloc (.cells #[.string s] 9)).alloc (.cells #[.string ⟨#[10]⟩] 9)).alloc (.cells #[.int .i64 0] 3):=by
 have SS:=hid (Ae s w);go_enter Tryz.func200,Tryz.ntmps200;go_wp2_with fail
 refine SS.out.mono ?_;rintro e w1 ⟨rfl,rfl⟩;go_wp2;go_ret;exact ⟨rfl,rfl⟩
theorem JD (s:ByteArray) (h:jJ s=true):(pieces s).any (fun x=>oo x.data.toList)=qE s:=by
 unfold pieces qE;have h2:s.data.toList=[]/\([]:List UInt8)=[]\/s.data.toList.getLast?=some 10:=by
  unfold jJ at h;rcases Bool.or_eq_true _ _ ▸ h with h | h
  ·left;refine ⟨?_,rfl⟩;rw [<- dF,Lib.toList_data] at h;simpa using h
  ·right;have:=(Bool.and_eq_true _ _ ▸ h).2;simpa using this
 rw [DX _ _ h2,joq,List.any_append,List.any_map];have e:((fun x:ByteArray=>oo x.data.toList) ∘ dn)=oo:=by funext l;simp [dn]
 rw [e];have e2:oo []=false:=by decide
 simp [dn,e2]
theorem FH:tO qE:=by
 intro w b o k lv i t d ti at_ li ks ac ap al ak cc cp cl' ck hP hts hsh
 have hdd:∀ k:Nat,(Fence.wide.depth.isSome=true->1<=k):=fun k h=>by cases h
 have HE:Hid (rT qE t at_=if jJ t=false then 17 else if qE t=true then 5 else at_.err):=rfl;obtain ⟨V,hV⟩:∃ V,V=rT qE t at_:=⟨_,rfl⟩
 rw [<- hV] at HE ⊢;obtain ⟨w1,hw1⟩:∃ w1,w1=w.alloc (.cells #[.int .i64 0] 29):=⟨_,rfl⟩;have b1:Below w.heap.size w w1:=by rw [hw1];exact (jnk _ _).alloc (jnq _) _
 have r1:aF w.heap.size (.int .i64 0) 29 w1:=by rw [hw1];exact aF.new _ _ _
 have P1:=hid (hP.up b1);have HR1:=hid r1;have HB1:=hid b1;have CT:=hid (fun w=>pq t w (by omega));obtain ⟨c0,c1,c2,c3,c4,c5,c6,c7,c8,c9,c10⟩:=P1.out.cells;have f1:=r1.free;have d1:=r1.cell;clear hV hP b1 r1;refine (callsIn_wide (n:=3)).1 ?_;refine callsIn_of_wp_marks Tryz.func168 rfl trivial ?_ rfl;simp only [Tryz.ntmps168,List.size_toArray,List.length_cons,List.length_nil,Nat.reduceAdd,Nat.reduceSub,Array.replicate_succ,Array.replicate_zero,List.push_toArray,List.append_toArray,jok,joj];refine wpIn_wide.2 ?_;go_upto_region 1 with (fail)
 rw [<- hw1];clear hw1;cases hbt:jJ t with
 | false=>
  have HV:Hid (V=17):=by show V=_;rw [HE.out,if_pos hbt]
  rw [hbt] at CT;clear HE hbt;go_wp2_with fail
  refine (CT.out _).mono ?_;rintro e w2 ⟨rfl,q,rfl⟩;have f2:(w1.drewN q).frozen? ⟨w.heap.size,0,none⟩=false:=f1;have d2:(w1.drewN q).cell? ⟨w.heap.size,0,none⟩=some (.int .i64 0):=d1;have oz:Hid (aF w.heap.size (.int .i64 17) 29 ((w1.drewN q).setCell ⟨w.heap.size,0,none⟩ (.int .i64 17))):=aF.set (show aF w.heap.size (.int .i64 0) 29 (w1.drewN q) from HR1.out) _;go_wp2;refine YP (v:=.int .i64 17) rfl (by simp [results,Tryz.results168,go_sem,oz.out.cell]) ⟨by rw [HV.out];rfl,(gG HB1.out q).setCell (p:=⟨w.heap.size,0,none⟩) (jnq _) _⟩
 | true=>
  have HCL:=hid (JD t hbt);have HE2:Hid (V=if qE t=true then 5 else at_.err):=by show V=_;rw [HE.out,if_neg (by rw [hbt];decide)]
  rw [hbt] at CT;clear HE hbt;go_wp2_with fail
  refine (CT.out _).mono ?_;rintro e w2 ⟨rfl,q,rfl⟩;have P2:RD (w1.drewN q) b o k lv i t d ti at_ li ks ac ap al ak cc cp cl' ck:=P1.out.up (gG (jnk _ _) q)
  have r2:aF w.heap.size (.int .i64 0) 29 (w1.drewN q):=HR1.out;have hB2:Below w.heap.size w (w1.drewN q):=gG HB1.out q;clear c0 c1 c2 c3 c4 c5 c6 c7 c8 c9 c10 f1 d1;obtain ⟨w2,hw2⟩:∃ w2,w2=w1.drewN q:=⟨_,rfl⟩;rw [<- hw2] at P2 r2 hB2;have P2:=hid P2;have R2:=hid r2;have B2:=hid hB2;obtain ⟨c0,c1,c2,c3,c4,c5,c6,c7,c8,c9,c10⟩:=P2.out.cells;rw [<- hw2];clear hw2 r2 hB2;go_wp2_with fail
  refine (DY t w2).mono ?_;rintro e w3 ⟨rfl,hw3⟩;have hb3:Below w2.heap.size w2 w3:=by rw [hw3];exact (((jnk _ _).alloc (jnq _) _).alloc (by simp) _).alloc (by simp;omega) _
  have B0:aF w2.heap.size (.string t) 9 w3:=by rw [hw3];exact ((aF.new _ _ _).alloc _).alloc _
  have B1:aF (w2.heap.size+1) (.string ⟨#[10]⟩) 9 w3:=by rw [hw3];have:=aF.new (w2.alloc (.cells #[.string t] 9)) (.string ⟨#[10]⟩) 9;rw [jo9] at this;exact this.alloc _
  have B3:aF (w2.heap.size+2) (.int .i64 0) 3 w3:=by rw [hw3];have:=aF.new ((w2.alloc (.cells #[.string t] 9)).alloc (.cells #[.string ⟨#[10]⟩] 9)) (.int .i64 0) 3;rw [jo9,jo9] at this;exact this
  have z3:w3.heap.size=w2.heap.size+3:=by rw [hw3];simp [jo9]
  have hnz:w.heap.size<w2.heap.size:=R2.out.lt;have R3:=hid (R2.out.below R2.out.lt hb3);have P3:=hid (P2.out.up hb3);have BB3:=hid (aU (w:=w) B2.out hb3);have HB3:=hid hb3;clear c0 c1 c2 c3 c4 c5 c6 c7 c8 c9 c10 hw3 hb3;go_wp2;refine wpIn_wide (n:=3) |>.1 ?_
  refine GD w2.heap.size w.heap.size t (fun x=>oo x.data.toList) (fun x=>{ tmps:=#[.pointer (some ⟨b,o,none⟩),undef,.pointer (some ⟨w.heap.size,0,none⟩),.string x,.pointer (some ⟨b,o,none⟩),.pointer (some ⟨b,o,none⟩),.pointer (some ⟨b,o+3,none⟩),.string t,.bool true,.bool false,.pointer (some ⟨b,o,none⟩),.pointer (some ⟨b,o,none⟩),.pointer (some ⟨b,o+3,none⟩),.string t,.func (.func 251) #[] #[.pointer (some ⟨w2.heap.size+1,0,none⟩),.pointer (some ⟨w2.heap.size,0,none⟩),.pointer (some ⟨w2.heap.size+2,0,none⟩)],.string x,undef,undef,undef,undef,undef,undef,undef],defers:=[] }) rfl rfl (by omega) hnz (by omega) B0 B1 B3 R3.out ?assign ?body ?done ?stop;case assign=>
   intro l m x W K hK
   gi_wp2
   exact hK
  case body=>
   intro l m x W hxs hrb;have CM:=hid (y9 x W (by omega));have hlt:=hrb.lt;have HRB:=hid hrb;cases hbad:oo x.data.toList with
   | true=>
    rw [hbad] at CM
    gi_wp2_with (first | (refine ⟨trivial,hdd _,?_⟩;gi_at_call 201;refine (CallsIn.inRound l (callsIn_wide.2 CM.out)).mono ?_;rintro e W1 ⟨rfl,hbw⟩;have hb1:=HRB.out.below hlt hbw;have f1:=hb1.free;have d1:=hb1.cell))
    exact ⟨hbad,W1,hbw,rfl⟩
   | false=>
    rw [hbad] at CM
    gi_wp2_with (first | (refine ⟨trivial,hdd _,?_⟩;gi_at_call 201;refine (CallsIn.inRound l (callsIn_wide.2 CM.out)).mono ?_;rintro e W1 ⟨rfl,hbw⟩))
    exact ⟨hbw,hbad⟩
  case stop=>
   intro D W hD hbad hkr hbx hdf;have HV:Hid (V=5):=by show V=_;rw [HE2.out,if_pos];rw [<- HCL.out];obtain ⟨x,hx,h2⟩:=hbad;exact List.any_eq_true.2 ⟨x,hx,h2⟩
   have YQ:aF w.heap.size (.int .i64 5) 29 (W.putObj D (.deferred none)):=(World.putObj_heap_other (by omega)).trans hbx
   gi_wp2
   refine QX (v:=.int .i64 5) rfl hdf (by simp [results,Tryz.results168,go_sem,YQ.cell]) ⟨by rw [HV.out];rfl,?_⟩;refine ⟨hkr.os.trans BB3.out.os,hkr.tape.trans BB3.out.tape,hkr.output.trans BB3.out.output,by rw [World.putObj_size];exact jnx BB3.out.size hkr.size,fun k2 hk2=>?_⟩;exact (World.putObj_heap_other (by omega)).trans ((hkr.block k2 (by omega) (by omega) (by omega)).trans (BB3.out.block k2 hk2))
  case done=>
   intro D W hD hgood hkz hdf;have HVc:qE t=false:=by rw [<- HCL.out,List.any_eq_false];intro x hx;simp [hgood x hx]
   have HV:Hid (V=at_.err):=by show V=_;rw [HE2.out,HVc];rfl
   have hBW:Below w2.heap.size w2 W:=⟨hkz.os.trans HB3.out.os,hkz.tape.trans HB3.out.tape,hkz.output.trans HB3.out.output,by have:=hkz.size;omega,fun k2 hk2=>(hkz.block k2 (by omega) (by omega)).trans (HB3.out.block k2 hk2)⟩;have PW:=P2.out.up hBW;have hrW:aF w.heap.size (.int .i64 0) 29 W:=(hkz.block _ (by omega) (by omega)).trans R3.out;have AC:=hid (gT at_ ac ap cc cp W PW.rd.at_ hsh);have HRW:=hid hrW;have HBW:=hid (aU (w:=w) B2.out hBW);have HDL:Hid (D<W.heap.size):=(Array.getElem?_eq_some_iff.1 hdf).1;obtain ⟨c0,c1,c2,c3,c4,c5,c6,c7,c8,c9,c10⟩:=PW.cells;clear hBW PW hrW hkz hgood HE2 HCL;go_wp2_with fail
   refine AC.out.mono ?_;rintro e W1 ⟨rfl,hb1⟩;have hrb:=HRW.out.below HRW.out.lt hb1;have f1:=hrb.free;have d1:=hrb.cell;have ZI:=hid (aU (w:=w) HBW.out hb1);have jjj:W1.heap[D]?=some (.deferred (some [])):=(hb1.block D HDL.out).trans hdf;have HRB:=hid (hrb.set (.int .i64 (at_.err:Nat)));clear c0 c1 c2 c3 c4 c5 c6 c7 c8 c9 c10 hb1 hrb;go_wp2;have jjk:(W1.setCell ⟨w.heap.size,0,none⟩ (.int .i64 (at_.err:Nat))).heap[D]?=some (.deferred (some [])):=(jo5 W1 ⟨w.heap.size,0,none⟩ _ D (by show D≠w.heap.size;omega)).trans jjj;have YQ:aF w.heap.size (.int .i64 (at_.err:Nat)) 29 ((W1.setCell ⟨w.heap.size,0,none⟩ (.int .i64 (at_.err:Nat))).putObj D (.deferred none)):=(World.putObj_heap_other (by omega)).trans HRB.out;refine QX (v:=.int .i64 (at_.err:Nat)) rfl jjk (by simp [results,Tryz.results168,go_sem,YQ.cell]) ⟨by rw [HV.out],?_⟩;have hx:=ZI.out.setCell (p:=⟨w.heap.size,0,none⟩) (jnq _) (.int .i64 (at_.err:Nat));exact ⟨hx.os,hx.tape,hx.output,by rw [World.putObj_size];exact hx.size,fun k2 hk2=>(World.putObj_heap_other (by omega)).trans (hx.block k2 hk2)⟩
open Go.RowKit
open Go.RowKit
open Go.RowKit
end Go.Proofs.YtkfnkeflalcphaaGreatDoor

