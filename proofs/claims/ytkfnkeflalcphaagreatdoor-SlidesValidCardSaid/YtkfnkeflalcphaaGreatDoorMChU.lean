/- Contracts of attr.Check; of tree.label. The contract of strings.ContainsAny at a set of two to eight ASCII bytes and whatever text. Contracts of tree.address, checkCites, checkNamed, checkLink. Contracts of tree.checkCites, checkNamed, checkLink. Contracts of tree.checkNamed, checkLink. The contract of tree.checkLink. The contract of tree.checkInline. The contract of tree.checkInlines and Line: the first error of inlines. Contracts of tree.Line, checkUnbroken, checkHead, checkTable. Contracts of tree.checkTable, checkBlock. The contract of tree.checkBlock; of a formula's check it asks the contract. -/
import Derived.Test.YtkfnkeflalcphaaGreatDoorMRfE
import Derived.Maps.OwnIn
import Derived.Shelf.Strings.SlTrimAscii
set_option maxHeartbeats 8000000
set_option maxRecDepth 100000
open Go.Lib (hid)
namespace Go.Proofs.YtkfnkeflalcphaaGreatDoor
open Tryz
open List renaming getElem?_eq_getElem->jK6,length_cons->jKz,mem_of_getElem?->jL4
open Go.RowKit.Below renaming refl->jK7
open Nat renaming le_refl->jK8,zero_le->jL3
open Bool renaming eq_iff_iff->jKk
open Go renaming World->jN9
open Go.RowKit renaming Below->jNj
open Go.RowKit
set_option linter.unusedVariables false
set_option linter.unusedSimpArgs false
theorem Ec (s:ByteArray) (f i:Nat) (h:i<s.size) (hf:s.size<=i+f):dD s f i=Utf8.decode s i::dD s (f-1) (i+(Utf8.decode s i).2):=by obtain ⟨f',rfl⟩:∃ f',f=f'+1:=⟨f-1,by omega⟩;rw [dD,if_pos h];rfl
def xw (s:ByteArray) (V:Bool) (w:jN9) (w0:jN9) (k:Nat) (wr:jN9):Prop:=
  ∃ pos f:Nat,pos<=s.size/\s.size<=pos+f/\wr.heap[k]?=some (.stringIter s pos)/\(dD s f pos).all kL=V/\jNj w.heap.size w wr/\w.heap.size<=k
theorem xw.alloc {s:ByteArray} {V:Bool} {w w0:jN9} {k:Nat} {wr:jN9} (h:xw s V w w0 k wr) (o:Obj):xw s V w w0 k (wr.alloc o):=by obtain ⟨pos,f,h1,h2,h3,h4,h5,h6⟩:=h;exact ⟨pos,f,h1,h2,(Below.heap_alloc _ _ _ (Array.getElem?_eq_some_iff.1 h3).1).trans h3,h4,h5.alloc h5.size _,h6⟩
theorem xw.Df {s:ByteArray} {V:Bool} {w w0:jN9} {k:Nat} {wr:jN9} (h:xw s V w w0 k wr):wr.iterPos k<=s.size/\wr.heap[k]?=some (.stringIter s (wr.iterPos k)):=by
  obtain ⟨pos,f,h1,h2,h3,h4,h5,h6⟩:=h;have hpos:wr.iterPos k=pos:=by simp only [World.iterPos,h3]
  rw [hpos];exact ⟨h1,h3⟩
theorem T9 (d:Nat):([32,45,95,46,58]:List Int).contains (d:Int)=([32,45,95,46,58]:List Nat).contains d:=by rw [jKk];simp;omega
theorem xA{P:Prop}(h:P:=by
 go_wp2;go_ret;exact ⟨rfl,Below.refl _ _⟩):P:=h
theorem jd7{P:Prop}(h:P:=by
 unfold vF;rw [OH,decide_eq_true (show 1<=s.size by omega),decide_eq_true (show s.size<=60 by omega)];simp):P:=h
theorem Ed (s:ByteArray) (w:jN9) (hs:s.size<=1000000000) : Calls prog 171 #[.string s] w (dF (.bool (vF s)) w):=by
  rcases fq s with rfl | ⟨hne,hp,hie,hes⟩
  ·have hv:vF ByteArray.empty=false:=by unfold vF;simp
   rw [hv];go_enter func171,ntmps171;exact xA
  by_cases h60:60<s.size
  ·have hv:vF s=false:=by unfold vF;simp;omega
   rw [hv];have q1:decide ((60:Int)<(s.size:Int))=true:=by simp;omega
   clear hv;go_enter func171,ntmps171;exact xA
  have q1:decide ((60:Int)<(s.size:Int))=false:=by simp;omega
  have FO:=hid (Mc s w hs);by_cases OH:nU s=s;case neg=>
    have hv:vF s=false:=by unfold vF;simp [OH]
    rw [hv];have hb1:=F8 OH;have hb2:=OI OH;generalize nU s=fs at *;clear hv OH;go_enter func171,ntmps171;go_wp2_with fail
    refine FO.out.mono ?_;rintro e w1 ⟨rfl,hb⟩;go_wp2;go_ret;exact ⟨rfl,hb⟩
  rw [OH] at FO;have hv:vF s=(pts s).all kL:=by exact jd7
  rw [hv];obtain ⟨V,hV⟩:∃ V,(pts s).all kL=V:=⟨_,rfl⟩;rw [hV];have HV:=hid hV;have hb1:(s.toList != s.toList)=false:=by simp
  clear hv OH hV;go_enter func171,ntmps171;go_wp2_with fail
  refine FO.out.mono ?_;rintro e w1 ⟨rfl,hb⟩;have R0:Hid (xw s V w w1 w1.heap.size (w1.iter s 0)):=⟨0,s.size,jL3 _,by omega,World.iter_heap w1 s 0,HV.out,hb.alloc hb.size _,hb.size⟩;have HB:=hid hb;clear hb;go_wp2
  go_loopw [] (fun wr=>xw s V w w1 w1.heap.size wr) (fun wr=>s.size-wr.iterPos w1.heap.size)
  case atStart=>exact R0.out
  case round=>
    clear R0;obtain ⟨pos,f,hps,hf,hit,hall,hbel,hk⟩:=hrel;have hpos:wr.iterPos w1.heap.size=pos:=by simp only [World.iterPos,hit]
    by_cases hlt:pos<s.size
    ·have hnx:∀ ty,(Instr.next (.pointer (some ⟨w1.heap.size,0,none⟩)) true ty).run prog wr=_:=fun ty=>Lib.run_next_any_at wr w1.heap.size s pos ty hit hlt
     have hd:=Lib.rune_le s pos;have hwd:=iU s pos;have hle:=pF s pos hlt;have hst:=Ec s f pos hlt hf;have HI2:Hid (kL (Utf8.decode s pos)=true->xw s V w w1 w1.heap.size (wr.iterAt w1.heap.size s (pos+(Utf8.decode s pos).2))):=by intro hl;refine ⟨pos+(Utf8.decode s pos).2,f-1,hle,by omega,Lib.iterAt_heap wr _ s pos _ hit,?_,Lib.below_iterAt hbel hk s _,hk⟩;rw [<- hall,hst,List.all_cons,hl];rfl
     have HVF:Hid (kL (Utf8.decode s pos)=false->V=false):=by intro hl;rw [<- hall,hst,List.all_cons,hl];rfl
     have HB2:Hid (jNj w.heap.size w (wr.iterAt w1.heap.size s (pos+(Utf8.decode s pos).2))):=Lib.below_iterAt hbel hk s _;have hip:(wr.iterAt w1.heap.size s (pos+(Utf8.decode s pos).2)).iterPos w1.heap.size=pos+(Utf8.decode s pos).2:=by have:=Lib.iterAt_heap wr w1.heap.size s pos (pos+(Utf8.decode s pos).2) hit;simp only [World.iterPos,this]
     clear hst hall hbel hit;have jq5:=hid hpos;clear hpos;generalize Utf8.decode s pos=d at *;obtain ⟨d1,d2⟩:=d;simp only at hd hwd hle hnx HI2 HVF HB2 hip;have hwr:wrap64 (d1:Int)=d1:=IntWalk.wrap64_in _ ⟨by omega,by omega⟩;have CL:=hid (fun w=>F9 d1 w hd);have CD:=hid (fun w=>Iw d1 w hd);have OO:=hid (fun wx:jN9=>lJ (d1:Int) [32,45,95,46,58] wx.heap.size 5 _ (by simp) (jd8 wx 3 32 45 95 46 58));simp only [jKz,List.length_nil,Nat.reduceAdd,T9] at OO;have HLP:Hid (kL (d1,d2)=(iV d1||Ga d1||([32,45,95,46,58]:List Nat).contains d1)):=rfl;generalize ([32,45,95,46,58]:List Nat).contains d1=bo at *;generalize iV d1=bl at *;generalize Ga d1=bd at *;obtain ⟨wi,hwi⟩:∃ wi,wi=wr.iterAt w1.heap.size s (pos+d2):=⟨_,rfl⟩;rw [<- hwi] at hnx HI2 HB2 hip;have HIP:=hid hip;clear hwi hip;cases bl with
     | true=>
       have HG:=hid (HI2.out (by rw [HLP.out];rfl));clear HI2 HVF;go_wp2_with (go_at_call 205;refine (CL.out _).mono ?_;rintro e w2 ⟨rfl,rfl⟩)
       go_roundw;case rel=>exact HG.out
       case measure=>rw [HIP.out,jq5.out];omega
     | false=>
       cases bd with
       | true=>
         have HG:=hid (HI2.out (by rw [HLP.out];rfl));clear HI2 HVF;go_wp2_with (first | (go_at_call 205;refine (CL.out _).mono ?_;rintro e w2 ⟨rfl,rfl⟩) | (go_at_call 206;refine (CD.out _).mono ?_;rintro e w2 ⟨rfl,rfl⟩))
         go_roundw;case rel=>exact HG.out
         case measure=>rw [HIP.out,jq5.out];omega
       | false=>
         cases bo with
         | true=>
           have HG:=hid (HI2.out (by rw [HLP.out];rfl));clear HI2 HVF;go_wp2_with (first | (go_at_call 205;refine (CL.out _).mono ?_;rintro e w2 ⟨rfl,rfl⟩) | (go_at_call 206;refine (CD.out _).mono ?_;rintro e w2 ⟨rfl,rfl⟩) | (go_at_call 161;refine (OO.out _).mono ?_;rintro e w2 ⟨rfl,rfl⟩))
           go_roundw;case rel=>exact HG.out.alloc _
           case measure=>
             have h1:=(HG.out.alloc (.cells #[.int .i64 32,.int .i64 45,.int .i64 95,.int .i64 46,.int .i64 58] 3)).Df;have h2:=HG.out.Df;have h3:=(Below.heap_alloc wi (.cells #[.int .i64 32,.int .i64 45,.int .i64 95,.int .i64 46,.int .i64 58] 3) w1.heap.size (Array.getElem?_eq_some_iff.1 h2.2).1);rw [h1.2,h2.2] at h3;have h4:=HIP.out;have h5:=jq5.out;have h6:World.iterPos (wi.alloc (.cells #[.int .i64 32,.int .i64 45,.int .i64 95,.int .i64 46,.int .i64 58] 3)) w1.heap.size=wi.iterPos w1.heap.size:=by injection h3 with h3;injection h3
             rw [h6,h4,h5];omega
         | false=>
           have HE:=hid (HVF.out (by rw [HLP.out];rfl));clear HI2 HVF;go_wp2_with (first | (go_at_call 205;refine (CL.out _).mono ?_;rintro e w2 ⟨rfl,rfl⟩) | (go_at_call 206;refine (CD.out _).mono ?_;rintro e w2 ⟨rfl,rfl⟩) | (go_at_call 161;refine (OO.out _).mono ?_;rintro e w2 ⟨rfl,rfl⟩))
           go_ret;exact ⟨by rw [HE.out];rfl,HB2.out.alloc HB2.out.size _⟩
    ·have hnx:∀ ty,(Instr.next (.pointer (some ⟨w1.heap.size,0,none⟩)) true ty).run prog wr=_:=fun ty=>Lib.run_next_end_at wr w1.heap.size s pos ty hit hlt
     have HE:Hid (V=true):=by show V=true;rw [<- hall,jR s f pos hlt];rfl
     have sK:=hid hbel;clear hall hbel hit hpos;go_wp2;go_ret;exact ⟨by rw [HE.out];rfl,sK.out⟩
open Go.RowKit
theorem Iy (s:ByteArray):∀ (r p c d:Nat),lu s r p c=some d->∀ j,j<r->128<=bt s (p+j)
  | 0,p,c,d,_,j,hj=>by omega
  | r+1,p,c,d,h,j,hj=>by
    rw [lu] at h;split at h
    ·rename_i hc
     cases j with
     | zero=>exact hc.2.1
     | succ j=>
       have:=Iy s r (p+1) _ d h j (by omega);rw [show p+(j+1)=p+1+j by omega];exact this
    ·cases h
theorem jd9{P:Prop}(h:P:=by
 split at hd
 ·split at hd
  ·injection hd with hd
   split at hl
   ·omega
   ·split at hl<;>omega
  ·cases hd
 ·cases hd):P:=h
theorem Ee (s:ByteArray) (i:Nat) (hi:i<s.size):(bt s i<128/\Utf8.decode s i=(bt s i,1))\/(128<=(Utf8.decode s i).1/\∀ j,j<(Utf8.decode s i).2->128<=bt s (i+j)):=by
  by_cases c1:bt s i<128
  ·exact .inl ⟨c1,yL s i c1⟩
  have bad:Utf8.decode s i=(65533,1)->128<=(Utf8.decode s i).1/\∀ j,j<(Utf8.decode s i).2->128<=bt s (i+j):=by
    intro h;rw [h];refine ⟨by decide,fun j hj=>?_⟩;have:j=0:=by simp at hj;exact hj
    subst this;exact Nat.le_of_not_lt c1
  have good:∀ n c,1<=n->Utf8.decode s i=QL s i n (lu s (n-1) (i+1) c)->(∀ d,lu s (n-1) (i+1) c=some d->128<=d)->128<=(Utf8.decode s i).1/\∀ j,j<(Utf8.decode s i).2->128<=bt s (i+j):=by
    intro n c hn h hd;cases hg:lu s (n-1) (i+1) c with
    | none=>rw [hg] at h;exact bad h
    | some d=>
      rw [hg] at h;rw [h];refine ⟨hd d hg,fun j hj=>?_⟩;cases j with
      | zero=>exact Nat.le_of_not_lt c1
      | succ j=>
        have hj:j+1<n:=hj;have:=Iy s (n-1) (i+1) c d hg j (by omega);rw [show i+(j+1)=i+1+j by omega];exact this
  refine .inr ?_;by_cases c2:bt s i<194\/244<bt s i
  ·exact bad (yM s i (by omega) c2)
  by_cases c3:bt s i<=223
  ·refine good 2 _ (by omega) (Iz s i hi (by omega) c3) (fun d hd=>?_);have h:=(yN s i hi (by omega) c3);rw [show 2-1=1 from rfl,lu,lu] at hd;split at hd
   ·injection hd with hd;omega
   ·cases hd
  by_cases c4:bt s i<=239
  ·obtain ⟨d1,d2⟩:=IE s i hi (by omega) c4;by_cases hs:i+1<s.size/\jD (bt s i)<=bt s (i+1)/\bt s (i+1)<=kE (bt s i)
   ·refine good 3 _ (by omega) (d2 hs.2.1 hs.2.2) (fun d hd=>?_);have hl:=hs.2.1;unfold jD at hl;rw [show 3-1=2 from rfl,lu,lu,lu,show i+1+1=i+2 from rfl] at hd;exact jd9
   ·exact bad (d1 (.inl hs))
  ·obtain ⟨d1,d2⟩:=IG s i hi (by omega) (by omega);by_cases hs:i+1<s.size/\jD (bt s i)<=bt s (i+1)/\bt s (i+1)<=kE (bt s i)
   ·refine good 4 _ (by omega) (d2 hs.2.1 hs.2.2) (fun d hd=>?_);have hl:=hs.2.1;unfold jD at hl;rw [show 4-1=3 from rfl,lu,lu,lu,lu,show i+1+1=i+2 from rfl,show i+2+1=i+3 from rfl] at hd;split at hd
    ·exact jd9
    ·cases hd
   ·exact bad (d1 (.inl hs))
theorem zD (bs:List UInt8):∀ l:List UInt8,decide (0<=Lib.indexAny l bs)=l.any fun c=>bs.contains c
  | []=>rfl
  | b::l=>by
    have ih:=zD bs l;have hge:=Lib.indexAny_ge bs l;rw [Lib.indexAny,List.any_cons,<- ih];cases hb:bs.contains b with
    | true=>simp
    | false=>
      simp only [Bool.false_eq_true,if_false,Bool.false_or];by_cases h2:Lib.indexAny l bs=-1
      ·simp [h2]
      ·have h3:(Lib.indexAny l bs==-1)=false:=by simpa using h2
       simp only [h3,Bool.false_eq_true,if_false];rw [jKk];simp;omega
def jq6 (v:Value) (w:jN9) (e:Ending) (w':jN9):Prop:=e=.returned v/\jNj w.heap.size w w'
def qP (cs:ByteArray):Prop:=2<=cs.size/\cs.size<=8/\∀ j,j<cs.size->bt cs j<128
def nW (cs:ByteArray) (w:jN9) (k:Nat) (wr:jN9):Prop:=∃ pos:Nat,pos<=cs.size/\wr.heap[k]?=some (.stringIter cs pos)/\jNj w.heap.size w wr/\w.heap.size<=k
theorem nW.Df {cs:ByteArray} {w:jN9} {k:Nat} {wr:jN9} (h:nW cs w k wr):wr.iterPos k<=cs.size/\wr.heap[k]?=some (.stringIter cs (wr.iterPos k)):=by
  obtain ⟨pos,h1,h3,h5,h6⟩:=h;have hpos:wr.iterPos k=pos:=by simp only [World.iterPos,h3]
  rw [hpos];exact ⟨h1,h3⟩
theorem nW.next {cs:ByteArray} {w:jN9} {k:Nat} {wr:jN9} (h:nW cs w k wr) (p:Nat) (hp:p<=cs.size):nW cs w k (wr.iterAt k cs p)/\(wr.iterAt k cs p).iterPos k=p:=by obtain ⟨pos,h1,h3,h5,h6⟩:=h;have hh:=Lib.iterAt_heap wr k cs pos p h3;exact ⟨⟨p,hp,hh,Lib.below_iterAt h5 h6 cs p,h6⟩,by simp only [World.iterPos,hh]⟩
theorem nW.up {cs:ByteArray} {w:jN9} {k:Nat} {wr w':jN9} (h:nW cs w k wr) (hb:jNj wr.heap.size wr w'):nW cs w k w'/\w'.iterPos k=wr.iterPos k:=by obtain ⟨pos,h1,h3,h5,h6⟩:=h;have hh:w'.heap[k]?=some (.stringIter cs pos):=(hb.block k (Array.getElem?_eq_some_iff.1 h3).1).trans h3;exact ⟨⟨pos,h1,hh,q01 h5 hb,h6⟩,by simp only [World.iterPos,hh,h3]⟩
theorem Di (cs:ByteArray) (w:jN9) (hcs:qP cs) : Calls prog 271 #[.string cs,.int .i32 65533] w (jq6 (.int .i64 (-1)) w):=by
  obtain ⟨k2,k8,hasc⟩:=hcs;have HA:=hid hasc;have R0:Hid (nW cs w w.heap.size (w.iter cs 0)):=⟨0,jL3 _,World.iter_heap w cs 0,(jK7 _ _).alloc (jK8 _) _,jK8 _⟩;clear hasc;go_enter func271,ntmps271;go_wp2
  go_loopw [] (fun wr=>nW cs w w.heap.size wr) (fun wr=>cs.size-wr.iterPos w.heap.size)
  case atStart=>exact R0.out
  case round=>
    clear R0;obtain ⟨hps,hit⟩:=hrel.Df;obtain ⟨pos,hpe⟩:∃ pos,wr.iterPos w.heap.size=pos:=⟨_,rfl⟩;rw [hpe] at hps hit;have HPE:=hid hpe;clear hpe;have HR:=hid hrel;by_cases hlt:pos<cs.size
    ·have hnx:∀ ty,(Instr.next (.pointer (some ⟨w.heap.size,0,none⟩)) true ty).run prog wr=_:=fun ty=>Lib.run_next_any_at wr w.heap.size cs pos ty hit hlt
     have hb:=HA.out pos hlt;rw [yL cs pos hb] at hnx;dsimp only at hnx;obtain ⟨r1,r2⟩:=hrel.next (pos+1) (by omega)
     generalize bt cs pos=b at *;have hwr:wrap64 (b:Int)=b:=IntWalk.wrap64_in _ ⟨by omega,by omega⟩;have hne:((b:Int)==65533)=false:=by rw [beq_eq_false_iff_ne];omega
     have R1:=hid r1;have R2:=hid r2;clear hit hrel r1 r2;go_wp2;go_roundw;case rel=>exact R1.out
     case measure=>rw [R2.out,HPE.out];omega
    ·have hnx:∀ ty,(Instr.next (.pointer (some ⟨w.heap.size,0,none⟩)) true ty).run prog wr=_:=fun ty=>Lib.run_next_end_at wr w.heap.size cs pos ty hit hlt
     have HB:=hid hrel.choose_spec.2.2.1;clear hit hrel;go_wp2;go_ret;exact ⟨rfl,HB.out⟩
theorem vG {cs:ByteArray} (h:∀ j,j<cs.size->bt cs j<128):∀ x∈cs.data.toList,x.toNat<128:=by
  intro x hx;obtain ⟨j,hj⟩:=List.mem_iff_getElem?.1 hx;have hlt:j<cs.size:=by have:=(List.getElem?_eq_some_iff.1 hj).1;simpa using this
  rw [CY cs j hlt] at hj;obtain rfl:=Option.some.inj hj;rw [jE cs j hlt];exact h j hlt
theorem Ze (cs:ByteArray) (m lb:Nat) (h:∀ j,j<cs.size->bt cs j<128) (hl:128<=lb) (hb:lb<256):Lib.indexByte (cs.extract (m+1) cs.size).data.toList ((lb:Int)).toNat.toUInt8<0:=by
  have:=pG (cs.extract (m+1) cs.size).data.toList ((lb:Int)).toNat.toUInt8;have h2:((cs.extract (m+1) cs.size).data.toList.all fun x=>!decide (x=((lb:Int)).toNat.toUInt8))=true:=by
    rw [List.all_eq_true];intro x hx;have hx:x∈cs.data.toList:=by rw [ByteArray.data_extract,Array.toList_extract] at hx;exact List.mem_of_mem_drop (List.mem_of_mem_take hx)
    have h3:=vG h x hx;simp;rintro rfl;have:(lb.toUInt8).toNat=lb%256:=rfl;simp at h3;omega
  rw [h2] at this;simpa using this
theorem jwq {P:Program} {f:FuncId} {args:Array Value} {w:jN9} {a n:Nat} {v:Value} (h:Calls P f args (w.drewN (a+n)) fun e w'=>e=.returned v/\w'=w.drewN (a+n)) : Calls P f args (w.drewN (a+n)) fun e w''=>e=.returned v/\∃ m,w''=w.drewN (a+m):=h.mono fun _ _ ⟨he,hm⟩=>⟨he,n,hm⟩
def jdj (m:Nat) (w:jN9) (vi:Value) (wr:jN9):Prop:=vi=.int .i64 (m:Int)/\∃ q,wr=w.drewN q
theorem Gb (cs:ByteArray) (c:Nat) (w:jN9) (hcs:qP cs) (h1:128<=c) (h2:c<=1114111) (hne:c≠65533) : Calls prog 271 #[.string cs,.int .i32 (c:Int)] w (jq6 (.int .i64 (-1)) w):=by
  obtain ⟨k2,k8,hasc⟩:=hcs;have HA:=hid hasc;have hne:((c:Int)==65533)=false:=by rw [beq_eq_false_iff_ne];omega
  have VR:=hid (fun w=>Tryz.utf8_ValidRune (c:Int) w);clear hasc;go_enter func271,ntmps271;go_wp2_with fail
  refine (VR.out _).mono ?_;rintro e w1 ⟨rfl,rfl⟩;cases hv:Lib.validRune (c:Int)
  ·exact xA
  ·have HV:=hid hv;clear hv;go_wp2
   go_step3
   have hv:=HV.out;have hval:Utf8.valid (c:Int)=true:=by unfold Lib.validRune at hv;unfold Utf8.valid;simp at hv ⊢;omega
   obtain ⟨n2,n4,hlast⟩:=encode_facts (c:Int) hval (by omega);obtain ⟨rs,hrs⟩:∃ rs,Utf8.encode (c:Int)=rs:=⟨_,rfl⟩;rw [hrs] at n2 n4 hlast;obtain ⟨m,hm⟩:∃ m,rs.size=m+1:=⟨rs.size-1,by omega⟩;have hl0:=hlast (by omega);have jD9:m<rs.size:=by omega
   have hle:rs[m].toNat=bt rs m:=jE rs m jD9;have hl:128<=bt rs m:=by
     rw [<- hle];have e:rs.size-1=m:=by omega
     simp only [e] at hl0;exact hl0
   have m1:1<=m:=by omega
   have m3:m<=3:=by omega
   have hlb:=gu rs m;generalize bt rs m=lb at *;have HIO:=hid (Ze cs m lb HA.out hl hlb);clear hl0 hv hlast hval;have R0:Hid (jdj m w1 (.int .i64 (m:Int)) w1):=⟨rfl,0,rfl⟩;go_wp2
   go_loopw [9] (fun i wr=>jdj m w1 i wr) (fun _ _=>0)
   case atStart=>exact R0.out
   case round=>
     clear R0;obtain ⟨rfl,q,rfl⟩:=hrel;by_cases hlt:m<cs.size
     ·have hcl:=HA.out _ hlt;have hce:=jE cs _ hlt;generalize bt cs m=cb at *;have hne2:((cb:Int) != (lb:Int))=true:=by rw [bne_iff_ne];omega
      go_wp2
      go_step3
      go_wp2_with fail
      go_quiet (fail)
      go_wp2_with fail
      go_quiet ((go_at_call 147;exact jwq (Tryz.strings_IndexByte _ _ _)))
      have hio:=HIO.out;generalize Lib.indexByte (cs.extract (m+1) cs.size).data.toList ((lb:Int)).toNat.toUInt8=io at *;go_wp2;rw [Exit.noGoto_ret];go_ret;exact ⟨rfl,gQ (jK7 _ _) _⟩
     ·go_wp2;rw [Exit.noGoto_ret];go_ret;exact ⟨rfl,gQ (jK7 _ _) q⟩
theorem Me {α:Type} (l:List α) (k:Nat) (x:α) (h:l[k]?=some x):l.drop k=x::l.drop (k+1):=by obtain ⟨hlt,rfl⟩:=List.getElem?_eq_some_iff.1 h;exact List.drop_eq_getElem_cons hlt
theorem Ua {cs:ByteArray} (h:∀ j,j<cs.size->bt cs j<128) (x:UInt8) (hx:128<=x.toNat):cs.data.toList.contains x=false:=by rw [Bool.eq_false_iff];intro h2;have:=vG h x (by simpa using h2);omega
theorem II (s:ByteArray) (p:UInt8->Bool) (i:Nat) (h:i<s.size):(s.data.toList.drop i).any p=(p s[i]||(s.data.toList.drop (i+1)).any p):=by rw [Me _ i s[i] (CY s i h),List.any_cons]
theorem IJ (s:ByteArray) (p:UInt8->Bool):∀ (d i:Nat),i+d<=s.size->(∀ j,j<d->∀ (hj:i+j<s.size),p (s[i+j]'hj)=false)->(s.data.toList.drop i).any p=(s.data.toList.drop (i+d)).any p
  | 0,i,_,_=>rfl
  | d+1,i,hd,h=>by
    have h0:=h 0 (by omega) (by omega);rw [II s p i (by omega)];rw [show p s[i]=false from h0,Bool.false_or,IJ s p d (i+1) (by omega) (fun j hj hlt=>?_)]
    ·rw [show i+1+d=i+(d+1) by omega]
    ·have:=h (j+1) (by omega) (by omega);simpa [Nat.add_assoc,Nat.add_comm 1 j] using this
theorem OJ (x:UInt8):∀ l:List UInt8,l.contains x=!(l.all fun y=>!decide (y=x))
  | []=>rfl
  | y::l=>by
    rw [List.contains_cons,List.all_cons,OJ x l];by_cases h:y=x
    ·simp [h]
    ·have h2:(x==y)=false:=by simpa using fun e=>h e.symm
     simp [h,h2]
def jdk (s cs:ByteArray) (V:Bool) (w:jN9) (k:Nat) (wr:jN9):Prop:=nW s w k wr/\((s.data.toList.drop (wr.iterPos k)).any fun c=>cs.data.toList.contains c)=V
def OM (V:Bool) (w:jN9) (e:Ending) (w':jN9):Prop:=∃ n:Int,e=.returned (.int .i64 n)/\decide (0<=n)=V/\jNj w.heap.size w w'
theorem jdq{P:Prop}(h:P:=by
 go_wp2_with fail
 refine (IR.out _).mono ?_;rintro e w2 ⟨rfl,hb2⟩;have R3:=hid (R1.out.up hb2);clear hb2 hnx;go_wp2;go_roundw;case rel=>exact ⟨R3.out.1,by rw [R3.out.2,R2.out];exact HV.out⟩
 case measure=>rw [R3.out.2,R2.out,HPE.out];omega):P:=h
theorem zF (s cs:ByteArray) (w:jN9) (hs:s.size<=8) (hcs:qP cs) : Calls prog 250 #[.string s,.string cs] w (OM (nI s cs.data.toList) w):=by
  have LB:=hid hcs;obtain ⟨k2,k8,hasc⟩:=hcs;have HA:=hid hasc;rcases fq cs with rfl | ⟨hne,hp,hie,hes⟩
  ·simp at k2
  have SU:=hid (fun w=>Tryz.strings_shouldUseASCIISet (s.size:Int) w);have hn1:((cs.size:Int)==1)=false:=by rw [beq_eq_false_iff_ne];omega
  have q8:decide ((8:Int)<(s.size:Int))=false:=by simp;omega
  obtain ⟨V,hV⟩:∃ V,nI s cs.data.toList=V:=⟨_,rfl⟩;rw [hV];have R0:Hid (jdk s cs V w w.heap.size (w.iter s 0)):=by
    have hh:=World.iter_heap w s 0;refine ⟨⟨0,jL3 _,hh,(jK7 _ _).alloc (jK8 _) _,jK8 _⟩,?_⟩;have:(w.iter s 0).iterPos w.heap.size=0:=by simp only [World.iterPos,hh]
    rw [this];exact hV
  clear hasc hV hes;go_enter func250,ntmps250;go_wp2_with fail
  refine (SU.out _).mono ?_;rintro e w1 ⟨rfl,rfl⟩;go_wp2
  go_loopw [] (fun wr=>jdk s cs V w1 w1.heap.size wr) (fun wr=>s.size-wr.iterPos w1.heap.size)
  case atStart=>exact R0.out
  case round=>
    clear R0;obtain ⟨QM,hany⟩:=hrel;obtain ⟨hps,hit⟩:=QM.Df;obtain ⟨pos,hpe⟩:∃ pos,wr.iterPos w1.heap.size=pos:=⟨_,rfl⟩;rw [hpe] at hps hit hany;have HPE:=hid hpe;clear hpe;by_cases hlt:pos<s.size
    ·have hnx:∀ ty,(Instr.next (.pointer (some ⟨w1.heap.size,0,none⟩)) true ty).run prog wr=_:=fun ty=>Lib.run_next_any_at wr w1.heap.size s pos ty hit hlt
     have hle:=pF s pos hlt;have hd:=Lib.rune_le s pos;have hwd:=iU s pos;obtain ⟨r1,r2⟩:=QM.next (pos+(Utf8.decode s pos).2) hle
     have R1:=hid r1;have R2:=hid r2;rcases Ee s pos hlt with ⟨hb,hdec⟩ | ⟨hd8,hbs⟩
     ·rw [hdec] at hnx R1 R2;dsimp only at hnx R1 R2;have hstep:=II s (fun c=>cs.data.toList.contains c) pos hlt;have hbx:s[pos].toNat=bt s pos:=jE s pos hlt;have hx8:((bt s pos:Int)).toNat.toUInt8=s[pos]:=by
        rw [<- hbx];simp
      have IR:=hid (fun w=>Tryz.strings_IndexRune_ascii cs (bt s pos:Int) w (by omega) (by omega));rw [hx8] at IR;have hin:=pG cs.data.toList s[pos];have HC:Hid (cs.data.toList.contains s[pos]=!decide (Lib.indexByte cs.data.toList s[pos]<0)):=by show _=_;rw [hin];exact OJ s[pos] cs.data.toList
      have hge:=Lib.indexByte_ge cs.data.toList s[pos];have HST:=hid hstep;have jwx:=hid hany;clear QM hit hstep hx8 hin r1 r2 hany hd hwd hle;generalize Lib.indexByte cs.data.toList s[pos]=ix at *;clear hbx;generalize bt s pos=b at *;have hwr:wrap64 (b:Int)=b:=IntWalk.wrap64_in _ ⟨by omega,by omega⟩;by_cases hix:0<=ix
      ·have HV:Hid (V=true):=by
         show V=true;rw [<- jwx.out,HST.out,HC.out];have:decide (ix<0)=false:=by simp;omega
         rw [this];rfl
       go_wp2_with fail
       refine (IR.out _).mono ?_;rintro e w2 ⟨rfl,hw2⟩;subst hw2;go_wp2;go_ret;refine ⟨_,rfl,?_,?_⟩
       ·rw [HV.out];simp
       ·obtain ⟨_,_,_,hbl,_⟩:=R1.out;exact hbl
      ·have HV:Hid (((s.data.toList.drop (pos+1)).any fun c=>cs.data.toList.contains c)=V):=by
         show _=V;rw [<- jwx.out,HST.out,HC.out];have:decide (ix<0)=true:=by simp;omega
         rw [this];rfl
       go_wp2_with fail
       refine (IR.out _).mono ?_;rintro e w2 ⟨rfl,hw2⟩;subst hw2;go_wp2;go_roundw;case rel=>exact ⟨R1.out,by rw [R2.out];exact HV.out⟩
       case measure=>rw [R2.out,HPE.out];omega
     ·have jdx:=IJ s (fun c=>cs.data.toList.contains c) (Utf8.decode s pos).2 pos hle (fun j hj hlt2=>Ua HA.out _ (by rw [jE s (pos+j) hlt2];exact hbs j hj));have HV:Hid (((s.data.toList.drop (pos+(Utf8.decode s pos).2)).any fun c=>cs.data.toList.contains c)=V):=by
        show _=V;rw [<- jdx];exact hany
      clear QM hit jdx r1 r2 hany hbs;generalize Utf8.decode s pos=d at *;obtain ⟨d1,d2⟩:=d;simp only at hnx R1 R2 HV hle hd hwd hd8;have hwr:wrap64 (d1:Int)=d1:=IntWalk.wrap64_in _ ⟨by omega,by omega⟩;by_cases h65:d1=65533
      ·subst h65;have IR:=hid (fun w=>Di cs w LB.out);obtain ⟨wi,hwi⟩:∃ wi,wi=wr.iterAt w1.heap.size s (pos+d2):=⟨_,rfl⟩;rw [<- hwi] at hnx R1 R2;clear hwi;exact jdq
      ·have IR:=hid (fun w=>Gb cs d1 w LB.out hd8 hd h65);obtain ⟨wi,hwi⟩:∃ wi,wi=wr.iterAt w1.heap.size s (pos+d2):=⟨_,rfl⟩;rw [<- hwi] at hnx R1 R2;clear hwi h65;exact jdq
    ·have hnx:∀ ty,(Instr.next (.pointer (some ⟨w1.heap.size,0,none⟩)) true ty).run prog wr=_:=fun ty=>Lib.run_next_end_at wr w1.heap.size s pos ty hit hlt
     have HV:Hid (V=false):=by show V=false;rw [<- hany,List.drop_of_length_le (by simp;omega)];rfl
     have HB:Hid (jNj w1.heap.size w1 wr):=by obtain ⟨_,_,_,hbl,_⟩:=QM;exact hbl
     clear hit QM hany;go_wp2;go_ret;exact ⟨_,rfl,by rw [HV.out];simp,HB.out⟩
theorem Mf (s:ByteArray) (bs:List UInt8):decide (0<=Lib.indexAny s.data.toList bs)=nI s bs:=zD bs _
theorem q30 (s cs:ByteArray) (w:jN9) (hs:s.size<=1000000000) (hcs:qP cs) : Calls prog 222 #[.string s,.string cs] w (jq6 (.bool (nI s cs.data.toList)) w):=by
  have IA:Calls prog 250 #[.string s,.string cs] w (OM (nI s cs.data.toList) w):=by
    by_cases h8:s.size<=8
    ·exact zF s cs w h8 hcs
    ·obtain ⟨k2,k8,hasc⟩:=hcs;have h116:(prog.info? 206).map (fun i=>(i.zero,i.size))=some (some (.agg (Array.replicate 256 (.bool false))),256):=by kernel_rfl
     have hz:=(zero_of_info h116).1;refine (Tryz.strings_IndexAny_long hz s cs w k2 (by omega) (by omega) (by omega) (fun j b hb=>vG hasc b (jL4 hb))).mono ?_;rintro e w' ⟨rfl,rfl⟩;exact ⟨_,rfl,Mf _ _,((jK7 _ _).alloc (jK8 _) _).alloc (by simp) _⟩
  have HI:=hid IA;clear IA;generalize nI s cs.data.toList=V at *;go_enter func222,ntmps222;go_wp2_with fail
  refine HI.out.mono ?_;rintro e w2 ⟨n,rfl,hv,hb⟩;have HV:=hid hv;clear hv;go_wp2;all_goals
    go_ret;refine ⟨?_,hb⟩;rw [<- HV.out];rfl
open Go.RowKit
def jwz (s:ByteArray) (vi:Value):Prop:=∃ k:Nat,k<=s.size/\vi=.int .i64 k/\∀ j x,j<k->s.data.toList[j]?=some x->dW x.toNat=true
theorem QN (b:Nat):(97<=b/\b<=122)\/(65<=b/\b<=90)\/b<65\/(91<=b/\b<=96)\/122<b:=by omega
theorem jDj:qP ⟨#[32,60,62]⟩:=⟨by decide,by decide,by decide⟩
theorem jDk:qP ⟨#[124,123,125]⟩:=⟨by decide,by decide,by decide⟩
theorem jx0:qP ⟨#[91,93,59,64,123,36,96]⟩:=⟨by decide,by decide,by decide⟩
theorem get_bt (s:ByteArray) (k:Nat) (c:UInt8):decide (s.data.toList[k]?=some c)=(decide (k<s.size)&&decide (bt s k=c.toNat)):=by
  by_cases h:k<s.size
  ·rw [CY s k h,<- jE s k h,jKk];simp [h,UInt8.toNat_inj]
  ·have:s.data.toList[k]?=none:=by rw [List.getElem?_eq_none_iff];simp;omega
   rw [this];simp [h]
theorem Ub{P:Prop}(h:P:=by
 have HRK:Hid (V=(decide (2<=k)&&decide (k<=20)&&(decide (k<s.size)&&decide (b=58))&&L&&!A)):=by show _=_;rw [HA.out,HN.out (by unfold dW j6;simp;omega),HBE.out]
 have q58:((b:Int)==58)=decide (b=58):=by rw [Bool.eq_iff_iff];simp;omega
 obtain ⟨b5,jx1⟩:∃ b5,decide (b=58)=b5:=⟨_,rfl⟩;rw [jx1] at q58 HRK;clear jx1;go_wp2_with (first | (go_at_call 93;refine (CL.out _).mono ?_;rintro e w2 ⟨rfl,q,rfl⟩) | (go_at_call 222;refine (CA.out _).mono ?_;rintro e w2 ⟨rfl,hb2⟩))
 all_goals
   go_ret;refine ⟨vB ?_,?_⟩
   ·rw [HRK.out,decide_eq_true hlt]
    (try simp [*])
    (try omega)
   ·first | exact (gQ (Below.refl _ _) _).trans hb2 | exact gQ (Below.refl _ _) _ | exact Below.refl _ _):P:=h
theorem jdz{P:Prop}(h:P:=by
 go_wp2
 go_round
 case rel=>exact ⟨k+1,by omega,by go_num,HL.out (by unfold dW j6;simp;omega)⟩
 case measure=>simp [intOf];omega):P:=h
theorem Uc{P Q:Prop}(q:Q)(h:Nonempty Q->P:=by
 intro qQ;have d0:decide ((97:Int)<=(b:Int))=false:=by simp;omega
 have d1:decide ((b:Int)<=122)=true:=by simp;omega
 revert d0 d1;exact qQ.elim fun x=>x):P:=h ⟨q⟩
theorem Ud{P Q:Prop}(q:Q)(h:Nonempty Q->P:=by
 intro qQ;have d2:decide ((65:Int)<=(b:Int))=true:=by simp;omega
 have d3:decide ((b:Int)<=90)=false:=by simp;omega
 revert d2 d3;exact qQ.elim fun x=>x):P:=h ⟨q⟩
theorem IQ (s:ByteArray) (w:World) (hs:s.size<=1000000000) : Calls prog 198 #[.string s] w (dF (.bool (jS s)) w):=by
  have CL:=hid (fun w=>Ue s w hs);have CA:=hid (fun w=>q30 s ⟨#[32,60,62]⟩ w hs jDj);have HA:Hid (jS s=(decide (2<=gy s)&&decide (gy s<=20)&&(decide (gy s<s.size)&&decide (bt s (gy s)=58))&&cZ s&&!nI s [32,60,62])):=by show _=_;unfold jS;rw [get_bt];rfl
  obtain ⟨V,hV⟩:∃ V,V=jS s:=⟨_,rfl⟩;rw [<- hV] at HA ⊢;clear hV;have HR:∀ k,k<=s.size->(∀ j x,j<k->s.data.toList[j]?=some x->dW x.toNat=true)->(∀ x,s.data.toList[k]?=some x->dW x.toNat=false)->gy s=k:=fun k hk h1 h2=>
    qR (fun c=>dW c.toNat) _ k (by simpa using hk) h1 h2
  have HR:=hid HR;have e2:(⟨#[32,60,62]⟩:ByteArray).data.toList=[32,60,62]:=rfl;rw [e2] at CA;clear e2;generalize cZ s=L at *;generalize nI s [32,60,62]=A at *;generalize gy s=r at *;go_enter func198,ntmps198;go_wp2
  go_loop [3] (fun i=>jwz s i) (fun i=>s.size-(intOf i).toNat)
  case atStart=>exact ⟨0,Nat.zero_le _,rfl,fun j x hj=>by omega⟩
  case round=>
    obtain ⟨k,hk,rfl,hall⟩:=hrel;have Gc:=hid hall;clear hall;by_cases hlt:k<s.size
    ·have hb:=gu s k;have e0:=jE s k hlt;have HG:=hid (CY s k hlt);have HB:=hid e0;obtain ⟨b,hbe⟩:∃ b,bt s k=b:=⟨_,rfl⟩;rw [hbe] at e0 hb HB;have HBE:=hid hbe;clear hbe;have hl:dW b=true->∀ j x,j<k+1->s.data.toList[j]?=some x->dW x.toNat=true:=by
       intro hl j x hj hx;rcases Nat.lt_or_ge j k with h | h
       ·exact Gc.out j x h hx
       ·have:j=k:=by omega
        subst this;rw [HG.out] at hx;obtain rfl:=Option.some.inj hx;rw [HB.out];exact hl
     have hn:dW b=false->r=k:=by intro hl;refine HR.out k hk Gc.out (fun x hx=>?_);rw [HG.out] at hx;obtain rfl:=Option.some.inj hx;rw [HB.out];exact hl
     have HL:=hid hl;have HN:=hid hn;clear hl hn;rcases QN b with ⟨h1,h2⟩ | ⟨h1,h2⟩ | h1 | ⟨h1,h2⟩ | h1
     ·have d0:decide ((97:Int)<=(b:Int))=true:=by simp;omega
      have d1:decide ((b:Int)<=122)=true:=by simp;omega
      refine Ud ?_;intro d2 d3;exact jdz
     ·refine Uc ?_;intro d0 d1;have d2:decide ((65:Int)<=(b:Int))=true:=by simp;omega
      have d3:decide ((b:Int)<=90)=true:=by simp;omega
      exact jdz
     ·refine Uc ?_;intro d0 d1;have d2:decide ((65:Int)<=(b:Int))=false:=by simp;omega
      have d3:decide ((b:Int)<=90)=true:=by simp;omega
      exact Ub
     ·refine Uc ?_;intro d0 d1;refine Ud ?_;intro d2 d3;exact Ub
     ·have d0:decide ((97:Int)<=(b:Int))=true:=by simp;omega
      have d1:decide ((b:Int)<=122)=false:=by simp;omega
      refine Ud ?_;intro d2 d3;exact Ub
    ·have HRK:Hid (V=false):=by
       show _=_;rw [HA.out,HR.out k hk Gc.out (fun x hx=>by
         have:=(List.getElem?_eq_some_iff.1 hx).1;have e:s.data.toList.length=s.size:=by simp
         omega)]
       simp [hlt]
     have q:decide ((k:Int)<(s.size:Int))=false:=by simp;omega
     go_wp2;all_goals
       go_ret;refine ⟨vB ?_,Below.refl _ _⟩;rw [HRK.out]
       (try simp)
       (try omega)
open Go.RowKit
def zG:List UInt8:=[91,93,59,64,123,36,96]
theorem Ef (s:ByteArray):iw s=(!cZ s||!trimS s||nI s zG):=rfl
def jDq (pre suf:ByteArray) (wi:World) (vj:Value) (wj:World):Prop:=Below wi.heap.size wi wj/\(vj=.int .i64 0\/(vj=.int .i64 1/\iw pre=false)\/(vj=.int .i64 2/\iw pre=false/\iw suf=false))
def je0 (l:List Ci) (E:Nat) (w:World) (vi:Value) (wr:World):Prop:=∃ k:Nat,k<=l.length/\vi=.int .i64 k/\Below w.heap.size w wr/\eU (l.drop k)=E
theorem zH (l:List Ci) (a:Option Addr) (cap:Nat) (w:World) (h:Rd (·<w.heap.size) w (Mg l) [.slice a l.length cap]) (hsz:∀ c∈l,c.key.size<=5000/\c.pre.size<=5000/\c.suf.size<=5000) : Calls prog 197 #[.slice a l.length cap] w (dF (.int .i64 (Uf l:Nat)) w):=by
  obtain ⟨a',c',hv,hs⟩:=Rd.aB h;obtain ⟨rfl,rfl⟩:a'=a/\c'=cap:=by simp at hv;exact ⟨hv.1.symm,hv.2.symm⟩
  have hcap:l.length<=c':=by simpa using hs.le
  have hmx:=hs.max;unfold maxLen at hmx;have HS:=hid hs;have SZ:=hid hsz;clear hs hv h hsz;by_cases h0:l.length=0
  ·have hv:Uf l=8:=by
     obtain rfl:=List.eq_nil_of_length_eq_zero h0;rfl
   rw [hv];have e0:((l.length:Int)==0)=true:=by rw [h0];rfl
   clear hv h0;go_enter func197,ntmps197;exact xA
  have hv:Uf l=eU l:=by
    cases l with
    | nil=>simp at h0
    | cons x l=>rfl
  rw [hv];have e0:((l.length:Int)==0)=false:=by rw [beq_eq_false_iff_ne];omega
  obtain ⟨E,hE⟩:∃ E,eU l=E:=⟨_,rfl⟩;rw [hE];have R0:Hid (je0 l E w (.int .i64 0) w):=⟨0,Nat.zero_le _,rfl,Below.refl _ _,hE⟩;clear hv hE h0;go_enter func197,ntmps197;go_wp2
  go_loopw [12] (fun i wr=>je0 l E w i wr) (fun i _=>l.length-(intOf i).toNat)
  case atStart=>exact R0.out
  case round=>
    clear R0;obtain ⟨k,hk,rfl,hbel,aX⟩:=hrel;have HB:=hid hbel;by_cases hlt:k<l.length
    ·obtain ⟨x,hx⟩:∃ x,l[k]?=some x:=⟨_,List.getElem?_eq_getElem hlt⟩;have hxs:=SZ.out x (List.mem_of_getElem? hx);obtain ⟨b,off,rfl,-,-,c0,c1,c2,c3⟩:=Mh HS.out hx;have c0:wr.cell? ⟨b,off+k*4,none⟩=some (.string x.key):=by rw [hbel.cell (p:=⟨b,off+k*4,none⟩) (nX c0)];exact c0
     have c1:wr.cell? ⟨b,off+k*4+1,none⟩=some (.string x.pre):=by rw [hbel.cell (p:=⟨b,off+k*4+1,none⟩) (nX c1)];exact c1
     have c2:wr.cell? ⟨b,off+k*4+2,none⟩=some (.string x.suf):=by rw [hbel.cell (p:=⟨b,off+k*4+2,none⟩) (nX c2)];exact c2
     have c3:wr.cell? ⟨b,off+k*4+3,none⟩=some (.bool x.bare):=by rw [hbel.cell (p:=⟨b,off+k*4+3,none⟩) (nX c3)];exact c3
     rw [IU l k x hx,eU] at aX;obtain ⟨key,pre,suf,bare⟩:=x;dsimp only at c0 c1 c2 c3 hxs aX;have bS:=hid aX;have CN:=hid (fun w=>Tm key w (by omega));clear aX hx hbel;cases hn:dQ key with
     | false=>
       rw [hn] at CN;have HE:Hid (E=6):=by show E=6;have:=bS.out;rw [if_pos hn] at this;exact this.symm
       clear hn;go_wp2_with fail
       refine (CN.out _).mono ?_;rintro e w3 ⟨rfl,rfl⟩;go_wp2;go_ret;exact ⟨by rw [HE.out];rfl,HB.out.alloc HB.out.size _⟩
     | true=>
       rw [hn] at CN;have fu:Hid ((if iw pre=true\/iw suf=true then 17 else eU (l.drop (k+1)))=E):=by show _=_;have:=bS.out;rw [if_neg (by rw [hn];decide)] at this;exact this
       obtain ⟨wi,hwi⟩:∃ wi,wi=wr.alloc (.cells #[.string key,.string pre,.string suf,.bool bare] 121):=⟨_,rfl⟩;have HBI:Hid (Below w.heap.size w wi):=by rw [hwi];exact HB.out.alloc HB.out.size _
       have i0:wi.cell? ⟨wr.heap.size,0,none⟩=some (.string key):=by rw [hwi];exact IV wr [.string key,.string pre,.string suf,.bool bare] _ 0 _ rfl
       have i1:wi.cell? ⟨wr.heap.size,1,none⟩=some (.string pre):=by rw [hwi];exact IV wr [.string key,.string pre,.string suf,.bool bare] _ 1 _ rfl
       have i2:wi.cell? ⟨wr.heap.size,2,none⟩=some (.string suf):=by rw [hwi];exact IV wr [.string key,.string pre,.string suf,.bool bare] _ 2 _ rfl
       clear hn bS;go_upto_region 6 with (fail)
       rw [<- hwi];clear hwi c0 c1 c2 c3;have jI8:∀ wx,(Instr.index 200 (.agg #[.string pre,.string suf]) (.int .i64 0)).run prog wx=.ok (.string pre) wx:=fun wx=>by kernel_rfl
       have jI9:∀ wx,(Instr.index 200 (.agg #[.string pre,.string suf]) (.int .i64 1)).run prog wx=.ok (.string suf) wx:=fun wx=>by kernel_rfl
       go_wp2_with fail
       refine (CN.out _).mono ?_;rintro e w3 ⟨rfl,rfl⟩;go_wp2
       go_loopw [25] (fun j wj=>jDq pre suf wi j wj) (fun j _=>2-(intOf j).toNat)
       case atStart=>exact ⟨Below.refl _ _,.inl rfl⟩
       case round=>
         clear i0 i1 i2;obtain ⟨hbj,hj⟩:=hrel;have HBJ:=hid hbj;rcases hj with rfl | ⟨rfl,hp⟩ | ⟨rfl,hp,hsf⟩
         ·have CL:=hid (fun w=>Ue pre w (by omega));have CT:=hid (fun w=>jF pre w (by omega));have CA:=hid (fun w=>q30 pre ⟨#[91,93,59,64,123,36,96]⟩ w (by omega) jx0);have e7:(⟨#[91,93,59,64,123,36,96]⟩:ByteArray).data.toList=zG:=rfl;rw [e7] at CA;have mD:=hid (Ef pre);clear e7 hbj;cases hL:cZ pre<;>cases hT:trimS pre<;>cases hA:nI pre zG
          all_goals
            rw [hL,hT,hA] at mD;rw [hL] at CL;rw [hT] at CT;rw [hA] at CA;clear hL hT hA;go_wp2_with (first | (go_at_call 93;refine (CL.out _).mono ?_;rintro e w2 ⟨rfl,q,rfl⟩) | (go_at_call 94;refine (CT.out _).mono ?_;rintro e w2 ⟨rfl,rfl⟩) | (go_at_call 222;refine (CA.out _).mono ?_;rintro e w2 ⟨rfl,hb2⟩))
            first
            | (go_ret
               have HE:E=17:=by have:=fu.out;rw [if_pos (.inl (by rw [mD.out];rfl))] at this;exact this.symm
               refine ⟨by rw [HE];rfl,q01 (q01 HBI.out HBJ.out) ?_⟩;first | exact (gQ (Below.refl _ _) _).trans hb2 | exact gQ (Below.refl _ _) _)
            | (go_roundw
               case rel=>exact ⟨q01 HBJ.out ((gQ (Below.refl _ _) _).trans hb2),.inr (.inl ⟨by go_num,by rw [mD.out];rfl⟩)⟩
               case measure=>simp [intOf])
         ·have CL:=hid (fun w=>Ue suf w (by omega));have CT:=hid (fun w=>jF suf w (by omega));have CA:=hid (fun w=>q30 suf ⟨#[91,93,59,64,123,36,96]⟩ w (by omega) jx0);have e7:(⟨#[91,93,59,64,123,36,96]⟩:ByteArray).data.toList=zG:=rfl;rw [e7] at CA;have mD:=hid (Ef suf);have HP:=hid hp;clear e7 hbj hp;cases hL:cZ suf<;>cases hT:trimS suf<;>cases hA:nI suf zG
          all_goals
            rw [hL,hT,hA] at mD;rw [hL] at CL;rw [hT] at CT;rw [hA] at CA;clear hL hT hA;go_wp2_with (first | (go_at_call 93;refine (CL.out _).mono ?_;rintro e w2 ⟨rfl,q,rfl⟩) | (go_at_call 94;refine (CT.out _).mono ?_;rintro e w2 ⟨rfl,rfl⟩) | (go_at_call 222;refine (CA.out _).mono ?_;rintro e w2 ⟨rfl,hb2⟩))
            first
            | (go_ret
               have HE:E=17:=by have:=fu.out;rw [if_pos (.inr (by rw [mD.out];rfl))] at this;exact this.symm
               refine ⟨by rw [HE];rfl,q01 (q01 HBI.out HBJ.out) ?_⟩;first | exact (gQ (Below.refl _ _) _).trans hb2 | exact gQ (Below.refl _ _) _)
            | (go_roundw
               case rel=>exact ⟨q01 HBJ.out ((gQ (Below.refl _ _) _).trans hb2),.inr (.inr ⟨by go_num,HP.out,by rw [mD.out];rfl⟩)⟩
               case measure=>simp [intOf])
         ·have HN:Hid (eU (l.drop (k+1))=E):=by
            show _=_;have:=fu.out;rw [if_neg (by rw [hp,hsf];simp)] at this;exact this
          clear hp hsf hbj;go_wp2;go_roundw;case rel=>exact ⟨k+1,by omega,by go_num,q01 HBI.out HBJ.out,HN.out⟩
          case measure=>simp [intOf];omega
    ·obtain rfl:k=l.length:=by omega
     have HE:Hid (E=0):=by show E=0;rw [List.drop_length,eU] at aX;exact aX.symm
     clear aX;exact jy
open Go.RowKit
def Ug:List UInt8:=[124,123,125]
theorem QO (s:ByteArray):q2z s=(!cZ s||nI s Ug):=rfl
def NmR (l:List ByteArray) (w:World) (vi:Value) (wr:World):Prop:=∃ k:Nat,k<=l.length/\vi=.int .i64 k/\Below w.heap.size w wr/\(l.take k).any q2z=false
structure InS (t d ti:ByteArray) (a:At) (ar:List ByteArray) (ci:List Ci):Prop where
  t:t.size<=1000000
  d:d.size<=1000000
  ti:ti.size<=1000000
  at_:a.short
  ars:∀ c∈ar,c.size<=5000
  cis:∀ c∈ci,c.key.size<=5000/\c.pre.size<=5000/\c.suf.size<=5000
theorem zI {α:Type} (p:α->Bool) {l:List α} {k:Nat} {x:α} (h:l[k]?=some x):(l.take (k+1)).any p=((l.take k).any p||p x):=by rw [List.take_add_one,h];simp
theorem Mi {α:Type} (p:α->Bool) {l:List α} {k:Nat} {x:α} (h:l[k]?=some x) (hp:p x=true):l.any p=true:=List.any_eq_true.2 ⟨x,List.mem_of_getElem? h,hp⟩
theorem nY{P:Prop}(h:P:=by
 go_wp2;go_ret;exact ⟨by rw [HV.out];rfl,Below.refl _ _⟩):P:=h
theorem zJ (w:jN9) (b o:Nat) (k:Int) (t d ti:ByteArray) (at_:At) (ar:List ByteArray) (ci:List Ci) (ks:List aj) (ac ap aa ai ak:Option Addr) (cc cp ca gD ck:Nat) (h:InP w b o k t d ti at_ ar ci ks ac ap aa ai ak cc cp ca gD ck) (hs:InS t d ti at_ ar ci) (hk:k=12\/k=14\/k=15) (har:k=15\/ar=[]) : Calls prog 196 #[.pointer (some ⟨b,o,none⟩)] w (dF (.int .i64 (Tn k t ti ar:Nat)) w):=by
  obtain ⟨a',c',hv,hsl⟩:=Rd.aB h.rd.args;obtain ⟨rfl,rfl⟩:a'=aa/\c'=ca:=by simp at hv;exact ⟨hv.1.symm,hv.2.symm⟩
  have hcap:ar.length<=c':=by simpa using hsl.le
  have hmx:=hsl.max;unfold maxLen at hmx;have HS:=hid hsl;have SZ:=hid hs.ars;have NT:=hid (fun w=>Tm t w (by have:=hs.t;omega));obtain ⟨c0,c1,c2,c3,c4,c5,c6,c7,c8,c9⟩:=h.cells;have R0:Hid (NmR ar w (.int .i64 0) w):=⟨0,jL3 _,rfl,jK7 _ _,by simp⟩;clear hv hsl h hs;have HE:Hid (Tn k t ti ar=if dQ t=false then 6 else if k=14/\aV ti=false/\ti.data.toList≠nZ then 5 else if 8<ar.length then 3 else if ar.any q2z then 17 else 0):=rfl;obtain ⟨V,hV⟩:∃ V,V=Tn k t ti ar:=⟨_,rfl⟩;rw [<- hV] at HE ⊢;clear hV;cases hn:dQ t with
  | false=>
    rw [hn] at NT;have HV:Hid (V=6):=by show V=6;rw [HE.out,if_pos hn]
    clear hn;go_enter func196,ntmps196;go_wp2_with fail
    refine (NT.out _).mono ?_;rintro e w3 ⟨rfl,rfl⟩;exact nY
  | true=>
  rw [hn] at NT;have HE2:Hid (V=if k=14/\aV ti=false/\ti.data.toList≠nZ then 5 else if 8<ar.length then 3 else if ar.any q2z then 17 else 0):=by show V=_;rw [HE.out,if_neg (by rw [hn];decide)]
  clear hn HE;rcases hk with rfl | rfl | rfl
  case' inl=>
    have h0:ar=[]:=by rcases har with h | h;(exact absurd h (by decide));exact h
    have hl0:ar.length<=8:=by rw [h0];simp
    have HL:Hid (V=if ar.any q2z then 17 else 0):=by show V=_;rw [HE2.out,if_neg (by rintro ⟨h,-⟩;exact absurd h (by decide)),if_neg (by omega)]
    clear har h0 HE2
  case' inr.inl=>
    have h0:ar=[]:=by rcases har with h | h;(exact absurd h (by decide));exact h
    have hl0:ar.length<=8:=by rw [h0];simp
    clear har h0;rcases fq ti with rfl | ⟨t1,t2,t3,t4⟩
    case' inl=>
      have HL:Hid (V=if ar.any q2z then 17 else 0):=by show V=_;rw [HE2.out,if_neg (by rintro ⟨-,h,-⟩;exact absurd h (by decide)),if_neg (by omega)]
      clear HE2
    case' inr=>
      have hpg:(ti.toList==[112,97,103,101])=decide (ti.data.toList=nZ):=by rw [Lib.toList_data,jKk,beq_iff_eq,decide_eq_true_iff];rfl
      by_cases hp:ti.data.toList=nZ;case neg=>
        have HV:Hid (V=5):=by show V=_;rw [HE2.out,if_pos ⟨rfl,t4,hp⟩]
        rw [decide_eq_false hp] at hpg;clear HE2 hp;go_enter func196,ntmps196;go_wp2_with fail
        refine (NT.out _).mono ?_;rintro e w3 ⟨rfl,rfl⟩;exact nY
      have HL:Hid (V=if ar.any q2z then 17 else 0):=by show V=_;rw [HE2.out,if_neg (by rintro ⟨-,-,h⟩;exact h hp),if_neg (by omega)]
      rw [decide_eq_true hp] at hpg;clear HE2 hp
  case' inr.inr=>
    clear har;by_cases h8:8<ar.length
    ·have HV:Hid (V=3):=by show V=_;rw [HE2.out,if_neg (by rintro ⟨h,-⟩;exact absurd h (by decide)),if_pos h8]
     have q8:decide ((8:Int)<(ar.length:Int))=true:=by simp;omega
     clear HE2;go_enter func196,ntmps196;go_wp2_with fail
     refine (NT.out _).mono ?_;rintro e w3 ⟨rfl,rfl⟩;exact nY
    have HL:Hid (V=if ar.any q2z then 17 else 0):=by show V=_;rw [HE2.out,if_neg (by rintro ⟨h,-⟩;exact absurd h (by decide)),if_neg h8]
    have q8:decide ((8:Int)<(ar.length:Int))=false:=by simp;omega
    clear HE2
  all_goals
    go_enter func196,ntmps196;go_wp2_with fail
    refine (NT.out _).mono ?_;rintro e w3 ⟨rfl,rfl⟩;go_wp2
    go_loopw [48] (fun i wr=>NmR ar w i wr) (fun i _=>ar.length-(intOf i).toNat)
    case atStart=>exact R0.out
    case round=>
      clear R0;obtain ⟨j,hj,rfl,hbel,hno⟩:=hrel;have HB:=hid hbel;have Ib:=hid hno;by_cases hlt:j<ar.length
      ·obtain ⟨x,hx⟩:∃ x,ar[j]?=some x:=⟨_,jK6 hlt⟩;have hxs:=SZ.out x (jL4 hx);obtain ⟨b2,off,rfl,-,-,x0⟩:=kM HS.out hx;have x0:wr.cell? ⟨b2,off+j,none⟩=some (.string x):=by rw [hbel.cell (p:=⟨b2,off+j,none⟩) (nX x0)];exact x0
       have CL:=hid (fun w=>Ue x w (by omega));have CA:=hid (fun w=>q30 x ⟨#[124,123,125]⟩ w (by omega) jDk);have e7:(⟨#[124,123,125]⟩:ByteArray).data.toList=Ug:=rfl;rw [e7] at CA;have mD:=hid (QO x);have kg:=hid (zI q2z hx);have HAT:=hid (Mi q2z hx);clear e7 hbel hno hx;cases hL:cZ x<;>cases hA:nI x Ug
       all_goals
         rw [hL,hA] at mD;rw [hL] at CL;rw [hA] at CA;clear hL hA;go_wp2_with (first | (go_at_call 93;refine (CL.out _).mono ?_;rintro e w2 ⟨rfl,q,rfl⟩) | (go_at_call 222;refine (CA.out _).mono ?_;rintro e w2 ⟨rfl,hb2⟩))
         first
         | (go_ret
            have hv:V=17:=by rw [HL.out,if_pos (HAT.out (by rw [mD.out];rfl))]
            refine ⟨by rw [hv];rfl,q01 HB.out ?_⟩;first | exact (gQ (jK7 _ _) _).trans hb2 | exact gQ (jK7 _ _) _)
         | (go_roundw
            case rel=>exact ⟨j+1,by omega,by go_num,q01 HB.out ((gQ (jK7 _ _) _).trans hb2),by rw [kg.out,Ib.out,mD.out];rfl⟩
            case measure=>simp [intOf];omega)
      ·have hv:V=0:=by
         have:=Ib.out;rw [List.take_of_length_le (by omega)] at this;rw [HL.out,if_neg (by rw [this];decide)]
       have HV:=hid hv;clear hv hno hbel;go_wp2;go_ret;exact ⟨by rw [HV.out];rfl,HB.out⟩
open Go.RowKit
theorem je1{P:Prop}(h:P:=by
 (try simp only [Bool.not_eq_true',Bool.not_eq_false'] at *)
 rw [HE.out,HD.out,HT.out,HTI.out,hT,hD,hTI];simp [*]):P:=h
theorem Dj (w:jN9) (b o:Nat) (k:Int) (t d ti:ByteArray) (at_:At) (ar:List ByteArray) (ci:List Ci) (ks:List aj) (ac ap aa ai ak:Option Addr) (cc cp ca gD ck:Nat) (h:InP w b o k t d ti at_ ar ci ks ac ap aa ai ak cc cp ca gD ck) (hs:InS t d ti at_ ar ci) (hk:k=9\/k=10) : Calls prog 195 #[.pointer (some ⟨b,o,none⟩)] w (dF (.int .i64 (Tq k t d ti at_ ks:Nat)) w):=by
  have HP:=hid h;obtain ⟨s1,s2,s3,s4,-,-⟩:=hs;have LT:=hid (fun w=>Ed t w (by omega));have CD:=hid (fun w=>Ue d w (by omega));have CT:=hid (fun w=>Ue ti w (by omega));have AC:=hid (fun wx (hb:jNj w.heap.size w wx)=>iy at_ ac ap cc cp wx (h.rd.at_.up hb) s4);have AK:=hid (fun wx q (hb:jNj w.heap.size w wx)=>xB _ ks _ _ [9,16,12,14,13] wx.heap.size 5 ((wx.alloc (.cells #[.int .i64 9,.int .i64 16,.int .i64 12,.int .i64 14,.int .i64 13] 3)).drewN q) (jK8 _)
    ((h.rd.kids.up hb).up (gQ ((jK7 _ _).alloc (jK8 _) _) q)) (by simp) (jd8 wx 3 9 16 12 14 13))
  simp only [jKz,List.length_nil,Nat.reduceAdd] at AK;obtain ⟨c0,c1,c2,c3,c4,c5,c6,c7,c8,c9⟩:=h.cells;have HE:Hid (Tq k t d ti at_ ks=if aV t=false/\(aV d=false\/aV ti=false) then 5
  else if aV t=false/\vF t=false then 6
  else if cZ d=false\/cZ ti=false then 17
  else if k=9/\aj.cO dh ks=true then 5
  else if k=10 then at_.err else 0):=rfl
  have hrk:aj.cO [9,16,12,14,13] ks=aj.cO dh ks:=rfl;rw [hrk] at AK;obtain ⟨V,hV⟩:∃ V,V=Tq k t d ti at_ ks:=⟨_,rfl⟩
  rw [<- hV] at HE ⊢;have HD:=hid (pI d).symm;have HT:=hid (pI t).symm;have HTI:=hid (pI ti).symm;generalize vF t=L at *;generalize cZ d=L1 at *;generalize cZ ti=L2 at *;generalize aj.cO dh ks=K at *;generalize at_.err=E at *
  clear hV h hrk s1 s2 s3 s4;cases hT:t.toList.isEmpty<;>cases hD:d.toList.isEmpty<;>cases hTI:ti.toList.isEmpty<;>rcases hk with rfl | rfl
  all_goals
    go_enter func195,ntmps195;go_wp2_with (first | (go_at_call 171;refine (LT.out _).mono ?_;rintro e w2 ⟨rfl,hb1⟩;obtain ⟨p0,p1,p2,p3,p4,p5,p6,p7,p8,p9⟩:=(HP.out.up hb1).cells) | (go_at_call 93;(with_reducible refine (CD.out _).mono ?_);rintro e w2 ⟨rfl,q,rfl⟩) | (go_at_call 93;(with_reducible refine (CT.out _).mono ?_);rintro e w2 ⟨rfl,q2,rfl⟩) | (go_at_call 95;refine (AC.out _ (by first | exact gQ hb1 _ | exact gQ (jK7 _ _) _)).mono ?_;rintro e w2 ⟨rfl,hb3⟩) | (go_at_call 203;refine (AK.out _ _ (by first | exact hb1 | exact jK7 _ _)).mono ?_;rintro e w2 ⟨rfl,rfl⟩))
    all_goals
      go_ret;refine ⟨Mj ?_,?_⟩
      ·exact je1
      ·first
       | exact q01 (gQ hb1 _) hb3 | exact q01 (gQ (jK7 _ _) _) hb3
       | exact gQ (hb1.alloc hb1.size _) _ | exact gQ ((jK7 _ _).alloc (jK8 _) _) _
       | exact gQ hb1 _ | exact gQ (jK7 _ _) _ | exact hb1 | exact jK7 _ _
open Go.RowKit
theorem zK {k:Int} {t d ti:ByteArray} {a:At} {ar:List ByteArray} {ci:List Ci} {ks:List aj} (h:zL k t d ti a ar ci ks=true):1<=k/\k<=16/\(k=15\/ar=[]):=by
  unfold zL at h;simp only [Bool.and_eq_true,Bool.or_eq_true,decide_eq_true_eq] at h;obtain ⟨⟨⟨⟨⟨⟨⟨⟨h1,h2⟩,-⟩,-⟩,-⟩,-⟩,-⟩,h8⟩,-⟩:=h;refine ⟨h1,h2,?_⟩;rcases h8 with h | h
  ·exact .inl h
  ·exact .inr (by simpa using h)
theorem je2{P:Prop}(h:P:=by
 (try simp only [Bool.not_eq_true',Bool.not_eq_false',beq_iff_eq,beq_eq_false_iff_ne,ne_eq] at *)
 rw [HE.out,HT.out];simp [*]):P:=h
theorem yu (w:jN9) (b o:Nat) (k bf:Int) (t d ti:ByteArray) (at_:At) (ar:List ByteArray) (ci:List Ci) (ks:List aj) (ac ap aa ai ak:Option Addr) (cc cp ca gD ck:Nat) (h:InP w b o k t d ti at_ ar ci ks ac ap aa ai ak cc cp ca gD ck) (hs:InS t d ti at_ ar ci) (hf:zL k t d ti at_ ar ci ks=true) : Calls prog 162 #[.pointer (some ⟨b,o,none⟩),.int .i64 bf] w (dF (.int .i64 (og bf false false k t d ti at_ ar ci ks:Nat)) w):=by
  have HP:=hid h;obtain ⟨f1,f2,f3⟩:=zK hf;have l1:=(sS h.rd.at_.cls).2;have l2:=(sS h.rd.at_.aD).2;obtain ⟨-,l5,m5⟩:=sS h.rd.kids;have AE:=hid (fun w=>qU at_ ac ap cc cp w (by omega) (by omega));unfold maxLen at m5;clear l1 l2;have CL:=hid (fun w=>Ue t w (by have:=hs.t;omega));have AC:=hid (fun wx (hb:jNj w.heap.size w wx)=>iy at_ ac ap cc cp wx (h.rd.at_.up hb) hs.at_);have LK:=hid (Dj w b o k t d ti at_ ar ci ks ac ap aa ai ak cc cp ca gD ck h hs);have NM:=hid (fun hk=>zJ w b o k t d ti at_ ar ci ks ac ap aa ai ak cc cp ca gD ck h hs hk f3);have CC:=hid (zH ci ai gD w h.rd.dH hs.cis);have AD:=hid (IQ d w (by have:=hs.d;omega));have OO:=hid (lJ bf [2,3] w.heap.size 2 _ (by simp) (Uh w 3 2 3));simp only [jKz,List.length_nil,Nat.reduceAdd] at OO;have hoo:([2,3]:List Int).contains bf=(decide (bf=2)||decide (bf=3)):=by rw [jKk];simp
  rw [hoo] at OO;obtain ⟨c0,c1,c2,c3,c4,c5,c6,c7,c8,c9⟩:=h.cells;have e3:=kF ks;have HE:Hid (og bf false false k t d ti at_ ar ci ks=if zL k t d ti at_ ar ci ks=false then 5
  else if k=1\/k=4\/k=5 then (if aV t=true\/cZ t=false then 17 else if k≠5/\bf=k then 5 else 0)
  else if k=2 then (if bf=2\/bf=3\/false=true\/false=true then 5 else 0)
  else if k=3 then (if false=true then 5 else 0)
  else if k=6\/k=7\/k=8 then (if ks.isEmpty=true then 8 else 0)
  else if k=9\/k=10 then Tq k t d ti at_ ks
  else if k=11 then (if at_.none=true then 8 else at_.err)
  else if k=12\/k=14\/k=15 then Tn k t ti ar
  else if k=13 then Uf ci
  else if jS d=true then 0 else 5):=rfl
  rw [hf] at HE;obtain ⟨V,hV⟩:∃ V,V=og bf false false k t d ti at_ ar ci ks:=⟨_,rfl⟩
  rw [<- hV] at HE ⊢;have HT:=hid (pI t).symm;generalize cZ t=L at *;generalize Tq k t d ti at_ ks=E1 at *
  generalize at_.none=bn at *
  generalize at_.err=E2 at *
  generalize Tn k t ti ar=E3 at *;generalize Uf ci=E4 at *;generalize jS d=bu at *;generalize ks.isEmpty=bk at *;clear hV h hs hf hoo;rcases sU k with rfl | rfl | rfl | rfl | rfl | rfl | rfl | rfl | rfl | rfl | rfl | rfl | rfl | rfl | rfl | rfl | hk
  case inr.inr.inr.inr.inr.inr.inr.inr.inr.inr.inr.inr.inr.inr.inr.inr=>omega
  all_goals
    go_enter func162,ntmps162;go_wp2_with (first | (go_at_call 93;refine (CL.out _).mono ?_;rintro e w2 ⟨rfl,q,rfl⟩) | (go_at_call 161;refine OO.out.mono ?_;rintro e w2 ⟨rfl,rfl⟩) | (go_at_call 195;refine (LK.out (by simp)).mono ?_;rintro e w2 ⟨rfl,hb3⟩) | (go_at_call 165;refine (AE.out _).mono ?_;rintro e w2 ⟨rfl,hb1⟩;obtain ⟨p0,p1,p2,p3,p4,p5,p6,p7,p8,p9⟩:=(HP.out.up hb1).cells) | (go_at_call 95;refine (AC.out _ hb1).mono ?_;rintro e w2 ⟨rfl,hb3⟩) | (go_at_call 196;refine (NM.out (by simp)).mono ?_;rintro e w2 ⟨rfl,hb3⟩) | (go_at_call 197;refine CC.out.mono ?_;rintro e w2 ⟨rfl,hb3⟩) | (go_at_call 198;refine AD.out.mono ?_;rintro e w2 ⟨rfl,hb3⟩))
    all_goals
      go_ret;refine ⟨Mj ?_,?_⟩
      ·exact je2
      ·first
       | exact q01 hb1 hb3 | exact hb3 | exact hb1
       | exact (jK7 _ _).alloc (jK8 _) _
       | exact gQ (jK7 _ _) _ | exact jK7 _ _
open Go.RowKit
def edge (k:Int) (first last:Bool):Bool:=(decide (k=2)&&first)||((decide (k=2)||decide (k=3))&&last)
theorem IW (bf:Int) (first last:Bool) (k:Int) (t d ti:ByteArray) (a:At) (ar:List ByteArray) (ci:List Ci) (ks:List aj) (hf:zL k t d ti a ar ci ks=true) : og bf first last k t d ti a ar ci ks=if edge k first last=true then 5 else og bf false false k t d ti a ar ci ks:=by
  unfold og edge;rw [hf];simp only [Bool.true_eq_false,if_false];by_cases h1:k=1\/k=4\/k=5
  ·have h2:k≠2:=by omega
   have h3:k≠3:=by omega
   simp [h1,h2,h3]
  ·by_cases h2:k=2
   ·subst h2;cases first<;>cases last<;>simp
   ·by_cases h3:k=3
    ·subst h3;cases first<;>cases last<;>simp
    ·simp [h1,h2,h3]
theorem Dk (bf:Int) (first last:Bool) (k:Int) (t d ti:ByteArray) (a:At) (ar:List ByteArray) (ci:List Ci) (ks:List aj) (hf:zL k t d ti a ar ci ks=false):og bf first last k t d ti a ar ci ks=5:=by unfold og;rw [if_pos hf]
def sV (l:List aj) (k:Nat):Int:=if k=0 then 0 else match l[k-1]? with | some x=>x.kd | none=>0
def Ui (l:List aj) (dp:Nat) (E:Nat) (w:jN9) (vi:Value) (wr:jN9):Prop:=∃ k:Nat,k<=l.length/\vi=.int .i64 k/\jNj w.heap.size w wr/\aj.aQ (sV l k) (decide (k=0)) dp (l.drop k)=E
theorem Eh {l:List aj} {k:Nat} {x:aj} (h:l[k]?=some x):sV l (k+1)=x.kd:=by unfold sV;rw [if_neg (by omega),Nat.add_sub_cancel,h]
theorem aj.jT:∀ {l:List aj} {k:Nat} {x:aj},aj.ay l->l[k]?=some x->x.small
  | [],_,_,_,h=>by simp at h
  | y::l,0,x,hb,h=>by simp at h;subst h;rw [aj.ay] at hb;exact hb.1
  | y::l,k+1,x,hb,h=>by rw [aj.ay] at hb;exact aj.jT (l:=l) (k:=k) hb.2 (by simpa using h)
mutual
def aj.mid:aj->Prop
  | .mk k t d ti a ar ci ks=>t.size<=1000000/\d.size<=1000000/\ti.size<=1000000/\a.short/\(∀ c∈ar,c.size<=5000)/\(∀ c∈ci,c.key.size<=5000/\c.pre.size<=5000/\c.suf.size<=5000)/\aj.iA ks
def aj.iA:List aj->Prop
  | []=>True
  | x::l=>x.mid/\aj.iA l
end
mutual
theorem aj.Mk:∀ (x:aj),x.small->x.mid
  | .mk k t d ti a ar ci ks,h=>by
    rw [aj.small] at h;rw [aj.mid];obtain ⟨h1,h2,h3,h4,h5,h6,h7,h8,h9⟩:=h;exact ⟨by omega,by omega,by omega,h4,h7,h8,aj.mF ks h9⟩
theorem aj.mF:∀ (l:List aj),aj.ay l->aj.iA l
  | [],_=>by rw [aj.iA];trivial
  | x::l,h=>by
    rw [aj.ay] at h;rw [aj.iA];exact ⟨aj.Mk x h.1,aj.mF l h.2⟩
end
theorem aj.oh:∀ {l:List aj} {k:Nat} {x:aj},aj.iA l->l[k]?=some x->x.mid
  | [],_,_,_,h=>by simp at h
  | y::l,0,x,hb,h=>by simp at h;subst h;rw [aj.iA] at hb;exact hb.1
  | y::l,k+1,x,hb,h=>by rw [aj.iA] at hb;exact aj.oh (l:=l) (k:=k) hb.2 (by simpa using h)
theorem Zf {kd:Int} {t d ti:ByteArray} {at_:At} {ar:List ByteArray} {ci:List Ci} {ks:List aj} (h:(aj.mk kd t d ti at_ ar ci ks).mid):InS t d ti at_ ar ci/\aj.iA ks:=by unfold aj.mid at h;obtain ⟨h1,h2,h3,h4,h7,h8,h9⟩:=h;exact ⟨⟨h1,h2,h3,h4,h7,h8⟩,h9⟩
theorem QS (bf:Int) (st:Bool) (dp:Nat) (k:Int) (t d ti:ByteArray) (a:At) (ar:List ByteArray) (ci:List Ci) (ks:List aj) (l:List aj) (qF:¬ 15<dp) : aj.aQ bf st dp (aj.mk k t d ti a ar ci ks::l)=if zL k t d ti a ar ci ks=false then 5 else if edge k (decide (dp=0)&&st) (decide (dp=0)&&l.isEmpty)=true then 5 else if og bf false false k t d ti a ar ci ks≠0 then og bf false false k t d ti a ar ci ks else if aj.aQ 0 true (dp+1) ks≠0 then aj.aQ 0 true (dp+1) ks else aj.aQ k false dp l:=by
  rw [aj.aQ,if_neg qF,aj.err];cases hf:zL k t d ti a ar ci ks with
  | false=>rw [Dk _ _ _ _ _ _ _ _ _ _ _ hf];simp
  | true=>
    rw [IW bf _ _ k t d ti a ar ci ks hf];cases he:edge k (decide (dp=0)&&st) (decide (dp=0)&&l.isEmpty) with
    | true=>simp
    | false=>
      simp only [Bool.true_eq_false,Bool.false_eq_true,if_false];by_cases h1:og bf false false k t d ti a ar ci ks=0
      ·simp only [h1,ne_eq,not_true_eq_false,if_false];rfl
      ·simp only [ne_eq,h1,not_false_eq_true,if_true]
theorem Zg (k:Int) (zd st lb:Bool):edge k (zd&&st) (zd&&lb)=(zd&&((k==2)&&st||((k==2)||(k==3))&&lb)):=by
  unfold edge;have h2:decide (k=2)=(k==2):=by rw [jKk];simp
  have h3:decide (k=3)=(k==3):=by rw [jKk];simp
  rw [h2,h3];cases (k==2)<;>cases (k==3)<;>cases zd<;>cases st<;>cases lb<;>rfl
theorem Ml {w:jN9} {l:List aj} {a:Option Addr} {cap:Nat} (h:nV (·<w.heap.size) w 10 (l.map aj.d) a cap) {k:Nat} {kd:Int} {t d ti:ByteArray} {at_:At} {ar:List ByteArray} {ci:List Ci} {ks:List aj} (hk:l[k]?=some (.mk kd t d ti at_ ar ci ks)) : ∃ b off ac ap aa ai ak cc cp ca gD ck,a=some ⟨b,off,none⟩/\InP w b (off+k*10) kd t d ti at_ ar ci ks ac ap aa ai ak cc cp ca gD ck:=by
  obtain ⟨b,off,vc,vp,va,vi,vk,rfl,hok,hbl,hc,hR⟩:=fE h hk;obtain ⟨a1,c1,h1,-⟩:=hR.at_.cls.aB
  obtain ⟨a2,c2,h2,-⟩:=hR.at_.aD.aB
  obtain ⟨a3,c3,h3,-⟩:=hR.args.aB;obtain ⟨a4,c4,h4,-⟩:=hR.dH.aB;obtain ⟨a5,c5,h5,-⟩:=hR.kids.aB;simp only [List.length_map,List.cons.injEq,and_true] at h1 h2 h3 h4 h5;subst h1 h2 h3 h4 h5;exact ⟨b,off,a1,a2,a3,a4,a5,c1,c2,c3,c4,c5,rfl,hc,hR,hbl⟩
theorem jq7 {kd:Int} {t d ti:ByteArray} {at_:At} {ar:List ByteArray} {ci:List Ci} {ks:List aj} (h:(aj.mk kd t d ti at_ ar ci ks).small):InS t d ti at_ ar ci/\aj.ay ks:=by unfold aj.small at h;obtain ⟨h1,h2,h3,h4,h5,h6,h7,h8,h9⟩:=h;exact ⟨⟨by omega,by omega,by omega,h4,h7,h8⟩,h9⟩
theorem je3{P:Prop}(h:P:=by
 have hn1:((E1:Int) != 0)=true:=by rw [bne_iff_ne];omega
 clear h1;go_wp2_with fail
 refine CIW.out.mono ?_;rintro e w4 ⟨rfl,hb4⟩;have lC:=hid (q01 lK.out hb4);clear CIW hb4;go_wp2;go_ret;exact ⟨by rw [yw.out];rfl,q01 HB.out lC.out⟩):P:=h
theorem Uj{P:Prop}(h:P:=by
 show _=_;have:=zM.out;rw [if_neg (by simpa using h1)] at this;exact this):P:=h
theorem Uk{P:Prop}(h:P:=by
 show _=_;have:=yw.out;rw [if_neg (by simpa using h2)] at this;exact this):P:=h
theorem je4{P:Prop}(h:P:=by
 clear hf;go_wp2_with fail
 refine IY.out.mono ?_;rintro e w2 ⟨rfl,hb2⟩;go_wp2;go_ret;exact ⟨by rw [HE.out];rfl,q01 HB.out hb2⟩):P:=h
theorem Ul{P:Prop}(h:P:=by
 show E=0;rw [<- aX,List.drop_of_length_le (by omega),aj.aQ]):P:=h
theorem Um{P:Prop}(h:P:=by
 show _=_;have:=zM.out;rw [if_pos h1] at this;exact this.symm):P:=h
theorem Un{P:Prop}(h:P:=by
 show _=_;have:=yw.out;rw [if_pos h2] at this;exact this.symm):P:=h
theorem vH (n:Nat):∀ (l:List aj) (dp:Nat) (a:Option Addr) (cap:Nat) (w:jN9),aj.aU l<=n->dp<=1000000->aj.iA l->Rd (·<w.heap.size) w (aZ l) [.slice a l.length cap] -> Calls prog 127 #[.slice a l.length cap,.int .i64 (dp:Int)] w (dF (.int .i64 (aj.aQ 0 true dp l:Nat)) w):=by
  induction n using Nat.strongRecOn with
  | _ n ih=>
    intro l dp a cap w hn hdp hsm h;obtain ⟨a',c',hv,hs⟩:=Rd.aB h;obtain ⟨rfl,rfl⟩:a'=a/\c'=cap:=by simp at hv;exact ⟨hv.1.symm,hv.2.symm⟩
    have hcap:l.length<=c':=by simpa using hs.le
    refine IZ ?_;intro hmx HS IH;have SM:=hid hsm;obtain ⟨E,hE⟩:∃ E,aj.aQ 0 true dp l=E:=⟨_,rfl⟩;rw [hE];have R0:Hid (Ui l dp E w (.int .i64 0) w):=⟨0,jL3 _,rfl,jK7 _ _,hE⟩;clear hs hv h ih hsm hE;by_cases qF:15<dp
    ·have Tt:decide ((15:Int)<(dp:Int))=true:=by simp;omega
     go_enter func127,ntmps127;go_wp2
     go_loopw [12] (fun i wr=>Ui l dp E w i wr) (fun i _=>l.length-(intOf i).toNat)
     case atStart=>exact R0.out
     case round=>
       clear R0;obtain ⟨k,hk,rfl,hbel,aX⟩:=hrel;have HB:=hid hbel;by_cases hlt:k<l.length
       ·refine kK ?_;intro x hx;have HE:Hid (E=11):=by
          show E=11;rw [<- aX,IU l k x hx,aj.aQ,if_pos qF]
        clear aX hx;exact jy
       ·have HE:Hid (E=0):=by
          exact Ul
        clear aX;exact jy
    ·have Tt:decide ((15:Int)<(dp:Int))=false:=by simp;omega
     go_enter func127,ntmps127;go_wp2
     go_loopw [12] (fun i wr=>Ui l dp E w i wr) (fun i _=>l.length-(intOf i).toNat)
     case atStart=>exact R0.out
     case round=>
       clear R0;obtain ⟨k,hk,rfl,hbel,aX⟩:=hrel;have HB:=hid hbel;by_cases hlt:k<l.length
       ·refine kK ?_;intro x hx;have hbs:=Eh hx;have hxs:x.mid:=aj.oh SM.out hx;have hsz:=aj.bK l k _ hx;rw [IU l k x hx] at aX;have hle:(l.drop (k+1)).isEmpty=((k:Int)==(l.length:Int)-1):=by
          rw [jKk];simp;omega
        obtain ⟨kd,t,d,ti,at_,ar,ci,ks⟩:=x;rw [aj.sz] at hsz;obtain ⟨hins,hks⟩:=Zf hxs;rw [QS _ _ _ _ _ _ _ _ _ _ _ _ qF,Zg,hle] at aX;have hbk:sV l (k+1)=kd:=hbs;obtain ⟨b,off,ac,ap,aa,ai,ak,cc,cp,ca,gD,ck,ha,Uo⟩:=Ml HS.out hx;have hP:=Uo.up hbel;have HPR:Hid (k≠0->∃ kv,wr.cell? ⟨b,off+(k-1)*10,none⟩=some (.int .i64 kv)/\sV l k=kv):=by
          intro hk0;obtain ⟨y,hy⟩:∃ y,l[k-1]?=some y:=⟨_,jK6 (show k-1<l.length by omega)⟩;obtain ⟨kv,t',d',ti',at',ar',yx,ks'⟩:=y;obtain ⟨b',off',ac',ap',aa',ai',ak',cc',cp',ca',jIj,ck',ha',hP'⟩:=Ml HS.out hy;rw [ha] at ha';injection ha' with ha'
          injection ha' with e1 e2 e3
          subst e1 e2;refine ⟨kv,(hP'.up hbel).cells.c0,?_⟩;unfold sV;rw [if_neg hk0,hy];rfl
        subst ha;have HBK:=hid hbk;have HZ0:Hid (k=0->sV l k=0):=fun h=>by unfold sV;rw [if_pos h]
        obtain ⟨bf,hbf⟩:∃ bf,sV l k=bf:=⟨_,rfl⟩;rw [hbf] at aX HPR HZ0;have HP:=hid hP;have IY:=hid (vI wr b (off+k*10) kd t d ti at_ ar ci ks ac ap aa ai ak cc cp ca gD ck hP);have CI:=hid (fun wx (hb:jNj wr.heap.size wr wx) hf=>yu wx b (off+k*10) kd bf t d ti at_ ar ci ks ac ap aa ai ak cc cp ca gD ck (hP.up hb) hins hf);have CK:=hid (fun wx (hb:jNj wr.heap.size wr wx)=>IH.out (aj.aU ks) (by omega) ks (dp+1) ak ck wx (jK8 _) (by omega) hks (hP.up hb).rd.kids);have bS:=hid aX;clear hbs hxs hsz hle hins hks hbk hP Uo hbf aX hx hbel;have OO:=hid (fun wx:jN9=>lJ kd [2,3] wx.heap.size 2 _ (by simp) (Uh wx 3 2 3));simp only [jKz,List.length_nil,Nat.reduceAdd] at OO;have hoo:([2,3]:List Int).contains kd=((kd==2)||(kd==3)):=by rw [jKk];simp
        rw [hoo] at OO;obtain ⟨ed,hed⟩:∃ ed,(decide (dp=0)&&((kd==2)&&decide (k=0)||((kd==2)||(kd==3))&&((k:Int)==(l.length:Int)-1)))=ed:=⟨_,rfl⟩;rw [hed] at bS;have HED:=hid hed;have z1:((dp:Int)==0)=decide (dp=0):=by rw [jKk];simp
        have z3:((k:Int)==0)=decide (k=0):=by rw [jKk];simp
        have Z1:=hid z1;have Z3:=hid z3;clear hoo hed z1 z3
        go_upto_if 18 with (fail)
        go_cut [6] (fun s6 wx=>s6=.int .i64 bf/\wr=wx)
        case first=>
          clear OO HED bS CK CI IY HP Z1 Z3;cases k with
          | zero=>
            have hb0:=HZ0.out rfl;have HB0:=hid hb0;clear hb0 HPR HZ0;go_wp2_with fail
            go_meet
            exact ⟨by rw [HB0.out],rfl⟩
          | succ j=>
            obtain ⟨kv,hcell,hkv⟩:=HPR.out (by omega);rw [Nat.add_sub_cancel] at hcell;have HKV:=hid hkv;clear hkv HPR HZ0;go_wp2_with fail
            go_meet
            exact ⟨by rw [HKV.out],rfl⟩
        case rest=>
          obtain ⟨rfl,rfl⟩:=hcut;clear HPR HZ0;cases hf:zL kd t d ti at_ ar ci ks with
          | false=>
            rw [hf] at IY;have HE:Hid (E=5):=by show E=5;have:=bS.out;rw [if_pos hf] at this;exact this.symm
            exact je4
          | true=>
            rw [hf] at IY;have fu:Hid ((if ed=true then 5 else if og bf false false kd t d ti at_ ar ci ks≠0 then og bf false false kd t d ti at_ ar ci ks else if aj.aQ 0 true (dp+1) ks≠0 then aj.aQ 0 true (dp+1) ks else aj.aQ kd false dp (l.drop (k+1)))=E):=by show _=_;have:=bS.out;rw [if_neg (by rw [hf];decide)] at this;exact this
            have CI2:=hid (fun wx hb=>CI.out wx hb hf);clear hf bS CI;go_wp2_with fail
            refine IY.out.mono ?_;rintro e w2 ⟨rfl,hb2⟩;have HB2:=hid hb2;obtain ⟨p0,p1,p2,p3,p4,p5,p6,p7,p8,p9⟩:=(HP.out.up hb2).cells;go_upto_region 12 with (fail)
            go_cut [58] (fun s58 wx=>s58=.bool ed/\jNj w2.heap.size w2 wx)
            case first=>
              have z1:=Z1.out;have z3:=Z3.out;have OW:=hid (OO.out w2);have jq8:=HED.out;obtain ⟨zd,hzd⟩:∃ zd,decide (dp=0)=zd:=⟨_,rfl⟩;obtain ⟨st,hst⟩:∃ st,decide (k=0)=st:=⟨_,rfl⟩;obtain ⟨b2,hb2'⟩:∃ b2,(kd==2)=b2:=⟨_,rfl⟩;obtain ⟨b3,jq9⟩:∃ b3,(kd==3)=b3:=⟨_,rfl⟩;obtain ⟨lb,hlb⟩:∃ lb,((k:Int)==(l.length:Int)-1)=lb:=⟨_,rfl⟩;rw [hzd,hst,hb2',jq9,hlb] at jq8;rw [hzd] at z1;rw [hst] at z3;rw [hb2',jq9] at OW;have jDx:=hid jq8;clear jq8 hzd hst jq9 OO HED fu CK CI2 IY Z1 Z3 hb2;cases zd<;>cases b2<;>cases st<;>cases b3<;>cases lb
              all_goals
                go_wp2_with (go_at_call 161;refine OW.out.mono ?_;rintro e w3 ⟨rfl,rfl⟩)
                go_meet
                exact ⟨by rw [<- jDx.out];rfl,by first | exact (jK7 _ _).alloc (jK8 _) _ | exact jK7 _ _⟩
            case rest=>
              obtain ⟨rfl,hbx⟩:=hcut;have lK:=hid (q01 HB2.out hbx);clear p0 p1 p2 p3 p4 p5 p6 p7 p8 p9 hbx hb2;cases ed with
              | true=>
                have HE:Hid (E=5):=by show E=5;have:=fu.out;rw [if_pos rfl] at this;exact this.symm
                go_wp2;go_ret;exact ⟨by rw [HE.out];rfl,q01 HB.out lK.out⟩
              | false=>
                have zM:Hid ((if og bf false false kd t d ti at_ ar ci ks≠0 then og bf false false kd t d ti at_ ar ci ks else if aj.aQ 0 true (dp+1) ks≠0 then aj.aQ 0 true (dp+1) ks else aj.aQ kd false dp (l.drop (k+1)))=E):=by show _=_;have:=fu.out;rw [if_neg (by decide)] at this;exact this
                have CIW:=hid (CI2.out _ lK.out);clear fu CI2;generalize og bf false false kd t d ti at_ ar ci ks=E1 at *
                generalize aj.aQ 0 true (dp+1) ks=E2 at *;by_cases h1:E1=0
                ·have yw:Hid ((if E2≠0 then E2 else aj.aQ kd false dp (l.drop (k+1)))=E):=by
                   exact Uj
                 subst h1;go_wp2_with fail
                 refine CIW.out.mono ?_;rintro e w4 ⟨rfl,hb4⟩;have lC:=hid (q01 lK.out hb4);obtain ⟨p0,p1,p2,p3,p4,p5,p6,p7,p8,p9⟩:=(HP.out.up lC.out).cells;have Zh:=hid (CK.out _ lC.out);clear CIW hb4 CK zM;by_cases h2:E2=0
                 ·have LD:Hid (aj.aQ kd false dp (l.drop (k+1))=E):=by
                    exact Uk
                  subst h2;go_wp2_with fail
                  refine Zh.out.mono ?_;rintro e w5 ⟨rfl,hb5⟩;have pJ:=hid (q01 lC.out hb5);clear Zh hb5;go_wp2;go_roundw;case rel=>exact ⟨k+1,by omega,by go_num,q01 HB.out pJ.out,by rw [HBK.out,decide_eq_false (by omega)];exact LD.out⟩
                  case measure=>simp [intOf];omega
                 ·have LD:Hid (E=E2):=by
                    exact Un
                  have hn2:((E2:Int) != 0)=true:=by rw [bne_iff_ne];omega
                  clear h2;go_wp2_with fail
                  refine Zh.out.mono ?_;rintro e w5 ⟨rfl,hb5⟩;have pJ:=hid (q01 lC.out hb5);clear Zh hb5;go_wp2;go_ret;exact ⟨by rw [LD.out];rfl,q01 HB.out pJ.out⟩
                ·have yw:Hid (E=E1):=by
                   exact Um
                 exact je3
       ·have HE:Hid (E=0):=by
          exact Ul
        clear aX;exact jy
open Go.RowKit
theorem Uq{P:Prop}(h:P:=by
 go_wp2_with fail
 refine CK.out.mono ?_;rintro e w1 ⟨rfl,hb⟩;go_wp2;go_ret;exact ⟨rfl,hb⟩):P:=h
theorem sW (l:List aj) (a:Option Addr) (cap:Nat) (w:jN9) (hsm:aj.iA l) (h:Rd (·<w.heap.size) w (aZ l) [.slice a l.length cap]) : Calls prog 77 #[.slice a l.length cap] w (dF (.int .i64 (q0z l:Nat)) w):=by have CK:=hid (vH _ l 0 a cap w (jK8 _) (by omega) hsm h);change Hid (Calls _ _ _ _ (dF (.int .i64 (q0z l:Nat)) w)) at CK;generalize q0z l=E at *;clear h hsm;go_enter func77,ntmps77;exact Uq
def om (l:List aj):Nat:=if aj.cO bT l=true then 5 else q0z l
theorem kN (l:List aj) (a:Option Addr) (cap:Nat) (w:jN9) (hsm:aj.iA l) (h:Rd (·<w.heap.size) w (aZ l) [.slice a l.length cap]) : Calls prog 170 #[.slice a l.length cap] w (dF (.int .i64 (om l:Nat)) w):=by
  have hb0:jNj w.heap.size w (w.alloc (.cells #[.int .i64 2,.int .i64 3] 3)):=(jK7 _ _).alloc (jK8 _) _;have AK:=hid (xB _ l _ _ [2,3] w.heap.size 2 _ (jK8 _) (h.up hb0) (by simp) (Uh w 3 2 3));simp only [jKz,List.length_nil,Nat.reduceAdd] at AK;have hrk:aj.cO [2,3] l=aj.cO bT l:=rfl;rw [hrk] at AK;have LE:=hid (sW l a cap _ hsm (h.up hb0));have HE:Hid (om l=if aj.cO bT l=true then 5 else q0z l):=rfl;generalize om l=V at *;generalize q0z l=E at *;generalize aj.cO bT l=K at *;have HB:=hid hb0;clear h hsm hrk hb0;cases K
  all_goals
    go_enter func170,ntmps170;go_wp2_with (first | (go_at_call 203;refine AK.out.mono ?_;rintro e w2 ⟨rfl,rfl⟩) | (go_at_call 77;refine LE.out.mono ?_;rintro e w2 ⟨rfl,hb2⟩))
    go_ret;refine ⟨by rw [HE.out];rfl,?_⟩;first | exact q01 HB.out hb2 | exact HB.out
def sZ (lv:Int) (a:At) (li:List aj):Nat:=if lv<1\/6<lv then 9 else if a.err≠0 then a.err else om li
theorem Dl (w:jN9) (b o:Nat) (k lv:Int) (i t d ti:ByteArray) (at_:At) (li:List aj) (ks:List ah) (ac ap al ak:Option Addr) (cc cp cl ck:Nat) (h:YU w b o k lv i t d ti at_ li ks ac ap al ak cc cp cl ck) (ha:at_.short) (hsm:aj.iA li) : Calls prog 166 #[.pointer (some ⟨b,o,none⟩)] w (dF (.int .i64 (sZ lv at_ li:Nat)) w):=by
  have HP:=hid h;have AC:=hid (iy at_ ac ap cc cp w h.rd.at_ ha);have UE:=hid (fun wx (hb:jNj w.heap.size w wx)=>kN li al cl wx hsm (h.rd.line.up hb));obtain ⟨c0,c1,c2,c3,c4,c5,c6,c7,c8,c9,c10⟩:=h.cells;have HE:Hid (sZ lv at_ li=if lv<1\/6<lv then 9 else if at_.err≠0 then at_.err else om li):=rfl;generalize sZ lv at_ li=V at *
  generalize at_.err=E at *
  generalize om li=U at *;clear h ha hsm;by_cases hlv:lv<1\/6<lv
  ·have HV:Hid (V=9):=by show V=9;rw [HE.out,if_pos hlv]
   clear HE;rcases hlv with hlv | hlv
   all_goals
     go_enter func166,ntmps166;exact nY
  ·have HV:Hid (V=if E≠0 then E else U):=by show V=_;rw [HE.out,if_neg hlv]
   have g1:1<=lv:=by omega
   have g2:lv<=6:=by omega
   clear hlv HE;by_cases h1:E=0
   ·subst h1;go_enter func166,ntmps166;go_wp2_with fail
    refine AC.out.mono ?_;rintro e w2 ⟨rfl,hb2⟩;obtain ⟨p0,p1,p2,p3,p4,p5,p6,p7,p8,p9,sM⟩:=(HP.out.up hb2).cells;go_wp2_with fail
    refine (UE.out _ hb2).mono ?_;rintro e w3 ⟨rfl,hb3⟩;go_wp2;go_ret;exact ⟨by rw [HV.out];rfl,q01 hb2 hb3⟩
   ·have hn:((E:Int) != 0)=true:=by rw [bne_iff_ne];omega
    have qV:Hid (V=E):=by show V=E;rw [HV.out,if_pos h1]
    clear h1 HV;go_enter func166,ntmps166;go_wp2_with fail
    refine AC.out.mono ?_;rintro e w2 ⟨rfl,hb2⟩;go_wp2;go_ret;exact ⟨by rw [qV.out];rfl,hb2⟩
theorem Mq (p:UInt8->Bool):∀ l:List UInt8,l.dropWhile p=[]↔l.all p=true
  | []=>by simp
  | x::l=>by
    rw [List.dropWhile_cons,List.all_cons];cases p x with
    | true=>simpa using Mq p l
    | false=>simp
theorem Zi (p:UInt8->Bool) (l:List UInt8):∀ x∈l.takeWhile p,p x=true:=by
  induction l with
  | nil=>simp
  | cons y l ih=>
    intro x hx;rw [List.takeWhile_cons] at hx;cases h:p y with
    | true=>
      rw [h] at hx;simp at hx;rcases hx with rfl | hx
      ·exact h
      ·exact ih x hx
    | false=>rw [h] at hx;simp at hx
theorem QT (l cs:List UInt8):Lib.trimS l cs=[]↔l.all (fun c=>cs.contains c)=true:=by
  unfold Lib.trimS Lib.trimLeftS Lib.trimRightS;rw [Mq];constructor
  ·intro h;rw [List.all_reverse] at h;have h2:=(List.takeWhile_append_dropWhile (p:=fun c=>cs.contains c) (l:=l.reverse));have h3:(l.reverse).all (fun c=>cs.contains c)=true:=by
     rw [<- h2,List.all_append,Bool.and_eq_true];exact ⟨List.all_eq_true.2 (fun x hx=>(Zi _ _ x hx)),h⟩
   rwa [List.all_reverse] at h3
  ·intro h;have h3:(l.reverse).all (fun c=>cs.contains c)=true:=by rwa [List.all_reverse]
   rw [(Mq _ _).2 h3];rfl
open Go.RowKit
def gT:List UInt8:=[45,108,99,114]
def je5 (ks:List ah) (n:Nat) (w:jN9) (vi:Value) (wr:jN9):Prop:=∃ k:Nat,k<=ks.length/\vi=.int .i64 k/\jNj w.heap.size w wr/\(ks.take k).any (fun b=>!decide (b.oo=n))=false
theorem Gd {w:jN9} {l:List ah} {a:Option Addr} {cap:Nat} (h:nV (·<w.heap.size) w 11 (l.map ah.d) a cap) {k:Nat} {kd lv:Int} {i t d ti:ByteArray} {at_:At} {li:List aj} {ks:List ah} (hk:l[k]?=some (.mk kd lv i t d ti at_ li ks)) : ∃ b off ac ap al ak cc cp cl ck,a=some ⟨b,off,none⟩/\YU w b (off+k*11) kd lv i t d ti at_ li ks ac ap al ak cc cp cl ck:=by
  obtain ⟨b,off,vc,vp,vl,vk,rfl,hok,hbl,hc,hR⟩:=Mr h hk;obtain ⟨a1,c1,h1,-⟩:=hR.at_.cls.aB
  obtain ⟨a2,c2,h2,-⟩:=hR.at_.aD.aB
  obtain ⟨a3,c3,h3,-⟩:=hR.line.aB;obtain ⟨a5,c5,h5,-⟩:=hR.kids.aB;simp only [List.length_map,List.cons.injEq,and_true] at h1 h2 h3 h5;subst h1 h2 h3 h5;exact ⟨b,off,a1,a2,a3,a5,c1,c2,c3,c5,rfl,hc,hR,hbl⟩
theorem jqj (l:List UInt8):(⟨l.toArray⟩:ByteArray)=ByteArray.empty↔l=[]:=by
  constructor
  ·intro h;have:=congrArg (fun b:ByteArray=>b.data.toList) h;simpa using this
  ·rintro rfl;rfl
theorem je6{P:Prop}(h:P:=by
 have q1:((ks'.length:Int) != (i.size:Int))=true:=by rw [bne_iff_ne];omega
 have hv:V=15:=by rw [qV.out,if_pos (HAT.out (by rw [HKN.out];simp [hq]))]
 have Ms:=hid hv;clear hq hv;go_wp2_with fail
 go_quiet (fail)
 go_wp2;go_ret;exact ⟨by rw [Ms.out];rfl,gQ HB.out _⟩):P:=h
theorem je7{P Q:Prop}(q:Q)(h:Nonempty Q->P:=by
 intro qQ;obtain ⟨x,hx⟩:∃ x,ks[j]?=some x:=⟨_,List.getElem?_eq_getElem hlt⟩;have kg:=hid (zI (fun b:ah=>!decide (b.oo=i.size)) hx);have HAT:=hid (Mi (fun b:ah=>!decide (b.oo=i.size)) hx);revert x hx kg HAT;exact qQ.elim fun x=>x):P:=h ⟨q⟩
theorem zO (w:World) (b o:Nat) (k lv:Int) (i t d ti:ByteArray) (at_:At) (li:List aj) (ks:List ah) (ac ap al ak:Option Addr) (cc cp cl ck:Nat) (h:YU w b o k lv i t d ti at_ li ks ac ap al ak cc cp cl ck) (hi:i.size<=1000000000) : Calls prog 169 #[.pointer (some ⟨b,o,none⟩)] w (dF (.int .i64 (Tv i ks:Nat)) w):=by
  have HP:=hid h;obtain ⟨a',c',hv,hs⟩:=Rd.aB h.rd.kids;obtain ⟨rfl,rfl⟩:a'=ak/\c'=ck:=by simp at hv;exact ⟨hv.1.symm,hv.2.symm⟩
  have hcap:ks.length<=c':=by simpa using hs.le
  have hmx:=hs.max;unfold maxLen at hmx;have HS:=hid hs;have e3:=kF ks;have h116:(prog.info? 206).map (fun i=>(i.zero,i.size))=some (some (.agg (Array.replicate 256 (.bool false))),256):=by kernel_rfl
  have TR:=hid (fun w=>Any.strings_Trim_laid lays160 h116 i ⟨#[45,108,99,114]⟩ w (by omega) (by decide) (ascii_of_all (by decide)));have HTR:Hid (∀ w,Calls prog 202 #[.string i,.string ⟨#[45,108,99,114]⟩] w fun e w'=>e=.returned (.string ⟨(Lib.trimS i.data.toList gT).toArray⟩)/\Below w.heap.size w w'):=TR.out;have HN:=hid (QT i.data.toList gT);have HBN:=hid (jqj (Lib.trimS i.data.toList gT));have HE:Hid (Tv i ks=if 32<i.size then 3 else if aV i=true then 5 else if i.data.toList.any (fun c=>!(gT:List UInt8).contains c) then 5
      else if ks.isEmpty=true then 8 else if ks.any (fun b=>!decide (b.oo=i.size)) then 15 else 0):=rfl
  obtain ⟨c0,c1,c2,c3,c4,c5,c6,c7,c8,c9,c10⟩:=h.cells;generalize Tv i ks=V at *;obtain ⟨trs,jx2⟩:∃ trs,trs=(⟨(Lib.trimS i.data.toList gT).toArray⟩:ByteArray):=⟨_,rfl⟩;rw [<- jx2] at HTR HBN;clear hv hs h TR jx2 h116;by_cases h32:32<i.size
  ·have HV:Hid (V=3):=by show V=3;rw [HE.out,if_pos h32]
   have q:decide ((32:Int)<(i.size:Int))=true:=by simp;omega
   clear HE;go_enter func169,ntmps169;exact nY
  have q:decide ((32:Int)<(i.size:Int))=false:=by simp;omega
  rcases fq i with rfl | ⟨i1,i2,i3,i4⟩
  ·have HV:Hid (V=5):=by show V=5;rw [HE.out,if_neg h32,if_pos (by decide)]
   clear HE;go_enter func169,ntmps169;exact nY
  have hany:(i.data.toList.any fun c=>!(gT:List UInt8).contains c)=!(i.data.toList.all fun c=>(gT:List UInt8).contains c):=by rw [List.all_eq_not_any_not];simp
  cases hal:i.data.toList.all fun c=>(gT:List UInt8).contains c with
  | false=>
    have HV:Hid (V=5):=by show V=5;rw [HE.out,if_neg h32,if_neg (by rw [i4];decide),if_pos (by rw [hany,hal];rfl)]
    have hne:trs≠ByteArray.empty:=fun e=>by
      have:=HN.out.1 (HBN.out.1 e);rw [hal] at this;cases this
    rcases fq trs with e | ⟨t1,t2,t3,t4⟩
    ·exact absurd e hne
    clear HE HN HBN hne hany hal;go_enter func169,ntmps169;go_wp2_with fail
    refine (HTR.out _).mono ?_;rintro e w2 ⟨rfl,hb2⟩;go_wp2;go_ret;exact ⟨by rw [HV.out];rfl,hb2⟩
  | true=>
    have he:trs=ByteArray.empty:=HBN.out.2 (HN.out.2 hal);subst he;have HV:Hid (V=if ks.isEmpty=true then 8 else if ks.any (fun b=>!decide (b.oo=i.size)) then 15 else 0):=by show V=_;rw [HE.out,if_neg h32,if_neg (by rw [i4];decide),if_neg (by rw [hany,hal];decide)]
    clear HE HN HBN hany hal;cases hk0:ks.isEmpty with
    | true=>
      rw [hk0] at e3;have qV:Hid (V=8):=by show V=8;rw [HV.out,if_pos hk0]
      clear hk0;go_enter func169,ntmps169;go_wp2_with fail
      refine (HTR.out _).mono ?_;rintro e w2 ⟨rfl,hb2⟩;obtain ⟨p0,p1,p2,p3,p4,p5,p6,p7,p8,p9,sM⟩:=(HP.out.up hb2).cells;go_wp2;go_ret;exact ⟨by rw [qV.out];rfl,hb2⟩
    | false=>
      rw [hk0] at e3;have qV:Hid (V=if ks.any (fun b=>!decide (b.oo=i.size)) then 15 else 0):=by show V=_;rw [HV.out,if_neg (by rw [hk0];decide)]
      clear hk0 HV;go_enter func169,ntmps169;go_wp2_with fail
      refine (HTR.out _).mono ?_;rintro e w2 ⟨rfl,hb2⟩;obtain ⟨p0,p1,p2,p3,p4,p5,p6,p7,p8,p9,sM⟩:=(HP.out.up hb2).cells;have R0:Hid (je5 ks i.size w (.int .i64 0) w2):=⟨0,Nat.zero_le _,rfl,hb2,by simp⟩;clear hb2;go_wp2
      go_loopw [34] (fun i' wr=>je5 ks i.size w i' wr) (fun i' _=>ks.length-(intOf i').toNat)
      case atStart=>exact R0.out
      case round=>
        clear R0 p0 p1 p2 p3 p4 p5 p6 p7 p8 p9 sM;obtain ⟨j,hj,rfl,hbel,hno⟩:=hrel;have HB:=hid hbel;have Ib:=hid hno;by_cases hlt:j<ks.length
        ·refine je7 ?_;intro x hx kg HAT;obtain ⟨kd',lv',i',t',d',ti',at',li',ks'⟩:=x;obtain ⟨b',off',ac',ap',al',ak',cc',cp',cl',ck',ha',hP'⟩:=Gd HS.out hx;have k10:=(hP'.up hbel).cells.c10;obtain ⟨p0,p1,p2,p3,p4,p5,p6,p7,p8,p9,sM⟩:=(HP.out.up hbel).cells;subst ha';have HKN:Hid ((ah.mk kd' lv' i' t' d' ti' at' li' ks').oo=ks'.length):=rfl;clear hP' hx hno hbel;by_cases hq:ks'.length=i.size
         ·have q1:((ks'.length:Int) != (i.size:Int))=false:=by rw [bne_eq_false_iff_eq];omega
          have HQ:=hid hq;clear hq;go_wp2_with fail
          go_quiet (fail)
          go_wp2;go_roundw;case rel=>exact ⟨j+1,by omega,by go_num,gQ HB.out _,by rw [kg.out,Ib.out,HKN.out,HQ.out];simp⟩
          case measure=>simp [intOf];omega
         ·exact je6
        ·have hv:V=0:=by
           have:=Ib.out;rw [List.take_of_length_le (by omega)] at this;rw [qV.out,if_neg (by rw [this];decide)]
         have Ms:=hid hv;clear hv hno hbel;go_wp2;go_ret;exact ⟨by rw [Ms.out];rfl,HB.out⟩
open Go.RowKit
def tq (cl:ByteArray->Bool) (t:ByteArray) (a:At):Nat:=if fA t=false then 17 else if cl t=true then 5 else a.err
def xC (cl:ByteArray->Bool):Prop:=∀ (w:World) (b o:Nat) (k lv:Int) (i t d ti:ByteArray) (at_:At) (li:List aj) (ks:List ah) (ac ap al ak:Option Addr) (cc cp cl' ck:Nat),
  YU w b o k lv i t d ti at_ li ks ac ap al ak cc cp cl' ck->t.size<=300->at_.short->Calls prog 168 #[.pointer (some ⟨b,o,none⟩)] w (dF (.int .i64 (tq cl t at_:Nat)) w)
structure BlS (i t d ti:ByteArray) (a:At) (li:List aj):Prop where
  i:i.size<=300
  t:t.size<=300
  d:d.size<=300
  ti:ti.size<=300
  at_:a.short
  li:aj.ay li
structure BlM (i t d ti:ByteArray) (a:At) (li:List aj):Prop where
  i:i.size<=300
  t:t.size<=300
  d:d.size<=300
  ti:ti.size<=300
  at_:a.short
  li:aj.iA li
theorem tu {k lv:Int} {i t d ti:ByteArray} {a:At} {li:List aj} {ks:List ah} (h:zP k lv i t d ti a li ks=true):1<=k/\k<=15/\(k=2\/k=8\/lv=0):=by
  unfold zP at h;simp only [Bool.and_eq_true,Bool.or_eq_true,decide_eq_true_eq] at h;obtain ⟨⟨⟨⟨⟨⟨⟨⟨h1,h2⟩,h3⟩,-⟩,-⟩,-⟩,-⟩,-⟩,-⟩:=h;refine ⟨h1,h2,?_⟩;rcases h3 with h | h
  ·simp at h;omega
  ·exact .inr (.inr h)
theorem OP{P:Prop}(h:P:=by
 (try simp only [Bool.not_eq_true',Bool.not_eq_false'] at *)
 rw [HE.out];simp [*]):P:=h
theorem zR (cl:ByteArray->Bool) (w:jN9) (b o:Nat) (k lv:Int) (i t d ti:ByteArray) (at_:At) (li:List aj) (ks:List ah) (ac ap al ak:Option Addr) (cc cp cl' ck:Nat) (h:YU w b o k lv i t d ti at_ li ks ac ap al ak cc cp cl' ck) (hs:BlM i t d ti at_ li) (hf:zP k lv i t d ti at_ li ks=true) (hm:k=4->xC cl) : Calls prog 134 #[.pointer (some ⟨b,o,none⟩)] w (dF (.int .i64 (nO cl k lv i t d ti at_ li ks:Nat)) w):=by
  have HP:=hid h;obtain ⟨f1,f2,f3⟩:=tu hf;obtain ⟨-,l4,m4⟩:=sS h.rd.line;obtain ⟨-,l5,m5⟩:=sS h.rd.kids;unfold maxLen at m4 m5;have LE:=hid (sW li al cl' w hs.li h.rd.line);have UE:=hid (kN li al cl' w hs.li h.rd.line);have HDE:=hid (Dl w b o k lv i t d ti at_ li ks ac ap al ak cc cp cl' ck h hs.at_ hs.li);have TBE:=hid (zO w b o k lv i t d ti at_ li ks ac ap al ak cc cp cl' ck h (by have:=hs.i;omega));have MTE:=hid (fun hk=>hm hk w b o k lv i t d ti at_ li ks ac ap al ak cc cp cl' ck h hs.t hs.at_);have CLI:=hid (fun w=>Ue i w (by have:=hs.i;omega));have CTR:=hid (fun w=>jF i w (by have:=hs.i;omega));have CTX:=hid (fun w=>qG t w (by have:=hs.t;omega));have CNM:=hid (fun w=>Tm i w (by have:=hs.i;omega));have CLB:=hid (Ed i w (by have:=hs.i;omega));have CLD:=hid (fun w=>Ue d w (by have:=hs.d;omega));have CLT:=hid (fun w=>Ue ti w (by have:=hs.ti;omega));have AC:=hid (iy at_ ac ap cc cp w h.rd.at_ hs.at_);obtain ⟨c0,c1,c2,c3,c4,c5,c6,c7,c8,c9,c10⟩:=h.cells;have e2:=kF li;have e3:=kF ks;have HE:Hid (nO cl k lv i t d ti at_ li ks=if k=1 then (if li.isEmpty=true then 8 else q0z li)
  else if k=2 then sZ lv at_ li
  else if k=12 then om li
  else if k=3 then (if cZ i=false\/trimS i=false\/fA t=false then 17 else 0)
  else if k=4 then tq cl t at_
  else if k=7\/k=8 then (if ks.isEmpty=true then 8 else if k=8/\(lv<0\/999999999<lv) then 9 else 0)
  else if k=10 then Tv i ks
  else if k=13\/k=14 then (if dQ i=false then 6 else at_.err)
  else if k=15 then (if vF i=false then 6 else if cZ d=false\/cZ ti=false then 17 else 0)
  else 0):=rfl
  generalize nO cl k lv i t d ti at_ li ks=V at *
  generalize q0z li=E1 at *;generalize sZ lv at_ li=E2 at *
  generalize om li=E3 at *;generalize tq cl t at_=E4 at *
  generalize Tv i ks=E5 at *;generalize at_.err=E6 at *
  generalize cZ i=b1 at *;generalize trimS i=b2 at *;generalize fA t=b3 at *;generalize dQ i=b4 at *;generalize vF i=b5 at *;generalize cZ d=b6 at *;generalize cZ ti=b7 at *;generalize li.isEmpty=bl at *;generalize ks.isEmpty=bk at *;clear h hs hf hm;rcases tC k with rfl | rfl | rfl | rfl | rfl | rfl | rfl | rfl | rfl | rfl | rfl | rfl | rfl | rfl | rfl | hk
  case inr.inr.inr.inr.inr.inr.inr.inr.inr.inr.inr.inr.inr.inr.inr=>omega
  case inr.inr.inr.inr.inr.inr.inl=>
    have hlv:lv=0:=by omega
    subst hlv;clear f1 f2 f3;go_enter func134,ntmps134;go_wp2;all_goals
      go_ret;refine ⟨Mj ?_,jK7 _ _⟩;exact OP
  case inr.inr.inr.inr.inr.inr.inr.inl=>
    clear f1 f2 f3;by_cases hlv:lv<0\/999999999<lv
    ·rcases hlv with hlv | hlv
     all_goals
       go_enter func134,ntmps134;go_wp2;all_goals
         go_ret;refine ⟨Mj ?_,jK7 _ _⟩;exact OP
    ·have g1:0<=lv:=by omega
     have g2:lv<=999999999:=by omega
     have HG:Hid (¬ (lv<0\/999999999<lv)):=hlv;clear hlv;go_enter func134,ntmps134;go_wp2;all_goals
       go_ret;refine ⟨Mj ?_,jK7 _ _⟩
       (try simp only [Bool.not_eq_true',Bool.not_eq_false'] at *)
       rw [HE.out];simp [*,HG.out]
  all_goals
    clear f1 f2 f3;go_enter func134,ntmps134;go_wp2_with (first | (go_at_call 77;refine LE.out.mono ?_;rintro e w2 ⟨rfl,hb3⟩) | (go_at_call 166;refine HDE.out.mono ?_;rintro e w2 ⟨rfl,hb3⟩) | (go_at_call 168;refine (MTE.out (by simp)).mono ?_;rintro e w2 ⟨rfl,hb3⟩) | (go_at_call 169;refine TBE.out.mono ?_;rintro e w2 ⟨rfl,hb3⟩) | (go_at_call 170;refine UE.out.mono ?_;rintro e w2 ⟨rfl,hb3⟩) | (go_at_call 95;refine AC.out.mono ?_;rintro e w2 ⟨rfl,hb3⟩) | (go_at_call 52;refine (CNM.out _).mono ?_;rintro e w2 ⟨rfl,rfl⟩) | (go_at_call 171;refine CLB.out.mono ?_;rintro e w2 ⟨rfl,hb1⟩;obtain ⟨p0,p1,p2,p3,p4,p5,p6,p7,p8,p9,sM⟩:=(HP.out.up hb1).cells) | (go_at_call 94;refine (CTR.out _).mono ?_;rintro e w2 ⟨rfl,rfl⟩) | (go_at_call 167;refine (CTX.out _).mono ?_;rintro e w2 ⟨rfl,q3,rfl⟩) | (go_at_call 93;(with_reducible refine (CLI.out _).mono ?_);rintro e w2 ⟨rfl,q,rfl⟩) | (go_at_call 93;(with_reducible refine (CLD.out _).mono ?_);rintro e w2 ⟨rfl,q,rfl⟩) | (go_at_call 93;(with_reducible refine (CLT.out _).mono ?_);rintro e w2 ⟨rfl,q2,rfl⟩))
    all_goals
      go_ret;refine ⟨Mj ?_,?_⟩
      ·exact OP
      ·first
       | exact hb3 | exact gQ hb1 _ | exact hb1 | exact gQ (jK7 _ _) _ | exact jK7 _ _
end Go.Proofs.YtkfnkeflalcphaaGreatDoor

