/- Contracts of attr.Check; of tree.label. The contract of strings.ContainsAny at a set of two to eight ASCII bytes and whatever text. Contracts of tree.address, checkCites, checkNamed, checkLink. Contracts of tree.checkCites, checkNamed, checkLink. Contracts of tree.checkNamed, checkLink. The contract of tree.checkLink. The contract of tree.checkInline. -/
import Derived.Test.YtkfnkeflalcphaaGreatDoorKRfE
import Derived.Maps.OwnIn
set_option maxHeartbeats 8000000
set_option maxRecDepth 100000
open Go.Lib (hid)
namespace Go.Proofs.YtkfnkeflalcphaaGreatDoor
open Go.RowKit.Below renaming refl->jD7
open Nat renaming le_refl->jD8,zero_le->jE3
open Bool renaming eq_iff_iff->jDk
open List renaming mem_of_getElem?->jE4
open Go renaming World->jG9
open Go.RowKit
set_option linter.unusedVariables false
set_option linter.unusedSimpArgs false
theorem BZ (s:ByteArray) (f i:Nat) (h:i<s.size) (hf:s.size<=i+f):iH s f i=Utf8.decode s i::iH s (f-1) (i+(Utf8.decode s i).2):=by obtain ⟨f',rfl⟩:∃ f',f=f'+1:=⟨f-1,by omega⟩;rw [iH,if_pos h];rfl
def vB (s:ByteArray) (V:Bool) (w:jG9) (w0:jG9) (k:Nat) (wr:jG9):Prop:=
  ∃ pos f:Nat,pos<=s.size/\s.size<=pos+f/\wr.heap[k]?=some (.stringIter s pos)/\(iH s f pos).all jX=V/\Below w.heap.size w wr/\w.heap.size<=k
theorem vB.alloc {s:ByteArray} {V:Bool} {w w0:jG9} {k:Nat} {wr:jG9} (h:vB s V w w0 k wr) (o:Obj):vB s V w w0 k (wr.alloc o):=by obtain ⟨pos,f,h1,h2,h3,h4,h5,h6⟩:=h;exact ⟨pos,f,h1,h2,(Below.heap_alloc _ _ _ (Array.getElem?_eq_some_iff.1 h3).1).trans h3,h4,h5.alloc h5.size _,h6⟩
theorem vB.A8 {s:ByteArray} {V:Bool} {w w0:jG9} {k:Nat} {wr:jG9} (h:vB s V w w0 k wr):wr.iterPos k<=s.size/\wr.heap[k]?=some (.stringIter s (wr.iterPos k)):=by
  obtain ⟨pos,f,h1,h2,h3,h4,h5,h6⟩:=h;have hpos:wr.iterPos k=pos:=by simp only [World.iterPos,h3]
  rw [hpos];exact ⟨h1,h3⟩
theorem Qw (d:Nat):([32,45,95,46,58]:List Int).contains (d:Int)=([32,45,95,46,58]:List Nat).contains d:=by rw [jDk];simp;omega
theorem vC{P:Prop}(h:P:=by
 go_wp2;go_ret;exact ⟨rfl,Below.refl _ _⟩):P:=h
theorem YU{P:Prop}(h:P:=by
 unfold uD;rw [Mc,decide_eq_true (show 1<=s.size by omega),decide_eq_true (show s.size<=60 by omega)];simp):P:=h
theorem Ca (s:ByteArray) (w:jG9) (hs:s.size<=1000000000) : Calls Tryz.prog 171 #[.string s] w (eX (.bool (uD s)) w):=by
  rcases fq s with rfl | ⟨hne,hp,hie,hes⟩
  ·have hv:uD ByteArray.empty=false:=by unfold uD;simp
   rw [hv];go_enter Tryz.func171,Tryz.ntmps171;exact vC
  by_cases h60:60<s.size
  ·have hv:uD s=false:=by unfold uD;simp;omega
   rw [hv];have q1:decide ((60:Int)<(s.size:Int))=true:=by simp;omega
   clear hv;go_enter Tryz.func171,Tryz.ntmps171;exact vC
  have q1:decide ((60:Int)<(s.size:Int))=false:=by simp;omega
  have FO:=hid (Jl s w hs);by_cases Mc:ny s=s;case neg=>
    have hv:uD s=false:=by unfold uD;simp [Mc]
    rw [hv];have hb1:=D6 Mc;have hb2:=Md Mc;generalize ny s=fs at *;clear hv Mc;go_enter Tryz.func171,Tryz.ntmps171;go_wp2_with fail
    refine FO.out.mono ?_;rintro e w1 ⟨rfl,hb⟩;go_wp2;go_ret;exact ⟨rfl,hb⟩
  rw [Mc] at FO;have hv:uD s=(pts s).all jX:=by exact YU
  rw [hv];obtain ⟨V,hV⟩:∃ V,(pts s).all jX=V:=⟨_,rfl⟩;rw [hV];have HV:=hid hV;have hb1:(s.toList != s.toList)=false:=by simp
  clear hv Mc hV;go_enter Tryz.func171,Tryz.ntmps171;go_wp2_with fail
  refine FO.out.mono ?_;rintro e w1 ⟨rfl,hb⟩;have R0:Hid (vB s V w w1 w1.heap.size (w1.iter s 0)):=⟨0,s.size,jE3 _,by omega,World.iter_heap w1 s 0,HV.out,hb.alloc hb.size _,hb.size⟩;have HB:=hid hb;clear hb;go_wp2
  go_loopw [] (fun wr=>vB s V w w1 w1.heap.size wr) (fun wr=>s.size-wr.iterPos w1.heap.size)
  case atStart=>exact R0.out
  case round=>
    clear R0;obtain ⟨pos,f,hps,hf,hit,hall,hbel,hk⟩:=hrel;have hpos:wr.iterPos w1.heap.size=pos:=by simp only [World.iterPos,hit]
    by_cases hlt:pos<s.size
    ·have hnx:∀ ty,(Instr.next (.pointer (some ⟨w1.heap.size,0,none⟩)) true ty).run Tryz.prog wr=_:=fun ty=>Lib.run_next_any_at wr w1.heap.size s pos ty hit hlt
     have hd:=Lib.rune_le s pos;have hwd:=iB s pos;have hle:=oL s pos hlt;have hst:=BZ s f pos hlt hf;have HI2:Hid (jX (Utf8.decode s pos)=true->vB s V w w1 w1.heap.size (wr.iterAt w1.heap.size s (pos+(Utf8.decode s pos).2))):=by intro hl;refine ⟨pos+(Utf8.decode s pos).2,f-1,hle,by omega,Lib.iterAt_heap wr _ s pos _ hit,?_,Lib.below_iterAt hbel hk s _,hk⟩;rw [<- hall,hst,List.all_cons,hl];rfl
     have HVF:Hid (jX (Utf8.decode s pos)=false->V=false):=by intro hl;rw [<- hall,hst,List.all_cons,hl];rfl
     have HB2:Hid (Below w.heap.size w (wr.iterAt w1.heap.size s (pos+(Utf8.decode s pos).2))):=Lib.below_iterAt hbel hk s _;have hip:(wr.iterAt w1.heap.size s (pos+(Utf8.decode s pos).2)).iterPos w1.heap.size=pos+(Utf8.decode s pos).2:=by have:=Lib.iterAt_heap wr w1.heap.size s pos (pos+(Utf8.decode s pos).2) hit;simp only [World.iterPos,this]
     clear hst hall hbel hit;have jjq:=hid hpos;clear hpos;generalize Utf8.decode s pos=d at *;obtain ⟨d1,d2⟩:=d;simp only at hd hwd hle hnx HI2 HVF HB2 hip;have hwr:wrap64 (d1:Int)=d1:=IntWalk.wrap64_in _ ⟨by omega,by omega⟩;have CL:=hid (fun w=>D7 d1 w hd);have CD:=hid (fun w=>FR d1 w hd);have OO:=hid (fun wx:jG9=>lg (d1:Int) [32,45,95,46,58] wx.heap.size 5 _ (by simp) (YV wx 3 32 45 95 46 58));simp only [List.length_cons,List.length_nil,Nat.reduceAdd,Qw] at OO;have YW:Hid (jX (d1,d2)=(iC d1||D8 d1||([32,45,95,46,58]:List Nat).contains d1)):=rfl;generalize ([32,45,95,46,58]:List Nat).contains d1=bo at *;generalize iC d1=bl at *;generalize D8 d1=bd at *;obtain ⟨wi,hwi⟩:∃ wi,wi=wr.iterAt w1.heap.size s (pos+d2):=⟨_,rfl⟩;rw [<- hwi] at hnx HI2 HB2 hip;have HIP:=hid hip;clear hwi hip;cases bl with
     | true=>
       have HG:=hid (HI2.out (by rw [YW.out];rfl));clear HI2 HVF;go_wp2_with (go_at_call 205;refine (CL.out _).mono ?_;rintro e w2 ⟨rfl,rfl⟩)
       go_roundw;case rel=>exact HG.out
       case measure=>rw [HIP.out,jjq.out];omega
     | false=>
       cases bd with
       | true=>
         have HG:=hid (HI2.out (by rw [YW.out];rfl));clear HI2 HVF;go_wp2_with (first | (go_at_call 205;refine (CL.out _).mono ?_;rintro e w2 ⟨rfl,rfl⟩) | (go_at_call 206;refine (CD.out _).mono ?_;rintro e w2 ⟨rfl,rfl⟩))
         go_roundw;case rel=>exact HG.out
         case measure=>rw [HIP.out,jjq.out];omega
       | false=>
         cases bo with
         | true=>
           have HG:=hid (HI2.out (by rw [YW.out];rfl));clear HI2 HVF;go_wp2_with (first | (go_at_call 205;refine (CL.out _).mono ?_;rintro e w2 ⟨rfl,rfl⟩) | (go_at_call 206;refine (CD.out _).mono ?_;rintro e w2 ⟨rfl,rfl⟩) | (go_at_call 161;refine (OO.out _).mono ?_;rintro e w2 ⟨rfl,rfl⟩))
           go_roundw;case rel=>exact HG.out.alloc _
           case measure=>
             have h1:=(HG.out.alloc (.cells #[.int .i64 32,.int .i64 45,.int .i64 95,.int .i64 46,.int .i64 58] 3)).A8;have h2:=HG.out.A8;have h3:=(Below.heap_alloc wi (.cells #[.int .i64 32,.int .i64 45,.int .i64 95,.int .i64 46,.int .i64 58] 3) w1.heap.size (Array.getElem?_eq_some_iff.1 h2.2).1);rw [h1.2,h2.2] at h3;have h4:=HIP.out;have h5:=jjq.out;have h6:World.iterPos (wi.alloc (.cells #[.int .i64 32,.int .i64 45,.int .i64 95,.int .i64 46,.int .i64 58] 3)) w1.heap.size=wi.iterPos w1.heap.size:=by injection h3 with h3;injection h3
             rw [h6,h4,h5];omega
         | false=>
           have HE:=hid (HVF.out (by rw [YW.out];rfl));clear HI2 HVF;go_wp2_with (first | (go_at_call 205;refine (CL.out _).mono ?_;rintro e w2 ⟨rfl,rfl⟩) | (go_at_call 206;refine (CD.out _).mono ?_;rintro e w2 ⟨rfl,rfl⟩) | (go_at_call 161;refine (OO.out _).mono ?_;rintro e w2 ⟨rfl,rfl⟩))
           go_ret;exact ⟨by rw [HE.out];rfl,HB2.out.alloc HB2.out.size _⟩
    ·have hnx:∀ ty,(Instr.next (.pointer (some ⟨w1.heap.size,0,none⟩)) true ty).run Tryz.prog wr=_:=fun ty=>Lib.run_next_end_at wr w1.heap.size s pos ty hit hlt
     have HE:Hid (V=true):=by show V=true;rw [<- hall,rW s f pos hlt];rfl
     have rR:=hid hbel;clear hall hbel hit hpos;go_wp2;go_ret;exact ⟨by rw [HE.out];rfl,rR.out⟩
open Go.RowKit
theorem FU (s:ByteArray):∀ (r p c d:Nat),kL s r p c=some d->∀ j,j<r->128<=bt s (p+j)
  | 0,p,c,d,_,j,hj=>by omega
  | r+1,p,c,d,h,j,hj=>by
    rw [kL] at h;split at h
    ·rename_i hc
     cases j with
     | zero=>exact hc.2.1
     | succ j=>
       have:=FU s r (p+1) _ d h j (by omega);rw [show p+(j+1)=p+1+j by omega];exact this
    ·cases h
theorem YX{P:Prop}(h:P:=by
 split at hd
 ·split at hd
  ·injection hd with hd
   split at hl
   ·omega
   ·split at hl<;>omega
  ·cases hd
 ·cases hd):P:=h
theorem Cb (s:ByteArray) (i:Nat) (hi:i<s.size):(bt s i<128/\Utf8.decode s i=(bt s i,1))\/(128<=(Utf8.decode s i).1/\∀ j,j<(Utf8.decode s i).2->128<=bt s (i+j)):=by
  by_cases c1:bt s i<128
  ·exact .inl ⟨c1,wU s i c1⟩
  have bad:Utf8.decode s i=(65533,1)->128<=(Utf8.decode s i).1/\∀ j,j<(Utf8.decode s i).2->128<=bt s (i+j):=by
    intro h;rw [h];refine ⟨by decide,fun j hj=>?_⟩;have:j=0:=by simp at hj;exact hj
    subst this;exact Nat.le_of_not_lt c1
  have good:∀ n c,1<=n->Utf8.decode s i=N7 s i n (kL s (n-1) (i+1) c)->(∀ d,kL s (n-1) (i+1) c=some d->128<=d)->128<=(Utf8.decode s i).1/\∀ j,j<(Utf8.decode s i).2->128<=bt s (i+j):=by
    intro n c hn h hd;cases hg:kL s (n-1) (i+1) c with
    | none=>rw [hg] at h;exact bad h
    | some d=>
      rw [hg] at h;rw [h];refine ⟨hd d hg,fun j hj=>?_⟩;cases j with
      | zero=>exact Nat.le_of_not_lt c1
      | succ j=>
        have hj:j+1<n:=hj;have:=FU s (n-1) (i+1) c d hg j (by omega);rw [show i+(j+1)=i+1+j by omega];exact this
  refine .inr ?_;by_cases c2:bt s i<194\/244<bt s i
  ·exact bad (wV s i (by omega) c2)
  by_cases c3:bt s i<=223
  ·refine good 2 _ (by omega) (FV s i hi (by omega) c3) (fun d hd=>?_);have h:=(wW s i hi (by omega) c3);rw [show 2-1=1 from rfl,kL,kL] at hd;split at hd
   ·injection hd with hd;omega
   ·cases hd
  by_cases c4:bt s i<=239
  ·obtain ⟨d1,d2⟩:=FW s i hi (by omega) c4;by_cases hs:i+1<s.size/\jd (bt s i)<=bt s (i+1)/\bt s (i+1)<=jQ (bt s i)
   ·refine good 3 _ (by omega) (d2 hs.2.1 hs.2.2) (fun d hd=>?_);have hl:=hs.2.1;unfold jd at hl;rw [show 3-1=2 from rfl,kL,kL,kL,show i+1+1=i+2 from rfl] at hd;exact YX
   ·exact bad (d1 (.inl hs))
  ·obtain ⟨d1,d2⟩:=FX s i hi (by omega) (by omega);by_cases hs:i+1<s.size/\jd (bt s i)<=bt s (i+1)/\bt s (i+1)<=jQ (bt s i)
   ·refine good 4 _ (by omega) (d2 hs.2.1 hs.2.2) (fun d hd=>?_);have hl:=hs.2.1;unfold jd at hl;rw [show 4-1=3 from rfl,kL,kL,kL,kL,show i+1+1=i+2 from rfl,show i+2+1=i+3 from rfl] at hd;split at hd
    ·exact YX
    ·cases hd
   ·exact bad (d1 (.inl hs))
theorem xM (bs:List UInt8):∀ l:List UInt8,decide (0<=Lib.indexAny l bs)=l.any fun c=>bs.contains c
  | []=>rfl
  | b::l=>by
    have ih:=xM bs l;have hge:=Lib.indexAny_ge bs l;rw [Lib.indexAny,List.any_cons,<- ih];cases hb:bs.contains b with
    | true=>simp
    | false=>
      simp only [Bool.false_eq_true,if_false,Bool.false_or];by_cases h2:Lib.indexAny l bs=-1
      ·simp [h2]
      ·have h3:(Lib.indexAny l bs==-1)=false:=by simpa using h2
       simp only [h3,Bool.false_eq_true,if_false];rw [jDk];simp;omega
def jjx (v:Value) (w:jG9) (e:Ending) (w':jG9):Prop:=e=.returned v/\Below w.heap.size w w'
def qK (cs:ByteArray):Prop:=2<=cs.size/\cs.size<=8/\∀ j,j<cs.size->bt cs j<128
def nG (cs:ByteArray) (w:jG9) (k:Nat) (wr:jG9):Prop:=∃ pos:Nat,pos<=cs.size/\wr.heap[k]?=some (.stringIter cs pos)/\Below w.heap.size w wr/\w.heap.size<=k
theorem nG.A8 {cs:ByteArray} {w:jG9} {k:Nat} {wr:jG9} (h:nG cs w k wr):wr.iterPos k<=cs.size/\wr.heap[k]?=some (.stringIter cs (wr.iterPos k)):=by
  obtain ⟨pos,h1,h3,h5,h6⟩:=h;have hpos:wr.iterPos k=pos:=by simp only [World.iterPos,h3]
  rw [hpos];exact ⟨h1,h3⟩
theorem nG.next {cs:ByteArray} {w:jG9} {k:Nat} {wr:jG9} (h:nG cs w k wr) (p:Nat) (hp:p<=cs.size):nG cs w k (wr.iterAt k cs p)/\(wr.iterAt k cs p).iterPos k=p:=by obtain ⟨pos,h1,h3,h5,h6⟩:=h;have hh:=Lib.iterAt_heap wr k cs pos p h3;exact ⟨⟨p,hp,hh,Lib.below_iterAt h5 h6 cs p,h6⟩,by simp only [World.iterPos,hh]⟩
theorem nG.up {cs:ByteArray} {w:jG9} {k:Nat} {wr w':jG9} (h:nG cs w k wr) (hb:Below wr.heap.size wr w'):nG cs w k w'/\w'.iterPos k=wr.iterPos k:=by obtain ⟨pos,h1,h3,h5,h6⟩:=h;have hh:w'.heap[k]?=some (.stringIter cs pos):=(hb.block k (Array.getElem?_eq_some_iff.1 h3).1).trans h3;exact ⟨⟨pos,h1,hh,q01 h5 hb,h6⟩,by simp only [World.iterPos,hh,h3]⟩
theorem Bc (cs:ByteArray) (w:jG9) (hcs:qK cs) : Calls Tryz.prog 271 #[.string cs,.int .i32 65533] w (jjx (.int .i64 (-1)) w):=by
  obtain ⟨k2,k8,hasc⟩:=hcs;have HA:=hid hasc;have R0:Hid (nG cs w w.heap.size (w.iter cs 0)):=⟨0,jE3 _,World.iter_heap w cs 0,(jD7 _ _).alloc (jD8 _) _,jD8 _⟩;clear hasc;go_enter Tryz.func271,Tryz.ntmps271;go_wp2
  go_loopw [] (fun wr=>nG cs w w.heap.size wr) (fun wr=>cs.size-wr.iterPos w.heap.size)
  case atStart=>exact R0.out
  case round=>
    clear R0;obtain ⟨hps,hit⟩:=hrel.A8;obtain ⟨pos,hpe⟩:∃ pos,wr.iterPos w.heap.size=pos:=⟨_,rfl⟩;rw [hpe] at hps hit;have HPE:=hid hpe;clear hpe;have HR:=hid hrel;by_cases hlt:pos<cs.size
    ·have hnx:∀ ty,(Instr.next (.pointer (some ⟨w.heap.size,0,none⟩)) true ty).run Tryz.prog wr=_:=fun ty=>Lib.run_next_any_at wr w.heap.size cs pos ty hit hlt
     have hb:=HA.out pos hlt;rw [wU cs pos hb] at hnx;dsimp only at hnx;obtain ⟨r1,r2⟩:=hrel.next (pos+1) (by omega)
     generalize bt cs pos=b at *;have hwr:wrap64 (b:Int)=b:=IntWalk.wrap64_in _ ⟨by omega,by omega⟩;have hne:((b:Int)==65533)=false:=by rw [beq_eq_false_iff_ne];omega
     have R1:=hid r1;have R2:=hid r2;clear hit hrel r1 r2;go_wp2;go_roundw;case rel=>exact R1.out
     case measure=>rw [R2.out,HPE.out];omega
    ·have hnx:∀ ty,(Instr.next (.pointer (some ⟨w.heap.size,0,none⟩)) true ty).run Tryz.prog wr=_:=fun ty=>Lib.run_next_end_at wr w.heap.size cs pos ty hit hlt
     have HB:=hid hrel.choose_spec.2.2.1;clear hit hrel;go_wp2;go_ret;exact ⟨rfl,HB.out⟩
theorem uE {cs:ByteArray} (h:∀ j,j<cs.size->bt cs j<128):∀ x∈cs.data.toList,x.toNat<128:=by
  intro x hx;obtain ⟨j,hj⟩:=List.mem_iff_getElem?.1 hx;have hlt:j<cs.size:=by have:=(List.getElem?_eq_some_iff.1 hj).1;simpa using this
  rw [Cc cs j hlt] at hj;obtain rfl:=Option.some.inj hj;rw [jk cs j hlt];exact h j hlt
theorem Wd (cs:ByteArray) (m lb:Nat) (h:∀ j,j<cs.size->bt cs j<128) (hl:128<=lb) (hb:lb<256):Lib.indexByte (cs.extract (m+1) cs.size).data.toList ((lb:Int)).toNat.toUInt8<0:=by
  have:=oM (cs.extract (m+1) cs.size).data.toList ((lb:Int)).toNat.toUInt8;have h2:((cs.extract (m+1) cs.size).data.toList.all fun x=>!decide (x=((lb:Int)).toNat.toUInt8))=true:=by
    rw [List.all_eq_true];intro x hx;have hx:x∈cs.data.toList:=by rw [ByteArray.data_extract,Array.toList_extract] at hx;exact List.mem_of_mem_drop (List.mem_of_mem_take hx)
    have h3:=uE h x hx;simp;rintro rfl;have:(lb.toUInt8).toNat=lb%256:=rfl;simp at h3;omega
  rw [h2] at this;simpa using this
theorem jq2 {P:Program} {f:FuncId} {args:Array Value} {w:jG9} {a n:Nat} {v:Value} (h:Calls P f args (w.drewN (a+n)) fun e w'=>e=.returned v/\w'=w.drewN (a+n)) : Calls P f args (w.drewN (a+n)) fun e w''=>e=.returned v/\∃ m,w''=w.drewN (a+m):=h.mono fun _ _ ⟨he,hm⟩=>⟨he,n,hm⟩
def YZ (m:Nat) (w:jG9) (vi:Value) (wr:jG9):Prop:=vi=.int .i64 (m:Int)/\∃ q,wr=w.drewN q
theorem D9 (cs:ByteArray) (c:Nat) (w:jG9) (hcs:qK cs) (h1:128<=c) (h2:c<=1114111) (hne:c≠65533) : Calls Tryz.prog 271 #[.string cs,.int .i32 (c:Int)] w (jjx (.int .i64 (-1)) w):=by
  obtain ⟨k2,k8,hasc⟩:=hcs;have HA:=hid hasc;have hne:((c:Int)==65533)=false:=by rw [beq_eq_false_iff_ne];omega
  have VR:=hid (fun w=>Tryz.utf8_ValidRune (c:Int) w);clear hasc;go_enter Tryz.func271,Tryz.ntmps271;go_wp2_with fail
  refine (VR.out _).mono ?_;rintro e w1 ⟨rfl,rfl⟩;cases hv:Lib.validRune (c:Int)
  ·exact vC
  ·have HV:=hid hv;clear hv;go_wp2
   go_step3
   have hv:=HV.out;have hval:Utf8.valid (c:Int)=true:=by unfold Lib.validRune at hv;unfold Utf8.valid;simp at hv ⊢;omega
   obtain ⟨n2,n4,hlast⟩:=encode_facts (c:Int) hval (by omega);obtain ⟨rs,hrs⟩:∃ rs,Utf8.encode (c:Int)=rs:=⟨_,rfl⟩;rw [hrs] at n2 n4 hlast;obtain ⟨m,hm⟩:∃ m,rs.size=m+1:=⟨rs.size-1,by omega⟩;have hl0:=hlast (by omega);have jw1:m<rs.size:=by omega
   have hle:rs[m].toNat=bt rs m:=jk rs m jw1;have hl:128<=bt rs m:=by
     rw [<- hle];have e:rs.size-1=m:=by omega
     simp only [e] at hl0;exact hl0
   have m1:1<=m:=by omega
   have m3:m<=3:=by omega
   have hlb:=fZ rs m;generalize bt rs m=lb at *;have HIO:=hid (Wd cs m lb HA.out hl hlb);clear hl0 hv hlast hval;have R0:Hid (YZ m w1 (.int .i64 (m:Int)) w1):=⟨rfl,0,rfl⟩;go_wp2
   go_loopw [9] (fun i wr=>YZ m w1 i wr) (fun _ _=>0)
   case atStart=>exact R0.out
   case round=>
     clear R0;obtain ⟨rfl,q,rfl⟩:=hrel;by_cases hlt:m<cs.size
     ·have hcl:=HA.out _ hlt;have hce:=jk cs _ hlt;generalize bt cs m=cb at *;have hne2:((cb:Int) != (lb:Int))=true:=by rw [bne_iff_ne];omega
      go_wp2
      go_step3
      go_wp2_with fail
      go_quiet (fail)
      go_wp2_with fail
      go_quiet ((go_at_call 147;exact jq2 (Tryz.strings_IndexByte _ _ _)))
      have hio:=HIO.out;generalize Lib.indexByte (cs.extract (m+1) cs.size).data.toList ((lb:Int)).toNat.toUInt8=io at *;go_wp2;rw [Exit.noGoto_ret];go_ret;exact ⟨rfl,iR (jD7 _ _) _⟩
     ·go_wp2;rw [Exit.noGoto_ret];go_ret;exact ⟨rfl,iR (jD7 _ _) q⟩
theorem Jo {α:Type} (l:List α) (k:Nat) (x:α) (h:l[k]?=some x):l.drop k=x::l.drop (k+1):=by obtain ⟨hlt,rfl⟩:=List.getElem?_eq_some_iff.1 h;exact List.drop_eq_getElem_cons hlt
theorem Qx {cs:ByteArray} (h:∀ j,j<cs.size->bt cs j<128) (x:UInt8) (hx:128<=x.toNat):cs.data.toList.contains x=false:=by rw [Bool.eq_false_iff];intro h2;have:=uE h x (by simpa using h2);omega
theorem FY (s:ByteArray) (p:UInt8->Bool) (i:Nat) (h:i<s.size):(s.data.toList.drop i).any p=(p s[i]||(s.data.toList.drop (i+1)).any p):=by rw [Jo _ i s[i] (Cc s i h),List.any_cons]
theorem FZ (s:ByteArray) (p:UInt8->Bool):∀ (d i:Nat),i+d<=s.size->(∀ j,j<d->∀ (hj:i+j<s.size),p (s[i+j]'hj)=false)->(s.data.toList.drop i).any p=(s.data.toList.drop (i+d)).any p
  | 0,i,_,_=>rfl
  | d+1,i,hd,h=>by
    have h0:=h 0 (by omega) (by omega);rw [FY s p i (by omega)];rw [show p s[i]=false from h0,Bool.false_or,FZ s p d (i+1) (by omega) (fun j hj hlt=>?_)]
    ·rw [show i+1+d=i+(d+1) by omega]
    ·have:=h (j+1) (by omega) (by omega);simpa [Nat.add_assoc,Nat.add_comm 1 j] using this
theorem Me (x:UInt8):∀ l:List UInt8,l.contains x=!(l.all fun y=>!decide (y=x))
  | []=>rfl
  | y::l=>by
    rw [List.contains_cons,List.all_cons,Me x l];by_cases h:y=x
    ·simp [h]
    ·have h2:(x==y)=false:=by simpa using fun e=>h e.symm
     simp [h,h2]
def Y0 (s cs:ByteArray) (V:Bool) (w:jG9) (k:Nat) (wr:jG9):Prop:=nG s w k wr/\((s.data.toList.drop (wr.iterPos k)).any fun c=>cs.data.toList.contains c)=V
def Mf (V:Bool) (w:jG9) (e:Ending) (w':jG9):Prop:=∃ n:Int,e=.returned (.int .i64 n)/\decide (0<=n)=V/\Below w.heap.size w w'
theorem Y1{P:Prop}(h:P:=by
 go_wp2_with fail
 refine (IR.out _).mono ?_;rintro e w2 ⟨rfl,hb2⟩;have R3:=hid (R1.out.up hb2);clear hb2 hnx;go_wp2;go_roundw;case rel=>exact ⟨R3.out.1,by rw [R3.out.2,R2.out];exact HV.out⟩
 case measure=>rw [R3.out.2,R2.out,HPE.out];omega):P:=h
theorem xO (s cs:ByteArray) (w:jG9) (hs:s.size<=8) (hcs:qK cs) : Calls Tryz.prog 250 #[.string s,.string cs] w (Mf (mV s cs.data.toList) w):=by
  have I8:=hid hcs;obtain ⟨k2,k8,hasc⟩:=hcs;have HA:=hid hasc;rcases fq cs with rfl | ⟨hne,hp,hie,hes⟩
  ·simp at k2
  have SU:=hid (fun w=>Tryz.strings_shouldUseASCIISet (s.size:Int) w);have hn1:((cs.size:Int)==1)=false:=by rw [beq_eq_false_iff_ne];omega
  have q8:decide ((8:Int)<(s.size:Int))=false:=by simp;omega
  obtain ⟨V,hV⟩:∃ V,mV s cs.data.toList=V:=⟨_,rfl⟩;rw [hV];have R0:Hid (Y0 s cs V w w.heap.size (w.iter s 0)):=by
    have hh:=World.iter_heap w s 0;refine ⟨⟨0,jE3 _,hh,(jD7 _ _).alloc (jD8 _) _,jD8 _⟩,?_⟩;have:(w.iter s 0).iterPos w.heap.size=0:=by simp only [World.iterPos,hh]
    rw [this];exact hV
  clear hasc hV hes;go_enter Tryz.func250,Tryz.ntmps250;go_wp2_with fail
  refine (SU.out _).mono ?_;rintro e w1 ⟨rfl,rfl⟩;go_wp2
  go_loopw [] (fun wr=>Y0 s cs V w1 w1.heap.size wr) (fun wr=>s.size-wr.iterPos w1.heap.size)
  case atStart=>exact R0.out
  case round=>
    clear R0;obtain ⟨N8,hany⟩:=hrel;obtain ⟨hps,hit⟩:=N8.A8;obtain ⟨pos,hpe⟩:∃ pos,wr.iterPos w1.heap.size=pos:=⟨_,rfl⟩;rw [hpe] at hps hit hany;have HPE:=hid hpe;clear hpe;by_cases hlt:pos<s.size
    ·have hnx:∀ ty,(Instr.next (.pointer (some ⟨w1.heap.size,0,none⟩)) true ty).run Tryz.prog wr=_:=fun ty=>Lib.run_next_any_at wr w1.heap.size s pos ty hit hlt
     have hle:=oL s pos hlt;have hd:=Lib.rune_le s pos;have hwd:=iB s pos;obtain ⟨r1,r2⟩:=N8.next (pos+(Utf8.decode s pos).2) hle
     have R1:=hid r1;have R2:=hid r2;rcases Cb s pos hlt with ⟨hb,hdec⟩ | ⟨hd8,hbs⟩
     ·rw [hdec] at hnx R1 R2;dsimp only at hnx R1 R2;have hstep:=FY s (fun c=>cs.data.toList.contains c) pos hlt;have hbx:s[pos].toNat=bt s pos:=jk s pos hlt;have hx8:((bt s pos:Int)).toNat.toUInt8=s[pos]:=by
        rw [<- hbx];simp
      have IR:=hid (fun w=>Tryz.strings_IndexRune_ascii cs (bt s pos:Int) w (by omega) (by omega));rw [hx8] at IR;have hin:=oM cs.data.toList s[pos];have HC:Hid (cs.data.toList.contains s[pos]=!decide (Lib.indexByte cs.data.toList s[pos]<0)):=by show _=_;rw [hin];exact Me s[pos] cs.data.toList
      have hge:=Lib.indexByte_ge cs.data.toList s[pos];have HST:=hid hstep;have jq3:=hid hany;clear N8 hit hstep hx8 hin r1 r2 hany hd hwd hle;generalize Lib.indexByte cs.data.toList s[pos]=ix at *;clear hbx;generalize bt s pos=b at *;have hwr:wrap64 (b:Int)=b:=IntWalk.wrap64_in _ ⟨by omega,by omega⟩;by_cases hix:0<=ix
      ·have HV:Hid (V=true):=by
         show V=true;rw [<- jq3.out,HST.out,HC.out];have:decide (ix<0)=false:=by simp;omega
         rw [this];rfl
       go_wp2_with fail
       refine (IR.out _).mono ?_;rintro e w2 ⟨rfl,hw2⟩;subst hw2;go_wp2;go_ret;refine ⟨_,rfl,?_,?_⟩
       ·rw [HV.out];simp
       ·obtain ⟨_,_,_,hbl,_⟩:=R1.out;exact hbl
      ·have HV:Hid (((s.data.toList.drop (pos+1)).any fun c=>cs.data.toList.contains c)=V):=by
         show _=V;rw [<- jq3.out,HST.out,HC.out];have:decide (ix<0)=true:=by simp;omega
         rw [this];rfl
       go_wp2_with fail
       refine (IR.out _).mono ?_;rintro e w2 ⟨rfl,hw2⟩;subst hw2;go_wp2;go_roundw;case rel=>exact ⟨R1.out,by rw [R2.out];exact HV.out⟩
       case measure=>rw [R2.out,HPE.out];omega
     ·have Y2:=FZ s (fun c=>cs.data.toList.contains c) (Utf8.decode s pos).2 pos hle (fun j hj hlt2=>Qx HA.out _ (by rw [jk s (pos+j) hlt2];exact hbs j hj));have HV:Hid (((s.data.toList.drop (pos+(Utf8.decode s pos).2)).any fun c=>cs.data.toList.contains c)=V):=by
        show _=V;rw [<- Y2];exact hany
      clear N8 hit Y2 r1 r2 hany hbs;generalize Utf8.decode s pos=d at *;obtain ⟨d1,d2⟩:=d;simp only at hnx R1 R2 HV hle hd hwd hd8;have hwr:wrap64 (d1:Int)=d1:=IntWalk.wrap64_in _ ⟨by omega,by omega⟩;by_cases h65:d1=65533
      ·subst h65;have IR:=hid (fun w=>Bc cs w I8.out);obtain ⟨wi,hwi⟩:∃ wi,wi=wr.iterAt w1.heap.size s (pos+d2):=⟨_,rfl⟩;rw [<- hwi] at hnx R1 R2;clear hwi;exact Y1
      ·have IR:=hid (fun w=>D9 cs d1 w I8.out hd8 hd h65);obtain ⟨wi,hwi⟩:∃ wi,wi=wr.iterAt w1.heap.size s (pos+d2):=⟨_,rfl⟩;rw [<- hwi] at hnx R1 R2;clear hwi h65;exact Y1
    ·have hnx:∀ ty,(Instr.next (.pointer (some ⟨w1.heap.size,0,none⟩)) true ty).run Tryz.prog wr=_:=fun ty=>Lib.run_next_end_at wr w1.heap.size s pos ty hit hlt
     have HV:Hid (V=false):=by show V=false;rw [<- hany,List.drop_of_length_le (by simp;omega)];rfl
     have HB:Hid (Below w1.heap.size w1 wr):=by obtain ⟨_,_,_,hbl,_⟩:=N8;exact hbl
     clear hit N8 hany;go_wp2;go_ret;exact ⟨_,rfl,by rw [HV.out];simp,HB.out⟩
theorem Jp (s:ByteArray) (bs:List UInt8):decide (0<=Lib.indexAny s.data.toList bs)=mV s bs:=xM bs _
theorem q38 (s cs:ByteArray) (w:jG9) (hs:s.size<=1000000000) (hcs:qK cs) : Calls Tryz.prog 222 #[.string s,.string cs] w (jjx (.bool (mV s cs.data.toList)) w):=by
  have IA:Calls Tryz.prog 250 #[.string s,.string cs] w (Mf (mV s cs.data.toList) w):=by
    by_cases h8:s.size<=8
    ·exact xO s cs w h8 hcs
    ·obtain ⟨k2,k8,hasc⟩:=hcs;have h116:(Tryz.prog.info? 206).map (fun i=>(i.zero,i.size))=some (some (.agg (Array.replicate 256 (.bool false))),256):=by kernel_rfl
     have hz:=(zero_of_info h116).1;refine (Tryz.strings_IndexAny_long hz s cs w k2 (by omega) (by omega) (by omega) (fun j b hb=>uE hasc b (jE4 hb))).mono ?_;rintro e w' ⟨rfl,rfl⟩;exact ⟨_,rfl,Jp _ _,((jD7 _ _).alloc (jD8 _) _).alloc (by simp) _⟩
  have HI:=hid IA;clear IA;generalize mV s cs.data.toList=V at *;go_enter Tryz.func222,Tryz.ntmps222;go_wp2_with fail
  refine HI.out.mono ?_;rintro e w2 ⟨n,rfl,hv,hb⟩;have HV:=hid hv;clear hv;go_wp2;all_goals
    go_ret;refine ⟨?_,hb⟩;rw [<- HV.out];rfl
open Go.RowKit
def jq4 (s:ByteArray) (vi:Value):Prop:=∃ k:Nat,k<=s.size/\vi=.int .i64 k/\∀ j x,j<k->s.data.toList[j]?=some x->dY x.toNat=true
theorem N9 (b:Nat):(97<=b/\b<=122)\/(65<=b/\b<=90)\/b<65\/(91<=b/\b<=96)\/122<b:=by omega
theorem jw2:qK ⟨#[32,60,62]⟩:=⟨by decide,by decide,by decide⟩
theorem jw3:qK ⟨#[124,123,125]⟩:=⟨by decide,by decide,by decide⟩
theorem jq5:qK ⟨#[91,93,59,64,123,36,96]⟩:=⟨by decide,by decide,by decide⟩
theorem get_bt (s:ByteArray) (k:Nat) (c:UInt8):decide (s.data.toList[k]?=some c)=(decide (k<s.size)&&decide (bt s k=c.toNat)):=by
  by_cases h:k<s.size
  ·rw [Cc s k h,<- jk s k h,jDk];simp [h,UInt8.toNat_inj]
  ·have:s.data.toList[k]?=none:=by rw [List.getElem?_eq_none_iff];simp;omega
   rw [this];simp [h]
theorem Qy{P:Prop}(h:P:=by
 have HRK:Hid (V=(decide (2<=k)&&decide (k<=20)&&(decide (k<s.size)&&decide (b=58))&&L&&!A)):=by show _=_;rw [HA.out,HN.out (by unfold dY nI;simp;omega),HBE.out]
 have q58:((b:Int)==58)=decide (b=58):=by rw [Bool.eq_iff_iff];simp;omega
 obtain ⟨b5,jq6⟩:∃ b5,decide (b=58)=b5:=⟨_,rfl⟩;rw [jq6] at q58 HRK;clear jq6;go_wp2_with (first | (go_at_call 93;refine (CL.out _).mono ?_;rintro e w2 ⟨rfl,q,rfl⟩) | (go_at_call 222;refine (CA.out _).mono ?_;rintro e w2 ⟨rfl,hb2⟩))
 all_goals
   go_ret;refine ⟨wF ?_,?_⟩
   ·rw [HRK.out,decide_eq_true hlt]
    (try simp [*])
    (try omega)
   ·first | exact (iR (Below.refl _ _) _).trans hb2 | exact iR (Below.refl _ _) _ | exact Below.refl _ _):P:=h
theorem Y3{P:Prop}(h:P:=by
 go_wp2
 go_round
 case rel=>exact ⟨k+1,by omega,by go_num,HL.out (by unfold dY nI;simp;omega)⟩
 case measure=>simp [intOf];omega):P:=h
theorem Qz{P Q:Prop}(q:Q)(h:Nonempty Q->P:=by
 intro qQ;have d0:decide ((97:Int)<=(b:Int))=false:=by simp;omega
 have d1:decide ((b:Int)<=122)=true:=by simp;omega
 revert d0 d1;exact qQ.elim fun x=>x):P:=h ⟨q⟩
theorem QA{P Q:Prop}(q:Q)(h:Nonempty Q->P:=by
 intro qQ;have d2:decide ((65:Int)<=(b:Int))=true:=by simp;omega
 have d3:decide ((b:Int)<=90)=false:=by simp;omega
 revert d2 d3;exact qQ.elim fun x=>x):P:=h ⟨q⟩
theorem F4 (s:ByteArray) (w:World) (hs:s.size<=1000000000) : Calls Tryz.prog 198 #[.string s] w (eX (.bool (mH s)) w):=by
  have CL:=hid (fun w=>QB s w hs);have CA:=hid (fun w=>q38 s ⟨#[32,60,62]⟩ w hs jw2);have HA:Hid (mH s=(decide (2<=gq s)&&decide (gq s<=20)&&(decide (gq s<s.size)&&decide (bt s (gq s)=58))&&dG s&&!mV s [32,60,62])):=by show _=_;unfold mH;rw [get_bt];rfl
  obtain ⟨V,hV⟩:∃ V,V=mH s:=⟨_,rfl⟩;rw [<- hV] at HA ⊢;clear hV;have HR:∀ k,k<=s.size->(∀ j x,j<k->s.data.toList[j]?=some x->dY x.toNat=true)->(∀ x,s.data.toList[k]?=some x->dY x.toNat=false)->gq s=k:=fun k hk h1 h2=>
    qL (fun c=>dY c.toNat) _ k (by simpa using hk) h1 h2
  have HR:=hid HR;have e2:(⟨#[32,60,62]⟩:ByteArray).data.toList=[32,60,62]:=rfl;rw [e2] at CA;clear e2;generalize dG s=L at *;generalize mV s [32,60,62]=A at *;generalize gq s=r at *;go_enter Tryz.func198,Tryz.ntmps198;go_wp2
  go_loop [3] (fun i=>jq4 s i) (fun i=>s.size-(intOf i).toNat)
  case atStart=>exact ⟨0,Nat.zero_le _,rfl,fun j x hj=>by omega⟩
  case round=>
    obtain ⟨k,hk,rfl,hall⟩:=hrel;have Ea:=hid hall;clear hall;by_cases hlt:k<s.size
    ·have hb:=fZ s k;have e0:=jk s k hlt;have HG:=hid (Cc s k hlt);have HB:=hid e0;obtain ⟨b,hbe⟩:∃ b,bt s k=b:=⟨_,rfl⟩;rw [hbe] at e0 hb HB;have HBE:=hid hbe;clear hbe;have hl:dY b=true->∀ j x,j<k+1->s.data.toList[j]?=some x->dY x.toNat=true:=by
       intro hl j x hj hx;rcases Nat.lt_or_ge j k with h | h
       ·exact Ea.out j x h hx
       ·have:j=k:=by omega
        subst this;rw [HG.out] at hx;obtain rfl:=Option.some.inj hx;rw [HB.out];exact hl
     have hn:dY b=false->r=k:=by intro hl;refine HR.out k hk Ea.out (fun x hx=>?_);rw [HG.out] at hx;obtain rfl:=Option.some.inj hx;rw [HB.out];exact hl
     have HL:=hid hl;have HN:=hid hn;clear hl hn;rcases N9 b with ⟨h1,h2⟩ | ⟨h1,h2⟩ | h1 | ⟨h1,h2⟩ | h1
     ·have d0:decide ((97:Int)<=(b:Int))=true:=by simp;omega
      have d1:decide ((b:Int)<=122)=true:=by simp;omega
      refine QA ?_;intro d2 d3;exact Y3
     ·refine Qz ?_;intro d0 d1;have d2:decide ((65:Int)<=(b:Int))=true:=by simp;omega
      have d3:decide ((b:Int)<=90)=true:=by simp;omega
      exact Y3
     ·refine Qz ?_;intro d0 d1;have d2:decide ((65:Int)<=(b:Int))=false:=by simp;omega
      have d3:decide ((b:Int)<=90)=true:=by simp;omega
      exact Qy
     ·refine Qz ?_;intro d0 d1;refine QA ?_;intro d2 d3;exact Qy
     ·have d0:decide ((97:Int)<=(b:Int))=true:=by simp;omega
      have d1:decide ((b:Int)<=122)=false:=by simp;omega
      refine QA ?_;intro d2 d3;exact Qy
    ·have HRK:Hid (V=false):=by
       show _=_;rw [HA.out,HR.out k hk Ea.out (fun x hx=>by
         have:=(List.getElem?_eq_some_iff.1 hx).1;have e:s.data.toList.length=s.size:=by simp
         omega)]
       simp [hlt]
     have q:decide ((k:Int)<(s.size:Int))=false:=by simp;omega
     go_wp2;all_goals
       go_ret;refine ⟨wF ?_,Below.refl _ _⟩;rw [HRK.out]
       (try simp)
       (try omega)
open Go.RowKit
def xP:List UInt8:=[91,93,59,64,123,36,96]
theorem Ce (s:ByteArray):gU s=(!dG s||!trimS s||mV s xP):=rfl
def jw4 (pre suf:ByteArray) (wi:World) (vj:Value) (wj:World):Prop:=Below wi.heap.size wi wj/\(vj=.int .i64 0\/(vj=.int .i64 1/\gU pre=false)\/(vj=.int .i64 2/\gU pre=false/\gU suf=false))
def Y4 (l:List Ci) (E:Nat) (w:World) (vi:Value) (wr:World):Prop:=∃ k:Nat,k<=l.length/\vi=.int .i64 k/\Below w.heap.size w wr/\eF (l.drop k)=E
theorem xQ (l:List Ci) (a:Option Addr) (cap:Nat) (w:World) (h:Rd (·<w.heap.size) w (Oa l) [.slice a l.length cap]) (hsz:∀ c∈l,c.key.size<=5000/\c.pre.size<=5000/\c.suf.size<=5000) : Calls Tryz.prog 197 #[.slice a l.length cap] w (eX (.int .i64 (QC l:Nat)) w):=by
  obtain ⟨a',c',hv,hs⟩:=Rd.ay h;obtain ⟨rfl,rfl⟩:a'=a/\c'=cap:=by simp at hv;exact ⟨hv.1.symm,hv.2.symm⟩
  have hcap:l.length<=c':=by simpa using hs.le
  have hmx:=hs.max;unfold maxLen at hmx;have HS:=hid hs;have SZ:=hid hsz;clear hs hv h hsz;by_cases h0:l.length=0
  ·have hv:QC l=8:=by
     obtain rfl:=List.eq_nil_of_length_eq_zero h0;rfl
   rw [hv];have e0:((l.length:Int)==0)=true:=by rw [h0];rfl
   clear hv h0;go_enter Tryz.func197,Tryz.ntmps197;exact vC
  have hv:QC l=eF l:=by
    cases l with
    | nil=>simp at h0
    | cons x l=>rfl
  rw [hv];have e0:((l.length:Int)==0)=false:=by rw [beq_eq_false_iff_ne];omega
  obtain ⟨E,hE⟩:∃ E,eF l=E:=⟨_,rfl⟩;rw [hE];have R0:Hid (Y4 l E w (.int .i64 0) w):=⟨0,Nat.zero_le _,rfl,Below.refl _ _,hE⟩;clear hv hE h0;go_enter Tryz.func197,Tryz.ntmps197;go_wp2
  go_loopw [12] (fun i wr=>Y4 l E w i wr) (fun i _=>l.length-(intOf i).toNat)
  case atStart=>exact R0.out
  case round=>
    clear R0;obtain ⟨k,hk,rfl,hbel,bq⟩:=hrel;have HB:=hid hbel;by_cases hlt:k<l.length
    ·obtain ⟨x,hx⟩:∃ x,l[k]?=some x:=⟨_,List.getElem?_eq_getElem hlt⟩;have hxs:=SZ.out x (List.mem_of_getElem? hx);obtain ⟨b,off,rfl,-,-,c0,c1,c2,c3⟩:=Jq HS.out hx;have c0:wr.cell? ⟨b,off+k*4,none⟩=some (.string x.key):=by rw [hbel.cell (p:=⟨b,off+k*4,none⟩) (qw c0)];exact c0
     have c1:wr.cell? ⟨b,off+k*4+1,none⟩=some (.string x.pre):=by rw [hbel.cell (p:=⟨b,off+k*4+1,none⟩) (qw c1)];exact c1
     have c2:wr.cell? ⟨b,off+k*4+2,none⟩=some (.string x.suf):=by rw [hbel.cell (p:=⟨b,off+k*4+2,none⟩) (qw c2)];exact c2
     have c3:wr.cell? ⟨b,off+k*4+3,none⟩=some (.bool x.bare):=by rw [hbel.cell (p:=⟨b,off+k*4+3,none⟩) (qw c3)];exact c3
     rw [I9 l k x hx,eF] at bq;obtain ⟨key,pre,suf,bare⟩:=x;dsimp only at c0 c1 c2 c3 hxs bq;have bX:=hid bq;have CN:=hid (fun w=>P9 key w (by omega));clear bq hx hbel;cases hn:dZ key with
     | false=>
       rw [hn] at CN;have HE:Hid (E=6):=by show E=6;have:=bX.out;rw [if_pos hn] at this;exact this.symm
       clear hn;go_wp2_with fail
       refine (CN.out _).mono ?_;rintro e w3 ⟨rfl,rfl⟩;go_wp2;go_ret;exact ⟨by rw [HE.out];rfl,HB.out.alloc HB.out.size _⟩
     | true=>
       rw [hn] at CN;have iJ:Hid ((if gU pre=true\/gU suf=true then 17 else eF (l.drop (k+1)))=E):=by show _=_;have:=bX.out;rw [if_neg (by rw [hn];decide)] at this;exact this
       obtain ⟨wi,hwi⟩:∃ wi,wi=wr.alloc (.cells #[.string key,.string pre,.string suf,.bool bare] 121):=⟨_,rfl⟩;have HBI:Hid (Below w.heap.size w wi):=by rw [hwi];exact HB.out.alloc HB.out.size _
       have i0:wi.cell? ⟨wr.heap.size,0,none⟩=some (.string key):=by rw [hwi];exact F5 wr [.string key,.string pre,.string suf,.bool bare] _ 0 _ rfl
       have i1:wi.cell? ⟨wr.heap.size,1,none⟩=some (.string pre):=by rw [hwi];exact F5 wr [.string key,.string pre,.string suf,.bool bare] _ 1 _ rfl
       have i2:wi.cell? ⟨wr.heap.size,2,none⟩=some (.string suf):=by rw [hwi];exact F5 wr [.string key,.string pre,.string suf,.bool bare] _ 2 _ rfl
       clear hn bX;go_upto_region 6 with (fail)
       rw [<- hwi];clear hwi c0 c1 c2 c3;have jB6:∀ wx,(Instr.index 200 (.agg #[.string pre,.string suf]) (.int .i64 0)).run Tryz.prog wx=.ok (.string pre) wx:=fun wx=>by kernel_rfl
       have jB7:∀ wx,(Instr.index 200 (.agg #[.string pre,.string suf]) (.int .i64 1)).run Tryz.prog wx=.ok (.string suf) wx:=fun wx=>by kernel_rfl
       go_wp2_with fail
       refine (CN.out _).mono ?_;rintro e w3 ⟨rfl,rfl⟩;go_wp2
       go_loopw [25] (fun j wj=>jw4 pre suf wi j wj) (fun j _=>2-(intOf j).toNat)
       case atStart=>exact ⟨Below.refl _ _,.inl rfl⟩
       case round=>
         clear i0 i1 i2;obtain ⟨hbj,hj⟩:=hrel;have HBJ:=hid hbj;rcases hj with rfl | ⟨rfl,hp⟩ | ⟨rfl,hp,hsf⟩
         ·have CL:=hid (fun w=>QB pre w (by omega));have CT:=hid (fun w=>je pre w (by omega));have CA:=hid (fun w=>q38 pre ⟨#[91,93,59,64,123,36,96]⟩ w (by omega) jq5);have e7:(⟨#[91,93,59,64,123,36,96]⟩:ByteArray).data.toList=xP:=rfl;rw [e7] at CA;have nC:=hid (Ce pre);clear e7 hbj;cases hL:dG pre<;>cases hT:trimS pre<;>cases hA:mV pre xP
          all_goals
            rw [hL,hT,hA] at nC;rw [hL] at CL;rw [hT] at CT;rw [hA] at CA;clear hL hT hA;go_wp2_with (first | (go_at_call 93;refine (CL.out _).mono ?_;rintro e w2 ⟨rfl,q,rfl⟩) | (go_at_call 94;refine (CT.out _).mono ?_;rintro e w2 ⟨rfl,rfl⟩) | (go_at_call 222;refine (CA.out _).mono ?_;rintro e w2 ⟨rfl,hb2⟩))
            first
            | (go_ret
               have HE:E=17:=by have:=iJ.out;rw [if_pos (.inl (by rw [nC.out];rfl))] at this;exact this.symm
               refine ⟨by rw [HE];rfl,q01 (q01 HBI.out HBJ.out) ?_⟩;first | exact (iR (Below.refl _ _) _).trans hb2 | exact iR (Below.refl _ _) _)
            | (go_roundw
               case rel=>exact ⟨q01 HBJ.out ((iR (Below.refl _ _) _).trans hb2),.inr (.inl ⟨by go_num,by rw [nC.out];rfl⟩)⟩
               case measure=>simp [intOf])
         ·have CL:=hid (fun w=>QB suf w (by omega));have CT:=hid (fun w=>je suf w (by omega));have CA:=hid (fun w=>q38 suf ⟨#[91,93,59,64,123,36,96]⟩ w (by omega) jq5);have e7:(⟨#[91,93,59,64,123,36,96]⟩:ByteArray).data.toList=xP:=rfl;rw [e7] at CA;have nC:=hid (Ce suf);have HP:=hid hp;clear e7 hbj hp;cases hL:dG suf<;>cases hT:trimS suf<;>cases hA:mV suf xP
          all_goals
            rw [hL,hT,hA] at nC;rw [hL] at CL;rw [hT] at CT;rw [hA] at CA;clear hL hT hA;go_wp2_with (first | (go_at_call 93;refine (CL.out _).mono ?_;rintro e w2 ⟨rfl,q,rfl⟩) | (go_at_call 94;refine (CT.out _).mono ?_;rintro e w2 ⟨rfl,rfl⟩) | (go_at_call 222;refine (CA.out _).mono ?_;rintro e w2 ⟨rfl,hb2⟩))
            first
            | (go_ret
               have HE:E=17:=by have:=iJ.out;rw [if_pos (.inr (by rw [nC.out];rfl))] at this;exact this.symm
               refine ⟨by rw [HE];rfl,q01 (q01 HBI.out HBJ.out) ?_⟩;first | exact (iR (Below.refl _ _) _).trans hb2 | exact iR (Below.refl _ _) _)
            | (go_roundw
               case rel=>exact ⟨q01 HBJ.out ((iR (Below.refl _ _) _).trans hb2),.inr (.inr ⟨by go_num,HP.out,by rw [nC.out];rfl⟩)⟩
               case measure=>simp [intOf])
         ·have HN:Hid (eF (l.drop (k+1))=E):=by
            show _=_;have:=iJ.out;rw [if_neg (by rw [hp,hsf];simp)] at this;exact this
          clear hp hsf hbj;go_wp2;go_roundw;case rel=>exact ⟨k+1,by omega,by go_num,q01 HBI.out HBJ.out,HN.out⟩
          case measure=>simp [intOf];omega
    ·obtain rfl:k=l.length:=by omega
     have HE:Hid (E=0):=by show E=0;rw [List.drop_length,eF] at bq;exact bq.symm
     clear bq;exact jr
open Go.RowKit
def QD:List UInt8:=[124,123,125]
theorem Ob (s:ByteArray):Eb s=(!dG s||mV s QD):=rfl
def NmR (l:List ByteArray) (w:World) (vi:Value) (wr:World):Prop:=∃ k:Nat,k<=l.length/\vi=.int .i64 k/\Below w.heap.size w wr/\(l.take k).any Eb=false
structure Y5 (t d ti:ByteArray) (a:At) (ar:List ByteArray) (ci:List Ci):Prop where
  t:t.size<=1000000
  d:d.size<=1000000
  ti:ti.size<=1000000
  at_:a.short
  ars:∀ c∈ar,c.size<=5000
  cis:∀ c∈ci,c.key.size<=5000/\c.pre.size<=5000/\c.suf.size<=5000
theorem xR {α:Type} (p:α->Bool) {l:List α} {k:Nat} {x:α} (h:l[k]?=some x):(l.take (k+1)).any p=((l.take k).any p||p x):=by rw [List.take_add_one,h];simp
theorem Jr {α:Type} (p:α->Bool) {l:List α} {k:Nat} {x:α} (h:l[k]?=some x) (hp:p x=true):l.any p=true:=List.any_eq_true.2 ⟨x,List.mem_of_getElem? h,hp⟩
theorem nJ{P:Prop}(h:P:=by
 go_wp2;go_ret;exact ⟨by rw [HV.out];rfl,Below.refl _ _⟩):P:=h
theorem xS (w:jG9) (b o:Nat) (k:Int) (t d ti:ByteArray) (at_:At) (ar:List ByteArray) (ci:List Ci) (ks:List aj) (ac ap aa ai ak:Option Addr) (cc cp ca gu ck:Nat) (h:Y6 w b o k t d ti at_ ar ci ks ac ap aa ai ak cc cp ca gu ck) (hs:Y5 t d ti at_ ar ci) (hk:k=12\/k=14\/k=15) (har:k=15\/ar=[]) : Calls Tryz.prog 196 #[.pointer (some ⟨b,o,none⟩)] w (eX (.int .i64 (QE k t ti ar:Nat)) w):=by
  obtain ⟨a',c',hv,hsl⟩:=Rd.ay h.rd.args;obtain ⟨rfl,rfl⟩:a'=aa/\c'=ca:=by simp at hv;exact ⟨hv.1.symm,hv.2.symm⟩
  have hcap:ar.length<=c':=by simpa using hsl.le
  have hmx:=hsl.max;unfold maxLen at hmx;have HS:=hid hsl;have SZ:=hid hs.ars;have NT:=hid (fun w=>P9 t w (by have:=hs.t;omega));obtain ⟨c0,c1,c2,c3,c4,c5,c6,c7,c8,c9⟩:=h.cells;have R0:Hid (NmR ar w (.int .i64 0) w):=⟨0,jE3 _,rfl,jD7 _ _,by simp⟩;clear hv hsl h hs;have HE:Hid (QE k t ti ar=if dZ t=false then 6 else if k=14/\aW ti=false/\ti.data.toList≠nL then 5 else if 8<ar.length then 3 else if ar.any Eb then 17 else 0):=rfl;obtain ⟨V,hV⟩:∃ V,V=QE k t ti ar:=⟨_,rfl⟩;rw [<- hV] at HE ⊢;clear hV;cases hn:dZ t with
  | false=>
    rw [hn] at NT;have HV:Hid (V=6):=by show V=6;rw [HE.out,if_pos hn]
    clear hn;go_enter Tryz.func196,Tryz.ntmps196;go_wp2_with fail
    refine (NT.out _).mono ?_;rintro e w3 ⟨rfl,rfl⟩;exact nJ
  | true=>
  rw [hn] at NT;have HE2:Hid (V=if k=14/\aW ti=false/\ti.data.toList≠nL then 5 else if 8<ar.length then 3 else if ar.any Eb then 17 else 0):=by show V=_;rw [HE.out,if_neg (by rw [hn];decide)]
  clear hn HE;rcases hk with rfl | rfl | rfl
  case' inl=>
    have h0:ar=[]:=by rcases har with h | h;(exact absurd h (by decide));exact h
    have hl0:ar.length<=8:=by rw [h0];simp
    have HL:Hid (V=if ar.any Eb then 17 else 0):=by show V=_;rw [HE2.out,if_neg (by rintro ⟨h,-⟩;exact absurd h (by decide)),if_neg (by omega)]
    clear har h0 HE2
  case' inr.inl=>
    have h0:ar=[]:=by rcases har with h | h;(exact absurd h (by decide));exact h
    have hl0:ar.length<=8:=by rw [h0];simp
    clear har h0;rcases fq ti with rfl | ⟨t1,t2,t3,t4⟩
    case' inl=>
      have HL:Hid (V=if ar.any Eb then 17 else 0):=by show V=_;rw [HE2.out,if_neg (by rintro ⟨-,h,-⟩;exact absurd h (by decide)),if_neg (by omega)]
      clear HE2
    case' inr=>
      have hpg:(ti.toList==[112,97,103,101])=decide (ti.data.toList=nL):=by rw [Lib.toList_data,jDk,beq_iff_eq,decide_eq_true_iff];rfl
      by_cases hp:ti.data.toList=nL;case neg=>
        have HV:Hid (V=5):=by show V=_;rw [HE2.out,if_pos ⟨rfl,t4,hp⟩]
        rw [decide_eq_false hp] at hpg;clear HE2 hp;go_enter Tryz.func196,Tryz.ntmps196;go_wp2_with fail
        refine (NT.out _).mono ?_;rintro e w3 ⟨rfl,rfl⟩;exact nJ
      have HL:Hid (V=if ar.any Eb then 17 else 0):=by show V=_;rw [HE2.out,if_neg (by rintro ⟨-,-,h⟩;exact h hp),if_neg (by omega)]
      rw [decide_eq_true hp] at hpg;clear HE2 hp
  case' inr.inr=>
    clear har;by_cases h8:8<ar.length
    ·have HV:Hid (V=3):=by show V=_;rw [HE2.out,if_neg (by rintro ⟨h,-⟩;exact absurd h (by decide)),if_pos h8]
     have q8:decide ((8:Int)<(ar.length:Int))=true:=by simp;omega
     clear HE2;go_enter Tryz.func196,Tryz.ntmps196;go_wp2_with fail
     refine (NT.out _).mono ?_;rintro e w3 ⟨rfl,rfl⟩;exact nJ
    have HL:Hid (V=if ar.any Eb then 17 else 0):=by show V=_;rw [HE2.out,if_neg (by rintro ⟨h,-⟩;exact absurd h (by decide)),if_neg h8]
    have q8:decide ((8:Int)<(ar.length:Int))=false:=by simp;omega
    clear HE2
  all_goals
    go_enter Tryz.func196,Tryz.ntmps196;go_wp2_with fail
    refine (NT.out _).mono ?_;rintro e w3 ⟨rfl,rfl⟩;go_wp2
    go_loopw [48] (fun i wr=>NmR ar w i wr) (fun i _=>ar.length-(intOf i).toNat)
    case atStart=>exact R0.out
    case round=>
      clear R0;obtain ⟨j,hj,rfl,hbel,hno⟩:=hrel;have HB:=hid hbel;have Js:=hid hno;by_cases hlt:j<ar.length
      ·obtain ⟨x,hx⟩:∃ x,ar[j]?=some x:=⟨_,List.getElem?_eq_getElem hlt⟩;have hxs:=SZ.out x (jE4 hx);obtain ⟨b2,off,rfl,-,-,x0⟩:=jf HS.out hx;have x0:wr.cell? ⟨b2,off+j,none⟩=some (.string x):=by rw [hbel.cell (p:=⟨b2,off+j,none⟩) (qw x0)];exact x0
       have CL:=hid (fun w=>QB x w (by omega));have CA:=hid (fun w=>q38 x ⟨#[124,123,125]⟩ w (by omega) jw3);have e7:(⟨#[124,123,125]⟩:ByteArray).data.toList=QD:=rfl;rw [e7] at CA;have nC:=hid (Ob x);have gV:=hid (xR Eb hx);have HAT:=hid (Jr Eb hx);clear e7 hbel hno hx;cases hL:dG x<;>cases hA:mV x QD
       all_goals
         rw [hL,hA] at nC;rw [hL] at CL;rw [hA] at CA;clear hL hA;go_wp2_with (first | (go_at_call 93;refine (CL.out _).mono ?_;rintro e w2 ⟨rfl,q,rfl⟩) | (go_at_call 222;refine (CA.out _).mono ?_;rintro e w2 ⟨rfl,hb2⟩))
         first
         | (go_ret
            have hv:V=17:=by rw [HL.out,if_pos (HAT.out (by rw [nC.out];rfl))]
            refine ⟨by rw [hv];rfl,q01 HB.out ?_⟩;first | exact (iR (jD7 _ _) _).trans hb2 | exact iR (jD7 _ _) _)
         | (go_roundw
            case rel=>exact ⟨j+1,by omega,by go_num,q01 HB.out ((iR (jD7 _ _) _).trans hb2),by rw [gV.out,Js.out,nC.out];rfl⟩
            case measure=>simp [intOf];omega)
      ·have hv:V=0:=by
         have:=Js.out;rw [List.take_of_length_le (by omega)] at this;rw [HL.out,if_neg (by rw [this];decide)]
       have HV:=hid hv;clear hv hno hbel;go_wp2;go_ret;exact ⟨by rw [HV.out];rfl,HB.out⟩
open Go.RowKit
theorem Y7{P:Prop}(h:P:=by
 (try simp only [Bool.not_eq_true',Bool.not_eq_false'] at *)
 rw [HE.out,HD.out,HT.out,HTI.out,hT,hD,hTI];simp [*]):P:=h
theorem Bg (w:jG9) (b o:Nat) (k:Int) (t d ti:ByteArray) (at_:At) (ar:List ByteArray) (ci:List Ci) (ks:List aj) (ac ap aa ai ak:Option Addr) (cc cp ca gu ck:Nat) (h:Y6 w b o k t d ti at_ ar ci ks ac ap aa ai ak cc cp ca gu ck) (hs:Y5 t d ti at_ ar ci) (hk:k=9\/k=10) : Calls Tryz.prog 195 #[.pointer (some ⟨b,o,none⟩)] w (eX (.int .i64 (Qa k t d ti at_ ks:Nat)) w):=by
  have HP:=hid h;obtain ⟨s1,s2,s3,s4,-,-⟩:=hs;have LT:=hid (fun w=>Ca t w (by omega));have CD:=hid (fun w=>QB d w (by omega));have CT:=hid (fun w=>QB ti w (by omega));have AC:=hid (fun wx (hb:Below w.heap.size w wx)=>gW at_ ac ap cc cp wx (h.rd.at_.up hb) s4);have AK:=hid (fun wx q (hb:Below w.heap.size w wx)=>vD _ ks _ _ [9,16,12,14,13] wx.heap.size 5 ((wx.alloc (.cells #[.int .i64 9,.int .i64 16,.int .i64 12,.int .i64 14,.int .i64 13] 3)).drewN q) (jD8 _)
    ((h.rd.kids.up hb).up (iR ((jD7 _ _).alloc (jD8 _) _) q)) (by simp) (YV wx 3 9 16 12 14 13))
  simp only [List.length_cons,List.length_nil,Nat.reduceAdd] at AK;obtain ⟨c0,c1,c2,c3,c4,c5,c6,c7,c8,c9⟩:=h.cells;have HE:Hid (Qa k t d ti at_ ks=if aW t=false/\(aW d=false\/aW ti=false) then 5
  else if aW t=false/\uD t=false then 6
  else if dG d=false\/dG ti=false then 17
  else if k=9/\aj.cZ dw ks=true then 5
  else if k=10 then at_.err else 0):=rfl
  have hrk:aj.cZ [9,16,12,14,13] ks=aj.cZ dw ks:=rfl;rw [hrk] at AK;obtain ⟨V,hV⟩:∃ V,V=Qa k t d ti at_ ks:=⟨_,rfl⟩
  rw [<- hV] at HE ⊢;have HD:=hid (oN d).symm;have HT:=hid (oN t).symm;have HTI:=hid (oN ti).symm;generalize uD t=L at *;generalize dG d=L1 at *;generalize dG ti=L2 at *;generalize aj.cZ dw ks=K at *;generalize at_.err=E at *
  clear hV h hrk s1 s2 s3 s4;cases hT:t.toList.isEmpty<;>cases hD:d.toList.isEmpty<;>cases hTI:ti.toList.isEmpty<;>rcases hk with rfl | rfl
  all_goals
    go_enter Tryz.func195,Tryz.ntmps195;go_wp2_with (first | (go_at_call 171;refine (LT.out _).mono ?_;rintro e w2 ⟨rfl,hb1⟩;obtain ⟨p0,p1,p2,p3,p4,p5,p6,p7,p8,p9⟩:=(HP.out.up hb1).cells) | (go_at_call 93;(with_reducible refine (CD.out _).mono ?_);rintro e w2 ⟨rfl,q,rfl⟩) | (go_at_call 93;(with_reducible refine (CT.out _).mono ?_);rintro e w2 ⟨rfl,q2,rfl⟩) | (go_at_call 95;refine (AC.out _ (by first | exact iR hb1 _ | exact iR (jD7 _ _) _)).mono ?_;rintro e w2 ⟨rfl,hb3⟩) | (go_at_call 203;refine (AK.out _ _ (by first | exact hb1 | exact jD7 _ _)).mono ?_;rintro e w2 ⟨rfl,rfl⟩))
    all_goals
      go_ret;refine ⟨Jt ?_,?_⟩
      ·exact Y7
      ·first
       | exact q01 (iR hb1 _) hb3 | exact q01 (iR (jD7 _ _) _) hb3
       | exact iR (hb1.alloc hb1.size _) _ | exact iR ((jD7 _ _).alloc (jD8 _) _) _
       | exact iR hb1 _ | exact iR (jD7 _ _) _ | exact hb1 | exact jD7 _ _
open Go.RowKit
theorem xU {k:Int} {t d ti:ByteArray} {a:At} {ar:List ByteArray} {ci:List Ci} {ks:List aj} (h:xV k t d ti a ar ci ks=true):1<=k/\k<=16/\(k=15\/ar=[]):=by
  unfold xV at h;simp only [Bool.and_eq_true,Bool.or_eq_true,decide_eq_true_eq] at h;obtain ⟨⟨⟨⟨⟨⟨⟨⟨h1,h2⟩,-⟩,-⟩,-⟩,-⟩,-⟩,h8⟩,-⟩:=h;refine ⟨h1,h2,?_⟩;rcases h8 with h | h
  ·exact .inl h
  ·exact .inr (by simpa using h)
theorem Y8{P:Prop}(h:P:=by
 (try simp only [Bool.not_eq_true',Bool.not_eq_false',beq_iff_eq,beq_eq_false_iff_ne,ne_eq] at *)
 rw [HE.out,HT.out];simp [*]):P:=h
theorem wG (w:jG9) (b o:Nat) (k bf:Int) (t d ti:ByteArray) (at_:At) (ar:List ByteArray) (ci:List Ci) (ks:List aj) (ac ap aa ai ak:Option Addr) (cc cp ca gu ck:Nat) (h:Y6 w b o k t d ti at_ ar ci ks ac ap aa ai ak cc cp ca gu ck) (hs:Y5 t d ti at_ ar ci) (hf:xV k t d ti at_ ar ci ks=true) : Calls Tryz.prog 162 #[.pointer (some ⟨b,o,none⟩),.int .i64 bf] w (eX (.int .i64 (oO bf false false k t d ti at_ ar ci ks:Nat)) w):=by
  have HP:=hid h;obtain ⟨f1,f2,f3⟩:=xU hf;have l1:=(rX h.rd.at_.cls).2;have l2:=(rX h.rd.at_.aD).2;obtain ⟨-,l5,m5⟩:=rX h.rd.kids;have AE:=hid (fun w=>qM at_ ac ap cc cp w (by omega) (by omega));unfold maxLen at m5;clear l1 l2;have CL:=hid (fun w=>QB t w (by have:=hs.t;omega));have AC:=hid (fun wx (hb:Below w.heap.size w wx)=>gW at_ ac ap cc cp wx (h.rd.at_.up hb) hs.at_);have LK:=hid (Bg w b o k t d ti at_ ar ci ks ac ap aa ai ak cc cp ca gu ck h hs);have NM:=hid (fun hk=>xS w b o k t d ti at_ ar ci ks ac ap aa ai ak cc cp ca gu ck h hs hk f3);have CC:=hid (xQ ci ai gu w h.rd.fu hs.cis);have AD:=hid (F4 d w (by have:=hs.d;omega));have OO:=hid (lg bf [2,3] w.heap.size 2 _ (by simp) (QF w 3 2 3));simp only [List.length_cons,List.length_nil,Nat.reduceAdd] at OO;have hoo:([2,3]:List Int).contains bf=(decide (bf=2)||decide (bf=3)):=by rw [jDk];simp
  rw [hoo] at OO;obtain ⟨c0,c1,c2,c3,c4,c5,c6,c7,c8,c9⟩:=h.cells;have e3:=jR ks;have HE:Hid (oO bf false false k t d ti at_ ar ci ks=if xV k t d ti at_ ar ci ks=false then 5
  else if k=1\/k=4\/k=5 then (if aW t=true\/dG t=false then 17 else if k≠5/\bf=k then 5 else 0)
  else if k=2 then (if bf=2\/bf=3\/false=true\/false=true then 5 else 0)
  else if k=3 then (if false=true then 5 else 0)
  else if k=6\/k=7\/k=8 then (if ks.isEmpty=true then 8 else 0)
  else if k=9\/k=10 then Qa k t d ti at_ ks
  else if k=11 then (if at_.none=true then 8 else at_.err)
  else if k=12\/k=14\/k=15 then QE k t ti ar
  else if k=13 then QC ci
  else if mH d=true then 0 else 5):=rfl
  rw [hf] at HE;obtain ⟨V,hV⟩:∃ V,V=oO bf false false k t d ti at_ ar ci ks:=⟨_,rfl⟩
  rw [<- hV] at HE ⊢;have HT:=hid (oN t).symm;generalize dG t=L at *;generalize Qa k t d ti at_ ks=E1 at *
  generalize at_.none=bn at *
  generalize at_.err=E2 at *
  generalize QE k t ti ar=E3 at *;generalize QC ci=E4 at *;generalize mH d=bu at *;generalize ks.isEmpty=bk at *;clear hV h hs hf hoo;rcases rY k with rfl | rfl | rfl | rfl | rfl | rfl | rfl | rfl | rfl | rfl | rfl | rfl | rfl | rfl | rfl | rfl | hk
  case inr.inr.inr.inr.inr.inr.inr.inr.inr.inr.inr.inr.inr.inr.inr.inr=>omega
  all_goals
    go_enter Tryz.func162,Tryz.ntmps162;go_wp2_with (first | (go_at_call 93;refine (CL.out _).mono ?_;rintro e w2 ⟨rfl,q,rfl⟩) | (go_at_call 161;refine OO.out.mono ?_;rintro e w2 ⟨rfl,rfl⟩) | (go_at_call 195;refine (LK.out (by simp)).mono ?_;rintro e w2 ⟨rfl,hb3⟩) | (go_at_call 165;refine (AE.out _).mono ?_;rintro e w2 ⟨rfl,hb1⟩;obtain ⟨p0,p1,p2,p3,p4,p5,p6,p7,p8,p9⟩:=(HP.out.up hb1).cells) | (go_at_call 95;refine (AC.out _ hb1).mono ?_;rintro e w2 ⟨rfl,hb3⟩) | (go_at_call 196;refine (NM.out (by simp)).mono ?_;rintro e w2 ⟨rfl,hb3⟩) | (go_at_call 197;refine CC.out.mono ?_;rintro e w2 ⟨rfl,hb3⟩) | (go_at_call 198;refine AD.out.mono ?_;rintro e w2 ⟨rfl,hb3⟩))
    all_goals
      go_ret;refine ⟨Jt ?_,?_⟩
      ·exact Y8
      ·first
       | exact q01 hb1 hb3 | exact hb3 | exact hb1
       | exact (jD7 _ _).alloc (jD8 _) _
       | exact iR (jD7 _ _) _ | exact jD7 _ _
end Go.Proofs.YtkfnkeflalcphaaGreatDoor

