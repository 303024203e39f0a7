/- Contracts of attr.Check; of tree.label. The contract of strings.ContainsAny at a set of two to eight ASCII bytes and whatever text. Contracts of tree.address, checkCites, checkNamed, checkLink. Contracts of tree.checkCites, checkNamed, checkLink. Contracts of tree.checkNamed, checkLink. The contract of tree.checkLink. The contract of tree.checkInline. -/
import Derived.Test.YtklhajbpfelliaaGreatDoorKRfE
import Derived.Maps.OwnIn
set_option maxHeartbeats 8000000
set_option maxRecDepth 100000
open Go.Lib (hid)
namespace Go.Proofs.YtklhajbpfelliaaGreatDoor
open Go.RowKit.Below renaming refl->jFj
open Nat renaming le_refl->jFk,zero_le->jG6
open Bool renaming eq_iff_iff->jFz
open List renaming mem_of_getElem?->jG7
open Go renaming World->jIq
open Go.RowKit
set_option linter.unusedVariables false
set_option linter.unusedSimpArgs false
theorem Cq (s:ByteArray) (f i:Nat) (h:i<s.size) (hf:s.size<=i+f):iR s f i=Utf8.decode s i::iR s (f-1) (i+(Utf8.decode s i).2):=by obtain ⟨f',rfl⟩:∃ f',f=f'+1:=⟨f-1,by omega⟩;rw [iR,if_pos h];rfl
def vM (s:ByteArray) (V:Bool) (w:jIq) (w0:jIq) (k:Nat) (wr:jIq):Prop:=
  ∃ pos f:Nat,pos<=s.size/\s.size<=pos+f/\wr.heap[k]?=some (.stringIter s pos)/\(iR s f pos).all kg=V/\Below w.heap.size w wr/\w.heap.size<=k
theorem vM.alloc {s:ByteArray} {V:Bool} {w w0:jIq} {k:Nat} {wr:jIq} (h:vM s V w w0 k wr) (o:Obj):vM s V w w0 k (wr.alloc o):=by obtain ⟨pos,f,h1,h2,h3,h4,h5,h6⟩:=h;exact ⟨pos,f,h1,h2,(Below.heap_alloc _ _ _ (Array.getElem?_eq_some_iff.1 h3).1).trans h3,h4,h5.alloc h5.size _,h6⟩
theorem vM.Bu {s:ByteArray} {V:Bool} {w w0:jIq} {k:Nat} {wr:jIq} (h:vM s V w w0 k wr):wr.iterPos k<=s.size/\wr.heap[k]?=some (.stringIter s (wr.iterPos k)):=by
  obtain ⟨pos,f,h1,h2,h3,h4,h5,h6⟩:=h;have hpos:wr.iterPos k=pos:=by simp only [World.iterPos,h3]
  rw [hpos];exact ⟨h1,h3⟩
theorem Q5 (d:Nat):([32,45,95,46,58]:List Int).contains (d:Int)=([32,45,95,46,58]:List Nat).contains d:=by rw [jFz];simp;omega
theorem vO{P:Prop}(h:P:=by
 go_wp2;go_ret;exact ⟨rfl,Below.refl _ _⟩):P:=h
theorem Zn{P:Prop}(h:P:=by
 unfold uJ;rw [MF,decide_eq_true (show 1<=s.size by omega),decide_eq_true (show s.size<=60 by omega)];simp):P:=h
theorem Cr (s:ByteArray) (w:jIq) (hs:s.size<=1000000000) : Calls Tryz.prog 122 #[.string s] w (dP (.bool (uJ s)) w):=by
  rcases fA s with rfl | ⟨hne,hp,hie,hes⟩
  ·have hv:uJ ByteArray.empty=false:=by unfold uJ;simp
   rw [hv];go_enter Tryz.func122,Tryz.ntmps122;exact vO
  by_cases h60:60<s.size
  ·have hv:uJ s=false:=by unfold uJ;simp;omega
   rw [hv];have q1:decide ((60:Int)<(s.size:Int))=true:=by simp;omega
   clear hv;go_enter Tryz.func122,Tryz.ntmps122;exact vO
  have q1:decide ((60:Int)<(s.size:Int))=false:=by simp;omega
  have FO:=hid (JE s w hs);by_cases MF:nI s=s;case neg=>
    have hv:uJ s=false:=by unfold uJ;simp [MF]
    rw [hv];have hb1:=Ep MF;have hb2:=MG MF;generalize nI s=fs at *;clear hv MF;go_enter Tryz.func122,Tryz.ntmps122;go_wp2_with fail
    refine FO.out.mono ?_;rintro e w1 ⟨rfl,hb⟩;go_wp2;go_ret;exact ⟨rfl,hb⟩
  rw [MF] at FO;have hv:uJ s=(pts s).all kg:=by exact Zn
  rw [hv];obtain ⟨V,hV⟩:∃ V,(pts s).all kg=V:=⟨_,rfl⟩;rw [hV];have HV:=hid hV;have hb1:(s.toList != s.toList)=false:=by simp
  clear hv MF hV;go_enter Tryz.func122,Tryz.ntmps122;go_wp2_with fail
  refine FO.out.mono ?_;rintro e w1 ⟨rfl,hb⟩;have R0:Hid (vM s V w w1 w1.heap.size (w1.iter s 0)):=⟨0,s.size,jG6 _,by omega,World.iter_heap w1 s 0,HV.out,hb.alloc hb.size _,hb.size⟩;have HB:=hid hb;clear hb;go_wp2
  go_loopw [] (fun wr=>vM s V w w1 w1.heap.size wr) (fun wr=>s.size-wr.iterPos w1.heap.size)
  case atStart=>exact R0.out
  case round=>
    clear R0;obtain ⟨pos,f,hps,hf,hit,hall,hbel,hk⟩:=hrel;have hpos:wr.iterPos w1.heap.size=pos:=by simp only [World.iterPos,hit]
    by_cases hlt:pos<s.size
    ·have hnx:∀ ty,(Instr.next (.pointer (some ⟨w1.heap.size,0,none⟩)) true ty).run Tryz.prog wr=_:=fun ty=>Lib.run_next_any_at wr w1.heap.size s pos ty hit hlt
     have hd:=Lib.rune_le s pos;have hwd:=iL s pos;have hle:=oO s pos hlt;have hst:=Cq s f pos hlt hf;have HI2:Hid (kg (Utf8.decode s pos)=true->vM s V w w1 w1.heap.size (wr.iterAt w1.heap.size s (pos+(Utf8.decode s pos).2))):=by intro hl;refine ⟨pos+(Utf8.decode s pos).2,f-1,hle,by omega,Lib.iterAt_heap wr _ s pos _ hit,?_,Lib.below_iterAt hbel hk s _,hk⟩;rw [<- hall,hst,List.all_cons,hl];rfl
     have HVF:Hid (kg (Utf8.decode s pos)=false->V=false):=by intro hl;rw [<- hall,hst,List.all_cons,hl];rfl
     have HB2:Hid (Below w.heap.size w (wr.iterAt w1.heap.size s (pos+(Utf8.decode s pos).2))):=Lib.below_iterAt hbel hk s _;have hip:(wr.iterAt w1.heap.size s (pos+(Utf8.decode s pos).2)).iterPos w1.heap.size=pos+(Utf8.decode s pos).2:=by have:=Lib.iterAt_heap wr w1.heap.size s pos (pos+(Utf8.decode s pos).2) hit;simp only [World.iterPos,this]
     clear hst hall hbel hit;have jlj:=hid hpos;clear hpos;generalize Utf8.decode s pos=d at *;obtain ⟨d1,d2⟩:=d;simp only at hd hwd hle hnx HI2 HVF HB2 hip;have hwr:wrap64 (d1:Int)=d1:=IntWalk.wrap64_in _ ⟨by omega,by omega⟩;have CL:=hid (fun w=>Er d1 w hd);have CD:=hid (fun w=>Gl d1 w hd);have OO:=hid (fun wx:jIq=>lq (d1:Int) [32,45,95,46,58] wx.heap.size 5 _ (by simp) (Zo wx 3 32 45 95 46 58));simp only [List.length_cons,List.length_nil,Nat.reduceAdd,Q5] at OO;have Zp:Hid (kg (d1,d2)=(iM d1||Es d1||([32,45,95,46,58]:List Nat).contains d1)):=rfl;generalize ([32,45,95,46,58]:List Nat).contains d1=bo at *;generalize iM d1=bl at *;generalize Es d1=bd at *;obtain ⟨wi,hwi⟩:∃ wi,wi=wr.iterAt w1.heap.size s (pos+d2):=⟨_,rfl⟩;rw [<- hwi] at hnx HI2 HB2 hip;have HIP:=hid hip;clear hwi hip;cases bl with
     | true=>
       have HG:=hid (HI2.out (by rw [Zp.out];rfl));clear HI2 HVF;go_wp2_with (go_at_call 149;refine (CL.out _).mono ?_;rintro e w2 ⟨rfl,rfl⟩)
       go_roundw;case rel=>exact HG.out
       case measure=>rw [HIP.out,jlj.out];omega
     | false=>
       cases bd with
       | true=>
         have HG:=hid (HI2.out (by rw [Zp.out];rfl));clear HI2 HVF;go_wp2_with (first | (go_at_call 149;refine (CL.out _).mono ?_;rintro e w2 ⟨rfl,rfl⟩) | (go_at_call 150;refine (CD.out _).mono ?_;rintro e w2 ⟨rfl,rfl⟩))
         go_roundw;case rel=>exact HG.out
         case measure=>rw [HIP.out,jlj.out];omega
       | false=>
         cases bo with
         | true=>
           have HG:=hid (HI2.out (by rw [Zp.out];rfl));clear HI2 HVF;go_wp2_with (first | (go_at_call 149;refine (CL.out _).mono ?_;rintro e w2 ⟨rfl,rfl⟩) | (go_at_call 150;refine (CD.out _).mono ?_;rintro e w2 ⟨rfl,rfl⟩) | (go_at_call 82;refine (OO.out _).mono ?_;rintro e w2 ⟨rfl,rfl⟩))
           go_roundw;case rel=>exact HG.out.alloc _
           case measure=>
             have h1:=(HG.out.alloc (.cells #[.int .i64 32,.int .i64 45,.int .i64 95,.int .i64 46,.int .i64 58] 3)).Bu;have h2:=HG.out.Bu;have h3:=(Below.heap_alloc wi (.cells #[.int .i64 32,.int .i64 45,.int .i64 95,.int .i64 46,.int .i64 58] 3) w1.heap.size (Array.getElem?_eq_some_iff.1 h2.2).1);rw [h1.2,h2.2] at h3;have h4:=HIP.out;have h5:=jlj.out;have h6:World.iterPos (wi.alloc (.cells #[.int .i64 32,.int .i64 45,.int .i64 95,.int .i64 46,.int .i64 58] 3)) w1.heap.size=wi.iterPos w1.heap.size:=by injection h3 with h3;injection h3
             rw [h6,h4,h5];omega
         | false=>
           have HE:=hid (HVF.out (by rw [Zp.out];rfl));clear HI2 HVF;go_wp2_with (first | (go_at_call 149;refine (CL.out _).mono ?_;rintro e w2 ⟨rfl,rfl⟩) | (go_at_call 150;refine (CD.out _).mono ?_;rintro e w2 ⟨rfl,rfl⟩) | (go_at_call 82;refine (OO.out _).mono ?_;rintro e w2 ⟨rfl,rfl⟩))
           go_ret;exact ⟨by rw [HE.out];rfl,HB2.out.alloc HB2.out.size _⟩
    ·have hnx:∀ ty,(Instr.next (.pointer (some ⟨w1.heap.size,0,none⟩)) true ty).run Tryz.prog wr=_:=fun ty=>Lib.run_next_end_at wr w1.heap.size s pos ty hit hlt
     have HE:Hid (V=true):=by show V=true;rw [<- hall,sD s f pos hlt];rfl
     have qp:=hid hbel;clear hall hbel hit hpos;go_wp2;go_ret;exact ⟨by rw [HE.out];rfl,qp.out⟩
open Go.RowKit
theorem Gm (s:ByteArray):∀ (r p c d:Nat),kR s r p c=some d->∀ j,j<r->128<=bt s (p+j)
  | 0,p,c,d,_,j,hj=>by omega
  | r+1,p,c,d,h,j,hj=>by
    rw [kR] at h;split at h
    ·rename_i hc
     cases j with
     | zero=>exact hc.2.1
     | succ j=>
       have:=Gm s r (p+1) _ d h j (by omega);rw [show p+(j+1)=p+1+j by omega];exact this
    ·cases h
theorem Zq{P:Prop}(h:P:=by
 split at hd
 ·split at hd
  ·injection hd with hd
   split at hl
   ·omega
   ·split at hl<;>omega
  ·cases hd
 ·cases hd):P:=h
theorem Ct (s:ByteArray) (i:Nat) (hi:i<s.size):(bt s i<128/\Utf8.decode s i=(bt s i,1))\/(128<=(Utf8.decode s i).1/\∀ j,j<(Utf8.decode s i).2->128<=bt s (i+j)):=by
  by_cases c1:bt s i<128
  ·exact .inl ⟨c1,xE s i c1⟩
  have bad:Utf8.decode s i=(65533,1)->128<=(Utf8.decode s i).1/\∀ j,j<(Utf8.decode s i).2->128<=bt s (i+j):=by
    intro h;rw [h];refine ⟨by decide,fun j hj=>?_⟩;have:j=0:=by simp at hj;exact hj
    subst this;exact Nat.le_of_not_lt c1
  have good:∀ n c,1<=n->Utf8.decode s i=OB s i n (kR s (n-1) (i+1) c)->(∀ d,kR s (n-1) (i+1) c=some d->128<=d)->128<=(Utf8.decode s i).1/\∀ j,j<(Utf8.decode s i).2->128<=bt s (i+j):=by
    intro n c hn h hd;cases hg:kR s (n-1) (i+1) c with
    | none=>rw [hg] at h;exact bad h
    | some d=>
      rw [hg] at h;rw [h];refine ⟨hd d hg,fun j hj=>?_⟩;cases j with
      | zero=>exact Nat.le_of_not_lt c1
      | succ j=>
        have hj:j+1<n:=hj;have:=Gm s (n-1) (i+1) c d hg j (by omega);rw [show i+(j+1)=i+1+j by omega];exact this
  refine .inr ?_;by_cases c2:bt s i<194\/244<bt s i
  ·exact bad (xG s i (by omega) c2)
  by_cases c3:bt s i<=223
  ·refine good 2 _ (by omega) (Gn s i hi (by omega) c3) (fun d hd=>?_);have h:=(xH s i hi (by omega) c3);rw [show 2-1=1 from rfl,kR,kR] at hd;split at hd
   ·injection hd with hd;omega
   ·cases hd
  by_cases c4:bt s i<=239
  ·obtain ⟨d1,d2⟩:=Gp s i hi (by omega) c4;by_cases hs:i+1<s.size/\jg (bt s i)<=bt s (i+1)/\bt s (i+1)<=jS (bt s i)
   ·refine good 3 _ (by omega) (d2 hs.2.1 hs.2.2) (fun d hd=>?_);have hl:=hs.2.1;unfold jg at hl;rw [show 3-1=2 from rfl,kR,kR,kR,show i+1+1=i+2 from rfl] at hd;exact Zq
   ·exact bad (d1 (.inl hs))
  ·obtain ⟨d1,d2⟩:=Gq s i hi (by omega) (by omega);by_cases hs:i+1<s.size/\jg (bt s i)<=bt s (i+1)/\bt s (i+1)<=jS (bt s i)
   ·refine good 4 _ (by omega) (d2 hs.2.1 hs.2.2) (fun d hd=>?_);have hl:=hs.2.1;unfold jg at hl;rw [show 4-1=3 from rfl,kR,kR,kR,kR,show i+1+1=i+2 from rfl,show i+2+1=i+3 from rfl] at hd;split at hd
    ·exact Zq
    ·cases hd
   ·exact bad (d1 (.inl hs))
theorem yu (bs:List UInt8):∀ l:List UInt8,decide (0<=Lib.indexAny l bs)=l.any fun c=>bs.contains c
  | []=>rfl
  | b::l=>by
    have ih:=yu bs l;have hge:=Lib.indexAny_ge bs l;rw [Lib.indexAny,List.any_cons,<- ih];cases hb:bs.contains b with
    | true=>simp
    | false=>
      simp only [Bool.false_eq_true,if_false,Bool.false_or];by_cases h2:Lib.indexAny l bs=-1
      ·simp [h2]
      ·have h3:(Lib.indexAny l bs==-1)=false:=by simpa using h2
       simp only [h3,Bool.false_eq_true,if_false];rw [jFz];simp;omega
def jlk (v:Value) (w:jIq) (e:Ending) (w':jIq):Prop:=e=.returned v/\Below w.heap.size w w'
def qU (cs:ByteArray):Prop:=2<=cs.size/\cs.size<=8/\∀ j,j<cs.size->bt cs j<128
def nM (cs:ByteArray) (w:jIq) (k:Nat) (wr:jIq):Prop:=∃ pos:Nat,pos<=cs.size/\wr.heap[k]?=some (.stringIter cs pos)/\Below w.heap.size w wr/\w.heap.size<=k
theorem nM.Bu {cs:ByteArray} {w:jIq} {k:Nat} {wr:jIq} (h:nM cs w k wr):wr.iterPos k<=cs.size/\wr.heap[k]?=some (.stringIter cs (wr.iterPos k)):=by
  obtain ⟨pos,h1,h3,h5,h6⟩:=h;have hpos:wr.iterPos k=pos:=by simp only [World.iterPos,h3]
  rw [hpos];exact ⟨h1,h3⟩
theorem nM.next {cs:ByteArray} {w:jIq} {k:Nat} {wr:jIq} (h:nM cs w k wr) (p:Nat) (hp:p<=cs.size):nM cs w k (wr.iterAt k cs p)/\(wr.iterAt k cs p).iterPos k=p:=by obtain ⟨pos,h1,h3,h5,h6⟩:=h;have hh:=Lib.iterAt_heap wr k cs pos p h3;exact ⟨⟨p,hp,hh,Lib.below_iterAt h5 h6 cs p,h6⟩,by simp only [World.iterPos,hh]⟩
theorem nM.up {cs:ByteArray} {w:jIq} {k:Nat} {wr w':jIq} (h:nM cs w k wr) (hb:Below wr.heap.size wr w'):nM cs w k w'/\w'.iterPos k=wr.iterPos k:=by obtain ⟨pos,h1,h3,h5,h6⟩:=h;have hh:w'.heap[k]?=some (.stringIter cs pos):=(hb.block k (Array.getElem?_eq_some_iff.1 h3).1).trans h3;exact ⟨⟨pos,h1,hh,q01 h5 hb,h6⟩,by simp only [World.iterPos,hh,h3]⟩
theorem Bz (cs:ByteArray) (w:jIq) (hcs:qU cs) : Calls Tryz.prog 195 #[.string cs,.int .i32 65533] w (jlk (.int .i64 (-1)) w):=by
  obtain ⟨k2,k8,hasc⟩:=hcs;have HA:=hid hasc;have R0:Hid (nM cs w w.heap.size (w.iter cs 0)):=⟨0,jG6 _,World.iter_heap w cs 0,(jFj _ _).alloc (jFk _) _,jFk _⟩;clear hasc;go_enter Tryz.func195,Tryz.ntmps195;go_wp2
  go_loopw [] (fun wr=>nM cs w w.heap.size wr) (fun wr=>cs.size-wr.iterPos w.heap.size)
  case atStart=>exact R0.out
  case round=>
    clear R0;obtain ⟨hps,hit⟩:=hrel.Bu;obtain ⟨pos,hpe⟩:∃ pos,wr.iterPos w.heap.size=pos:=⟨_,rfl⟩;rw [hpe] at hps hit;have HPE:=hid hpe;clear hpe;have HR:=hid hrel;by_cases hlt:pos<cs.size
    ·have hnx:∀ ty,(Instr.next (.pointer (some ⟨w.heap.size,0,none⟩)) true ty).run Tryz.prog wr=_:=fun ty=>Lib.run_next_any_at wr w.heap.size cs pos ty hit hlt
     have hb:=HA.out pos hlt;rw [xE cs pos hb] at hnx;dsimp only at hnx;obtain ⟨r1,r2⟩:=hrel.next (pos+1) (by omega)
     generalize bt cs pos=b at *;have hwr:wrap64 (b:Int)=b:=IntWalk.wrap64_in _ ⟨by omega,by omega⟩;have hne:((b:Int)==65533)=false:=by rw [beq_eq_false_iff_ne];omega
     have R1:=hid r1;have R2:=hid r2;clear hit hrel r1 r2;go_wp2;go_roundw;case rel=>exact R1.out
     case measure=>rw [R2.out,HPE.out];omega
    ·have hnx:∀ ty,(Instr.next (.pointer (some ⟨w.heap.size,0,none⟩)) true ty).run Tryz.prog wr=_:=fun ty=>Lib.run_next_end_at wr w.heap.size cs pos ty hit hlt
     have HB:=hid hrel.choose_spec.2.2.1;clear hit hrel;go_wp2;go_ret;exact ⟨rfl,HB.out⟩
theorem uK {cs:ByteArray} (h:∀ j,j<cs.size->bt cs j<128):∀ x∈cs.data.toList,x.toNat<128:=by
  intro x hx;obtain ⟨j,hj⟩:=List.mem_iff_getElem?.1 hx;have hlt:j<cs.size:=by have:=(List.getElem?_eq_some_iff.1 hj).1;simpa using this
  rw [Cu cs j hlt] at hj;obtain rfl:=Option.some.inj hj;rw [jh cs j hlt];exact h j hlt
theorem WW (cs:ByteArray) (m lb:Nat) (h:∀ j,j<cs.size->bt cs j<128) (hl:128<=lb) (hb:lb<256):Lib.indexByte (cs.extract (m+1) cs.size).data.toList ((lb:Int)).toNat.toUInt8<0:=by
  have:=oP (cs.extract (m+1) cs.size).data.toList ((lb:Int)).toNat.toUInt8;have h2:((cs.extract (m+1) cs.size).data.toList.all fun x=>!decide (x=((lb:Int)).toNat.toUInt8))=true:=by
    rw [List.all_eq_true];intro x hx;have hx:x∈cs.data.toList:=by rw [ByteArray.data_extract,Array.toList_extract] at hx;exact List.mem_of_mem_drop (List.mem_of_mem_take hx)
    have h3:=uK h x hx;simp;rintro rfl;have:(lb.toUInt8).toNat=lb%256:=rfl;simp at h3;omega
  rw [h2] at this;simpa using this
theorem js1 {P:Program} {f:FuncId} {args:Array Value} {w:jIq} {a n:Nat} {v:Value} (h:Calls P f args (w.drewN (a+n)) fun e w'=>e=.returned v/\w'=w.drewN (a+n)) : Calls P f args (w.drewN (a+n)) fun e w''=>e=.returned v/\∃ m,w''=w.drewN (a+m):=h.mono fun _ _ ⟨he,hm⟩=>⟨he,n,hm⟩
def Zr (m:Nat) (w:jIq) (vi:Value) (wr:jIq):Prop:=vi=.int .i64 (m:Int)/\∃ q,wr=w.drewN q
theorem Et (cs:ByteArray) (c:Nat) (w:jIq) (hcs:qU cs) (h1:128<=c) (h2:c<=1114111) (hne:c≠65533) : Calls Tryz.prog 195 #[.string cs,.int .i32 (c:Int)] w (jlk (.int .i64 (-1)) w):=by
  obtain ⟨k2,k8,hasc⟩:=hcs;have HA:=hid hasc;have hne:((c:Int)==65533)=false:=by rw [beq_eq_false_iff_ne];omega
  have VR:=hid (fun w=>Tryz.utf8_ValidRune (c:Int) w);clear hasc;go_enter Tryz.func195,Tryz.ntmps195;go_wp2_with fail
  refine (VR.out _).mono ?_;rintro e w1 ⟨rfl,rfl⟩;cases hv:Lib.validRune (c:Int)
  ·exact vO
  ·have HV:=hid hv;clear hv;go_wp2
   go_step3
   have hv:=HV.out;have hval:Utf8.valid (c:Int)=true:=by unfold Lib.validRune at hv;unfold Utf8.valid;simp at hv ⊢;omega
   obtain ⟨n2,n4,hlast⟩:=encode_facts (c:Int) hval (by omega);obtain ⟨rs,hrs⟩:∃ rs,Utf8.encode (c:Int)=rs:=⟨_,rfl⟩;rw [hrs] at n2 n4 hlast;obtain ⟨m,hm⟩:∃ m,rs.size=m+1:=⟨rs.size-1,by omega⟩;have hl0:=hlast (by omega);have jy3:m<rs.size:=by omega
   have hle:rs[m].toNat=bt rs m:=jh rs m jy3;have hl:128<=bt rs m:=by
     rw [<- hle];have e:rs.size-1=m:=by omega
     simp only [e] at hl0;exact hl0
   have m1:1<=m:=by omega
   have m3:m<=3:=by omega
   have hlb:=gJ rs m;generalize bt rs m=lb at *;have HIO:=hid (WW cs m lb HA.out hl hlb);clear hl0 hv hlast hval;have R0:Hid (Zr m w1 (.int .i64 (m:Int)) w1):=⟨rfl,0,rfl⟩;go_wp2
   go_loopw [9] (fun i wr=>Zr m w1 i wr) (fun _ _=>0)
   case atStart=>exact R0.out
   case round=>
     clear R0;obtain ⟨rfl,q,rfl⟩:=hrel;by_cases hlt:m<cs.size
     ·have hcl:=HA.out _ hlt;have hce:=jh cs _ hlt;generalize bt cs m=cb at *;have hne2:((cb:Int) != (lb:Int))=true:=by rw [bne_iff_ne];omega
      go_wp2
      go_step3
      go_wp2_with fail
      go_quiet (fail)
      go_wp2_with fail
      go_quiet ((go_at_call 69;exact js1 (Tryz.strings_IndexByte _ _ _)))
      have hio:=HIO.out;generalize Lib.indexByte (cs.extract (m+1) cs.size).data.toList ((lb:Int)).toNat.toUInt8=io at *;go_wp2;rw [Exit.noGoto_ret];go_ret;exact ⟨rfl,ig (jFj _ _) _⟩
     ·go_wp2;rw [Exit.noGoto_ret];go_ret;exact ⟨rfl,ig (jFj _ _) q⟩
theorem JG {α:Type} (l:List α) (k:Nat) (x:α) (h:l[k]?=some x):l.drop k=x::l.drop (k+1):=by obtain ⟨hlt,rfl⟩:=List.getElem?_eq_some_iff.1 h;exact List.drop_eq_getElem_cons hlt
theorem Q6 {cs:ByteArray} (h:∀ j,j<cs.size->bt cs j<128) (x:UInt8) (hx:128<=x.toNat):cs.data.toList.contains x=false:=by rw [Bool.eq_false_iff];intro h2;have:=uK h x (by simpa using h2);omega
theorem Gr (s:ByteArray) (p:UInt8->Bool) (i:Nat) (h:i<s.size):(s.data.toList.drop i).any p=(p s[i]||(s.data.toList.drop (i+1)).any p):=by rw [JG _ i s[i] (Cu s i h),List.any_cons]
theorem Gs (s:ByteArray) (p:UInt8->Bool):∀ (d i:Nat),i+d<=s.size->(∀ j,j<d->∀ (hj:i+j<s.size),p (s[i+j]'hj)=false)->(s.data.toList.drop i).any p=(s.data.toList.drop (i+d)).any p
  | 0,i,_,_=>rfl
  | d+1,i,hd,h=>by
    have h0:=h 0 (by omega) (by omega);rw [Gr s p i (by omega)];rw [show p s[i]=false from h0,Bool.false_or,Gs s p d (i+1) (by omega) (fun j hj hlt=>?_)]
    ·rw [show i+1+d=i+(d+1) by omega]
    ·have:=h (j+1) (by omega) (by omega);simpa [Nat.add_assoc,Nat.add_comm 1 j] using this
theorem MH (x:UInt8):∀ l:List UInt8,l.contains x=!(l.all fun y=>!decide (y=x))
  | []=>rfl
  | y::l=>by
    rw [List.contains_cons,List.all_cons,MH x l];by_cases h:y=x
    ·simp [h]
    ·have h2:(x==y)=false:=by simpa using fun e=>h e.symm
     simp [h,h2]
def Zt (s cs:ByteArray) (V:Bool) (w:jIq) (k:Nat) (wr:jIq):Prop:=nM s w k wr/\((s.data.toList.drop (wr.iterPos k)).any fun c=>cs.data.toList.contains c)=V
def MI (V:Bool) (w:jIq) (e:Ending) (w':jIq):Prop:=∃ n:Int,e=.returned (.int .i64 n)/\decide (0<=n)=V/\Below w.heap.size w w'
theorem Zu{P:Prop}(h:P:=by
 go_wp2_with fail
 refine (IR.out _).mono ?_;rintro e w2 ⟨rfl,hb2⟩;have R3:=hid (R1.out.up hb2);clear hb2 hnx;go_wp2;go_roundw;case rel=>exact ⟨R3.out.1,by rw [R3.out.2,R2.out];exact HV.out⟩
 case measure=>rw [R3.out.2,R2.out,HPE.out];omega):P:=h
theorem yw (s cs:ByteArray) (w:jIq) (hs:s.size<=8) (hcs:qU cs) : Calls Tryz.prog 167 #[.string s,.string cs] w (MI (mZ s cs.data.toList) w):=by
  have Jt:=hid hcs;obtain ⟨k2,k8,hasc⟩:=hcs;have HA:=hid hasc;rcases fA cs with rfl | ⟨hne,hp,hie,hes⟩
  ·simp at k2
  have SU:=hid (fun w=>Tryz.strings_shouldUseASCIISet (s.size:Int) w);have hn1:((cs.size:Int)==1)=false:=by rw [beq_eq_false_iff_ne];omega
  have q8:decide ((8:Int)<(s.size:Int))=false:=by simp;omega
  obtain ⟨V,hV⟩:∃ V,mZ s cs.data.toList=V:=⟨_,rfl⟩;rw [hV];have R0:Hid (Zt s cs V w w.heap.size (w.iter s 0)):=by
    have hh:=World.iter_heap w s 0;refine ⟨⟨0,jG6 _,hh,(jFj _ _).alloc (jFk _) _,jFk _⟩,?_⟩;have:(w.iter s 0).iterPos w.heap.size=0:=by simp only [World.iterPos,hh]
    rw [this];exact hV
  clear hasc hV hes;go_enter Tryz.func167,Tryz.ntmps167;go_wp2_with fail
  refine (SU.out _).mono ?_;rintro e w1 ⟨rfl,rfl⟩;go_wp2
  go_loopw [] (fun wr=>Zt s cs V w1 w1.heap.size wr) (fun wr=>s.size-wr.iterPos w1.heap.size)
  case atStart=>exact R0.out
  case round=>
    clear R0;obtain ⟨OD,hany⟩:=hrel;obtain ⟨hps,hit⟩:=OD.Bu;obtain ⟨pos,hpe⟩:∃ pos,wr.iterPos w1.heap.size=pos:=⟨_,rfl⟩;rw [hpe] at hps hit hany;have HPE:=hid hpe;clear hpe;by_cases hlt:pos<s.size
    ·have hnx:∀ ty,(Instr.next (.pointer (some ⟨w1.heap.size,0,none⟩)) true ty).run Tryz.prog wr=_:=fun ty=>Lib.run_next_any_at wr w1.heap.size s pos ty hit hlt
     have hle:=oO s pos hlt;have hd:=Lib.rune_le s pos;have hwd:=iL s pos;obtain ⟨r1,r2⟩:=OD.next (pos+(Utf8.decode s pos).2) hle
     have R1:=hid r1;have R2:=hid r2;rcases Ct s pos hlt with ⟨hb,hdec⟩ | ⟨hd8,hbs⟩
     ·rw [hdec] at hnx R1 R2;dsimp only at hnx R1 R2;have hstep:=Gr s (fun c=>cs.data.toList.contains c) pos hlt;have hbx:s[pos].toNat=bt s pos:=jh s pos hlt;have hx8:((bt s pos:Int)).toNat.toUInt8=s[pos]:=by
        rw [<- hbx];simp
      have IR:=hid (fun w=>Tryz.strings_IndexRune_ascii cs (bt s pos:Int) w (by omega) (by omega));rw [hx8] at IR;have hin:=oP cs.data.toList s[pos];have HC:Hid (cs.data.toList.contains s[pos]=!decide (Lib.indexByte cs.data.toList s[pos]<0)):=by show _=_;rw [hin];exact MH s[pos] cs.data.toList
      have hge:=Lib.indexByte_ge cs.data.toList s[pos];have HST:=hid hstep;have js2:=hid hany;clear OD hit hstep hx8 hin r1 r2 hany hd hwd hle;generalize Lib.indexByte cs.data.toList s[pos]=ix at *;clear hbx;generalize bt s pos=b at *;have hwr:wrap64 (b:Int)=b:=IntWalk.wrap64_in _ ⟨by omega,by omega⟩;by_cases hix:0<=ix
      ·have HV:Hid (V=true):=by
         show V=true;rw [<- js2.out,HST.out,HC.out];have:decide (ix<0)=false:=by simp;omega
         rw [this];rfl
       go_wp2_with fail
       refine (IR.out _).mono ?_;rintro e w2 ⟨rfl,hw2⟩;subst hw2;go_wp2;go_ret;refine ⟨_,rfl,?_,?_⟩
       ·rw [HV.out];simp
       ·obtain ⟨_,_,_,hbl,_⟩:=R1.out;exact hbl
      ·have HV:Hid (((s.data.toList.drop (pos+1)).any fun c=>cs.data.toList.contains c)=V):=by
         show _=V;rw [<- js2.out,HST.out,HC.out];have:decide (ix<0)=true:=by simp;omega
         rw [this];rfl
       go_wp2_with fail
       refine (IR.out _).mono ?_;rintro e w2 ⟨rfl,hw2⟩;subst hw2;go_wp2;go_roundw;case rel=>exact ⟨R1.out,by rw [R2.out];exact HV.out⟩
       case measure=>rw [R2.out,HPE.out];omega
     ·have Zv:=Gs s (fun c=>cs.data.toList.contains c) (Utf8.decode s pos).2 pos hle (fun j hj hlt2=>Q6 HA.out _ (by rw [jh s (pos+j) hlt2];exact hbs j hj));have HV:Hid (((s.data.toList.drop (pos+(Utf8.decode s pos).2)).any fun c=>cs.data.toList.contains c)=V):=by
        show _=V;rw [<- Zv];exact hany
      clear OD hit Zv r1 r2 hany hbs;generalize Utf8.decode s pos=d at *;obtain ⟨d1,d2⟩:=d;simp only at hnx R1 R2 HV hle hd hwd hd8;have hwr:wrap64 (d1:Int)=d1:=IntWalk.wrap64_in _ ⟨by omega,by omega⟩;by_cases h65:d1=65533
      ·subst h65;have IR:=hid (fun w=>Bz cs w Jt.out);obtain ⟨wi,hwi⟩:∃ wi,wi=wr.iterAt w1.heap.size s (pos+d2):=⟨_,rfl⟩;rw [<- hwi] at hnx R1 R2;clear hwi;exact Zu
      ·have IR:=hid (fun w=>Et cs d1 w Jt.out hd8 hd h65);obtain ⟨wi,hwi⟩:∃ wi,wi=wr.iterAt w1.heap.size s (pos+d2):=⟨_,rfl⟩;rw [<- hwi] at hnx R1 R2;clear hwi h65;exact Zu
    ·have hnx:∀ ty,(Instr.next (.pointer (some ⟨w1.heap.size,0,none⟩)) true ty).run Tryz.prog wr=_:=fun ty=>Lib.run_next_end_at wr w1.heap.size s pos ty hit hlt
     have HV:Hid (V=false):=by show V=false;rw [<- hany,List.drop_of_length_le (by simp;omega)];rfl
     have HB:Hid (Below w1.heap.size w1 wr):=by obtain ⟨_,_,_,hbl,_⟩:=OD;exact hbl
     clear hit OD hany;go_wp2;go_ret;exact ⟨_,rfl,by rw [HV.out];simp,HB.out⟩
theorem JH (s:ByteArray) (bs:List UInt8):decide (0<=Lib.indexAny s.data.toList bs)=mZ s bs:=yu bs _
theorem q3a (s cs:ByteArray) (w:jIq) (hs:s.size<=1000000000) (hcs:qU cs) : Calls Tryz.prog 142 #[.string s,.string cs] w (jlk (.bool (mZ s cs.data.toList)) w):=by
  have IA:Calls Tryz.prog 167 #[.string s,.string cs] w (MI (mZ s cs.data.toList) w):=by
    by_cases h8:s.size<=8
    ·exact yw s cs w h8 hcs
    ·obtain ⟨k2,k8,hasc⟩:=hcs;have h116:(Tryz.prog.info? 173).map (fun i=>(i.zero,i.size))=some (some (.agg (Array.replicate 256 (.bool false))),256):=by kernel_rfl
     have hz:=(zero_of_info h116).1;refine (Tryz.strings_IndexAny_long hz s cs w k2 (by omega) (by omega) (by omega) (fun j b hb=>uK hasc b (jG7 hb))).mono ?_;rintro e w' ⟨rfl,rfl⟩;exact ⟨_,rfl,JH _ _,((jFj _ _).alloc (jFk _) _).alloc (by simp) _⟩
  have HI:=hid IA;clear IA;generalize mZ s cs.data.toList=V at *;go_enter Tryz.func142,Tryz.ntmps142;go_wp2_with fail
  refine HI.out.mono ?_;rintro e w2 ⟨n,rfl,hv,hb⟩;have HV:=hid hv;clear hv;go_wp2;all_goals
    go_ret;refine ⟨?_,hb⟩;rw [<- HV.out];rfl
open Go.RowKit
def js3 (s:ByteArray) (vi:Value):Prop:=∃ k:Nat,k<=s.size/\vi=.int .i64 k/\∀ j x,j<k->s.data.toList[j]?=some x->eD x.toNat=true
theorem OE (b:Nat):(97<=b/\b<=122)\/(65<=b/\b<=90)\/b<65\/(91<=b/\b<=96)\/122<b:=by omega
theorem jy4:qU ⟨#[32,60,62]⟩:=⟨by decide,by decide,by decide⟩
theorem jy5:qU ⟨#[124,123,125]⟩:=⟨by decide,by decide,by decide⟩
theorem js4:qU ⟨#[91,93,59,64,123,36,96]⟩:=⟨by decide,by decide,by decide⟩
theorem get_bt (s:ByteArray) (k:Nat) (c:UInt8):decide (s.data.toList[k]?=some c)=(decide (k<s.size)&&decide (bt s k=c.toNat)):=by
  by_cases h:k<s.size
  ·rw [Cu s k h,<- jh s k h,jFz];simp [h,UInt8.toNat_inj]
  ·have:s.data.toList[k]?=none:=by rw [List.getElem?_eq_none_iff];simp;omega
   rw [this];simp [h]
theorem Q7{P:Prop}(h:P:=by
 have HRK:Hid (V=(decide (2<=k)&&decide (k<=20)&&(decide (k<s.size)&&decide (b=58))&&L&&!A)):=by show _=_;rw [HA.out,HN.out (by unfold eD nN;simp;omega),HBE.out]
 have q58:((b:Int)==58)=decide (b=58):=by rw [Bool.eq_iff_iff];simp;omega
 obtain ⟨b5,js5⟩:∃ b5,decide (b=58)=b5:=⟨_,rfl⟩;rw [js5] at q58 HRK;clear js5;go_wp2_with (first | (go_at_call 35;refine (CL.out _).mono ?_;rintro e w2 ⟨rfl,q,rfl⟩) | (go_at_call 142;refine (CA.out _).mono ?_;rintro e w2 ⟨rfl,hb2⟩))
 all_goals
   go_ret;refine ⟨wW ?_,?_⟩
   ·rw [HRK.out,decide_eq_true hlt]
    (try simp [*])
    (try omega)
   ·first | exact (ig (Below.refl _ _) _).trans hb2 | exact ig (Below.refl _ _) _ | exact Below.refl _ _):P:=h
theorem Zw{P:Prop}(h:P:=by
 go_wp2
 go_round
 case rel=>exact ⟨k+1,by omega,by go_num,HL.out (by unfold eD nN;simp;omega)⟩
 case measure=>simp [intOf];omega):P:=h
theorem Q8{P Q:Prop}(q:Q)(h:Nonempty Q->P:=by
 intro qQ;have d0:decide ((97:Int)<=(b:Int))=false:=by simp;omega
 have d1:decide ((b:Int)<=122)=true:=by simp;omega
 revert d0 d1;exact qQ.elim fun x=>x):P:=h ⟨q⟩
theorem Q9{P Q:Prop}(q:Q)(h:Nonempty Q->P:=by
 intro qQ;have d2:decide ((65:Int)<=(b:Int))=true:=by simp;omega
 have d3:decide ((b:Int)<=90)=false:=by simp;omega
 revert d2 d3;exact qQ.elim fun x=>x):P:=h ⟨q⟩
theorem Gt (s:ByteArray) (w:World) (hs:s.size<=1000000000) : Calls Tryz.prog 113 #[.string s] w (dP (.bool (mM s)) w):=by
  have CL:=hid (fun w=>Ra s w hs);have CA:=hid (fun w=>q3a s ⟨#[32,60,62]⟩ w hs jy4);have HA:Hid (mM s=(decide (2<=gK s)&&decide (gK s<=20)&&(decide (gK s<s.size)&&decide (bt s (gK s)=58))&&dG s&&!mZ s [32,60,62])):=by show _=_;unfold mM;rw [get_bt];rfl
  obtain ⟨V,hV⟩:∃ V,V=mM s:=⟨_,rfl⟩;rw [<- hV] at HA ⊢;clear hV;have HR:∀ k,k<=s.size->(∀ j x,j<k->s.data.toList[j]?=some x->eD x.toNat=true)->(∀ x,s.data.toList[k]?=some x->eD x.toNat=false)->gK s=k:=fun k hk h1 h2=>
    qV (fun c=>eD c.toNat) _ k (by simpa using hk) h1 h2
  have HR:=hid HR;have e2:(⟨#[32,60,62]⟩:ByteArray).data.toList=[32,60,62]:=rfl;rw [e2] at CA;clear e2;generalize dG s=L at *;generalize mZ s [32,60,62]=A at *;generalize gK s=r at *;go_enter Tryz.func113,Tryz.ntmps113;go_wp2
  go_loop [3] (fun i=>js3 s i) (fun i=>s.size-(intOf i).toNat)
  case atStart=>exact ⟨0,Nat.zero_le _,rfl,fun j x hj=>by omega⟩
  case round=>
    obtain ⟨k,hk,rfl,hall⟩:=hrel;have Eu:=hid hall;clear hall;by_cases hlt:k<s.size
    ·have hb:=gJ s k;have e0:=jh s k hlt;have HG:=hid (Cu s k hlt);have HB:=hid e0;obtain ⟨b,hbe⟩:∃ b,bt s k=b:=⟨_,rfl⟩;rw [hbe] at e0 hb HB;have HBE:=hid hbe;clear hbe;have hl:eD b=true->∀ j x,j<k+1->s.data.toList[j]?=some x->eD x.toNat=true:=by
       intro hl j x hj hx;rcases Nat.lt_or_ge j k with h | h
       ·exact Eu.out j x h hx
       ·have:j=k:=by omega
        subst this;rw [HG.out] at hx;obtain rfl:=Option.some.inj hx;rw [HB.out];exact hl
     have hn:eD b=false->r=k:=by intro hl;refine HR.out k hk Eu.out (fun x hx=>?_);rw [HG.out] at hx;obtain rfl:=Option.some.inj hx;rw [HB.out];exact hl
     have HL:=hid hl;have HN:=hid hn;clear hl hn;rcases OE b with ⟨h1,h2⟩ | ⟨h1,h2⟩ | h1 | ⟨h1,h2⟩ | h1
     ·have d0:decide ((97:Int)<=(b:Int))=true:=by simp;omega
      have d1:decide ((b:Int)<=122)=true:=by simp;omega
      refine Q9 ?_;intro d2 d3;exact Zw
     ·refine Q8 ?_;intro d0 d1;have d2:decide ((65:Int)<=(b:Int))=true:=by simp;omega
      have d3:decide ((b:Int)<=90)=true:=by simp;omega
      exact Zw
     ·refine Q8 ?_;intro d0 d1;have d2:decide ((65:Int)<=(b:Int))=false:=by simp;omega
      have d3:decide ((b:Int)<=90)=true:=by simp;omega
      exact Q7
     ·refine Q8 ?_;intro d0 d1;refine Q9 ?_;intro d2 d3;exact Q7
     ·have d0:decide ((97:Int)<=(b:Int))=true:=by simp;omega
      have d1:decide ((b:Int)<=122)=false:=by simp;omega
      refine Q9 ?_;intro d2 d3;exact Q7
    ·have HRK:Hid (V=false):=by
       show _=_;rw [HA.out,HR.out k hk Eu.out (fun x hx=>by
         have:=(List.getElem?_eq_some_iff.1 hx).1;have e:s.data.toList.length=s.size:=by simp
         omega)]
       simp [hlt]
     have q:decide ((k:Int)<(s.size:Int))=false:=by simp;omega
     go_wp2;all_goals
       go_ret;refine ⟨wW ?_,Below.refl _ _⟩;rw [HRK.out]
       (try simp)
       (try omega)
open Go.RowKit
def yx:List UInt8:=[91,93,59,64,123,36,96]
theorem Cv (s:ByteArray):iB s=(!dG s||!trimS s||mZ s yx):=rfl
def jy6 (pre suf:ByteArray) (wi:World) (vj:Value) (wj:World):Prop:=Below wi.heap.size wi wj/\(vj=.int .i64 0\/(vj=.int .i64 1/\iB pre=false)\/(vj=.int .i64 2/\iB pre=false/\iB suf=false))
def Zx (l:List Ci) (E:Nat) (w:World) (vi:Value) (wr:World):Prop:=∃ k:Nat,k<=l.length/\vi=.int .i64 k/\Below w.heap.size w wr/\eP (l.drop k)=E
theorem yD (l:List Ci) (a:Option Addr) (cap:Nat) (w:World) (h:Rd (·<w.heap.size) w (OG l) [.slice a l.length cap]) (hsz:∀ c∈l,c.key.size<=5000/\c.pre.size<=5000/\c.suf.size<=5000) : Calls Tryz.prog 112 #[.slice a l.length cap] w (dP (.int .i64 (Rb l:Nat)) w):=by
  obtain ⟨a',c',hv,hs⟩:=Rd.ay h;obtain ⟨rfl,rfl⟩:a'=a/\c'=cap:=by simp at hv;exact ⟨hv.1.symm,hv.2.symm⟩
  have hcap:l.length<=c':=by simpa using hs.le
  have hmx:=hs.max;unfold maxLen at hmx;have HS:=hid hs;have SZ:=hid hsz;clear hs hv h hsz;by_cases h0:l.length=0
  ·have hv:Rb l=8:=by
     obtain rfl:=List.eq_nil_of_length_eq_zero h0;rfl
   rw [hv];have e0:((l.length:Int)==0)=true:=by rw [h0];rfl
   clear hv h0;go_enter Tryz.func112,Tryz.ntmps112;exact vO
  have hv:Rb l=eP l:=by
    cases l with
    | nil=>simp at h0
    | cons x l=>rfl
  rw [hv];have e0:((l.length:Int)==0)=false:=by rw [beq_eq_false_iff_ne];omega
  obtain ⟨E,hE⟩:∃ E,eP l=E:=⟨_,rfl⟩;rw [hE];have R0:Hid (Zx l E w (.int .i64 0) w):=⟨0,Nat.zero_le _,rfl,Below.refl _ _,hE⟩;clear hv hE h0;go_enter Tryz.func112,Tryz.ntmps112;go_wp2
  go_loopw [12] (fun i wr=>Zx l E w i wr) (fun i _=>l.length-(intOf i).toNat)
  case atStart=>exact R0.out
  case round=>
    clear R0;obtain ⟨k,hk,rfl,hbel,bg⟩:=hrel;have HB:=hid hbel;by_cases hlt:k<l.length
    ·obtain ⟨x,hx⟩:∃ x,l[k]?=some x:=⟨_,List.getElem?_eq_getElem hlt⟩;have hxs:=SZ.out x (List.mem_of_getElem? hx);obtain ⟨b,off,rfl,-,-,c0,c1,c2,c3⟩:=JI HS.out hx;have c0:wr.cell? ⟨b,off+k*4,none⟩=some (.string x.key):=by rw [hbel.cell (p:=⟨b,off+k*4,none⟩) (nO c0)];exact c0
     have c1:wr.cell? ⟨b,off+k*4+1,none⟩=some (.string x.pre):=by rw [hbel.cell (p:=⟨b,off+k*4+1,none⟩) (nO c1)];exact c1
     have c2:wr.cell? ⟨b,off+k*4+2,none⟩=some (.string x.suf):=by rw [hbel.cell (p:=⟨b,off+k*4+2,none⟩) (nO c2)];exact c2
     have c3:wr.cell? ⟨b,off+k*4+3,none⟩=some (.bool x.bare):=by rw [hbel.cell (p:=⟨b,off+k*4+3,none⟩) (nO c3)];exact c3
     rw [Gu l k x hx,eP] at bg;obtain ⟨key,pre,suf,bare⟩:=x;dsimp only at c0 c1 c2 c3 hxs bg;have bV:=hid bg;have CN:=hid (fun w=>QA key w (by omega));clear bg hx hbel;cases hn:dU key with
     | false=>
       rw [hn] at CN;have HE:Hid (E=6):=by show E=6;have:=bV.out;rw [if_pos hn] at this;exact this.symm
       clear hn;go_wp2_with fail
       refine (CN.out _).mono ?_;rintro e w3 ⟨rfl,rfl⟩;go_wp2;go_ret;exact ⟨by rw [HE.out];rfl,HB.out.alloc HB.out.size _⟩
     | true=>
       rw [hn] at CN;have fB:Hid ((if iB pre=true\/iB suf=true then 17 else eP (l.drop (k+1)))=E):=by show _=_;have:=bV.out;rw [if_neg (by rw [hn];decide)] at this;exact this
       obtain ⟨wi,hwi⟩:∃ wi,wi=wr.alloc (.cells #[.string key,.string pre,.string suf,.bool bare] 86):=⟨_,rfl⟩;have HBI:Hid (Below w.heap.size w wi):=by rw [hwi];exact HB.out.alloc HB.out.size _
       have i0:wi.cell? ⟨wr.heap.size,0,none⟩=some (.string key):=by rw [hwi];exact Gv wr [.string key,.string pre,.string suf,.bool bare] _ 0 _ rfl
       have i1:wi.cell? ⟨wr.heap.size,1,none⟩=some (.string pre):=by rw [hwi];exact Gv wr [.string key,.string pre,.string suf,.bool bare] _ 1 _ rfl
       have i2:wi.cell? ⟨wr.heap.size,2,none⟩=some (.string suf):=by rw [hwi];exact Gv wr [.string key,.string pre,.string suf,.bool bare] _ 2 _ rfl
       clear hn bV;go_upto_region 6 with (fail)
       rw [<- hwi];clear hwi c0 c1 c2 c3;have jDj:∀ wx,(Instr.index 154 (.agg #[.string pre,.string suf]) (.int .i64 0)).run Tryz.prog wx=.ok (.string pre) wx:=fun wx=>by kernel_rfl
       have jDk:∀ wx,(Instr.index 154 (.agg #[.string pre,.string suf]) (.int .i64 1)).run Tryz.prog wx=.ok (.string suf) wx:=fun wx=>by kernel_rfl
       go_wp2_with fail
       refine (CN.out _).mono ?_;rintro e w3 ⟨rfl,rfl⟩;go_wp2
       go_loopw [25] (fun j wj=>jy6 pre suf wi j wj) (fun j _=>2-(intOf j).toNat)
       case atStart=>exact ⟨Below.refl _ _,.inl rfl⟩
       case round=>
         clear i0 i1 i2;obtain ⟨hbj,hj⟩:=hrel;have HBJ:=hid hbj;rcases hj with rfl | ⟨rfl,hp⟩ | ⟨rfl,hp,hsf⟩
         ·have CL:=hid (fun w=>Ra pre w (by omega));have CT:=hid (fun w=>ji pre w (by omega));have CA:=hid (fun w=>q3a pre ⟨#[91,93,59,64,123,36,96]⟩ w (by omega) js4);have e7:(⟨#[91,93,59,64,123,36,96]⟩:ByteArray).data.toList=yx:=rfl;rw [e7] at CA;have nJ:=hid (Cv pre);clear e7 hbj;cases hL:dG pre<;>cases hT:trimS pre<;>cases hA:mZ pre yx
          all_goals
            rw [hL,hT,hA] at nJ;rw [hL] at CL;rw [hT] at CT;rw [hA] at CA;clear hL hT hA;go_wp2_with (first | (go_at_call 35;refine (CL.out _).mono ?_;rintro e w2 ⟨rfl,q,rfl⟩) | (go_at_call 36;refine (CT.out _).mono ?_;rintro e w2 ⟨rfl,rfl⟩) | (go_at_call 142;refine (CA.out _).mono ?_;rintro e w2 ⟨rfl,hb2⟩))
            first
            | (go_ret
               have HE:E=17:=by have:=fB.out;rw [if_pos (.inl (by rw [nJ.out];rfl))] at this;exact this.symm
               refine ⟨by rw [HE];rfl,q01 (q01 HBI.out HBJ.out) ?_⟩;first | exact (ig (Below.refl _ _) _).trans hb2 | exact ig (Below.refl _ _) _)
            | (go_roundw
               case rel=>exact ⟨q01 HBJ.out ((ig (Below.refl _ _) _).trans hb2),.inr (.inl ⟨by go_num,by rw [nJ.out];rfl⟩)⟩
               case measure=>simp [intOf])
         ·have CL:=hid (fun w=>Ra suf w (by omega));have CT:=hid (fun w=>ji suf w (by omega));have CA:=hid (fun w=>q3a suf ⟨#[91,93,59,64,123,36,96]⟩ w (by omega) js4);have e7:(⟨#[91,93,59,64,123,36,96]⟩:ByteArray).data.toList=yx:=rfl;rw [e7] at CA;have nJ:=hid (Cv suf);have HP:=hid hp;clear e7 hbj hp;cases hL:dG suf<;>cases hT:trimS suf<;>cases hA:mZ suf yx
          all_goals
            rw [hL,hT,hA] at nJ;rw [hL] at CL;rw [hT] at CT;rw [hA] at CA;clear hL hT hA;go_wp2_with (first | (go_at_call 35;refine (CL.out _).mono ?_;rintro e w2 ⟨rfl,q,rfl⟩) | (go_at_call 36;refine (CT.out _).mono ?_;rintro e w2 ⟨rfl,rfl⟩) | (go_at_call 142;refine (CA.out _).mono ?_;rintro e w2 ⟨rfl,hb2⟩))
            first
            | (go_ret
               have HE:E=17:=by have:=fB.out;rw [if_pos (.inr (by rw [nJ.out];rfl))] at this;exact this.symm
               refine ⟨by rw [HE];rfl,q01 (q01 HBI.out HBJ.out) ?_⟩;first | exact (ig (Below.refl _ _) _).trans hb2 | exact ig (Below.refl _ _) _)
            | (go_roundw
               case rel=>exact ⟨q01 HBJ.out ((ig (Below.refl _ _) _).trans hb2),.inr (.inr ⟨by go_num,HP.out,by rw [nJ.out];rfl⟩)⟩
               case measure=>simp [intOf])
         ·have HN:Hid (eP (l.drop (k+1))=E):=by
            show _=_;have:=fB.out;rw [if_neg (by rw [hp,hsf];simp)] at this;exact this
          clear hp hsf hbj;go_wp2;go_roundw;case rel=>exact ⟨k+1,by omega,by go_num,q01 HBI.out HBJ.out,HN.out⟩
          case measure=>simp [intOf];omega
    ·obtain rfl:k=l.length:=by omega
     have HE:Hid (E=0):=by show E=0;rw [List.drop_length,eP] at bg;exact bg.symm
     clear bg;exact jd
open Go.RowKit
def Rc:List UInt8:=[124,123,125]
theorem OH (s:ByteArray):Ev s=(!dG s||mZ s Rc):=rfl
def NmR (l:List ByteArray) (w:World) (vi:Value) (wr:World):Prop:=∃ k:Nat,k<=l.length/\vi=.int .i64 k/\Below w.heap.size w wr/\(l.take k).any Ev=false
structure Zy (t d ti:ByteArray) (a:At) (ar:List ByteArray) (ci:List Ci):Prop where
  t:t.size<=1000000
  d:d.size<=1000000
  ti:ti.size<=1000000
  at_:a.short
  ars:∀ c∈ar,c.size<=5000
  cis:∀ c∈ci,c.key.size<=5000/\c.pre.size<=5000/\c.suf.size<=5000
theorem yE {α:Type} (p:α->Bool) {l:List α} {k:Nat} {x:α} (h:l[k]?=some x):(l.take (k+1)).any p=((l.take k).any p||p x):=by rw [List.take_add_one,h];simp
theorem JJ {α:Type} (p:α->Bool) {l:List α} {k:Nat} {x:α} (h:l[k]?=some x) (hp:p x=true):l.any p=true:=List.any_eq_true.2 ⟨x,List.mem_of_getElem? h,hp⟩
theorem nQ{P:Prop}(h:P:=by
 go_wp2;go_ret;exact ⟨by rw [HV.out];rfl,Below.refl _ _⟩):P:=h
theorem yF (w:jIq) (b o:Nat) (k:Int) (t d ti:ByteArray) (at_:At) (ar:List ByteArray) (ci:List Ci) (ks:List aj) (ac ap aa ai ak:Option Addr) (cc cp ca gL ck:Nat) (h:Zz w b o k t d ti at_ ar ci ks ac ap aa ai ak cc cp ca gL ck) (hs:Zy t d ti at_ ar ci) (hk:k=12\/k=14\/k=15) (har:k=15\/ar=[]) : Calls Tryz.prog 111 #[.pointer (some ⟨b,o,none⟩)] w (dP (.int .i64 (Rf k t ti ar:Nat)) w):=by
  obtain ⟨a',c',hv,hsl⟩:=Rd.ay h.rd.args;obtain ⟨rfl,rfl⟩:a'=aa/\c'=ca:=by simp at hv;exact ⟨hv.1.symm,hv.2.symm⟩
  have hcap:ar.length<=c':=by simpa using hsl.le
  have hmx:=hsl.max;unfold maxLen at hmx;have HS:=hid hsl;have SZ:=hid hs.ars;have NT:=hid (fun w=>QA t w (by have:=hs.t;omega));obtain ⟨c0,c1,c2,c3,c4,c5,c6,c7,c8,c9⟩:=h.cells;have R0:Hid (NmR ar w (.int .i64 0) w):=⟨0,jG6 _,rfl,jFj _ _,by simp⟩;clear hv hsl h hs;have HE:Hid (Rf k t ti ar=if dU t=false then 6 else if k=14/\bq ti=false/\ti.data.toList≠nR then 5 else if 8<ar.length then 3 else if ar.any Ev then 17 else 0):=rfl;obtain ⟨V,hV⟩:∃ V,V=Rf k t ti ar:=⟨_,rfl⟩;rw [<- hV] at HE ⊢;clear hV;cases hn:dU t with
  | false=>
    rw [hn] at NT;have HV:Hid (V=6):=by show V=6;rw [HE.out,if_pos hn]
    clear hn;go_enter Tryz.func111,Tryz.ntmps111;go_wp2_with fail
    refine (NT.out _).mono ?_;rintro e w3 ⟨rfl,rfl⟩;exact nQ
  | true=>
  rw [hn] at NT;have HE2:Hid (V=if k=14/\bq ti=false/\ti.data.toList≠nR then 5 else if 8<ar.length then 3 else if ar.any Ev then 17 else 0):=by show V=_;rw [HE.out,if_neg (by rw [hn];decide)]
  clear hn HE;rcases hk with rfl | rfl | rfl
  case' inl=>
    have h0:ar=[]:=by rcases har with h | h;(exact absurd h (by decide));exact h
    have hl0:ar.length<=8:=by rw [h0];simp
    have HL:Hid (V=if ar.any Ev then 17 else 0):=by show V=_;rw [HE2.out,if_neg (by rintro ⟨h,-⟩;exact absurd h (by decide)),if_neg (by omega)]
    clear har h0 HE2
  case' inr.inl=>
    have h0:ar=[]:=by rcases har with h | h;(exact absurd h (by decide));exact h
    have hl0:ar.length<=8:=by rw [h0];simp
    clear har h0;rcases fA ti with rfl | ⟨t1,t2,t3,t4⟩
    case' inl=>
      have HL:Hid (V=if ar.any Ev then 17 else 0):=by show V=_;rw [HE2.out,if_neg (by rintro ⟨-,h,-⟩;exact absurd h (by decide)),if_neg (by omega)]
      clear HE2
    case' inr=>
      have hpg:(ti.toList==[112,97,103,101])=decide (ti.data.toList=nR):=by rw [Lib.toList_data,jFz,beq_iff_eq,decide_eq_true_iff];rfl
      by_cases hp:ti.data.toList=nR;case neg=>
        have HV:Hid (V=5):=by show V=_;rw [HE2.out,if_pos ⟨rfl,t4,hp⟩]
        rw [decide_eq_false hp] at hpg;clear HE2 hp;go_enter Tryz.func111,Tryz.ntmps111;go_wp2_with fail
        refine (NT.out _).mono ?_;rintro e w3 ⟨rfl,rfl⟩;exact nQ
      have HL:Hid (V=if ar.any Ev then 17 else 0):=by show V=_;rw [HE2.out,if_neg (by rintro ⟨-,-,h⟩;exact h hp),if_neg (by omega)]
      rw [decide_eq_true hp] at hpg;clear HE2 hp
  case' inr.inr=>
    clear har;by_cases h8:8<ar.length
    ·have HV:Hid (V=3):=by show V=_;rw [HE2.out,if_neg (by rintro ⟨h,-⟩;exact absurd h (by decide)),if_pos h8]
     have q8:decide ((8:Int)<(ar.length:Int))=true:=by simp;omega
     clear HE2;go_enter Tryz.func111,Tryz.ntmps111;go_wp2_with fail
     refine (NT.out _).mono ?_;rintro e w3 ⟨rfl,rfl⟩;exact nQ
    have HL:Hid (V=if ar.any Ev then 17 else 0):=by show V=_;rw [HE2.out,if_neg (by rintro ⟨h,-⟩;exact absurd h (by decide)),if_neg h8]
    have q8:decide ((8:Int)<(ar.length:Int))=false:=by simp;omega
    clear HE2
  all_goals
    go_enter Tryz.func111,Tryz.ntmps111;go_wp2_with fail
    refine (NT.out _).mono ?_;rintro e w3 ⟨rfl,rfl⟩;go_wp2
    go_loopw [48] (fun i wr=>NmR ar w i wr) (fun i _=>ar.length-(intOf i).toNat)
    case atStart=>exact R0.out
    case round=>
      clear R0;obtain ⟨j,hj,rfl,hbel,hno⟩:=hrel;have HB:=hid hbel;have FZ:=hid hno;by_cases hlt:j<ar.length
      ·obtain ⟨x,hx⟩:∃ x,ar[j]?=some x:=⟨_,List.getElem?_eq_getElem hlt⟩;have hxs:=SZ.out x (jG7 hx);obtain ⟨b2,off,rfl,-,-,x0⟩:=jk HS.out hx;have x0:wr.cell? ⟨b2,off+j,none⟩=some (.string x):=by rw [hbel.cell (p:=⟨b2,off+j,none⟩) (nO x0)];exact x0
       have CL:=hid (fun w=>Ra x w (by omega));have CA:=hid (fun w=>q3a x ⟨#[124,123,125]⟩ w (by omega) jy5);have e7:(⟨#[124,123,125]⟩:ByteArray).data.toList=Rc:=rfl;rw [e7] at CA;have nJ:=hid (OH x);have gZ:=hid (yE Ev hx);have HAT:=hid (JJ Ev hx);clear e7 hbel hno hx;cases hL:dG x<;>cases hA:mZ x Rc
       all_goals
         rw [hL,hA] at nJ;rw [hL] at CL;rw [hA] at CA;clear hL hA;go_wp2_with (first | (go_at_call 35;refine (CL.out _).mono ?_;rintro e w2 ⟨rfl,q,rfl⟩) | (go_at_call 142;refine (CA.out _).mono ?_;rintro e w2 ⟨rfl,hb2⟩))
         first
         | (go_ret
            have hv:V=17:=by rw [HL.out,if_pos (HAT.out (by rw [nJ.out];rfl))]
            refine ⟨by rw [hv];rfl,q01 HB.out ?_⟩;first | exact (ig (jFj _ _) _).trans hb2 | exact ig (jFj _ _) _)
         | (go_roundw
            case rel=>exact ⟨j+1,by omega,by go_num,q01 HB.out ((ig (jFj _ _) _).trans hb2),by rw [gZ.out,FZ.out,nJ.out];rfl⟩
            case measure=>simp [intOf];omega)
      ·have hv:V=0:=by
         have:=FZ.out;rw [List.take_of_length_le (by omega)] at this;rw [HL.out,if_neg (by rw [this];decide)]
       have HV:=hid hv;clear hv hno hbel;go_wp2;go_ret;exact ⟨by rw [HV.out];rfl,HB.out⟩
open Go.RowKit
theorem ZB{P:Prop}(h:P:=by
 (try simp only [Bool.not_eq_true',Bool.not_eq_false'] at *)
 rw [HE.out,HD.out,HT.out,HTI.out,hT,hD,hTI];simp [*]):P:=h
theorem BD (w:jIq) (b o:Nat) (k:Int) (t d ti:ByteArray) (at_:At) (ar:List ByteArray) (ci:List Ci) (ks:List aj) (ac ap aa ai ak:Option Addr) (cc cp ca gL ck:Nat) (h:Zz w b o k t d ti at_ ar ci ks ac ap aa ai ak cc cp ca gL ck) (hs:Zy t d ti at_ ar ci) (hk:k=9\/k=10) : Calls Tryz.prog 110 #[.pointer (some ⟨b,o,none⟩)] w (dP (.int .i64 (QB k t d ti at_ ks:Nat)) w):=by
  have HP:=hid h;obtain ⟨s1,s2,s3,s4,-,-⟩:=hs;have LT:=hid (fun w=>Cr t w (by omega));have CD:=hid (fun w=>Ra d w (by omega));have CT:=hid (fun w=>Ra ti w (by omega));have AC:=hid (fun wx (hb:Below w.heap.size w wx)=>iC at_ ac ap cc cp wx (h.rd.at_.up hb) s4);have AK:=hid (fun wx q (hb:Below w.heap.size w wx)=>vP _ ks _ _ [9,16,12,14,13] wx.heap.size 5 ((wx.alloc (.cells #[.int .i64 9,.int .i64 16,.int .i64 12,.int .i64 14,.int .i64 13] 3)).drewN q) (jFk _)
    ((h.rd.kids.up hb).up (ig ((jFj _ _).alloc (jFk _) _) q)) (by simp) (Zo wx 3 9 16 12 14 13))
  simp only [List.length_cons,List.length_nil,Nat.reduceAdd] at AK;obtain ⟨c0,c1,c2,c3,c4,c5,c6,c7,c8,c9⟩:=h.cells;have HE:Hid (QB k t d ti at_ ks=if bq t=false/\(bq d=false\/bq ti=false) then 5
  else if bq t=false/\uJ t=false then 6
  else if dG d=false\/dG ti=false then 17
  else if k=9/\aj.dx dB ks=true then 5
  else if k=10 then at_.err else 0):=rfl
  have hrk:aj.dx [9,16,12,14,13] ks=aj.dx dB ks:=rfl;rw [hrk] at AK;obtain ⟨V,hV⟩:∃ V,V=QB k t d ti at_ ks:=⟨_,rfl⟩
  rw [<- hV] at HE ⊢;have HD:=hid (oQ d).symm;have HT:=hid (oQ t).symm;have HTI:=hid (oQ ti).symm;generalize uJ t=L at *;generalize dG d=L1 at *;generalize dG ti=L2 at *;generalize aj.dx dB ks=K at *;generalize at_.err=E at *
  clear hV h hrk s1 s2 s3 s4;cases hT:t.toList.isEmpty<;>cases hD:d.toList.isEmpty<;>cases hTI:ti.toList.isEmpty<;>rcases hk with rfl | rfl
  all_goals
    go_enter Tryz.func110,Tryz.ntmps110;go_wp2_with (first | (go_at_call 122;refine (LT.out _).mono ?_;rintro e w2 ⟨rfl,hb1⟩;obtain ⟨p0,p1,p2,p3,p4,p5,p6,p7,p8,p9⟩:=(HP.out.up hb1).cells) | (go_at_call 35;(with_reducible refine (CD.out _).mono ?_);rintro e w2 ⟨rfl,q,rfl⟩) | (go_at_call 35;(with_reducible refine (CT.out _).mono ?_);rintro e w2 ⟨rfl,q2,rfl⟩) | (go_at_call 37;refine (AC.out _ (by first | exact ig hb1 _ | exact ig (jFj _ _) _)).mono ?_;rintro e w2 ⟨rfl,hb3⟩) | (go_at_call 141;refine (AK.out _ _ (by first | exact hb1 | exact jFj _ _)).mono ?_;rintro e w2 ⟨rfl,rfl⟩))
    all_goals
      go_ret;refine ⟨JK ?_,?_⟩
      ·exact ZB
      ·first
       | exact q01 (ig hb1 _) hb3 | exact q01 (ig (jFj _ _) _) hb3
       | exact ig (hb1.alloc hb1.size _) _ | exact ig ((jFj _ _).alloc (jFk _) _) _
       | exact ig hb1 _ | exact ig (jFj _ _) _ | exact hb1 | exact jFj _ _
open Go.RowKit
theorem yG {k:Int} {t d ti:ByteArray} {a:At} {ar:List ByteArray} {ci:List Ci} {ks:List aj} (h:yH k t d ti a ar ci ks=true):1<=k/\k<=16/\(k=15\/ar=[]):=by
  unfold yH at h;simp only [Bool.and_eq_true,Bool.or_eq_true,decide_eq_true_eq] at h;obtain ⟨⟨⟨⟨⟨⟨⟨⟨h1,h2⟩,-⟩,-⟩,-⟩,-⟩,-⟩,h8⟩,-⟩:=h;refine ⟨h1,h2,?_⟩;rcases h8 with h | h
  ·exact .inl h
  ·exact .inr (by simpa using h)
theorem ZC{P:Prop}(h:P:=by
 (try simp only [Bool.not_eq_true',Bool.not_eq_false',beq_iff_eq,beq_eq_false_iff_ne,ne_eq] at *)
 rw [HE.out,HT.out];simp [*]):P:=h
theorem wX (w:jIq) (b o:Nat) (k bf:Int) (t d ti:ByteArray) (at_:At) (ar:List ByteArray) (ci:List Ci) (ks:List aj) (ac ap aa ai ak:Option Addr) (cc cp ca gL ck:Nat) (h:Zz w b o k t d ti at_ ar ci ks ac ap aa ai ak cc cp ca gL ck) (hs:Zy t d ti at_ ar ci) (hf:yH k t d ti at_ ar ci ks=true) : Calls Tryz.prog 83 #[.pointer (some ⟨b,o,none⟩),.int .i64 bf] w (dP (.int .i64 (oV bf false false k t d ti at_ ar ci ks:Nat)) w):=by
  have HP:=hid h;obtain ⟨f1,f2,f3⟩:=yG hf;have l1:=(sF h.rd.at_.cls).2;have l2:=(sF h.rd.at_.aF).2;obtain ⟨-,l5,m5⟩:=sF h.rd.kids;have AE:=hid (fun w=>qW at_ ac ap cc cp w (by omega) (by omega));unfold maxLen at m5;clear l1 l2;have CL:=hid (fun w=>Ra t w (by have:=hs.t;omega));have AC:=hid (fun wx (hb:Below w.heap.size w wx)=>iC at_ ac ap cc cp wx (h.rd.at_.up hb) hs.at_);have LK:=hid (BD w b o k t d ti at_ ar ci ks ac ap aa ai ak cc cp ca gL ck h hs);have NM:=hid (fun hk=>yF w b o k t d ti at_ ar ci ks ac ap aa ai ak cc cp ca gL ck h hs hk f3);have CC:=hid (yD ci ai gL w h.rd.fC hs.cis);have AD:=hid (Gt d w (by have:=hs.d;omega));have OO:=hid (lq bf [2,3] w.heap.size 2 _ (by simp) (Rh w 3 2 3));simp only [List.length_cons,List.length_nil,Nat.reduceAdd] at OO;have hoo:([2,3]:List Int).contains bf=(decide (bf=2)||decide (bf=3)):=by rw [jFz];simp
  rw [hoo] at OO;obtain ⟨c0,c1,c2,c3,c4,c5,c6,c7,c8,c9⟩:=h.cells;have e3:=jT ks;have HE:Hid (oV bf false false k t d ti at_ ar ci ks=if yH k t d ti at_ ar ci ks=false then 5
  else if k=1\/k=4\/k=5 then (if bq t=true\/dG t=false then 17 else if k≠5/\bf=k then 5 else 0)
  else if k=2 then (if bf=2\/bf=3\/false=true\/false=true then 5 else 0)
  else if k=3 then (if false=true then 5 else 0)
  else if k=6\/k=7\/k=8 then (if ks.isEmpty=true then 8 else 0)
  else if k=9\/k=10 then QB k t d ti at_ ks
  else if k=11 then (if at_.none=true then 8 else at_.err)
  else if k=12\/k=14\/k=15 then Rf k t ti ar
  else if k=13 then Rb ci
  else if mM d=true then 0 else 5):=rfl
  rw [hf] at HE;obtain ⟨V,hV⟩:∃ V,V=oV bf false false k t d ti at_ ar ci ks:=⟨_,rfl⟩
  rw [<- hV] at HE ⊢;have HT:=hid (oQ t).symm;generalize dG t=L at *;generalize QB k t d ti at_ ks=E1 at *
  generalize at_.none=bn at *
  generalize at_.err=E2 at *
  generalize Rf k t ti ar=E3 at *;generalize Rb ci=E4 at *;generalize mM d=bu at *;generalize ks.isEmpty=bk at *;clear hV h hs hf hoo;rcases sG k with rfl | rfl | rfl | rfl | rfl | rfl | rfl | rfl | rfl | rfl | rfl | rfl | rfl | rfl | rfl | rfl | hk
  case inr.inr.inr.inr.inr.inr.inr.inr.inr.inr.inr.inr.inr.inr.inr.inr=>omega
  all_goals
    go_enter Tryz.func83,Tryz.ntmps83;go_wp2_with (first | (go_at_call 35;refine (CL.out _).mono ?_;rintro e w2 ⟨rfl,q,rfl⟩) | (go_at_call 82;refine OO.out.mono ?_;rintro e w2 ⟨rfl,rfl⟩) | (go_at_call 110;refine (LK.out (by simp)).mono ?_;rintro e w2 ⟨rfl,hb3⟩) | (go_at_call 109;refine (AE.out _).mono ?_;rintro e w2 ⟨rfl,hb1⟩;obtain ⟨p0,p1,p2,p3,p4,p5,p6,p7,p8,p9⟩:=(HP.out.up hb1).cells) | (go_at_call 37;refine (AC.out _ hb1).mono ?_;rintro e w2 ⟨rfl,hb3⟩) | (go_at_call 111;refine (NM.out (by simp)).mono ?_;rintro e w2 ⟨rfl,hb3⟩) | (go_at_call 112;refine CC.out.mono ?_;rintro e w2 ⟨rfl,hb3⟩) | (go_at_call 113;refine AD.out.mono ?_;rintro e w2 ⟨rfl,hb3⟩))
    all_goals
      go_ret;refine ⟨JK ?_,?_⟩
      ·exact ZC
      ·first
       | exact q01 hb1 hb3 | exact hb3 | exact hb1
       | exact (jFj _ _).alloc (jFk _) _
       | exact ig (jFj _ _) _ | exact jFj _ _
end Go.Proofs.YtklhajbpfelliaaGreatDoor

