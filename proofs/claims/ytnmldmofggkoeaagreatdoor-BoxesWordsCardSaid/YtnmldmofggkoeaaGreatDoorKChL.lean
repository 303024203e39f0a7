/- Contracts of attr.Check; of tree.label. The contract of strings.ContainsAny at a set of two to eight ASCII bytes and whatever text. Contracts of tree.address, checkCites, checkNamed, checkLink. -/
import Derived.Test.YtnmldmofggkoeaaGreatDoorKChG
import Derived.Maps.OwnIn
set_option maxHeartbeats 4000000
set_option maxRecDepth 100000
open Go.Lib (hid)
namespace Go.Proofs.YtnmldmofggkoeaaGreatDoor
open Go.RowKit.Below renaming refl->YH
open Nat renaming le_refl->YI
open Bool renaming eq_iff_iff->YL
open Option.some renaming inj->YP
open Go renaming World->Zu
open Go.RowKit
set_option linter.unusedVariables false
set_option linter.unusedSimpArgs false
theorem Bo (s:ByteArray) (f i:Nat) (h:i<s.size) (hf:s.size<=i+f):je s f i=Utf8.decode s i::je s (f-1) (i+(Utf8.decode s i).2):=by obtain ⟨f',rfl⟩:∃ f',f=f'+1:=⟨f-1,by omega⟩;rw [je,if_pos h];rfl
def mJ (s:ByteArray) (V:Bool) (w:Zu) (w0:Zu) (k:Nat) (wr:Zu):Prop:=
 ∃ pos f:Nat,pos<=s.size/\s.size<=pos+f/\wr.heap[k]?=some (.stringIter s pos)/\(je s f pos).all oP=V/\Below w.heap.size w wr/\w.heap.size<=k
theorem mJ.alloc {s:ByteArray} {V:Bool} {w w0:Zu} {k:Nat} {wr:Zu} (h:mJ s V w w0 k wr) (o:Obj):mJ s V w w0 k (wr.alloc o):=by obtain ⟨pos,f,h1,h2,h3,h4,h5,h6⟩:=h;exact ⟨pos,f,h1,h2,(Below.heap_alloc _ _ _ (Array.getElem?_eq_some_iff.1 h3).1).trans h3,h4,h5.alloc h5.size _,h6⟩
theorem mJ.qp {s:ByteArray} {V:Bool} {w w0:Zu} {k:Nat} {wr:Zu} (h:mJ s V w w0 k wr):wr.iterPos k<=s.size/\wr.heap[k]?=some (.stringIter s (wr.iterPos k)):=by
 obtain ⟨pos,f,h1,h2,h3,h4,h5,h6⟩:=h;have hpos:wr.iterPos k=pos:=by simp only [World.iterPos,h3]
 rw [hpos];exact ⟨h1,h3⟩
theorem Ed (d:Nat):([32,45,95,46,58]:List Int).contains (d:Int)=([32,45,95,46,58]:List Nat).contains d:=by rw [YL];simp;omega
theorem rD (s:ByteArray) (w:Zu) (hs:s.size<=1000000000) : Calls Tryz.prog 95 #[.string s] w (dO (.bool (bX s)) w):=by
 rcases eT s with rfl | ⟨hne,hp,hie,hes⟩
 ·have hv:bX ByteArray.empty=false:=by unfold bX;simp
  rw [hv];go_enter Tryz.func95,Tryz.ntmps95;go_wp2;go_ret;exact ⟨rfl,YH _ _⟩
 by_cases WG:60<s.size
 ·have hv:bX s=false:=by unfold bX;simp;omega
  rw [hv];have q1:decide ((60:Int)<(s.size:Int))=true:=by simp;omega
  clear hv;go_enter Tryz.func95,Tryz.ntmps95;go_wp2;go_ret;exact ⟨rfl,YH _ _⟩
 have q1:decide ((60:Int)<(s.size:Int))=false:=by simp;omega
 have FO:=hid (xA s w hs);by_cases KM:qL s=s;case neg=>
  have hv:bX s=false:=by unfold bX;simp [KM]
  rw [hv];have hb1:=zN KM;have hb2:=Gw KM;generalize qL s=fs at *;clear hv KM;go_enter Tryz.func95,Tryz.ntmps95;go_wp2_with fail
  refine FO.out.mono ?_;rintro e w1 ⟨rfl,hb⟩;go_wp2;go_ret;exact ⟨rfl,hb⟩
 rw [KM] at FO;have hv:bX s=(pts s).all oP:=by unfold bX;rw [KM,decide_eq_true (show 1<=s.size by omega),decide_eq_true (show s.size<=60 by omega)];simp
 rw [hv];obtain ⟨V,hV⟩:∃ V,(pts s).all oP=V:=⟨_,rfl⟩;rw [hV];have HV:=hid hV;have hb1:(s.toList != s.toList)=false:=by simp
 clear hv KM hV;go_enter Tryz.func95,Tryz.ntmps95;go_wp2_with fail
 refine FO.out.mono ?_;rintro e w1 ⟨rfl,hb⟩;have R0:Hid (mJ s V w w1 w1.heap.size (w1.iter s 0)):=⟨0,s.size,Nat.zero_le _,by omega,World.iter_heap w1 s 0,HV.out,hb.alloc hb.size _,hb.size⟩;have HB:=hid hb;clear hb;go_wp2
 go_loopw [] (fun wr=>mJ s V w w1 w1.heap.size wr) (fun wr=>s.size-wr.iterPos w1.heap.size)
 case atStart=>exact R0.out
 case round=>
  clear R0;obtain ⟨pos,f,hps,hf,hit,hall,hbel,hk⟩:=hrel;have hpos:wr.iterPos w1.heap.size=pos:=by simp only [World.iterPos,hit]
  by_cases hlt:pos<s.size
  ·have hnx:∀ ty,(Instr.next (.pointer (some ⟨w1.heap.size,0,none⟩)) true ty).run Tryz.prog wr=_:=fun ty=>Lib.run_next_any_at wr w1.heap.size s pos ty hit hlt
   have hd:=Lib.rune_le s pos;have hwd:=jy s pos;have hle:=nC s pos hlt;have hst:=Bo s f pos hlt hf;have HI2:Hid (oP (Utf8.decode s pos)=true->mJ s V w w1 w1.heap.size (wr.iterAt w1.heap.size s (pos+(Utf8.decode s pos).2))):=by intro hl;refine ⟨pos+(Utf8.decode s pos).2,f-1,hle,by omega,Lib.iterAt_heap wr _ s pos _ hit,?_,Lib.below_iterAt hbel hk s _,hk⟩;rw [<- hall,hst,List.all_cons,hl];rfl
   have L6:Hid (oP (Utf8.decode s pos)=false->V=false):=by intro hl;rw [<- hall,hst,List.all_cons,hl];rfl
   have HB2:Hid (Below w.heap.size w (wr.iterAt w1.heap.size s (pos+(Utf8.decode s pos).2))):=Lib.below_iterAt hbel hk s _;have Qb:(wr.iterAt w1.heap.size s (pos+(Utf8.decode s pos).2)).iterPos w1.heap.size=pos+(Utf8.decode s pos).2:=by have:=Lib.iterAt_heap wr w1.heap.size s pos (pos+(Utf8.decode s pos).2) hit;simp only [World.iterPos,this]
   clear hst hall hbel hit;have KN:=hid hpos;clear hpos;generalize Utf8.decode s pos=d at *;obtain ⟨d1,d2⟩:=d;simp only at hd hwd hle hnx HI2 L6 HB2 Qb;have hwr:wrap64 (d1:Int)=d1:=IntWalk.wrap64_in _ ⟨by omega,by omega⟩;have CL:=hid (fun w=>sO d1 w hd);have CD:=hid (fun w=>vK d1 w hd);have OO:=hid (fun wx:Zu=>gD (d1:Int) [32,45,95,46,58] wx.heap.size 5 _ (by simp) (IQ wx 3 32 45 95 46 58));simp only [List.length_cons,List.length_nil,Nat.reduceAdd,Ed] at OO;have Qc:Hid (oP (d1,d2)=(kX d1||Ee d1||([32,45,95,46,58]:List Nat).contains d1)):=rfl;generalize ([32,45,95,46,58]:List Nat).contains d1=bo at *;generalize kX d1=bl at *;generalize Ee d1=bd at *;obtain ⟨wi,hwi⟩:∃ wi,wi=wr.iterAt w1.heap.size s (pos+d2):=⟨_,rfl⟩;rw [<- hwi] at hnx HI2 HB2 Qb;have RA:=hid Qb;clear hwi Qb;cases bl with
   | true=>
    have HG:=hid (HI2.out (by rw [Qc.out];rfl));clear HI2 L6;go_wp2_with (go_at_call 120;refine (CL.out _).mono ?_;rintro e w2 ⟨rfl,rfl⟩)
    go_roundw;case rel=>exact HG.out
    case measure=>rw [RA.out,KN.out];omega
   | false=>
    cases bd with
    | true=>
     have HG:=hid (HI2.out (by rw [Qc.out];rfl));clear HI2 L6;go_wp2_with (first | (go_at_call 120;refine (CL.out _).mono ?_;rintro e w2 ⟨rfl,rfl⟩) | (go_at_call 121;refine (CD.out _).mono ?_;rintro e w2 ⟨rfl,rfl⟩))
     go_roundw;case rel=>exact HG.out
     case measure=>rw [RA.out,KN.out];omega
    | false=>
     cases bo with
     | true=>
      have HG:=hid (HI2.out (by rw [Qc.out];rfl));clear HI2 L6;go_wp2_with (first | (go_at_call 120;refine (CL.out _).mono ?_;rintro e w2 ⟨rfl,rfl⟩) | (go_at_call 121;refine (CD.out _).mono ?_;rintro e w2 ⟨rfl,rfl⟩) | (go_at_call 87;refine (OO.out _).mono ?_;rintro e w2 ⟨rfl,rfl⟩))
      go_roundw;case rel=>exact HG.out.alloc _
      case measure=>
       have h1:=(HG.out.alloc (.cells #[.int .i64 32,.int .i64 45,.int .i64 95,.int .i64 46,.int .i64 58] 3)).qp;have h2:=HG.out.qp;have h3:=(Below.heap_alloc wi (.cells #[.int .i64 32,.int .i64 45,.int .i64 95,.int .i64 46,.int .i64 58] 3) w1.heap.size (Array.getElem?_eq_some_iff.1 h2.2).1);rw [h1.2,h2.2] at h3;have h4:=RA.out;have h5:=KN.out;have h6:World.iterPos (wi.alloc (.cells #[.int .i64 32,.int .i64 45,.int .i64 95,.int .i64 46,.int .i64 58] 3)) w1.heap.size=wi.iterPos w1.heap.size:=by injection h3 with h3;injection h3
       rw [h6,h4,h5];omega
     | false=>
      have HE:=hid (L6.out (by rw [Qc.out];rfl));clear HI2 L6;go_wp2_with (first | (go_at_call 120;refine (CL.out _).mono ?_;rintro e w2 ⟨rfl,rfl⟩) | (go_at_call 121;refine (CD.out _).mono ?_;rintro e w2 ⟨rfl,rfl⟩) | (go_at_call 87;refine (OO.out _).mono ?_;rintro e w2 ⟨rfl,rfl⟩))
      go_ret;exact ⟨by rw [HE.out];rfl,HB2.out.alloc HB2.out.size _⟩
  ·have hnx:∀ ty,(Instr.next (.pointer (some ⟨w1.heap.size,0,none⟩)) true ty).run Tryz.prog wr=_:=fun ty=>Lib.run_next_end_at wr w1.heap.size s pos ty hit hlt
   have HE:Hid (V=true):=by show V=true;rw [<- hall,vG s f pos hlt];rfl
   have KE:=hid hbel;clear hall hbel hit hpos;go_wp2;go_ret;exact ⟨by rw [HE.out];rfl,KE.out⟩
open Go.RowKit
theorem vL (s:ByteArray):∀ (r p c d:Nat),fP s r p c=some d->∀ j,j<r->128<=bt s (p+j)
 | 0,p,c,d,_,j,hj=>by omega
 | r+1,p,c,d,h,j,hj=>by
  rw [fP] at h;split at h
  ·rename_i hc
   cases j with
   | zero=>exact hc.2.1
   | succ j=>
    have:=vL s r (p+1) _ d h j (by omega);rw [show p+(j+1)=p+1+j by omega];exact this
  ·cases h
theorem Bp (s:ByteArray) (i:Nat) (hi:i<s.size):(bt s i<128/\Utf8.decode s i=(bt s i,1))\/(128<=(Utf8.decode s i).1/\∀ j,j<(Utf8.decode s i).2->128<=bt s (i+j)):=by
 by_cases c1:bt s i<128
 ·exact .inl ⟨c1,sN s i c1⟩
 have bad:Utf8.decode s i=(65533,1)->128<=(Utf8.decode s i).1/\∀ j,j<(Utf8.decode s i).2->128<=bt s (i+j):=by
  intro h;rw [h];refine ⟨by decide,fun j hj=>?_⟩;have:j=0:=by simp at hj;exact hj
  subst this;exact Nat.le_of_not_lt c1
 have good:∀ n c,1<=n->Utf8.decode s i=Bh s i n (fP s (n-1) (i+1) c)->(∀ d,fP s (n-1) (i+1) c=some d->128<=d)->128<=(Utf8.decode s i).1/\∀ j,j<(Utf8.decode s i).2->128<=bt s (i+j):=by
  intro n c hn h hd;cases hg:fP s (n-1) (i+1) c with
  | none=>rw [hg] at h;exact bad h
  | some d=>
   rw [hg] at h;rw [h];refine ⟨hd d hg,fun j hj=>?_⟩;cases j with
   | zero=>exact Nat.le_of_not_lt c1
   | succ j=>
    have hj:j+1<n:=hj;have:=vL s (n-1) (i+1) c d hg j (by omega);rw [show i+(j+1)=i+1+j by omega];exact this
 refine .inr ?_;by_cases c2:bt s i<194\/244<bt s i
 ·exact bad (zJ s i (by omega) c2)
 by_cases c3:bt s i<=223
 ·refine good 2 _ (by omega) (vv s i hi (by omega) c3) (fun d hd=>?_);have h:=(sM s i hi (by omega) c3);rw [show 2-1=1 from rfl,fP,fP] at hd;split at hd
  ·injection hd with hd;omega
  ·cases hd
 by_cases c4:bt s i<=239
 ·obtain ⟨d1,d2⟩:=vC s i hi (by omega) c4;by_cases hs:i+1<s.size/\iK (bt s i)<=bt s (i+1)/\bt s (i+1)<=jS (bt s i)
  ·refine good 3 _ (by omega) (d2 hs.2.1 hs.2.2) (fun d hd=>?_);have hl:=hs.2.1;unfold iK at hl;rw [show 3-1=2 from rfl,fP,fP,fP,show i+1+1=i+2 from rfl] at hd;split at hd
   ·split at hd
    ·injection hd with hd
     split at hl
     ·omega
     ·split at hl<;>omega
    ·cases hd
   ·cases hd
  ·exact bad (d1 (.inl hs))
 ·obtain ⟨d1,d2⟩:=vD s i hi (by omega) (by omega);by_cases hs:i+1<s.size/\iK (bt s i)<=bt s (i+1)/\bt s (i+1)<=jS (bt s i)
  ·refine good 4 _ (by omega) (d2 hs.2.1 hs.2.2) (fun d hd=>?_);have hl:=hs.2.1;unfold iK at hl;rw [show 4-1=3 from rfl,fP,fP,fP,fP,show i+1+1=i+2 from rfl,show i+2+1=i+3 from rfl] at hd;split at hd
   ·split at hd
    ·split at hd
     ·injection hd with hd
      split at hl
      ·omega
      ·split at hl<;>omega
     ·cases hd
    ·cases hd
   ·cases hd
  ·exact bad (d1 (.inl hs))
theorem oQ (bs:List UInt8):∀ l:List UInt8,decide (0<=Lib.indexAny l bs)=l.any fun c=>bs.contains c
 | []=>rfl
 | b::l=>by
  have ih:=oQ bs l;have hge:=Lib.indexAny_ge bs l;rw [Lib.indexAny,List.any_cons,<- ih];cases hb:bs.contains b with
  | true=>simp
  | false=>
   simp only [Bool.false_eq_true,if_false,Bool.false_or];by_cases h2:Lib.indexAny l bs=-1
   ·simp [h2]
   ·have h3:(Lib.indexAny l bs==-1)=false:=by simpa using h2
    simp only [h3,Bool.false_eq_true,if_false];rw [YL];simp;omega
def KO (v:Value) (w:Zu) (e:Ending) (w':Zu):Prop:=e=.returned v/\Below w.heap.size w w'
def kr (cs:ByteArray):Prop:=2<=cs.size/\cs.size<=8/\∀ j,j<cs.size->bt cs j<128
def jg (cs:ByteArray) (w:Zu) (k:Nat) (wr:Zu):Prop:=∃ pos:Nat,pos<=cs.size/\wr.heap[k]?=some (.stringIter cs pos)/\Below w.heap.size w wr/\w.heap.size<=k
theorem jg.qp {cs:ByteArray} {w:Zu} {k:Nat} {wr:Zu} (h:jg cs w k wr):wr.iterPos k<=cs.size/\wr.heap[k]?=some (.stringIter cs (wr.iterPos k)):=by
 obtain ⟨pos,h1,h3,h5,h6⟩:=h;have hpos:wr.iterPos k=pos:=by simp only [World.iterPos,h3]
 rw [hpos];exact ⟨h1,h3⟩
theorem jg.next {cs:ByteArray} {w:Zu} {k:Nat} {wr:Zu} (h:jg cs w k wr) (p:Nat) (hp:p<=cs.size):jg cs w k (wr.iterAt k cs p)/\(wr.iterAt k cs p).iterPos k=p:=by obtain ⟨pos,h1,h3,h5,h6⟩:=h;have hh:=Lib.iterAt_heap wr k cs pos p h3;exact ⟨⟨p,hp,hh,Lib.below_iterAt h5 h6 cs p,h6⟩,by simp only [World.iterPos,hh]⟩
theorem jg.up {cs:ByteArray} {w:Zu} {k:Nat} {wr w':Zu} (h:jg cs w k wr) (hb:Below wr.heap.size wr w'):jg cs w k w'/\w'.iterPos k=wr.iterPos k:=by obtain ⟨pos,h1,h3,h5,h6⟩:=h;have hh:w'.heap[k]?=some (.stringIter cs pos):=(hb.block k (Array.getElem?_eq_some_iff.1 h3).1).trans h3;exact ⟨⟨pos,h1,hh,aM h5 hb,h6⟩,by simp only [World.iterPos,hh,h3]⟩
theorem qF (cs:ByteArray) (w:Zu) (hcs:kr cs) : Calls Tryz.prog 184 #[.string cs,.int .i32 65533] w (KO (.int .i64 (-1)) w):=by
 obtain ⟨k2,k8,hasc⟩:=hcs;have HA:=hid hasc;have R0:Hid (jg cs w w.heap.size (w.iter cs 0)):=⟨0,Nat.zero_le _,World.iter_heap w cs 0,(YH _ _).alloc (YI _) _,YI _⟩;clear hasc;go_enter Tryz.func184,Tryz.ntmps184;go_wp2
 go_loopw [] (fun wr=>jg cs w w.heap.size wr) (fun wr=>cs.size-wr.iterPos w.heap.size)
 case atStart=>exact R0.out
 case round=>
  clear R0;obtain ⟨hps,hit⟩:=hrel.qp;obtain ⟨pos,hpe⟩:∃ pos,wr.iterPos w.heap.size=pos:=⟨_,rfl⟩;rw [hpe] at hps hit;have JC:=hid hpe;clear hpe;have HR:=hid hrel;by_cases hlt:pos<cs.size
  ·have hnx:∀ ty,(Instr.next (.pointer (some ⟨w.heap.size,0,none⟩)) true ty).run Tryz.prog wr=_:=fun ty=>Lib.run_next_any_at wr w.heap.size cs pos ty hit hlt
   have hb:=HA.out pos hlt;rw [sN cs pos hb] at hnx;dsimp only at hnx;obtain ⟨r1,r2⟩:=hrel.next (pos+1) (by omega)
   generalize bt cs pos=b at *;have hwr:wrap64 (b:Int)=b:=IntWalk.wrap64_in _ ⟨by omega,by omega⟩;have hne:((b:Int)==65533)=false:=by rw [beq_eq_false_iff_ne];omega
   have R1:=hid r1;have R2:=hid r2;clear hit hrel r1 r2;go_wp2;go_roundw;case rel=>exact R1.out
   case measure=>rw [R2.out,JC.out];omega
  ·have hnx:∀ ty,(Instr.next (.pointer (some ⟨w.heap.size,0,none⟩)) true ty).run Tryz.prog wr=_:=fun ty=>Lib.run_next_end_at wr w.heap.size cs pos ty hit hlt
   have HB:=hid hrel.choose_spec.2.2.1;clear hit hrel;go_wp2;go_ret;exact ⟨rfl,HB.out⟩
theorem lZ {cs:ByteArray} (h:∀ j,j<cs.size->bt cs j<128):∀ x∈cs.data.toList,x.toNat<128:=by
 intro x hx;obtain ⟨j,hj⟩:=List.mem_iff_getElem?.1 hx;have hlt:j<cs.size:=by have:=(List.getElem?_eq_some_iff.1 hj).1;simpa using this
 rw [dK cs j hlt] at hj;obtain rfl:=YP hj;rw [dh cs j hlt];exact h j hlt
theorem Gx (cs:ByteArray) (m lb:Nat) (h:∀ j,j<cs.size->bt cs j<128) (hl:128<=lb) (hb:lb<256):Lib.indexByte (cs.extract (m+1) cs.size).data.toList ((lb:Int)).toNat.toUInt8<0:=by
 have:=jO (cs.extract (m+1) cs.size).data.toList ((lb:Int)).toNat.toUInt8;have h2:((cs.extract (m+1) cs.size).data.toList.all fun x=>!decide (x=((lb:Int)).toNat.toUInt8))=true:=by
  rw [List.all_eq_true];intro x hx;have hx:x∈cs.data.toList:=by rw [ByteArray.data_extract,Array.toList_extract] at hx;exact List.mem_of_mem_drop (List.mem_of_mem_take hx)
  have h3:=lZ h x hx;simp;rintro rfl;have:(lb.toUInt8).toNat=lb%256:=rfl;simp at h3;omega
 rw [h2] at this;simpa using this
theorem NG {P:Program} {f:FuncId} {args:Array Value} {w:Zu} {a n:Nat} {v:Value} (h:Calls P f args (w.drewN (a+n)) fun e w'=>e=.returned v/\w'=w.drewN (a+n)) : Calls P f args (w.drewN (a+n)) fun e w''=>e=.returned v/\∃ m,w''=w.drewN (a+m):=h.mono fun _ _ ⟨he,hm⟩=>⟨he,n,hm⟩
def IU (m:Nat) (w:Zu) (vi:Value) (wr:Zu):Prop:=vi=.int .i64 (m:Int)/\∃ q,wr=w.drewN q
theorem sP (cs:ByteArray) (c:Nat) (w:Zu) (hcs:kr cs) (h1:128<=c) (h2:c<=1114111) (hne:c≠65533) : Calls Tryz.prog 184 #[.string cs,.int .i32 (c:Int)] w (KO (.int .i64 (-1)) w):=by
 obtain ⟨k2,k8,hasc⟩:=hcs;have HA:=hid hasc;have hne:((c:Int)==65533)=false:=by rw [beq_eq_false_iff_ne];omega
 have VR:=hid (fun w=>Tryz.utf8_ValidRune (c:Int) w);clear hasc;go_enter Tryz.func184,Tryz.ntmps184;go_wp2_with fail
 refine (VR.out _).mono ?_;rintro e w1 ⟨rfl,rfl⟩;cases hv:Lib.validRune (c:Int)
 ·go_wp2;go_ret;exact ⟨rfl,YH _ _⟩
 ·have HV:=hid hv;clear hv;go_wp2
  go_step3
  have hv:=HV.out;have hval:Utf8.valid (c:Int)=true:=by unfold Lib.validRune at hv;unfold Utf8.valid;simp at hv ⊢;omega
  obtain ⟨n2,n4,hlast⟩:=encode_facts (c:Int) hval (by omega);obtain ⟨rs,hrs⟩:∃ rs,Utf8.encode (c:Int)=rs:=⟨_,rfl⟩;rw [hrs] at n2 n4 hlast;obtain ⟨m,hm⟩:∃ m,rs.size=m+1:=⟨rs.size-1,by omega⟩;have hl0:=hlast (by omega);have RB:m<rs.size:=by omega
  have hle:rs[m].toNat=bt rs m:=dh rs m RB;have hl:128<=bt rs m:=by
   rw [<- hle];have e:rs.size-1=m:=by omega
   simp only [e] at hl0;exact hl0
  have m1:1<=m:=by omega
  have m3:m<=3:=by omega
  have hlb:=dJ rs m;generalize bt rs m=lb at *;have WH:=hid (Gx cs m lb HA.out hl hlb);clear hl0 hv hlast hval;have R0:Hid (IU m w1 (.int .i64 (m:Int)) w1):=⟨rfl,0,rfl⟩;go_wp2
  go_loopw [9] (fun i wr=>IU m w1 i wr) (fun _ _=>0)
  case atStart=>exact R0.out
  case round=>
   clear R0;obtain ⟨rfl,q,rfl⟩:=hrel;by_cases hlt:m<cs.size
   ·have hcl:=HA.out _ hlt;have hce:=dh cs _ hlt;generalize bt cs m=cb at *;have hne2:((cb:Int) != (lb:Int))=true:=by rw [bne_iff_ne];omega
    go_wp2
    go_step3
    go_wp2_with fail
    go_quiet (fail)
    go_wp2_with fail
    go_quiet ((go_at_call 51;exact NG (Tryz.strings_IndexByte _ _ _)))
    have Yf:=WH.out;generalize Lib.indexByte (cs.extract (m+1) cs.size).data.toList ((lb:Int)).toNat.toUInt8=io at *;go_wp2;rw [Exit.noGoto_ret];go_ret;exact ⟨rfl,eY (YH _ _) _⟩
   ·go_wp2;rw [Exit.noGoto_ret];go_ret;exact ⟨rfl,eY (YH _ _) q⟩
theorem yD {α:Type} (l:List α) (k:Nat) (x:α) (h:l[k]?=some x):l.drop k=x::l.drop (k+1):=by obtain ⟨hlt,rfl⟩:=List.getElem?_eq_some_iff.1 h;exact List.drop_eq_getElem_cons hlt
theorem Ef {cs:ByteArray} (h:∀ j,j<cs.size->bt cs j<128) (x:UInt8) (hx:128<=x.toNat):cs.data.toList.contains x=false:=by rw [Bool.eq_false_iff];intro h2;have:=lZ h x (by simpa using h2);omega
theorem vM (s:ByteArray) (p:UInt8->Bool) (i:Nat) (h:i<s.size):(s.data.toList.drop i).any p=(p s[i]||(s.data.toList.drop (i+1)).any p):=by rw [yD _ i s[i] (dK s i h),List.any_cons]
theorem vO (s:ByteArray) (p:UInt8->Bool):∀ (d i:Nat),i+d<=s.size->(∀ j,j<d->∀ (hj:i+j<s.size),p (s[i+j]'hj)=false)->(s.data.toList.drop i).any p=(s.data.toList.drop (i+d)).any p
 | 0,i,_,_=>rfl
 | d+1,i,hd,h=>by
  have h0:=h 0 (by omega) (by omega);rw [vM s p i (by omega)];rw [show p s[i]=false from h0,Bool.false_or,vO s p d (i+1) (by omega) (fun j hj hlt=>?_)]
  ·rw [show i+1+d=i+(d+1) by omega]
  ·have:=h (j+1) (by omega) (by omega);simpa [Nat.add_assoc,Nat.add_comm 1 j] using this
theorem zO (x:UInt8):∀ l:List UInt8,l.contains x=!(l.all fun y=>!decide (y=x))
 | []=>rfl
 | y::l=>by
  rw [List.contains_cons,List.all_cons,zO x l];by_cases h:y=x
  ·simp [h]
  ·have h2:(x==y)=false:=by simpa using fun e=>h e.symm
   simp [h,h2]
def IV (s cs:ByteArray) (V:Bool) (w:Zu) (k:Nat) (wr:Zu):Prop:=jg s w k wr/\((s.data.toList.drop (wr.iterPos k)).any fun c=>cs.data.toList.contains c)=V
def zP (V:Bool) (w:Zu) (e:Ending) (w':Zu):Prop:=∃ n:Int,e=.returned (.int .i64 n)/\decide (0<=n)=V/\Below w.heap.size w w'
theorem oV (s cs:ByteArray) (w:Zu) (hs:s.size<=8) (hcs:kr cs) : Calls Tryz.prog 189 #[.string s,.string cs] w (zP (bJ s cs.data.toList) w):=by
 have Qd:=hid hcs;obtain ⟨k2,k8,hasc⟩:=hcs;have HA:=hid hasc;rcases eT cs with rfl | ⟨hne,hp,hie,hes⟩
 ·simp at k2
 have SU:=hid (fun w=>Tryz.strings_shouldUseASCIISet (s.size:Int) w);have hn1:((cs.size:Int)==1)=false:=by rw [beq_eq_false_iff_ne];omega
 have q8:decide ((8:Int)<(s.size:Int))=false:=by simp;omega
 obtain ⟨V,hV⟩:∃ V,bJ s cs.data.toList=V:=⟨_,rfl⟩;rw [hV];have R0:Hid (IV s cs V w w.heap.size (w.iter s 0)):=by
  have hh:=World.iter_heap w s 0;refine ⟨⟨0,Nat.zero_le _,hh,(YH _ _).alloc (YI _) _,YI _⟩,?_⟩;have:(w.iter s 0).iterPos w.heap.size=0:=by simp only [World.iterPos,hh]
  rw [this];exact hV
 clear hasc hV hes;go_enter Tryz.func189,Tryz.ntmps189;go_wp2_with fail
 refine (SU.out _).mono ?_;rintro e w1 ⟨rfl,rfl⟩;go_wp2
 go_loopw [] (fun wr=>IV s cs V w1 w1.heap.size wr) (fun wr=>s.size-wr.iterPos w1.heap.size)
 case atStart=>exact R0.out
 case round=>
  clear R0;obtain ⟨Bq,hany⟩:=hrel;obtain ⟨hps,hit⟩:=Bq.qp;obtain ⟨pos,hpe⟩:∃ pos,wr.iterPos w1.heap.size=pos:=⟨_,rfl⟩;rw [hpe] at hps hit hany;have JC:=hid hpe;clear hpe;by_cases hlt:pos<s.size
  ·have hnx:∀ ty,(Instr.next (.pointer (some ⟨w1.heap.size,0,none⟩)) true ty).run Tryz.prog wr=_:=fun ty=>Lib.run_next_any_at wr w1.heap.size s pos ty hit hlt
   have hle:=nC s pos hlt;have hd:=Lib.rune_le s pos;have hwd:=jy s pos;obtain ⟨r1,r2⟩:=Bq.next (pos+(Utf8.decode s pos).2) hle
   have R1:=hid r1;have R2:=hid r2;rcases Bp s pos hlt with ⟨hb,hdec⟩ | ⟨Ug,hbs⟩
   ·rw [hdec] at hnx R1 R2;dsimp only at hnx R1 R2;have hstep:=vM s (fun c=>cs.data.toList.contains c) pos hlt;have hbx:s[pos].toNat=bt s pos:=dh s pos hlt;have Uh:((bt s pos:Int)).toNat.toUInt8=s[pos]:=by
     rw [<- hbx];simp
    have IR:=hid (fun w=>Tryz.strings_IndexRune_ascii cs (bt s pos:Int) w (by omega) (by omega));rw [Uh] at IR;have hin:=jO cs.data.toList s[pos];have HC:Hid (cs.data.toList.contains s[pos]=!decide (Lib.indexByte cs.data.toList s[pos]<0)):=by show _=_;rw [hin];exact zO s[pos] cs.data.toList
    have hge:=Lib.indexByte_ge cs.data.toList s[pos];have HST:=hid hstep;have NH:=hid hany;clear Bq hit hstep Uh hin r1 r2 hany hd hwd hle;generalize Lib.indexByte cs.data.toList s[pos]=ix at *;clear hbx;generalize bt s pos=b at *;have hwr:wrap64 (b:Int)=b:=IntWalk.wrap64_in _ ⟨by omega,by omega⟩;by_cases hix:0<=ix
    ·have HV:Hid (V=true):=by
      show V=true;rw [<- NH.out,HST.out,HC.out];have:decide (ix<0)=false:=by simp;omega
      rw [this];rfl
     go_wp2_with fail
     refine (IR.out _).mono ?_;rintro e w2 ⟨rfl,hw2⟩;subst hw2;go_wp2;go_ret;refine ⟨_,rfl,?_,?_⟩
     ·rw [HV.out];simp
     ·obtain ⟨_,_,_,hbl,_⟩:=R1.out;exact hbl
    ·have HV:Hid (((s.data.toList.drop (pos+1)).any fun c=>cs.data.toList.contains c)=V):=by
      show _=V;rw [<- NH.out,HST.out,HC.out];have:decide (ix<0)=true:=by simp;omega
      rw [this];rfl
     go_wp2_with fail
     refine (IR.out _).mono ?_;rintro e w2 ⟨rfl,hw2⟩;subst hw2;go_wp2;go_roundw;case rel=>exact ⟨R1.out,by rw [R2.out];exact HV.out⟩
     case measure=>rw [R2.out,JC.out];omega
   ·have IW:=vO s (fun c=>cs.data.toList.contains c) (Utf8.decode s pos).2 pos hle (fun j hj hlt2=>Ef HA.out _ (by rw [dh s (pos+j) hlt2];exact hbs j hj));have HV:Hid (((s.data.toList.drop (pos+(Utf8.decode s pos).2)).any fun c=>cs.data.toList.contains c)=V):=by
     show _=V;rw [<- IW];exact hany
    clear Bq hit IW r1 r2 hany hbs;generalize Utf8.decode s pos=d at *;obtain ⟨d1,d2⟩:=d;simp only at hnx R1 R2 HV hle hd hwd Ug;have hwr:wrap64 (d1:Int)=d1:=IntWalk.wrap64_in _ ⟨by omega,by omega⟩;by_cases RD:d1=65533
    ·subst RD;have IR:=hid (fun w=>qF cs w Qd.out);obtain ⟨wi,hwi⟩:∃ wi,wi=wr.iterAt w1.heap.size s (pos+d2):=⟨_,rfl⟩;rw [<- hwi] at hnx R1 R2;clear hwi;go_wp2_with fail
     refine (IR.out _).mono ?_;rintro e w2 ⟨rfl,hb2⟩;have R3:=hid (R1.out.up hb2);clear hb2 hnx;go_wp2;go_roundw;case rel=>exact ⟨R3.out.1,by rw [R3.out.2,R2.out];exact HV.out⟩
     case measure=>rw [R3.out.2,R2.out,JC.out];omega
    ·have IR:=hid (fun w=>sP cs d1 w Qd.out Ug hd RD);obtain ⟨wi,hwi⟩:∃ wi,wi=wr.iterAt w1.heap.size s (pos+d2):=⟨_,rfl⟩;rw [<- hwi] at hnx R1 R2;clear hwi RD;go_wp2_with fail
     refine (IR.out _).mono ?_;rintro e w2 ⟨rfl,hb2⟩;have R3:=hid (R1.out.up hb2);clear hb2 hnx;go_wp2;go_roundw;case rel=>exact ⟨R3.out.1,by rw [R3.out.2,R2.out];exact HV.out⟩
     case measure=>rw [R3.out.2,R2.out,JC.out];omega
  ·have hnx:∀ ty,(Instr.next (.pointer (some ⟨w1.heap.size,0,none⟩)) true ty).run Tryz.prog wr=_:=fun ty=>Lib.run_next_end_at wr w1.heap.size s pos ty hit hlt
   have HV:Hid (V=false):=by show V=false;rw [<- hany,List.drop_of_length_le (by simp;omega)];rfl
   have HB:Hid (Below w1.heap.size w1 wr):=by obtain ⟨_,_,_,hbl,_⟩:=Bq;exact hbl
   clear hit Bq hany;go_wp2;go_ret;exact ⟨_,rfl,by rw [HV.out];simp,HB.out⟩
theorem yF (s:ByteArray) (bs:List UInt8):decide (0<=Lib.indexAny s.data.toList bs)=bJ s bs:=oQ bs _
theorem Qe (s cs:ByteArray) (w:Zu) (hs:s.size<=1000000000) (hcs:kr cs) : Calls Tryz.prog 180 #[.string s,.string cs] w (KO (.bool (bJ s cs.data.toList)) w):=by
 have IA:Calls Tryz.prog 189 #[.string s,.string cs] w (zP (bJ s cs.data.toList) w):=by
  by_cases h8:s.size<=8
  ·exact oV s cs w h8 hcs
  ·obtain ⟨k2,k8,hasc⟩:=hcs;have h116:(Tryz.prog.info? 182).map (fun i=>(i.zero,i.size))=some (some (.agg (Array.replicate 256 (.bool false))),256):=by kernel_rfl
   have hz:=(zero_of_info h116).1;refine (Tryz.strings_IndexAny_long hz s cs w k2 (by omega) (by omega) (by omega) (fun j b hb=>lZ hasc b (List.mem_of_getElem? hb))).mono ?_;rintro e w' ⟨rfl,rfl⟩;exact ⟨_,rfl,yF _ _,((YH _ _).alloc (YI _) _).alloc (by simp) _⟩
 have HI:=hid IA;clear IA;generalize bJ s cs.data.toList=V at *;go_enter Tryz.func180,Tryz.ntmps180;go_wp2_with fail
 refine HI.out.mono ?_;rintro e w2 ⟨n,rfl,hv,hb⟩;have HV:=hid hv;clear hv;go_wp2;all_goals
  go_ret;refine ⟨?_,hb⟩;rw [<- HV.out];rfl
open Go.RowKit
def NJ (s:ByteArray) (vi:Value):Prop:=∃ k:Nat,k<=s.size/\vi=.int .i64 k/\∀ j x,j<k->s.data.toList[j]?=some x->fQ x.toNat=true
theorem Br (b:Nat):(97<=b/\b<=122)\/(65<=b/\b<=90)\/b<65\/(91<=b/\b<=96)\/122<b:=by omega
theorem RF:kr ⟨#[32,60,62]⟩:=⟨by decide,by decide,by decide⟩
theorem RG:kr ⟨#[124,123,125]⟩:=⟨by decide,by decide,by decide⟩
theorem NK:kr ⟨#[91,93,59,64,123,36,96]⟩:=⟨by decide,by decide,by decide⟩
theorem get_bt (s:ByteArray) (k:Nat) (c:UInt8):decide (s.data.toList[k]?=some c)=(decide (k<s.size)&&decide (bt s k=c.toNat)):=by
 by_cases h:k<s.size
 ·rw [dK s k h,<- dh s k h,YL];simp [h,UInt8.toNat_inj]
 ·have:s.data.toList[k]?=none:=by rw [List.getElem?_eq_none_iff];simp;omega
  rw [this];simp [h]
theorem vP (s:ByteArray) (w:Zu) (hs:s.size<=1000000000) : Calls Tryz.prog 165 #[.string s] w (dO (.bool (oW s)) w):=by
 have CL:=hid (fun w=>D8 s w hs);have CA:=hid (fun w=>Qe s ⟨#[32,60,62]⟩ w hs RF);have HA:Hid (oW s=(decide (2<=gX s)&&decide (gX s<=20)&&(decide (gX s<s.size)&&decide (bt s (gX s)=58))&&gL s&&!bJ s [32,60,62])):=by show _=_;unfold oW;rw [get_bt];rfl
 obtain ⟨V,hV⟩:∃ V,V=oW s:=⟨_,rfl⟩;rw [<- hV] at HA ⊢;clear hV;have HR:∀ k,k<=s.size->(∀ j x,j<k->s.data.toList[j]?=some x->fQ x.toNat=true)->(∀ x,s.data.toList[k]?=some x->fQ x.toNat=false)->gX s=k:=fun k hk h1 h2=>
  sQ (fun c=>fQ c.toNat) _ k (by simpa using hk) h1 h2
 have HR:=hid HR;have e2:(⟨#[32,60,62]⟩:ByteArray).data.toList=[32,60,62]:=rfl;rw [e2] at CA;clear e2;generalize gL s=L at *;generalize bJ s [32,60,62]=A at *;generalize gX s=r at *;go_enter Tryz.func165,Tryz.ntmps165;go_wp2
 go_loop [3] (fun i=>NJ s i) (fun i=>s.size-(intOf i).toNat)
 case atStart=>exact ⟨0,Nat.zero_le _,rfl,fun j x hj=>by omega⟩
 case round=>
  obtain ⟨k,hk,rfl,hall⟩:=hrel;have KR:=hid hall;clear hall;by_cases hlt:k<s.size
  ·have hb:=dJ s k;have e0:=dh s k hlt;have HG:=hid (dK s k hlt);have HB:=hid e0;obtain ⟨b,hbe⟩:∃ b,bt s k=b:=⟨_,rfl⟩;rw [hbe] at e0 hb HB;have LP:=hid hbe;clear hbe;have hl:fQ b=true->∀ j x,j<k+1->s.data.toList[j]?=some x->fQ x.toNat=true:=by
    intro hl j x hj hx;rcases Nat.lt_or_ge j k with h | h
    ·exact KR.out j x h hx
    ·have:j=k:=by omega
     subst this;rw [HG.out] at hx;obtain rfl:=YP hx;rw [HB.out];exact hl
   have hn:fQ b=false->r=k:=by intro hl;refine HR.out k hk KR.out (fun x hx=>?_);rw [HG.out] at hx;obtain rfl:=YP hx;rw [HB.out];exact hl
   have HL:=hid hl;have HN:=hid hn;clear hl hn;rcases Br b with ⟨h1,h2⟩ | ⟨h1,h2⟩ | h1 | ⟨h1,h2⟩ | h1
   ·have d0:decide ((97:Int)<=(b:Int))=true:=by simp;omega
    have d1:decide ((b:Int)<=122)=true:=by simp;omega
    have d2:decide ((65:Int)<=(b:Int))=true:=by simp;omega
    have d3:decide ((b:Int)<=90)=false:=by simp;omega
    go_wp2
    go_round
    case rel=>exact ⟨k+1,by omega,by go_num,HL.out (by unfold fQ kY;simp;omega)⟩
    case measure=>simp [intOf];omega
   ·have d0:decide ((97:Int)<=(b:Int))=false:=by simp;omega
    have d1:decide ((b:Int)<=122)=true:=by simp;omega
    have d2:decide ((65:Int)<=(b:Int))=true:=by simp;omega
    have d3:decide ((b:Int)<=90)=true:=by simp;omega
    go_wp2
    go_round
    case rel=>exact ⟨k+1,by omega,by go_num,HL.out (by unfold fQ kY;simp;omega)⟩
    case measure=>simp [intOf];omega
   ·have d0:decide ((97:Int)<=(b:Int))=false:=by simp;omega
    have d1:decide ((b:Int)<=122)=true:=by simp;omega
    have d2:decide ((65:Int)<=(b:Int))=false:=by simp;omega
    have d3:decide ((b:Int)<=90)=true:=by simp;omega
    have Fz:Hid (V=(decide (2<=k)&&decide (k<=20)&&(decide (k<s.size)&&decide (b=58))&&L&&!A)):=by show _=_;rw [HA.out,HN.out (by unfold fQ kY;simp;omega),LP.out]
    have NP:((b:Int)==58)=decide (b=58):=by rw [YL];simp;omega
    obtain ⟨b5,vQ⟩:∃ b5,decide (b=58)=b5:=⟨_,rfl⟩;rw [vQ] at NP Fz;clear vQ;go_wp2_with (first | (go_at_call 36;refine (CL.out _).mono ?_;rintro e w2 ⟨rfl,q,rfl⟩) | (go_at_call 180;refine (CA.out _).mono ?_;rintro e w2 ⟨rfl,hb2⟩))
    all_goals
     go_ret;refine ⟨Go.Proofs.YtnmldmofggkoeaaGreatDoor.u7 ?_,?_⟩
     ·rw [Fz.out,decide_eq_true hlt]
      (try simp [*])
      (try omega)
     ·first | exact (eY (YH _ _) _).trans hb2 | exact eY (YH _ _) _ | exact YH _ _
   ·have d0:decide ((97:Int)<=(b:Int))=false:=by simp;omega
    have d1:decide ((b:Int)<=122)=true:=by simp;omega
    have d2:decide ((65:Int)<=(b:Int))=true:=by simp;omega
    have d3:decide ((b:Int)<=90)=false:=by simp;omega
    have Fz:Hid (V=(decide (2<=k)&&decide (k<=20)&&(decide (k<s.size)&&decide (b=58))&&L&&!A)):=by show _=_;rw [HA.out,HN.out (by unfold fQ kY;simp;omega),LP.out]
    have NP:((b:Int)==58)=decide (b=58):=by rw [YL];simp;omega
    obtain ⟨b5,vQ⟩:∃ b5,decide (b=58)=b5:=⟨_,rfl⟩;rw [vQ] at NP Fz;clear vQ;go_wp2_with (first | (go_at_call 36;refine (CL.out _).mono ?_;rintro e w2 ⟨rfl,q,rfl⟩) | (go_at_call 180;refine (CA.out _).mono ?_;rintro e w2 ⟨rfl,hb2⟩))
    all_goals
     go_ret;refine ⟨Go.Proofs.YtnmldmofggkoeaaGreatDoor.u7 ?_,?_⟩
     ·rw [Fz.out,decide_eq_true hlt]
      (try simp [*])
      (try omega)
     ·first | exact (eY (YH _ _) _).trans hb2 | exact eY (YH _ _) _ | exact YH _ _
   ·have d0:decide ((97:Int)<=(b:Int))=true:=by simp;omega
    have d1:decide ((b:Int)<=122)=false:=by simp;omega
    have d2:decide ((65:Int)<=(b:Int))=true:=by simp;omega
    have d3:decide ((b:Int)<=90)=false:=by simp;omega
    have Fz:Hid (V=(decide (2<=k)&&decide (k<=20)&&(decide (k<s.size)&&decide (b=58))&&L&&!A)):=by show _=_;rw [HA.out,HN.out (by unfold fQ kY;simp;omega),LP.out]
    have NP:((b:Int)==58)=decide (b=58):=by rw [YL];simp;omega
    obtain ⟨b5,vQ⟩:∃ b5,decide (b=58)=b5:=⟨_,rfl⟩;rw [vQ] at NP Fz;clear vQ;go_wp2_with (first | (go_at_call 36;refine (CL.out _).mono ?_;rintro e w2 ⟨rfl,q,rfl⟩) | (go_at_call 180;refine (CA.out _).mono ?_;rintro e w2 ⟨rfl,hb2⟩))
    all_goals
     go_ret;refine ⟨Go.Proofs.YtnmldmofggkoeaaGreatDoor.u7 ?_,?_⟩
     ·rw [Fz.out,decide_eq_true hlt]
      (try simp [*])
      (try omega)
     ·first | exact (eY (YH _ _) _).trans hb2 | exact eY (YH _ _) _ | exact YH _ _
  ·have Fz:Hid (V=false):=by
    show _=_;rw [HA.out,HR.out k hk KR.out (fun x hx=>by
     have:=(List.getElem?_eq_some_iff.1 hx).1;have e:s.data.toList.length=s.size:=by simp
     omega)]
    simp [hlt]
   have q:decide ((k:Int)<(s.size:Int))=false:=by simp;omega
   go_wp2;all_goals
    go_ret;refine ⟨Go.Proofs.YtnmldmofggkoeaaGreatDoor.u7 ?_,YH _ _⟩;rw [Fz.out]
    (try simp)
    (try omega)
end Go.Proofs.YtnmldmofggkoeaaGreatDoor

