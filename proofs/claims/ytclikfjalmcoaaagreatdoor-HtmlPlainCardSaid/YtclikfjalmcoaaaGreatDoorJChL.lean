/- Contracts of attr.Check; of tree.label. The contract of strings.ContainsAny at a set of two to eight ASCII bytes and whatever text. Contracts of tree.address, checkCites, checkNamed, checkLink. -/
import Derived.Test.YtclikfjalmcoaaaGreatDoorJRfE
import Derived.Maps.OwnIn
set_option maxHeartbeats 4000000
set_option maxRecDepth 100000
open Go.Lib (hid)
namespace Go.Proofs.YtclikfjalmcoaaaGreatDoor
open Go.RowKit.Below renaming refl->jc7
open Bool renaming eq_iff_iff->jck
open Go renaming World->jf9
open Go.RowKit
set_option linter.unusedVariables false
set_option linter.unusedSimpArgs false
theorem Hz (s:ByteArray) (f i:Nat) (h:i<s.size) (hf:s.size<=i+f):nW s f i=Utf8.decode s i::nW s (f-1) (i+(Utf8.decode s i).2):=by obtain ⟨f',rfl⟩:∃ f',f=f'+1:=⟨f-1,by omega⟩;rw [nW,if_pos h];rfl
def rG (s:ByteArray) (V:Bool) (w:jf9) (w0:jf9) (k:Nat) (wr:jf9):Prop:=
 ∃ pos f:Nat,pos<=s.size/\s.size<=pos+f/\wr.heap[k]?=some (.stringIter s pos)/\(nW s f pos).all tY=V/\Below w.heap.size w wr/\w.heap.size<=k
theorem rG.alloc {s:ByteArray} {V:Bool} {w w0:jf9} {k:Nat} {wr:jf9} (h:rG s V w w0 k wr) (o:Obj):rG s V w w0 k (wr.alloc o):=by obtain ⟨pos,f,h1,h2,h3,h4,h5,h6⟩:=h;exact ⟨pos,f,h1,h2,(Below.heap_alloc _ _ _ (Array.getElem?_eq_some_iff.1 h3).1).trans h3,h4,h5.alloc h5.size _,h6⟩
theorem rG.wV {s:ByteArray} {V:Bool} {w w0:jf9} {k:Nat} {wr:jf9} (h:rG s V w w0 k wr):wr.iterPos k<=s.size/\wr.heap[k]?=some (.stringIter s (wr.iterPos k)):=by
 obtain ⟨pos,f,h1,h2,h3,h4,h5,h6⟩:=h;have hpos:wr.iterPos k=pos:=by simp only [World.iterPos,h3]
 rw [hpos];exact ⟨h1,h3⟩
theorem Jv (d:Nat):([32,45,95,46,58]:List Int).contains (d:Int)=([32,45,95,46,58]:List Nat).contains d:=by rw [jck];simp;omega
theorem xS (s:ByteArray) (w:jf9) (hs:s.size<=1000000000) : Calls Tryz.prog 199 #[.string s] w (dJ (.bool (eG s)) w):=by
 rcases iO s with rfl | ⟨hne,hp,hie,hes⟩
 ·have hv:eG ByteArray.empty=false:=by unfold eG;simp
  rw [hv];go_enter Tryz.func199,Tryz.ntmps199;go_wp2;go_ret;exact ⟨rfl,jc7 _ _⟩
 by_cases h60:60<s.size
 ·have hv:eG s=false:=by unfold eG;simp;omega
  rw [hv];have q1:decide ((60:Int)<(s.size:Int))=true:=by simp;omega
  clear hv;go_enter Tryz.func199,Tryz.ntmps199;go_wp2;go_ret;exact ⟨rfl,jc7 _ _⟩
 have q1:decide ((60:Int)<(s.size:Int))=false:=by simp;omega
 have FO:=hid (Ed s w hs);by_cases Qv:xU s=s;case neg=>
  have hv:eG s=false:=by unfold eG;simp [Qv]
  rw [hv];have hb1:=F8 Qv;have hb2:=ML Qv;generalize xU s=fs at *;clear hv Qv;go_enter Tryz.func199,Tryz.ntmps199;go_wp2_with fail
  refine FO.out.mono ?_;rintro e w1 ⟨rfl,hb⟩;go_wp2;go_ret;exact ⟨rfl,hb⟩
 rw [Qv] at FO;have hv:eG s=(pts s).all tY:=by unfold eG;rw [Qv,decide_eq_true (show 1<=s.size by omega),decide_eq_true (show s.size<=60 by omega)];simp
 rw [hv];obtain ⟨V,hV⟩:∃ V,(pts s).all tY=V:=⟨_,rfl⟩;rw [hV];have HV:=hid hV;have hb1:(s.toList != s.toList)=false:=by simp
 clear hv Qv hV;go_enter Tryz.func199,Tryz.ntmps199;go_wp2_with fail
 refine FO.out.mono ?_;rintro e w1 ⟨rfl,hb⟩;have R0:Hid (rG s V w w1 w1.heap.size (w1.iter s 0)):=⟨0,s.size,Nat.zero_le _,by omega,World.iter_heap w1 s 0,HV.out,hb.alloc hb.size _,hb.size⟩;have HB:=hid hb;clear hb;go_wp2
 go_loopw [] (fun wr=>rG s V w w1 w1.heap.size wr) (fun wr=>s.size-wr.iterPos w1.heap.size)
 case atStart=>exact R0.out
 case round=>
  clear R0;obtain ⟨pos,f,hps,hf,hit,hall,hbel,hk⟩:=hrel;have hpos:wr.iterPos w1.heap.size=pos:=by simp only [World.iterPos,hit]
  by_cases hlt:pos<s.size
  ·have hnx:∀ ty,(Instr.next (.pointer (some ⟨w1.heap.size,0,none⟩)) true ty).run Tryz.prog wr=_:=fun ty=>Lib.run_next_any_at wr w1.heap.size s pos ty hit hlt
   have hd:=Lib.rune_le s pos;have hwd:=mO s pos;have hle:=sW s pos hlt;have hst:=Hz s f pos hlt hf;have HI2:Hid (tY (Utf8.decode s pos)=true->rG s V w w1 w1.heap.size (wr.iterAt w1.heap.size s (pos+(Utf8.decode s pos).2))):=by intro hl;refine ⟨pos+(Utf8.decode s pos).2,f-1,hle,by omega,Lib.iterAt_heap wr _ s pos _ hit,?_,Lib.below_iterAt hbel hk s _,hk⟩;rw [<- hall,hst,List.all_cons,hl];rfl
   have SA:Hid (tY (Utf8.decode s pos)=false->V=false):=by intro hl;rw [<- hall,hst,List.all_cons,hl];rfl
   have HB2:Hid (Below w.heap.size w (wr.iterAt w1.heap.size s (pos+(Utf8.decode s pos).2))):=Lib.below_iterAt hbel hk s _;have Wq:(wr.iterAt w1.heap.size s (pos+(Utf8.decode s pos).2)).iterPos w1.heap.size=pos+(Utf8.decode s pos).2:=by have:=Lib.iterAt_heap wr w1.heap.size s pos (pos+(Utf8.decode s pos).2) hit;simp only [World.iterPos,this]
   clear hst hall hbel hit;have Qw:=hid hpos;clear hpos;generalize Utf8.decode s pos=d at *;obtain ⟨d1,d2⟩:=d;simp only at hd hwd hle hnx HI2 SA HB2 Wq;have hwr:wrap64 (d1:Int)=d1:=IntWalk.wrap64_in _ ⟨by omega,by omega⟩;have CL:=hid (fun w=>zh d1 w hd);have CD:=hid (fun w=>Bu d1 w hd);have OO:=hid (fun wx:jf9=>jM (d1:Int) [32,45,95,46,58] wx.heap.size 5 _ (by simp) (OU wx 3 32 45 95 46 58));simp only [List.length_cons,List.length_nil,Nat.reduceAdd,Jv] at OO;have Ws:Hid (tY (d1,d2)=(oO d1||Jw d1||([32,45,95,46,58]:List Nat).contains d1)):=rfl;generalize ([32,45,95,46,58]:List Nat).contains d1=bo at *;generalize oO d1=bl at *;generalize Jw d1=bd at *;obtain ⟨wi,hwi⟩:∃ wi,wi=wr.iterAt w1.heap.size s (pos+d2):=⟨_,rfl⟩;rw [<- hwi] at hnx HI2 HB2 Wq;have Xz:=hid Wq;clear hwi Wq;cases bl with
   | true=>
    have HG:=hid (HI2.out (by rw [Ws.out];rfl));clear HI2 SA;go_wp2_with (go_at_call 229;refine (CL.out _).mono ?_;rintro e w2 ⟨rfl,rfl⟩)
    go_roundw;case rel=>exact HG.out
    case measure=>rw [Xz.out,Qw.out];omega
   | false=>
    cases bd with
    | true=>
     have HG:=hid (HI2.out (by rw [Ws.out];rfl));clear HI2 SA;go_wp2_with (first | (go_at_call 229;refine (CL.out _).mono ?_;rintro e w2 ⟨rfl,rfl⟩) | (go_at_call 230;refine (CD.out _).mono ?_;rintro e w2 ⟨rfl,rfl⟩))
     go_roundw;case rel=>exact HG.out
     case measure=>rw [Xz.out,Qw.out];omega
    | false=>
     cases bo with
     | true=>
      have HG:=hid (HI2.out (by rw [Ws.out];rfl));clear HI2 SA;go_wp2_with (first | (go_at_call 229;refine (CL.out _).mono ?_;rintro e w2 ⟨rfl,rfl⟩) | (go_at_call 230;refine (CD.out _).mono ?_;rintro e w2 ⟨rfl,rfl⟩) | (go_at_call 147;refine (OO.out _).mono ?_;rintro e w2 ⟨rfl,rfl⟩))
      go_roundw;case rel=>exact HG.out.alloc _
      case measure=>
       have h1:=(HG.out.alloc (.cells #[.int .i64 32,.int .i64 45,.int .i64 95,.int .i64 46,.int .i64 58] 3)).wV;have h2:=HG.out.wV;have h3:=(Below.heap_alloc wi (.cells #[.int .i64 32,.int .i64 45,.int .i64 95,.int .i64 46,.int .i64 58] 3) w1.heap.size (Array.getElem?_eq_some_iff.1 h2.2).1);rw [h1.2,h2.2] at h3;have h4:=Xz.out;have h5:=Qw.out;have h6:World.iterPos (wi.alloc (.cells #[.int .i64 32,.int .i64 45,.int .i64 95,.int .i64 46,.int .i64 58] 3)) w1.heap.size=wi.iterPos w1.heap.size:=by injection h3 with h3;injection h3
       rw [h6,h4,h5];omega
     | false=>
      have HE:=hid (SA.out (by rw [Ws.out];rfl));clear HI2 SA;go_wp2_with (first | (go_at_call 229;refine (CL.out _).mono ?_;rintro e w2 ⟨rfl,rfl⟩) | (go_at_call 230;refine (CD.out _).mono ?_;rintro e w2 ⟨rfl,rfl⟩) | (go_at_call 147;refine (OO.out _).mono ?_;rintro e w2 ⟨rfl,rfl⟩))
      go_ret;exact ⟨by rw [HE.out];rfl,HB2.out.alloc HB2.out.size _⟩
  ·have hnx:∀ ty,(Instr.next (.pointer (some ⟨w1.heap.size,0,none⟩)) true ty).run Tryz.prog wr=_:=fun ty=>Lib.run_next_end_at wr w1.heap.size s pos ty hit hlt
   have HE:Hid (V=true):=by show V=true;rw [<- hall,Br s f pos hlt];rfl
   have Ee:=hid hbel;clear hall hbel hit hpos;go_wp2;go_ret;exact ⟨by rw [HE.out];rfl,Ee.out⟩
open Go.RowKit
theorem Bv (s:ByteArray):∀ (r p c d:Nat),jC s r p c=some d->∀ j,j<r->128<=bt s (p+j)
 | 0,p,c,d,_,j,hj=>by omega
 | r+1,p,c,d,h,j,hj=>by
  rw [jC] at h;split at h
  ·rename_i hc
   cases j with
   | zero=>exact hc.2.1
   | succ j=>
    have:=Bv s r (p+1) _ d h j (by omega);rw [show p+(j+1)=p+1+j by omega];exact this
  ·cases h
theorem H6 (s:ByteArray) (i:Nat) (hi:i<s.size):(bt s i<128/\Utf8.decode s i=(bt s i,1))\/(128<=(Utf8.decode s i).1/\∀ j,j<(Utf8.decode s i).2->128<=bt s (i+j)):=by
 by_cases c1:bt s i<128
 ·exact .inl ⟨c1,ze s i c1⟩
 have bad:Utf8.decode s i=(65533,1)->128<=(Utf8.decode s i).1/\∀ j,j<(Utf8.decode s i).2->128<=bt s (i+j):=by
  intro h;rw [h];refine ⟨by decide,fun j hj=>?_⟩;have:j=0:=by simp at hj;exact hj
  subst this;exact Nat.le_of_not_lt c1
 have good:∀ n c,1<=n->Utf8.decode s i=Ht s i n (jC s (n-1) (i+1) c)->(∀ d,jC s (n-1) (i+1) c=some d->128<=d)->128<=(Utf8.decode s i).1/\∀ j,j<(Utf8.decode s i).2->128<=bt s (i+j):=by
  intro n c hn h hd;cases hg:jC s (n-1) (i+1) c with
  | none=>rw [hg] at h;exact bad h
  | some d=>
   rw [hg] at h;rw [h];refine ⟨hd d hg,fun j hj=>?_⟩;cases j with
   | zero=>exact Nat.le_of_not_lt c1
   | succ j=>
    have hj:j+1<n:=hj;have:=Bv s (n-1) (i+1) c d hg j (by omega);rw [show i+(j+1)=i+1+j by omega];exact this
 refine .inr ?_;by_cases c2:bt s i<194\/244<bt s i
 ·exact bad (F5 s i (by omega) c2)
 by_cases c3:bt s i<=223
 ·refine good 2 _ (by omega) (Bj s i hi (by omega) c3) (fun d hd=>?_);have h:=(za s i hi (by omega) c3);rw [show 2-1=1 from rfl,jC,jC] at hd;split at hd
  ·injection hd with hd;omega
  ·cases hd
 by_cases c4:bt s i<=239
 ·obtain ⟨d1,d2⟩:=Bn s i hi (by omega) c4;by_cases hs:i+1<s.size/\lJ (bt s i)<=bt s (i+1)/\bt s (i+1)<=nI (bt s i)
  ·refine good 3 _ (by omega) (d2 hs.2.1 hs.2.2) (fun d hd=>?_);have hl:=hs.2.1;unfold lJ at hl;rw [show 3-1=2 from rfl,jC,jC,jC,show i+1+1=i+2 from rfl] at hd;split at hd
   ·split at hd
    ·injection hd with hd
     split at hl
     ·omega
     ·split at hl<;>omega
    ·cases hd
   ·cases hd
  ·exact bad (d1 (.inl hs))
 ·obtain ⟨d1,d2⟩:=Bo s i hi (by omega) (by omega);by_cases hs:i+1<s.size/\lJ (bt s i)<=bt s (i+1)/\bt s (i+1)<=nI (bt s i)
  ·refine good 4 _ (by omega) (d2 hs.2.1 hs.2.2) (fun d hd=>?_);have hl:=hs.2.1;unfold lJ at hl;rw [show 4-1=3 from rfl,jC,jC,jC,jC,show i+1+1=i+2 from rfl,show i+2+1=i+3 from rfl] at hd;split at hd
   ·split at hd
    ·split at hd
     ·injection hd with hd
      split at hl
      ·omega
      ·split at hl<;>omega
     ·cases hd
    ·cases hd
   ·cases hd
  ·exact bad (d1 (.inl hs))
theorem tZ (bs:List UInt8):∀ l:List UInt8,decide (0<=Lib.indexAny l bs)=l.any fun c=>bs.contains c
 | []=>rfl
 | b::l=>by
  have ih:=tZ bs l;have hge:=Lib.indexAny_ge bs l;rw [Lib.indexAny,List.any_cons,<- ih];cases hb:bs.contains b with
  | true=>simp
  | false=>
   simp only [Bool.false_eq_true,if_false,Bool.false_or];by_cases h2:Lib.indexAny l bs=-1
   ·simp [h2]
   ·have h3:(Lib.indexAny l bs==-1)=false:=by simpa using h2
    simp only [h3,Bool.false_eq_true,if_false];rw [jck];simp;omega
def Qx (v:Value) (w:jf9) (e:Ending) (w':jf9):Prop:=e=.returned v/\Below w.heap.size w w'
def nX (cs:ByteArray):Prop:=2<=cs.size/\cs.size<=8/\∀ j,j<cs.size->bt cs j<128
def lT (cs:ByteArray) (w:jf9) (k:Nat) (wr:jf9):Prop:=∃ pos:Nat,pos<=cs.size/\wr.heap[k]?=some (.stringIter cs pos)/\Below w.heap.size w wr/\w.heap.size<=k
theorem lT.wV {cs:ByteArray} {w:jf9} {k:Nat} {wr:jf9} (h:lT cs w k wr):wr.iterPos k<=cs.size/\wr.heap[k]?=some (.stringIter cs (wr.iterPos k)):=by
 obtain ⟨pos,h1,h3,h5,h6⟩:=h;have hpos:wr.iterPos k=pos:=by simp only [World.iterPos,h3]
 rw [hpos];exact ⟨h1,h3⟩
theorem lT.next {cs:ByteArray} {w:jf9} {k:Nat} {wr:jf9} (h:lT cs w k wr) (p:Nat) (hp:p<=cs.size):lT cs w k (wr.iterAt k cs p)/\(wr.iterAt k cs p).iterPos k=p:=by obtain ⟨pos,h1,h3,h5,h6⟩:=h;have hh:=Lib.iterAt_heap wr k cs pos p h3;exact ⟨⟨p,hp,hh,Lib.below_iterAt h5 h6 cs p,h6⟩,by simp only [World.iterPos,hh]⟩
theorem lT.up {cs:ByteArray} {w:jf9} {k:Nat} {wr w':jf9} (h:lT cs w k wr) (hb:Below wr.heap.size wr w'):lT cs w k w'/\w'.iterPos k=wr.iterPos k:=by obtain ⟨pos,h1,h3,h5,h6⟩:=h;have hh:w'.heap[k]?=some (.stringIter cs pos):=(hb.block k (Array.getElem?_eq_some_iff.1 h3).1).trans h3;exact ⟨⟨pos,h1,hh,aQ h5 hb,h6⟩,by simp only [World.iterPos,hh,h3]⟩
theorem wW (cs:ByteArray) (w:jf9) (hcs:nX cs) : Calls Tryz.prog 265 #[.string cs,.int .i32 65533] w (Qx (.int .i64 (-1)) w):=by
 obtain ⟨k2,k8,hasc⟩:=hcs;have HA:=hid hasc;have R0:Hid (lT cs w w.heap.size (w.iter cs 0)):=⟨0,Nat.zero_le _,World.iter_heap w cs 0,(jc7 _ _).alloc (Nat.le_refl _) _,Nat.le_refl _⟩;clear hasc;go_enter Tryz.func265,Tryz.ntmps265;go_wp2
 go_loopw [] (fun wr=>lT cs w w.heap.size wr) (fun wr=>cs.size-wr.iterPos w.heap.size)
 case atStart=>exact R0.out
 case round=>
  clear R0;obtain ⟨hps,hit⟩:=hrel.wV;obtain ⟨pos,hpe⟩:∃ pos,wr.iterPos w.heap.size=pos:=⟨_,rfl⟩;rw [hpe] at hps hit;have TG:=hid hpe;clear hpe;have HR:=hid hrel;by_cases hlt:pos<cs.size
  ·have hnx:∀ ty,(Instr.next (.pointer (some ⟨w.heap.size,0,none⟩)) true ty).run Tryz.prog wr=_:=fun ty=>Lib.run_next_any_at wr w.heap.size cs pos ty hit hlt
   have hb:=HA.out pos hlt;rw [ze cs pos hb] at hnx;dsimp only at hnx;obtain ⟨r1,r2⟩:=hrel.next (pos+1) (by omega)
   generalize bt cs pos=b at *;have hwr:wrap64 (b:Int)=b:=IntWalk.wrap64_in _ ⟨by omega,by omega⟩;have hne:((b:Int)==65533)=false:=by rw [beq_eq_false_iff_ne];omega
   have R1:=hid r1;have R2:=hid r2;clear hit hrel r1 r2;go_wp2;go_roundw;case rel=>exact R1.out
   case measure=>rw [R2.out,TG.out];omega
  ·have hnx:∀ ty,(Instr.next (.pointer (some ⟨w.heap.size,0,none⟩)) true ty).run Tryz.prog wr=_:=fun ty=>Lib.run_next_end_at wr w.heap.size cs pos ty hit hlt
   have HB:=hid hrel.choose_spec.2.2.1;clear hit hrel;go_wp2;go_ret;exact ⟨rfl,HB.out⟩
theorem qD {cs:ByteArray} (h:∀ j,j<cs.size->bt cs j<128):∀ x∈cs.data.toList,x.toNat<128:=by
 intro x hx;obtain ⟨j,hj⟩:=List.mem_iff_getElem?.1 hx;have hlt:j<cs.size:=by have:=(List.getElem?_eq_some_iff.1 hj).1;simpa using this
 rw [fB cs j hlt] at hj;obtain rfl:=Option.some.inj hj;rw [bO cs j hlt];exact h j hlt
theorem MN (cs:ByteArray) (m lb:Nat) (h:∀ j,j<cs.size->bt cs j<128) (hl:128<=lb) (hb:lb<256):Lib.indexByte (cs.extract (m+1) cs.size).data.toList ((lb:Int)).toNat.toUInt8<0:=by
 have:=mP (cs.extract (m+1) cs.size).data.toList ((lb:Int)).toNat.toUInt8;have h2:((cs.extract (m+1) cs.size).data.toList.all fun x=>!decide (x=((lb:Int)).toNat.toUInt8))=true:=by
  rw [List.all_eq_true];intro x hx;have hx:x∈cs.data.toList:=by rw [ByteArray.data_extract,Array.toList_extract] at hx;exact List.mem_of_mem_drop (List.mem_of_mem_take hx)
  have h3:=qD h x hx;simp;rintro rfl;have:(lb.toUInt8).toNat=lb%256:=rfl;simp at h3;omega
 rw [h2] at this;simpa using this
theorem TH {P:Program} {f:FuncId} {args:Array Value} {w:jf9} {a n:Nat} {v:Value} (h:Calls P f args (w.drewN (a+n)) fun e w'=>e=.returned v/\w'=w.drewN (a+n)) : Calls P f args (w.drewN (a+n)) fun e w''=>e=.returned v/\∃ m,w''=w.drewN (a+m):=h.mono fun _ _ ⟨he,hm⟩=>⟨he,n,hm⟩
def OV (m:Nat) (w:jf9) (vi:Value) (wr:jf9):Prop:=vi=.int .i64 (m:Int)/\∃ q,wr=w.drewN q
theorem zi (cs:ByteArray) (c:Nat) (w:jf9) (hcs:nX cs) (h1:128<=c) (h2:c<=1114111) (hne:c≠65533) : Calls Tryz.prog 265 #[.string cs,.int .i32 (c:Int)] w (Qx (.int .i64 (-1)) w):=by
 obtain ⟨k2,k8,hasc⟩:=hcs;have HA:=hid hasc;have hne:((c:Int)==65533)=false:=by rw [beq_eq_false_iff_ne];omega
 have VR:=hid (fun w=>Tryz.utf8_ValidRune (c:Int) w);clear hasc;go_enter Tryz.func265,Tryz.ntmps265;go_wp2_with fail
 refine (VR.out _).mono ?_;rintro e w1 ⟨rfl,rfl⟩;cases hv:Lib.validRune (c:Int)
 ·go_wp2;go_ret;exact ⟨rfl,jc7 _ _⟩
 ·have HV:=hid hv;clear hv;go_wp2
  go_step3
  have hv:=HV.out;have hval:Utf8.valid (c:Int)=true:=by unfold Lib.validRune at hv;unfold Utf8.valid;simp at hv ⊢;omega
  obtain ⟨n2,n4,hlast⟩:=encode_facts (c:Int) hval (by omega);obtain ⟨rs,hrs⟩:∃ rs,Utf8.encode (c:Int)=rs:=⟨_,rfl⟩;rw [hrs] at n2 n4 hlast;obtain ⟨m,hm⟩:∃ m,rs.size=m+1:=⟨rs.size-1,by omega⟩;have hl0:=hlast (by omega);have XB:m<rs.size:=by omega
  have hle:rs[m].toNat=bt rs m:=bO rs m XB;have hl:128<=bt rs m:=by
   rw [<- hle];have e:rs.size-1=m:=by omega
   simp only [e] at hl0;exact hl0
  have m1:1<=m:=by omega
  have m3:m<=3:=by omega
  have hlb:=gG rs m;generalize bt rs m=lb at *;have HIO:=hid (MN cs m lb HA.out hl hlb);clear hl0 hv hlast hval;have R0:Hid (OV m w1 (.int .i64 (m:Int)) w1):=⟨rfl,0,rfl⟩;go_wp2
  go_loopw [9] (fun i wr=>OV m w1 i wr) (fun _ _=>0)
  case atStart=>exact R0.out
  case round=>
   clear R0;obtain ⟨rfl,q,rfl⟩:=hrel;by_cases hlt:m<cs.size
   ·have hcl:=HA.out _ hlt;have hce:=bO cs _ hlt;generalize bt cs m=cb at *;have hne2:((cb:Int) != (lb:Int))=true:=by rw [bne_iff_ne];omega
    go_wp2
    go_step3
    go_wp2_with fail
    go_quiet (fail)
    go_wp2_with fail
    go_quiet ((go_at_call 167;exact TH (Tryz.strings_IndexByte _ _ _)))
    have hio:=HIO.out;generalize Lib.indexByte (cs.extract (m+1) cs.size).data.toList ((lb:Int)).toNat.toUInt8=io at *;go_wp2;rw [Exit.noGoto_ret];go_ret;exact ⟨rfl,eT (jc7 _ _) _⟩
   ·go_wp2;rw [Exit.noGoto_ret];go_ret;exact ⟨rfl,eT (jc7 _ _) q⟩
theorem Ef {α:Type} (l:List α) (k:Nat) (x:α) (h:l[k]?=some x):l.drop k=x::l.drop (k+1):=by obtain ⟨hlt,rfl⟩:=List.getElem?_eq_some_iff.1 h;exact List.drop_eq_getElem_cons hlt
theorem Jy {cs:ByteArray} (h:∀ j,j<cs.size->bt cs j<128) (x:UInt8) (hx:128<=x.toNat):cs.data.toList.contains x=false:=by rw [Bool.eq_false_iff];intro h2;have:=qD h x (by simpa using h2);omega
theorem Bw (s:ByteArray) (p:UInt8->Bool) (i:Nat) (h:i<s.size):(s.data.toList.drop i).any p=(p s[i]||(s.data.toList.drop (i+1)).any p):=by rw [Ef _ i s[i] (fB s i h),List.any_cons]
theorem Bz (s:ByteArray) (p:UInt8->Bool):∀ (d i:Nat),i+d<=s.size->(∀ j,j<d->∀ (hj:i+j<s.size),p (s[i+j]'hj)=false)->(s.data.toList.drop i).any p=(s.data.toList.drop (i+d)).any p
 | 0,i,_,_=>rfl
 | d+1,i,hd,h=>by
  have h0:=h 0 (by omega) (by omega);rw [Bw s p i (by omega)];rw [show p s[i]=false from h0,Bool.false_or,Bz s p d (i+1) (by omega) (fun j hj hlt=>?_)]
  ·rw [show i+1+d=i+(d+1) by omega]
  ·have:=h (j+1) (by omega) (by omega);simpa [Nat.add_assoc,Nat.add_comm 1 j] using this
theorem F9 (x:UInt8):∀ l:List UInt8,l.contains x=!(l.all fun y=>!decide (y=x))
 | []=>rfl
 | y::l=>by
  rw [List.contains_cons,List.all_cons,F9 x l];by_cases h:y=x
  ·simp [h]
  ·have h2:(x==y)=false:=by simpa using fun e=>h e.symm
   simp [h,h2]
def OX (s cs:ByteArray) (V:Bool) (w:jf9) (k:Nat) (wr:jf9):Prop:=lT s w k wr/\((s.data.toList.drop (wr.iterPos k)).any fun c=>cs.data.toList.contains c)=V
def Ga (V:Bool) (w:jf9) (e:Ending) (w':jf9):Prop:=∃ n:Int,e=.returned (.int .i64 n)/\decide (0<=n)=V/\Below w.heap.size w w'
theorem ug (s cs:ByteArray) (w:jf9) (hs:s.size<=8) (hcs:nX cs) : Calls Tryz.prog 238 #[.string s,.string cs] w (Ga (q24 s cs.data.toList) w):=by
 have SB:=hid hcs;obtain ⟨k2,k8,hasc⟩:=hcs;have HA:=hid hasc;rcases iO cs with rfl | ⟨hne,hp,hie,hes⟩
 ·simp at k2
 have SU:=hid (fun w=>Tryz.strings_shouldUseASCIISet (s.size:Int) w);have hn1:((cs.size:Int)==1)=false:=by rw [beq_eq_false_iff_ne];omega
 have q8:decide ((8:Int)<(s.size:Int))=false:=by simp;omega
 obtain ⟨V,hV⟩:∃ V,q24 s cs.data.toList=V:=⟨_,rfl⟩;rw [hV];have R0:Hid (OX s cs V w w.heap.size (w.iter s 0)):=by
  have hh:=World.iter_heap w s 0;refine ⟨⟨0,Nat.zero_le _,hh,(jc7 _ _).alloc (Nat.le_refl _) _,Nat.le_refl _⟩,?_⟩;have:(w.iter s 0).iterPos w.heap.size=0:=by simp only [World.iterPos,hh]
  rw [this];exact hV
 clear hasc hV hes;go_enter Tryz.func238,Tryz.ntmps238;go_wp2_with fail
 refine (SU.out _).mono ?_;rintro e w1 ⟨rfl,rfl⟩;go_wp2
 go_loopw [] (fun wr=>OX s cs V w1 w1.heap.size wr) (fun wr=>s.size-wr.iterPos w1.heap.size)
 case atStart=>exact R0.out
 case round=>
  clear R0;obtain ⟨H7,hany⟩:=hrel;obtain ⟨hps,hit⟩:=H7.wV;obtain ⟨pos,hpe⟩:∃ pos,wr.iterPos w1.heap.size=pos:=⟨_,rfl⟩;rw [hpe] at hps hit hany;have TG:=hid hpe;clear hpe;by_cases hlt:pos<s.size
  ·have hnx:∀ ty,(Instr.next (.pointer (some ⟨w1.heap.size,0,none⟩)) true ty).run Tryz.prog wr=_:=fun ty=>Lib.run_next_any_at wr w1.heap.size s pos ty hit hlt
   have hle:=sW s pos hlt;have hd:=Lib.rune_le s pos;have hwd:=mO s pos;obtain ⟨r1,r2⟩:=H7.next (pos+(Utf8.decode s pos).2) hle
   have R1:=hid r1;have R2:=hid r2;rcases H6 s pos hlt with ⟨hb,hdec⟩ | ⟨hd8,hbs⟩
   ·rw [hdec] at hnx R1 R2;dsimp only at hnx R1 R2;have hstep:=Bw s (fun c=>cs.data.toList.contains c) pos hlt;have hbx:s[pos].toNat=bt s pos:=bO s pos hlt;have hx8:((bt s pos:Int)).toNat.toUInt8=s[pos]:=by
     rw [<- hbx];simp
    have IR:=hid (fun w=>Tryz.strings_IndexRune_ascii cs (bt s pos:Int) w (by omega) (by omega));rw [hx8] at IR;have hin:=mP cs.data.toList s[pos];have HC:Hid (cs.data.toList.contains s[pos]=!decide (Lib.indexByte cs.data.toList s[pos]<0)):=by show _=_;rw [hin];exact F9 s[pos] cs.data.toList
    have hge:=Lib.indexByte_ge cs.data.toList s[pos];have HST:=hid hstep;have TI:=hid hany;clear H7 hit hstep hx8 hin r1 r2 hany hd hwd hle;generalize Lib.indexByte cs.data.toList s[pos]=ix at *;clear hbx;generalize bt s pos=b at *;have hwr:wrap64 (b:Int)=b:=IntWalk.wrap64_in _ ⟨by omega,by omega⟩;by_cases hix:0<=ix
    ·have HV:Hid (V=true):=by
      show V=true;rw [<- TI.out,HST.out,HC.out];have:decide (ix<0)=false:=by simp;omega
      rw [this];rfl
     go_wp2_with fail
     refine (IR.out _).mono ?_;rintro e w2 ⟨rfl,hw2⟩;subst hw2;go_wp2;go_ret;refine ⟨_,rfl,?_,?_⟩
     ·rw [HV.out];simp
     ·obtain ⟨_,_,_,hbl,_⟩:=R1.out;exact hbl
    ·have HV:Hid (((s.data.toList.drop (pos+1)).any fun c=>cs.data.toList.contains c)=V):=by
      show _=V;rw [<- TI.out,HST.out,HC.out];have:decide (ix<0)=true:=by simp;omega
      rw [this];rfl
     go_wp2_with fail
     refine (IR.out _).mono ?_;rintro e w2 ⟨rfl,hw2⟩;subst hw2;go_wp2;go_roundw;case rel=>exact ⟨R1.out,by rw [R2.out];exact HV.out⟩
     case measure=>rw [R2.out,TG.out];omega
   ·have OY:=Bz s (fun c=>cs.data.toList.contains c) (Utf8.decode s pos).2 pos hle (fun j hj hlt2=>Jy HA.out _ (by rw [bO s (pos+j) hlt2];exact hbs j hj));have HV:Hid (((s.data.toList.drop (pos+(Utf8.decode s pos).2)).any fun c=>cs.data.toList.contains c)=V):=by
     show _=V;rw [<- OY];exact hany
    clear H7 hit OY r1 r2 hany hbs;generalize Utf8.decode s pos=d at *;obtain ⟨d1,d2⟩:=d;simp only at hnx R1 R2 HV hle hd hwd hd8;have hwr:wrap64 (d1:Int)=d1:=IntWalk.wrap64_in _ ⟨by omega,by omega⟩;by_cases XC:d1=65533
    ·subst XC;have IR:=hid (fun w=>wW cs w SB.out);obtain ⟨wi,hwi⟩:∃ wi,wi=wr.iterAt w1.heap.size s (pos+d2):=⟨_,rfl⟩;rw [<- hwi] at hnx R1 R2;clear hwi;go_wp2_with fail
     refine (IR.out _).mono ?_;rintro e w2 ⟨rfl,hb2⟩;have R3:=hid (R1.out.up hb2);clear hb2 hnx;go_wp2;go_roundw;case rel=>exact ⟨R3.out.1,by rw [R3.out.2,R2.out];exact HV.out⟩
     case measure=>rw [R3.out.2,R2.out,TG.out];omega
    ·have IR:=hid (fun w=>zi cs d1 w SB.out hd8 hd XC);obtain ⟨wi,hwi⟩:∃ wi,wi=wr.iterAt w1.heap.size s (pos+d2):=⟨_,rfl⟩;rw [<- hwi] at hnx R1 R2;clear hwi XC;go_wp2_with fail
     refine (IR.out _).mono ?_;rintro e w2 ⟨rfl,hb2⟩;have R3:=hid (R1.out.up hb2);clear hb2 hnx;go_wp2;go_roundw;case rel=>exact ⟨R3.out.1,by rw [R3.out.2,R2.out];exact HV.out⟩
     case measure=>rw [R3.out.2,R2.out,TG.out];omega
  ·have hnx:∀ ty,(Instr.next (.pointer (some ⟨w1.heap.size,0,none⟩)) true ty).run Tryz.prog wr=_:=fun ty=>Lib.run_next_end_at wr w1.heap.size s pos ty hit hlt
   have HV:Hid (V=false):=by show V=false;rw [<- hany,List.drop_of_length_le (by simp;omega)];rfl
   have HB:Hid (Below w1.heap.size w1 wr):=by obtain ⟨_,_,_,hbl,_⟩:=H7;exact hbl
   clear hit H7 hany;go_wp2;go_ret;exact ⟨_,rfl,by rw [HV.out];simp,HB.out⟩
theorem Eh (s:ByteArray) (bs:List UInt8):decide (0<=Lib.indexAny s.data.toList bs)=q24 s bs:=tZ bs _
theorem Qy (s cs:ByteArray) (w:jf9) (hs:s.size<=1000000000) (hcs:nX cs) : Calls Tryz.prog 218 #[.string s,.string cs] w (Qx (.bool (q24 s cs.data.toList)) w):=by
 have IA:Calls Tryz.prog 238 #[.string s,.string cs] w (Ga (q24 s cs.data.toList) w):=by
  by_cases h8:s.size<=8
  ·exact ug s cs w h8 hcs
  ·obtain ⟨k2,k8,hasc⟩:=hcs;have h116:(Tryz.prog.info? 212).map (fun i=>(i.zero,i.size))=some (some (.agg (Array.replicate 256 (.bool false))),256):=by kernel_rfl
   have hz:=(zero_of_info h116).1;refine (Tryz.strings_IndexAny_long hz s cs w k2 (by omega) (by omega) (by omega) (fun j b hb=>qD hasc b (List.mem_of_getElem? hb))).mono ?_;rintro e w' ⟨rfl,rfl⟩;exact ⟨_,rfl,Eh _ _,((jc7 _ _).alloc (Nat.le_refl _) _).alloc (by simp) _⟩
 have HI:=hid IA;clear IA;generalize q24 s cs.data.toList=V at *;go_enter Tryz.func218,Tryz.ntmps218;go_wp2_with fail
 refine HI.out.mono ?_;rintro e w2 ⟨n,rfl,hv,hb⟩;have HV:=hid hv;clear hv;go_wp2;all_goals
  go_ret;refine ⟨?_,hb⟩;rw [<- HV.out];rfl
open Go.RowKit
def TJ (s:ByteArray) (vi:Value):Prop:=∃ k:Nat,k<=s.size/\vi=.int .i64 k/\∀ j x,j<k->s.data.toList[j]?=some x->jD x.toNat=true
theorem H8 (b:Nat):(97<=b/\b<=122)\/(65<=b/\b<=90)\/b<65\/(91<=b/\b<=96)\/122<b:=by omega
theorem XE:nX ⟨#[32,60,62]⟩:=⟨by decide,by decide,by decide⟩
theorem MO:nX ⟨#[124,123,125]⟩:=⟨by decide,by decide,by decide⟩
theorem TK:nX ⟨#[91,93,59,64,123,36,96]⟩:=⟨by decide,by decide,by decide⟩
theorem get_bt (s:ByteArray) (k:Nat) (c:UInt8):decide (s.data.toList[k]?=some c)=(decide (k<s.size)&&decide (bt s k=c.toNat)):=by
 by_cases h:k<s.size
 ·rw [fB s k h,<- bO s k h,jck];simp [h,UInt8.toNat_inj]
 ·have:s.data.toList[k]?=none:=by rw [List.getElem?_eq_none_iff];simp;omega
  rw [this];simp [h]
theorem BD (s:ByteArray) (w:jf9) (hs:s.size<=1000000000) : Calls Tryz.prog 183 #[.string s] w (dJ (.bool (uh s)) w):=by
 have CL:=hid (fun w=>q0z s w hs);have CA:=hid (fun w=>Qy s ⟨#[32,60,62]⟩ w hs XE);have HA:Hid (uh s=(decide (2<=kC s)&&decide (kC s<=20)&&(decide (kC s<s.size)&&decide (bt s (kC s)=58))&&fP s&&!q24 s [32,60,62])):=by show _=_;unfold uh;rw [get_bt];rfl
 obtain ⟨V,hV⟩:∃ V,V=uh s:=⟨_,rfl⟩;rw [<- hV] at HA ⊢;clear hV;have HR:∀ k,k<=s.size->(∀ j x,j<k->s.data.toList[j]?=some x->jD x.toNat=true)->(∀ x,s.data.toList[k]?=some x->jD x.toNat=false)->kC s=k:=fun k hk h1 h2=>
  qE (fun c=>jD c.toNat) _ k (by simpa using hk) h1 h2
 have HR:=hid HR;have e2:(⟨#[32,60,62]⟩:ByteArray).data.toList=[32,60,62]:=rfl;rw [e2] at CA;clear e2;generalize fP s=L at *;generalize q24 s [32,60,62]=A at *;generalize kC s=r at *;go_enter Tryz.func183,Tryz.ntmps183;go_wp2
 go_loop [3] (fun i=>TJ s i) (fun i=>s.size-(intOf i).toNat)
 case atStart=>exact ⟨0,Nat.zero_le _,rfl,fun j x hj=>by omega⟩
 case round=>
  obtain ⟨k,hk,rfl,hall⟩:=hrel;have oP:=hid hall;clear hall;by_cases hlt:k<s.size
  ·have hb:=gG s k;have e0:=bO s k hlt;have HG:=hid (fB s k hlt);have HB:=hid e0;obtain ⟨b,hbe⟩:∃ b,bt s k=b:=⟨_,rfl⟩;rw [hbe] at e0 hb HB;have TM:=hid hbe;clear hbe;have hl:jD b=true->∀ j x,j<k+1->s.data.toList[j]?=some x->jD x.toNat=true:=by
    intro hl j x hj hx;rcases Nat.lt_or_ge j k with h | h
    ·exact oP.out j x h hx
    ·have:j=k:=by omega
     subst this;rw [HG.out] at hx;obtain rfl:=Option.some.inj hx;rw [HB.out];exact hl
   have hn:jD b=false->r=k:=by intro hl;refine HR.out k hk oP.out (fun x hx=>?_);rw [HG.out] at hx;obtain rfl:=Option.some.inj hx;rw [HB.out];exact hl
   have HL:=hid hl;have HN:=hid hn;clear hl hn;rcases H8 b with ⟨h1,h2⟩ | ⟨h1,h2⟩ | h1 | ⟨h1,h2⟩ | h1
   ·have d0:decide ((97:Int)<=(b:Int))=true:=by simp;omega
    have d1:decide ((b:Int)<=122)=true:=by simp;omega
    have d2:decide ((65:Int)<=(b:Int))=true:=by simp;omega
    have d3:decide ((b:Int)<=90)=false:=by simp;omega
    go_wp2
    go_round
    case rel=>exact ⟨k+1,by omega,by go_num,HL.out (by unfold jD oQ;simp;omega)⟩
    case measure=>simp [intOf];omega
   ·have d0:decide ((97:Int)<=(b:Int))=false:=by simp;omega
    have d1:decide ((b:Int)<=122)=true:=by simp;omega
    have d2:decide ((65:Int)<=(b:Int))=true:=by simp;omega
    have d3:decide ((b:Int)<=90)=true:=by simp;omega
    go_wp2
    go_round
    case rel=>exact ⟨k+1,by omega,by go_num,HL.out (by unfold jD oQ;simp;omega)⟩
    case measure=>simp [intOf];omega
   ·have d0:decide ((97:Int)<=(b:Int))=false:=by simp;omega
    have d1:decide ((b:Int)<=122)=true:=by simp;omega
    have d2:decide ((65:Int)<=(b:Int))=false:=by simp;omega
    have d3:decide ((b:Int)<=90)=true:=by simp;omega
    have Mh:Hid (V=(decide (2<=k)&&decide (k<=20)&&(decide (k<s.size)&&decide (b=58))&&L&&!A)):=by show _=_;rw [HA.out,HN.out (by unfold jD oQ;simp;omega),TM.out]
    have TN:((b:Int)==58)=decide (b=58):=by rw [jck];simp;omega
    obtain ⟨b5,BF⟩:∃ b5,decide (b=58)=b5:=⟨_,rfl⟩;rw [BF] at TN Mh;clear BF;go_wp2_with (first | (go_at_call 112;refine (CL.out _).mono ?_;rintro e w2 ⟨rfl,q,rfl⟩) | (go_at_call 218;refine (CA.out _).mono ?_;rintro e w2 ⟨rfl,hb2⟩))
    all_goals
     go_ret;refine ⟨Bg ?_,?_⟩
     ·rw [Mh.out,decide_eq_true hlt]
      (try simp [*])
      (try omega)
     ·first | exact (eT (jc7 _ _) _).trans hb2 | exact eT (jc7 _ _) _ | exact jc7 _ _
   ·have d0:decide ((97:Int)<=(b:Int))=false:=by simp;omega
    have d1:decide ((b:Int)<=122)=true:=by simp;omega
    have d2:decide ((65:Int)<=(b:Int))=true:=by simp;omega
    have d3:decide ((b:Int)<=90)=false:=by simp;omega
    have Mh:Hid (V=(decide (2<=k)&&decide (k<=20)&&(decide (k<s.size)&&decide (b=58))&&L&&!A)):=by show _=_;rw [HA.out,HN.out (by unfold jD oQ;simp;omega),TM.out]
    have TN:((b:Int)==58)=decide (b=58):=by rw [jck];simp;omega
    obtain ⟨b5,BF⟩:∃ b5,decide (b=58)=b5:=⟨_,rfl⟩;rw [BF] at TN Mh;clear BF;go_wp2_with (first | (go_at_call 112;refine (CL.out _).mono ?_;rintro e w2 ⟨rfl,q,rfl⟩) | (go_at_call 218;refine (CA.out _).mono ?_;rintro e w2 ⟨rfl,hb2⟩))
    all_goals
     go_ret;refine ⟨Bg ?_,?_⟩
     ·rw [Mh.out,decide_eq_true hlt]
      (try simp [*])
      (try omega)
     ·first | exact (eT (jc7 _ _) _).trans hb2 | exact eT (jc7 _ _) _ | exact jc7 _ _
   ·have d0:decide ((97:Int)<=(b:Int))=true:=by simp;omega
    have d1:decide ((b:Int)<=122)=false:=by simp;omega
    have d2:decide ((65:Int)<=(b:Int))=true:=by simp;omega
    have d3:decide ((b:Int)<=90)=false:=by simp;omega
    have Mh:Hid (V=(decide (2<=k)&&decide (k<=20)&&(decide (k<s.size)&&decide (b=58))&&L&&!A)):=by show _=_;rw [HA.out,HN.out (by unfold jD oQ;simp;omega),TM.out]
    have TN:((b:Int)==58)=decide (b=58):=by rw [jck];simp;omega
    obtain ⟨b5,BF⟩:∃ b5,decide (b=58)=b5:=⟨_,rfl⟩;rw [BF] at TN Mh;clear BF;go_wp2_with (first | (go_at_call 112;refine (CL.out _).mono ?_;rintro e w2 ⟨rfl,q,rfl⟩) | (go_at_call 218;refine (CA.out _).mono ?_;rintro e w2 ⟨rfl,hb2⟩))
    all_goals
     go_ret;refine ⟨Bg ?_,?_⟩
     ·rw [Mh.out,decide_eq_true hlt]
      (try simp [*])
      (try omega)
     ·first | exact (eT (jc7 _ _) _).trans hb2 | exact eT (jc7 _ _) _ | exact jc7 _ _
  ·have Mh:Hid (V=false):=by
    show _=_;rw [HA.out,HR.out k hk oP.out (fun x hx=>by
     have:=(List.getElem?_eq_some_iff.1 hx).1;have e:s.data.toList.length=s.size:=by simp
     omega)]
    simp [hlt]
   have q:decide ((k:Int)<(s.size:Int))=false:=by simp;omega
   go_wp2;all_goals
    go_ret;refine ⟨Bg ?_,jc7 _ _⟩;rw [Mh.out]
    (try simp)
    (try omega)
end Go.Proofs.YtclikfjalmcoaaaGreatDoor

