/- Contracts of attr.Check; of tree.label. The contract of strings.ContainsAny at a set of two to eight ASCII bytes and whatever text. Contracts of tree.address, checkCites, checkNamed, checkLink. Contracts of tree.checkCites, checkNamed, checkLink. Contracts of tree.checkNamed, checkLink. The contract of tree.checkLink. The contract of tree.checkInline. The contract of tree.checkInlines and Line: the first error of inlines. Contracts of tree.Line, checkUnbroken, checkHead, checkTable. Contracts of tree.checkTable, checkBlock. The contract of tree.checkBlock; of a formula's check it asks the contract. -/
import Derived.Test.YtdneicipdlofiaaGreatDoorKChG
import Derived.Maps.OwnIn
import Derived.Shelf.Strings.SlTrimAscii
set_option maxHeartbeats 8000000
set_option maxRecDepth 100000
open Go.Lib (hid)
namespace Go.Proofs.YtdneicipdlofiaaGreatDoor
open List renaming getElem?_eq_getElem->joq,length_cons->jp6,mem_of_getElem?->jpk
open Go.RowKit.Below renaming refl->jox
open Nat renaming le_refl->joz,zero_le->jpj
open Bool renaming eq_iff_iff->jp3
open Go renaming World->js1
open Go.RowKit renaming Below->js2
open Go.RowKit
set_option linter.unusedVariables false
set_option linter.unusedSimpArgs false
theorem LW (s:ByteArray) (f i:Nat) (h:i<s.size) (hf:s.size<=i+f):bZ s f i=Utf8.decode s i::bZ s (f-1) (i+(Utf8.decode s i).2):=by obtain ⟨f',rfl⟩:∃ f',f=f'+1:=⟨f-1,by omega⟩;rw [bZ,if_pos h];rfl
def ug (s:ByteArray) (V:Bool) (w:js1) (w0:js1) (k:Nat) (wr:js1):Prop:=
  ∃ pos f:Nat,pos<=s.size/\s.size<=pos+f/\wr.heap[k]?=some (.stringIter s pos)/\(bZ s f pos).all xA=V/\js2 w.heap.size w wr/\w.heap.size<=k
theorem ug.alloc {s:ByteArray} {V:Bool} {w w0:js1} {k:Nat} {wr:js1} (h:ug s V w w0 k wr) (o:Obj):ug s V w w0 k (wr.alloc o):=by obtain ⟨pos,f,h1,h2,h3,h4,h5,h6⟩:=h;exact ⟨pos,f,h1,h2,(Below.heap_alloc _ _ _ (Array.getElem?_eq_some_iff.1 h3).1).trans h3,h4,h5.alloc h5.size _,h6⟩
theorem ug.yU {s:ByteArray} {V:Bool} {w w0:js1} {k:Nat} {wr:js1} (h:ug s V w w0 k wr):wr.iterPos k<=s.size/\wr.heap[k]?=some (.stringIter s (wr.iterPos k)):=by
  obtain ⟨pos,f,h1,h2,h3,h4,h5,h6⟩:=h;have hpos:wr.iterPos k=pos:=by simp only [World.iterPos,h3]
  rw [hpos];exact ⟨h1,h3⟩
theorem Pw (d:Nat):([32,45,95,46,58]:List Int).contains (d:Int)=([32,45,95,46,58]:List Nat).contains d:=by rw [jp3];simp;omega
theorem AZ (s:ByteArray) (w:js1) (hs:s.size<=1000000000) : Calls Tryz.prog 198 #[.string s] w (gu (.bool (eO s)) w):=by
  rcases jA s with rfl | ⟨hne,hp,hie,hes⟩
  · have hv:eO ByteArray.empty=false:=by unfold eO;simp
    rw [hv];go_enter Tryz.func198,Tryz.ntmps198;go_wp2;go_ret;exact ⟨rfl,jox _ _⟩
  by_cases h60:60<s.size
  · have hv:eO s=false:=by unfold eO;simp;omega
    rw [hv];have q1:decide ((60:Int)<(s.size:Int))=true:=by simp;omega
    clear hv;go_enter Tryz.func198,Tryz.ntmps198;go_wp2;go_ret;exact ⟨rfl,jox _ _⟩
  have q1:decide ((60:Int)<(s.size:Int))=false:=by simp;omega
  have FO:=hid (GA s w hs);by_cases XI:zQ s=s;case neg=>
    have hv:eO s=false:=by unfold eO;simp [XI]
    rw [hv];have hb1:=JV XI;have hb2:=Tk XI;generalize zQ s=fs at *;clear hv XI;go_enter Tryz.func198,Tryz.ntmps198;go_wp2_with fail
    refine FO.out.mono ?_;rintro e w1 ⟨rfl,hb⟩;go_wp2;go_ret;exact ⟨rfl,hb⟩
  rw [XI] at FO;have hv:eO s=(pts s).all xA:=by unfold eO;rw [XI,decide_eq_true (show 1<=s.size by omega),decide_eq_true (show s.size<=60 by omega)];simp
  rw [hv];obtain ⟨V,hV⟩:∃ V,(pts s).all xA=V:=⟨_,rfl⟩;rw [hV];have HV:=hid hV;have hb1:(s.toList != s.toList)=false:=by simp
  clear hv XI hV;go_enter Tryz.func198,Tryz.ntmps198;go_wp2_with fail
  refine FO.out.mono ?_;rintro e w1 ⟨rfl,hb⟩;have R0:Hid (ug s V w w1 w1.heap.size (w1.iter s 0)):=⟨0,s.size,jpj _,by omega,World.iter_heap w1 s 0,HV.out,hb.alloc hb.size _,hb.size⟩;have HB:=hid hb;clear hb;go_wp2
  go_loopw [] (fun wr=>ug s V w w1 w1.heap.size wr) (fun wr=>s.size-wr.iterPos w1.heap.size)
  case atStart=>exact R0.out
  case round=>
    clear R0;obtain ⟨pos,f,hps,hf,hit,hall,hbel,hk⟩:=hrel;have hpos:wr.iterPos w1.heap.size=pos:=by simp only [World.iterPos,hit]
    by_cases hlt:pos<s.size
    · have hnx:∀ ty,(Instr.next (.pointer (some ⟨w1.heap.size,0,none⟩)) true ty).run Tryz.prog wr=_:=fun ty=>Lib.run_next_any_at wr w1.heap.size s pos ty hit hlt
      have hd:=Lib.rune_le s pos;have hwd:=nL s pos;have hle:=uQ s pos hlt;have hst:=LW s f pos hlt hf;have HI2:Hid (xA (Utf8.decode s pos)=true->ug s V w w1 w1.heap.size (wr.iterAt w1.heap.size s (pos+(Utf8.decode s pos).2))):=by intro hl;refine ⟨pos+(Utf8.decode s pos).2,f-1,hle,by omega,Lib.iterAt_heap wr _ s pos _ hit,?_,Lib.below_iterAt hbel hk s _,hk⟩;rw [<- hall,hst,List.all_cons,hl];rfl
      have Y1:Hid (xA (Utf8.decode s pos)=false->V=false):=by intro hl;rw [<- hall,hst,List.all_cons,hl];rfl
      have HB2:Hid (js2 w.heap.size w (wr.iterAt w1.heap.size s (pos+(Utf8.decode s pos).2))):=Lib.below_iterAt hbel hk s _;have hip:(wr.iterAt w1.heap.size s (pos+(Utf8.decode s pos).2)).iterPos w1.heap.size=pos+(Utf8.decode s pos).2:=by have:=Lib.iterAt_heap wr w1.heap.size s pos (pos+(Utf8.decode s pos).2) hit;simp only [World.iterPos,this]
      clear hst hall hbel hit;have XJ:=hid hpos;clear hpos;generalize Utf8.decode s pos=d at *;obtain ⟨d1,d2⟩:=d;simp only at hd hwd hle hnx HI2 Y1 HB2 hip;have hwr:wrap64 (d1:Int)=d1:=IntWalk.wrap64_in _ ⟨by omega,by omega⟩;have CL:=hid (fun w=>Cy d1 w hd);have CD:=hid (fun w=>Fa d1 w hd);have OO:=hid (fun wx:js1=>kS (d1:Int) [32,45,95,46,58] wx.heap.size 5 _ (by simp) (Vl wx 3 32 45 95 46 58));simp only [jp6,List.length_nil,Nat.reduceAdd,Pw] at OO;have HLP:Hid (xA (d1,d2)=(qX d1||Py d1||([32,45,95,46,58]:List Nat).contains d1)):=rfl;generalize ([32,45,95,46,58]:List Nat).contains d1=bo at *;generalize qX d1=bl at *;generalize Py d1=bd at *;obtain ⟨wi,hwi⟩:∃ wi,wi=wr.iterAt w1.heap.size s (pos+d2):=⟨_,rfl⟩;rw [<- hwi] at hnx HI2 HB2 hip;have HIP:=hid hip;clear hwi hip;cases bl with
      | true=>
        have HG:=hid (HI2.out (by rw [HLP.out];rfl));clear HI2 Y1;go_wp2_with (go_at_call 238;refine (CL.out _).mono ?_;rintro e w2 ⟨rfl,rfl⟩)
        go_roundw;case rel=>exact HG.out
        case measure=>rw [HIP.out,XJ.out];omega
      | false=>
        cases bd with
        | true=>
          have HG:=hid (HI2.out (by rw [HLP.out];rfl));clear HI2 Y1;go_wp2_with (first | (go_at_call 238;refine (CL.out _).mono ?_;rintro e w2 ⟨rfl,rfl⟩) | (go_at_call 239;refine (CD.out _).mono ?_;rintro e w2 ⟨rfl,rfl⟩))
          go_roundw;case rel=>exact HG.out
          case measure=>rw [HIP.out,XJ.out];omega
        | false=>
          cases bo with
          | true=>
            have HG:=hid (HI2.out (by rw [HLP.out];rfl));clear HI2 Y1;go_wp2_with (first | (go_at_call 238;refine (CL.out _).mono ?_;rintro e w2 ⟨rfl,rfl⟩) | (go_at_call 239;refine (CD.out _).mono ?_;rintro e w2 ⟨rfl,rfl⟩) | (go_at_call 190;refine (OO.out _).mono ?_;rintro e w2 ⟨rfl,rfl⟩))
            go_roundw;case rel=>exact HG.out.alloc _
            case measure=>
              have h1:=(HG.out.alloc (.cells #[.int .i64 32,.int .i64 45,.int .i64 95,.int .i64 46,.int .i64 58] 3)).yU;have h2:=HG.out.yU;have h3:=(Below.heap_alloc wi (.cells #[.int .i64 32,.int .i64 45,.int .i64 95,.int .i64 46,.int .i64 58] 3) w1.heap.size (Array.getElem?_eq_some_iff.1 h2.2).1);rw [h1.2,h2.2] at h3;have h4:=HIP.out;have h5:=XJ.out;have h6:World.iterPos (wi.alloc (.cells #[.int .i64 32,.int .i64 45,.int .i64 95,.int .i64 46,.int .i64 58] 3)) w1.heap.size=wi.iterPos w1.heap.size:=by injection h3 with h3;injection h3
              rw [h6,h4,h5];omega
          | false=>
            have HE:=hid (Y1.out (by rw [HLP.out];rfl));clear HI2 Y1;go_wp2_with (first | (go_at_call 238;refine (CL.out _).mono ?_;rintro e w2 ⟨rfl,rfl⟩) | (go_at_call 239;refine (CD.out _).mono ?_;rintro e w2 ⟨rfl,rfl⟩) | (go_at_call 190;refine (OO.out _).mono ?_;rintro e w2 ⟨rfl,rfl⟩))
            go_ret;exact ⟨by rw [HE.out];rfl,HB2.out.alloc HB2.out.size _⟩
    · have hnx:∀ ty,(Instr.next (.pointer (some ⟨w1.heap.size,0,none⟩)) true ty).run Tryz.prog wr=_:=fun ty=>Lib.run_next_end_at wr w1.heap.size s pos ty hit hlt
      have HE:Hid (V=true):=by show V=true;rw [<- hall,kT s f pos hlt];rfl
      have El:=hid hbel;clear hall hbel hit hpos;go_wp2;go_ret;exact ⟨by rw [HE.out];rfl,El.out⟩
open Go.RowKit
theorem Fb (s:ByteArray):∀ (r p c d:Nat),jZ s r p c=some d->∀ j,j<r->128<=bt s (p+j)
  | 0,p,c,d,_,j,hj=>by omega
  | r+1,p,c,d,h,j,hj=>by
    rw [jZ] at h;split at h
    · rename_i hc
      cases j with
      | zero=>exact hc.2.1
      | succ j=>
        have:=Fb s r (p+1) _ d h j (by omega);rw [show p+(j+1)=p+1+j by omega];exact this
    · cases h
theorem LX (s:ByteArray) (i:Nat) (hi:i<s.size):(bt s i<128/\Utf8.decode s i=(bt s i,1))\/(128<=(Utf8.decode s i).1/\∀ j,j<(Utf8.decode s i).2->128<=bt s (i+j)):=by
  by_cases c1:bt s i<128
  · exact .inl ⟨c1,Cz s i c1⟩
  have bad:Utf8.decode s i=(65533,1)->128<=(Utf8.decode s i).1/\∀ j,j<(Utf8.decode s i).2->128<=bt s (i+j):=by
    intro h;rw [h];refine ⟨by decide,fun j hj=>?_⟩;have:j=0:=by simp at hj;exact hj
    subst this;exact Nat.le_of_not_lt c1
  have good:∀ n c,1<=n->Utf8.decode s i=LY s i n (jZ s (n-1) (i+1) c)->(∀ d,jZ s (n-1) (i+1) c=some d->128<=d)->128<=(Utf8.decode s i).1/\∀ j,j<(Utf8.decode s i).2->128<=bt s (i+j):=by
    intro n c hn h hd;cases hg:jZ s (n-1) (i+1) c with
    | none=>rw [hg] at h;exact bad h
    | some d=>
      rw [hg] at h;rw [h];refine ⟨hd d hg,fun j hj=>?_⟩;cases j with
      | zero=>exact Nat.le_of_not_lt c1
      | succ j=>
        have hj:j+1<n:=hj;have:=Fb s (n-1) (i+1) c d hg j (by omega);rw [show i+(j+1)=i+1+j by omega];exact this
  refine .inr ?_;by_cases c2:bt s i<194\/244<bt s i
  · exact bad (JW s i (by omega) c2)
  by_cases c3:bt s i<=223
  · refine good 2 _ (by omega) (Fe s i hi (by omega) c3) (fun d hd=>?_)
    have h:=(CF s i hi (by omega) c3);rw [show 2-1=1 from rfl,jZ,jZ] at hd;split at hd
    · injection hd with hd;omega
    · cases hd
  by_cases c4:bt s i<=239
  · obtain ⟨d1,d2⟩:=Fg s i hi (by omega) c4
    by_cases hs:i+1<s.size/\mD (bt s i)<=bt s (i+1)/\bt s (i+1)<=oD (bt s i)
    · refine good 3 _ (by omega) (d2 hs.2.1 hs.2.2) (fun d hd=>?_)
      have hl:=hs.2.1;unfold mD at hl;rw [show 3-1=2 from rfl,jZ,jZ,jZ,show i+1+1=i+2 from rfl] at hd;split at hd
      · split at hd
        · injection hd with hd
          split at hl
          · omega
          · split at hl<;>omega
        · cases hd
      · cases hd
    · exact bad (d1 (.inl hs))
  · obtain ⟨d1,d2⟩:=Fh s i hi (by omega) (by omega)
    by_cases hs:i+1<s.size/\mD (bt s i)<=bt s (i+1)/\bt s (i+1)<=oD (bt s i)
    · refine good 4 _ (by omega) (d2 hs.2.1 hs.2.2) (fun d hd=>?_)
      have hl:=hs.2.1;unfold mD at hl;rw [show 4-1=3 from rfl,jZ,jZ,jZ,jZ,show i+1+1=i+2 from rfl,show i+2+1=i+3 from rfl] at hd;split at hd
      · split at hd
        · split at hd
          · injection hd with hd
            split at hl
            · omega
            · split at hl<;>omega
          · cases hd
        · cases hd
      · cases hd
    · exact bad (d1 (.inl hs))
theorem xB (bs:List UInt8):∀ l:List UInt8,decide (0<=Lib.indexAny l bs)=l.any fun c=>bs.contains c
  | []=>rfl
  | b::l=>by
    have ih:=xB bs l;have hge:=Lib.indexAny_ge bs l;rw [Lib.indexAny,List.any_cons,<- ih];cases hb:bs.contains b with
    | true=>simp
    | false=>
      simp only [Bool.false_eq_true,if_false,Bool.false_or];by_cases h2:Lib.indexAny l bs=-1
      · simp [h2]
      · have h3:(Lib.indexAny l bs==-1)=false:=by simpa using h2
        simp only [h3,Bool.false_eq_true,if_false];rw [jp3];simp;omega
def XK (v:Value) (w:js1) (e:Ending) (w':js1):Prop:=e=.returned v/\js2 w.heap.size w w'
def pJ (cs:ByteArray):Prop:=2<=cs.size/\cs.size<=8/\∀ j,j<cs.size->bt cs j<128
def mY (cs:ByteArray) (w:js1) (k:Nat) (wr:js1):Prop:=∃ pos:Nat,pos<=cs.size/\wr.heap[k]?=some (.stringIter cs pos)/\js2 w.heap.size w wr/\w.heap.size<=k
theorem mY.yU {cs:ByteArray} {w:js1} {k:Nat} {wr:js1} (h:mY cs w k wr):wr.iterPos k<=cs.size/\wr.heap[k]?=some (.stringIter cs (wr.iterPos k)):=by
  obtain ⟨pos,h1,h3,h5,h6⟩:=h;have hpos:wr.iterPos k=pos:=by simp only [World.iterPos,h3]
  rw [hpos];exact ⟨h1,h3⟩
theorem mY.next {cs:ByteArray} {w:js1} {k:Nat} {wr:js1} (h:mY cs w k wr) (p:Nat) (hp:p<=cs.size):mY cs w k (wr.iterAt k cs p)/\(wr.iterAt k cs p).iterPos k=p:=by obtain ⟨pos,h1,h3,h5,h6⟩:=h;have hh:=Lib.iterAt_heap wr k cs pos p h3;exact ⟨⟨p,hp,hh,Lib.below_iterAt h5 h6 cs p,h6⟩,by simp only [World.iterPos,hh]⟩
theorem mY.up {cs:ByteArray} {w:js1} {k:Nat} {wr w':js1} (h:mY cs w k wr) (hb:js2 wr.heap.size wr w'):mY cs w k w'/\w'.iterPos k=wr.iterPos k:=by obtain ⟨pos,h1,h3,h5,h6⟩:=h;have hh:w'.heap[k]?=some (.stringIter cs pos):=(hb.block k (Array.getElem?_eq_some_iff.1 h3).1).trans h3;exact ⟨⟨pos,h1,hh,aP h5 hb,h6⟩,by simp only [World.iterPos,hh,h3]⟩
theorem zx (cs:ByteArray) (w:js1) (hcs:pJ cs) : Calls Tryz.prog 301 #[.string cs,.int .i32 65533] w (XK (.int .i64 (-1)) w):=by
  obtain ⟨k2,k8,hasc⟩:=hcs;have HA:=hid hasc;have R0:Hid (mY cs w w.heap.size (w.iter cs 0)):=⟨0,jpj _,World.iter_heap w cs 0,(jox _ _).alloc (joz _) _,joz _⟩;clear hasc;go_enter Tryz.func301,Tryz.ntmps301;go_wp2
  go_loopw [] (fun wr=>mY cs w w.heap.size wr) (fun wr=>cs.size-wr.iterPos w.heap.size)
  case atStart=>exact R0.out
  case round=>
    clear R0;obtain ⟨hps,hit⟩:=hrel.yU;obtain ⟨pos,hpe⟩:∃ pos,wr.iterPos w.heap.size=pos:=⟨_,rfl⟩;rw [hpe] at hps hit;have Rq:=hid hpe;clear hpe;have HR:=hid hrel;by_cases hlt:pos<cs.size
    · have hnx:∀ ty,(Instr.next (.pointer (some ⟨w.heap.size,0,none⟩)) true ty).run Tryz.prog wr=_:=fun ty=>Lib.run_next_any_at wr w.heap.size cs pos ty hit hlt
      have hb:=HA.out pos hlt;rw [Cz cs pos hb] at hnx;dsimp only at hnx;obtain ⟨r1,r2⟩:=hrel.next (pos+1) (by omega)
      generalize bt cs pos=b at *;have hwr:wrap64 (b:Int)=b:=IntWalk.wrap64_in _ ⟨by omega,by omega⟩;have hne:((b:Int)==65533)=false:=by rw [beq_eq_false_iff_ne];omega
      have R1:=hid r1;have R2:=hid r2;clear hit hrel r1 r2;go_wp2;go_roundw;case rel=>exact R1.out
      case measure=>rw [R2.out,Rq.out];omega
    · have hnx:∀ ty,(Instr.next (.pointer (some ⟨w.heap.size,0,none⟩)) true ty).run Tryz.prog wr=_:=fun ty=>Lib.run_next_end_at wr w.heap.size cs pos ty hit hlt
      have HB:=hid hrel.choose_spec.2.2.1;clear hit hrel;go_wp2;go_ret;exact ⟨rfl,HB.out⟩
theorem sQ {cs:ByteArray} (h:∀ j,j<cs.size->bt cs j<128):∀ x∈cs.data.toList,x.toNat<128:=by
  intro x hx;obtain ⟨j,hj⟩:=List.mem_iff_getElem?.1 hx;have hlt:j<cs.size:=by have:=(List.getElem?_eq_some_iff.1 hj).1;simpa using this
  rw [fF cs j hlt] at hj;obtain rfl:=Option.some.inj hj;rw [bN cs j hlt];exact h j hlt
theorem Tm (cs:ByteArray) (m lb:Nat) (h:∀ j,j<cs.size->bt cs j<128) (hl:128<=lb) (hb:lb<256):Lib.indexByte (cs.extract (m+1) cs.size).data.toList ((lb:Int)).toNat.toUInt8<0:=by
  have:=nU (cs.extract (m+1) cs.size).data.toList ((lb:Int)).toNat.toUInt8;have h2:((cs.extract (m+1) cs.size).data.toList.all fun x=>!decide (x=((lb:Int)).toNat.toUInt8))=true:=by
    rw [List.all_eq_true];intro x hx;have hx:x∈cs.data.toList:=by rw [ByteArray.data_extract,Array.toList_extract] at hx;exact List.mem_of_mem_drop (List.mem_of_mem_take hx)
    have h3:=sQ h x hx;simp;rintro rfl;have:(lb.toUInt8).toNat=lb%256:=rfl;simp at h3;omega
  rw [h2] at this;simpa using this
theorem jcq {P:Program} {f:FuncId} {args:Array Value} {w:js1} {a n:Nat} {v:Value} (h:Calls P f args (w.drewN (a+n)) fun e w'=>e=.returned v/\w'=w.drewN (a+n)) : Calls P f args (w.drewN (a+n)) fun e w''=>e=.returned v/\∃ m,w''=w.drewN (a+m):=h.mono fun _ _ ⟨he,hm⟩=>⟨he,n,hm⟩
def Vm (m:Nat) (w:js1) (vi:Value) (wr:js1):Prop:=vi=.int .i64 (m:Int)/\∃ q,wr=w.drewN q
theorem CG (cs:ByteArray) (c:Nat) (w:js1) (hcs:pJ cs) (h1:128<=c) (h2:c<=1114111) (hne:c≠65533) : Calls Tryz.prog 301 #[.string cs,.int .i32 (c:Int)] w (XK (.int .i64 (-1)) w):=by
  obtain ⟨k2,k8,hasc⟩:=hcs;have HA:=hid hasc;have hne:((c:Int)==65533)=false:=by rw [beq_eq_false_iff_ne];omega
  have VR:=hid (fun w=>Tryz.utf8_ValidRune (c:Int) w);clear hasc;go_enter Tryz.func301,Tryz.ntmps301;go_wp2_with fail
  refine (VR.out _).mono ?_;rintro e w1 ⟨rfl,rfl⟩;cases hv:Lib.validRune (c:Int)
  · go_wp2
    go_ret;exact ⟨rfl,jox _ _⟩
  · have HV:=hid hv
    clear hv;go_wp2
    go_step3
    have hv:=HV.out;have hval:Utf8.valid (c:Int)=true:=by unfold Lib.validRune at hv;unfold Utf8.valid;simp at hv ⊢;omega
    obtain ⟨n2,n4,hlast⟩:=encode_facts (c:Int) hval (by omega);obtain ⟨rs,hrs⟩:∃ rs,Utf8.encode (c:Int)=rs:=⟨_,rfl⟩;rw [hrs] at n2 n4 hlast;obtain ⟨m,hm⟩:∃ m,rs.size=m+1:=⟨rs.size-1,by omega⟩;have hl0:=hlast (by omega);have jj8:m<rs.size:=by omega
    have hle:rs[m].toNat=bt rs m:=bN rs m jj8;have hl:128<=bt rs m:=by
      rw [<- hle];have e:rs.size-1=m:=by omega
      simp only [e] at hl0;exact hl0
    have m1:1<=m:=by omega
    have m3:m<=3:=by omega
    have hlb:=gY rs m;generalize bt rs m=lb at *;have HIO:=hid (Tm cs m lb HA.out hl hlb);clear hl0 hv hlast hval;have R0:Hid (Vm m w1 (.int .i64 (m:Int)) w1):=⟨rfl,0,rfl⟩;go_wp2
    go_loopw [9] (fun i wr=>Vm m w1 i wr) (fun _ _=>0)
    case atStart=>exact R0.out
    case round=>
      clear R0;obtain ⟨rfl,q,rfl⟩:=hrel;by_cases hlt:m<cs.size
      · have hcl:=HA.out _ hlt
        have hce:=bN cs _ hlt;generalize bt cs m=cb at *;have hne2:((cb:Int) != (lb:Int))=true:=by rw [bne_iff_ne];omega
        go_wp2
        go_step3
        go_wp2_with fail
        go_quiet (fail)
        go_wp2_with fail
        go_quiet ((go_at_call 105;exact jcq (Tryz.strings_IndexByte _ _ _)))
        have hio:=HIO.out;generalize Lib.indexByte (cs.extract (m+1) cs.size).data.toList ((lb:Int)).toNat.toUInt8=io at *;go_wp2;rw [Exit.noGoto_ret];go_ret;exact ⟨rfl,eZ (jox _ _) _⟩
      · go_wp2
        rw [Exit.noGoto_ret];go_ret;exact ⟨rfl,eZ (jox _ _) q⟩
theorem Ij {α:Type} (l:List α) (k:Nat) (x:α) (h:l[k]?=some x):l.drop k=x::l.drop (k+1):=by obtain ⟨hlt,rfl⟩:=List.getElem?_eq_some_iff.1 h;exact List.drop_eq_getElem_cons hlt
theorem Pz {cs:ByteArray} (h:∀ j,j<cs.size->bt cs j<128) (x:UInt8) (hx:128<=x.toNat):cs.data.toList.contains x=false:=by rw [Bool.eq_false_iff];intro h2;have:=sQ h x (by simpa using h2);omega
theorem Fj (s:ByteArray) (p:UInt8->Bool) (i:Nat) (h:i<s.size):(s.data.toList.drop i).any p=(p s[i]||(s.data.toList.drop (i+1)).any p):=by rw [Ij _ i s[i] (fF s i h),List.any_cons]
theorem Fp (s:ByteArray) (p:UInt8->Bool):∀ (d i:Nat),i+d<=s.size->(∀ j,j<d->∀ (hj:i+j<s.size),p (s[i+j]'hj)=false)->(s.data.toList.drop i).any p=(s.data.toList.drop (i+d)).any p
  | 0,i,_,_=>rfl
  | d+1,i,hd,h=>by
    have h0:=h 0 (by omega) (by omega);rw [Fj s p i (by omega)];rw [show p s[i]=false from h0,Bool.false_or,Fp s p d (i+1) (by omega) (fun j hj hlt=>?_)]
    · rw [show i+1+d=i+(d+1) by omega]
    · have:=h (j+1) (by omega) (by omega)
      simpa [Nat.add_assoc,Nat.add_comm 1 j] using this
theorem JX (x:UInt8):∀ l:List UInt8,l.contains x=!(l.all fun y=>!decide (y=x))
  | []=>rfl
  | y::l=>by
    rw [List.contains_cons,List.all_cons,JX x l];by_cases h:y=x
    · simp [h]
    · have h2:(x==y)=false:=by simpa using fun e=>h e.symm
      simp [h,h2]
def Vn (s cs:ByteArray) (V:Bool) (w:js1) (k:Nat) (wr:js1):Prop:=mY s w k wr/\((s.data.toList.drop (wr.iterPos k)).any fun c=>cs.data.toList.contains c)=V
def JY (V:Bool) (w:js1) (e:Ending) (w':js1):Prop:=∃ n:Int,e=.returned (.int .i64 n)/\decide (0<=n)=V/\js2 w.heap.size w w'
theorem xC (s cs:ByteArray) (w:js1) (hs:s.size<=8) (hcs:pJ cs) : Calls Tryz.prog 324 #[.string s,.string cs] w (JY (dP s cs.data.toList) w):=by
  have Jw:=hid hcs;obtain ⟨k2,k8,hasc⟩:=hcs;have HA:=hid hasc;rcases jA cs with rfl | ⟨hne,hp,hie,hes⟩
  · simp at k2
  have SU:=hid (fun w=>Tryz.strings_shouldUseASCIISet (s.size:Int) w);have hn1:((cs.size:Int)==1)=false:=by rw [beq_eq_false_iff_ne];omega
  have q8:decide ((8:Int)<(s.size:Int))=false:=by simp;omega
  obtain ⟨V,hV⟩:∃ V,dP s cs.data.toList=V:=⟨_,rfl⟩;rw [hV];have R0:Hid (Vn s cs V w w.heap.size (w.iter s 0)):=by
    have hh:=World.iter_heap w s 0;refine ⟨⟨0,jpj _,hh,(jox _ _).alloc (joz _) _,joz _⟩,?_⟩;have:(w.iter s 0).iterPos w.heap.size=0:=by simp only [World.iterPos,hh]
    rw [this];exact hV
  clear hasc hV hes;go_enter Tryz.func324,Tryz.ntmps324;go_wp2_with fail
  refine (SU.out _).mono ?_;rintro e w1 ⟨rfl,rfl⟩;go_wp2
  go_loopw [] (fun wr=>Vn s cs V w1 w1.heap.size wr) (fun wr=>s.size-wr.iterPos w1.heap.size)
  case atStart=>exact R0.out
  case round=>
    clear R0;obtain ⟨LZ,hany⟩:=hrel;obtain ⟨hps,hit⟩:=LZ.yU;obtain ⟨pos,hpe⟩:∃ pos,wr.iterPos w1.heap.size=pos:=⟨_,rfl⟩;rw [hpe] at hps hit hany;have Rq:=hid hpe;clear hpe;by_cases hlt:pos<s.size
    · have hnx:∀ ty,(Instr.next (.pointer (some ⟨w1.heap.size,0,none⟩)) true ty).run Tryz.prog wr=_:=fun ty=>Lib.run_next_any_at wr w1.heap.size s pos ty hit hlt
      have hle:=uQ s pos hlt;have hd:=Lib.rune_le s pos;have hwd:=nL s pos;obtain ⟨r1,r2⟩:=LZ.next (pos+(Utf8.decode s pos).2) hle
      have R1:=hid r1;have R2:=hid r2;rcases LX s pos hlt with ⟨hb,hdec⟩ | ⟨ZU,hbs⟩
      · rw [hdec] at hnx R1 R2
        dsimp only at hnx R1 R2;have hstep:=Fj s (fun c=>cs.data.toList.contains c) pos hlt;have hbx:s[pos].toNat=bt s pos:=bN s pos hlt;have hx8:((bt s pos:Int)).toNat.toUInt8=s[pos]:=by rw [<- hbx];simp
        have IR:=hid (fun w=>Tryz.strings_IndexRune_ascii cs (bt s pos:Int) w (by omega) (by omega));rw [hx8] at IR;have hin:=nU cs.data.toList s[pos];have HC:Hid (cs.data.toList.contains s[pos]=!decide (Lib.indexByte cs.data.toList s[pos]<0)):=by show _=_;rw [hin];exact JX s[pos] cs.data.toList
        have hge:=Lib.indexByte_ge cs.data.toList s[pos];have HST:=hid hstep;have jcx:=hid hany;clear LZ hit hstep hx8 hin r1 r2 hany hd hwd hle;generalize Lib.indexByte cs.data.toList s[pos]=ix at *;clear hbx;generalize bt s pos=b at *;have hwr:wrap64 (b:Int)=b:=IntWalk.wrap64_in _ ⟨by omega,by omega⟩;by_cases hix:0<=ix
        · have HV:Hid (V=true):=by
            show V=true;rw [<- jcx.out,HST.out,HC.out];have:decide (ix<0)=false:=by simp;omega
            rw [this];rfl
          go_wp2_with fail
          refine (IR.out _).mono ?_;rintro e w2 ⟨rfl,hw2⟩;subst hw2;go_wp2;go_ret;refine ⟨_,rfl,?_,?_⟩
          · rw [HV.out];simp
          · obtain ⟨_,_,_,hbl,_⟩:=R1.out;exact hbl
        · have HV:Hid (((s.data.toList.drop (pos+1)).any fun c=>cs.data.toList.contains c)=V):=by
            show _=V;rw [<- jcx.out,HST.out,HC.out];have:decide (ix<0)=true:=by simp;omega
            rw [this];rfl
          go_wp2_with fail
          refine (IR.out _).mono ?_;rintro e w2 ⟨rfl,hw2⟩;subst hw2;go_wp2;go_roundw;case rel=>exact ⟨R1.out,by rw [R2.out];exact HV.out⟩
          case measure=>rw [R2.out,Rq.out];omega
      · have Vo:=Fp s (fun c=>cs.data.toList.contains c) (Utf8.decode s pos).2 pos hle (fun j hj hlt2=>Pz HA.out _ (by rw [bN s (pos+j) hlt2];exact hbs j hj))
        have HV:Hid (((s.data.toList.drop (pos+(Utf8.decode s pos).2)).any fun c=>cs.data.toList.contains c)=V):=by show _=V;rw [<- Vo];exact hany
        clear LZ hit Vo r1 r2 hany hbs;generalize Utf8.decode s pos=d at *;obtain ⟨d1,d2⟩:=d;simp only at hnx R1 R2 HV hle hd hwd ZU;have hwr:wrap64 (d1:Int)=d1:=IntWalk.wrap64_in _ ⟨by omega,by omega⟩;by_cases h65:d1=65533
        · subst h65
          have IR:=hid (fun w=>zx cs w Jw.out);obtain ⟨wi,hwi⟩:∃ wi,wi=wr.iterAt w1.heap.size s (pos+d2):=⟨_,rfl⟩;rw [<- hwi] at hnx R1 R2;clear hwi;go_wp2_with fail
          refine (IR.out _).mono ?_;rintro e w2 ⟨rfl,hb2⟩;have R3:=hid (R1.out.up hb2);clear hb2 hnx;go_wp2;go_roundw;case rel=>exact ⟨R3.out.1,by rw [R3.out.2,R2.out];exact HV.out⟩
          case measure=>rw [R3.out.2,R2.out,Rq.out];omega
        · have IR:=hid (fun w=>CG cs d1 w Jw.out ZU hd h65)
          obtain ⟨wi,hwi⟩:∃ wi,wi=wr.iterAt w1.heap.size s (pos+d2):=⟨_,rfl⟩;rw [<- hwi] at hnx R1 R2;clear hwi h65;go_wp2_with fail
          refine (IR.out _).mono ?_;rintro e w2 ⟨rfl,hb2⟩;have R3:=hid (R1.out.up hb2);clear hb2 hnx;go_wp2;go_roundw;case rel=>exact ⟨R3.out.1,by rw [R3.out.2,R2.out];exact HV.out⟩
          case measure=>rw [R3.out.2,R2.out,Rq.out];omega
    · have hnx:∀ ty,(Instr.next (.pointer (some ⟨w1.heap.size,0,none⟩)) true ty).run Tryz.prog wr=_:=fun ty=>Lib.run_next_end_at wr w1.heap.size s pos ty hit hlt
      have HV:Hid (V=false):=by show V=false;rw [<- hany,List.drop_of_length_le (by simp;omega)];rfl
      have HB:Hid (js2 w1.heap.size w1 wr):=by obtain ⟨_,_,_,hbl,_⟩:=LZ;exact hbl
      clear hit LZ hany;go_wp2;go_ret;exact ⟨_,rfl,by rw [HV.out];simp,HB.out⟩
theorem Ik (s:ByteArray) (bs:List UInt8):decide (0<=Lib.indexAny s.data.toList bs)=dP s bs:=xB bs _
theorem q1v (s cs:ByteArray) (w:js1) (hs:s.size<=1000000000) (hcs:pJ cs) : Calls Tryz.prog 315 #[.string s,.string cs] w (XK (.bool (dP s cs.data.toList)) w):=by
  have IA:Calls Tryz.prog 324 #[.string s,.string cs] w (JY (dP s cs.data.toList) w):=by
    by_cases h8:s.size<=8
    · exact xC s cs w h8 hcs
    · obtain ⟨k2,k8,hasc⟩:=hcs
      have h116:(Tryz.prog.info? 228).map (fun i=>(i.zero,i.size))=some (some (.agg (Array.replicate 256 (.bool false))),256):=by kernel_rfl
      have hz:=(zero_of_info h116).1;refine (Tryz.strings_IndexAny_long hz s cs w k2 (by omega) (by omega) (by omega) (fun j b hb=>sQ hasc b (jpk hb))).mono ?_;rintro e w' ⟨rfl,rfl⟩;exact ⟨_,rfl,Ik _ _,((jox _ _).alloc (joz _) _).alloc (by simp) _⟩
  have HI:=hid IA;clear IA;generalize dP s cs.data.toList=V at *;go_enter Tryz.func315,Tryz.ntmps315;go_wp2_with fail
  refine HI.out.mono ?_;rintro e w2 ⟨n,rfl,hv,hb⟩;have HV:=hid hv;clear hv;go_wp2;all_goals
    go_ret;refine ⟨?_,hb⟩;rw [<- HV.out];rfl
open Go.RowKit
def jcz (s:ByteArray) (vi:Value):Prop:=∃ k:Nat,k<=s.size/\vi=.int .i64 k/\∀ j x,j<k->s.data.toList[j]?=some x->jI x.toNat=true
theorem L6 (b:Nat):(97<=b/\b<=122)\/(65<=b/\b<=90)\/b<65\/(91<=b/\b<=96)\/122<b:=by omega
theorem jj9:pJ ⟨#[32,60,62]⟩:=⟨by decide,by decide,by decide⟩
theorem jjj:pJ ⟨#[124,123,125]⟩:=⟨by decide,by decide,by decide⟩
theorem jd0:pJ ⟨#[91,93,59,64,123,36,96]⟩:=⟨by decide,by decide,by decide⟩
theorem get_bt (s:ByteArray) (k:Nat) (c:UInt8):decide (s.data.toList[k]?=some c)=(decide (k<s.size)&&decide (bt s k=c.toNat)):=by
  by_cases h:k<s.size
  · rw [fF s k h,<- bN s k h,jp3]
    simp [h,UInt8.toNat_inj]
  · have:s.data.toList[k]?=none:=by rw [List.getElem?_eq_none_iff];simp;omega
    rw [this];simp [h]
theorem Fq (s:ByteArray) (w:js1) (hs:s.size<=1000000000) : Calls Tryz.prog 294 #[.string s] w (gu (.bool (qD s)) w):=by
  have CL:=hid (fun w=>PD s w hs);have CA:=hid (fun w=>q1v s ⟨#[32,60,62]⟩ w hs jj9);have HA:Hid (qD s=(decide (2<=lJ s)&&decide (lJ s<=20)&&(decide (lJ s<s.size)&&decide (bt s (lJ s)=58))&&iA s&&!dP s [32,60,62])):=by show _=_;unfold qD;rw [get_bt];rfl
  obtain ⟨V,hV⟩:∃ V,V=qD s:=⟨_,rfl⟩;rw [<- hV] at HA ⊢;clear hV;have HR:∀ k,k<=s.size->(∀ j x,j<k->s.data.toList[j]?=some x->jI x.toNat=true)->(∀ x,s.data.toList[k]?=some x->jI x.toNat=false)->lJ s=k:=fun k hk h1 h2=>
    sS (fun c=>jI c.toNat) _ k (by simpa using hk) h1 h2
  have HR:=hid HR;have e2:(⟨#[32,60,62]⟩:ByteArray).data.toList=[32,60,62]:=rfl;rw [e2] at CA;clear e2;generalize iA s=L at *;generalize dP s [32,60,62]=A at *;generalize lJ s=r at *;go_enter Tryz.func294,Tryz.ntmps294;go_wp2
  go_loop [3] (fun i=>jcz s i) (fun i=>s.size-(intOf i).toNat)
  case atStart=>exact ⟨0,jpj _,rfl,fun j x hj=>by omega⟩
  case round=>
    obtain ⟨k,hk,rfl,hall⟩:=hrel;have mM:=hid hall;clear hall;by_cases hlt:k<s.size
    · have hb:=gY s k
      have e0:=bN s k hlt;have HG:=hid (fF s k hlt);have HB:=hid e0;obtain ⟨b,hbe⟩:∃ b,bt s k=b:=⟨_,rfl⟩;rw [hbe] at e0 hb HB;have Jr:=hid hbe;clear hbe;have hl:jI b=true->∀ j x,j<k+1->s.data.toList[j]?=some x->jI x.toNat=true:=by
        intro hl j x hj hx;rcases Nat.lt_or_ge j k with h | h
        · exact mM.out j x h hx
        · have:j=k:=by omega
          subst this;rw [HG.out] at hx;obtain rfl:=Option.some.inj hx;rw [HB.out];exact hl
      have hn:jI b=false->r=k:=by intro hl;refine HR.out k hk mM.out (fun x hx=>?_);rw [HG.out] at hx;obtain rfl:=Option.some.inj hx;rw [HB.out];exact hl
      have HL:=hid hl;have HN:=hid hn;clear hl hn;rcases L6 b with ⟨h1,h2⟩ | ⟨h1,h2⟩ | h1 | ⟨h1,h2⟩ | h1
      · have d0:decide ((97:Int)<=(b:Int))=true:=by simp;omega
        have d1:decide ((b:Int)<=122)=true:=by simp;omega
        have d2:decide ((65:Int)<=(b:Int))=true:=by simp;omega
        have d3:decide ((b:Int)<=90)=false:=by simp;omega
        go_wp2
        go_round
        case rel=>exact ⟨k+1,by omega,by go_num,HL.out (by unfold jI ql;simp;omega)⟩
        case measure=>simp [intOf];omega
      · have d0:decide ((97:Int)<=(b:Int))=false:=by simp;omega
        have d1:decide ((b:Int)<=122)=true:=by simp;omega
        have d2:decide ((65:Int)<=(b:Int))=true:=by simp;omega
        have d3:decide ((b:Int)<=90)=true:=by simp;omega
        go_wp2
        go_round
        case rel=>exact ⟨k+1,by omega,by go_num,HL.out (by unfold jI ql;simp;omega)⟩
        case measure=>simp [intOf];omega
      · have d0:decide ((97:Int)<=(b:Int))=false:=by simp;omega
        have d1:decide ((b:Int)<=122)=true:=by simp;omega
        have d2:decide ((65:Int)<=(b:Int))=false:=by simp;omega
        have d3:decide ((b:Int)<=90)=true:=by simp;omega
        have Q6:Hid (V=(decide (2<=k)&&decide (k<=20)&&(decide (k<s.size)&&decide (b=58))&&L&&!A)):=by show _=_;rw [HA.out,HN.out (by unfold jI ql;simp;omega),Jr.out]
        have q58:((b:Int)==58)=decide (b=58):=by rw [jp3];simp;omega
        obtain ⟨b5,Fu⟩:∃ b5,decide (b=58)=b5:=⟨_,rfl⟩;rw [Fu] at q58 Q6;clear Fu;go_wp2_with (first | (go_at_call 58;refine (CL.out _).mono ?_;rintro e w2 ⟨rfl,q,rfl⟩) | (go_at_call 315;refine (CA.out _).mono ?_;rintro e w2 ⟨rfl,hb2⟩))
        all_goals
          go_ret;refine ⟨E8 ?_,?_⟩
          · rw [Q6.out,decide_eq_true hlt]
            (try simp [*])
            (try omega)
          · first | exact (eZ (jox _ _) _).trans hb2 | exact eZ (jox _ _) _ | exact jox _ _
      · have d0:decide ((97:Int)<=(b:Int))=false:=by simp;omega
        have d1:decide ((b:Int)<=122)=true:=by simp;omega
        have d2:decide ((65:Int)<=(b:Int))=true:=by simp;omega
        have d3:decide ((b:Int)<=90)=false:=by simp;omega
        have Q6:Hid (V=(decide (2<=k)&&decide (k<=20)&&(decide (k<s.size)&&decide (b=58))&&L&&!A)):=by show _=_;rw [HA.out,HN.out (by unfold jI ql;simp;omega),Jr.out]
        have q58:((b:Int)==58)=decide (b=58):=by rw [jp3];simp;omega
        obtain ⟨b5,Fu⟩:∃ b5,decide (b=58)=b5:=⟨_,rfl⟩;rw [Fu] at q58 Q6;clear Fu;go_wp2_with (first | (go_at_call 58;refine (CL.out _).mono ?_;rintro e w2 ⟨rfl,q,rfl⟩) | (go_at_call 315;refine (CA.out _).mono ?_;rintro e w2 ⟨rfl,hb2⟩))
        all_goals
          go_ret;refine ⟨E8 ?_,?_⟩
          · rw [Q6.out,decide_eq_true hlt]
            (try simp [*])
            (try omega)
          · first | exact (eZ (jox _ _) _).trans hb2 | exact eZ (jox _ _) _ | exact jox _ _
      · have d0:decide ((97:Int)<=(b:Int))=true:=by simp;omega
        have d1:decide ((b:Int)<=122)=false:=by simp;omega
        have d2:decide ((65:Int)<=(b:Int))=true:=by simp;omega
        have d3:decide ((b:Int)<=90)=false:=by simp;omega
        have Q6:Hid (V=(decide (2<=k)&&decide (k<=20)&&(decide (k<s.size)&&decide (b=58))&&L&&!A)):=by show _=_;rw [HA.out,HN.out (by unfold jI ql;simp;omega),Jr.out]
        have q58:((b:Int)==58)=decide (b=58):=by rw [jp3];simp;omega
        obtain ⟨b5,Fu⟩:∃ b5,decide (b=58)=b5:=⟨_,rfl⟩;rw [Fu] at q58 Q6;clear Fu;go_wp2_with (first | (go_at_call 58;refine (CL.out _).mono ?_;rintro e w2 ⟨rfl,q,rfl⟩) | (go_at_call 315;refine (CA.out _).mono ?_;rintro e w2 ⟨rfl,hb2⟩))
        all_goals
          go_ret;refine ⟨E8 ?_,?_⟩
          · rw [Q6.out,decide_eq_true hlt]
            (try simp [*])
            (try omega)
          · first | exact (eZ (jox _ _) _).trans hb2 | exact eZ (jox _ _) _ | exact jox _ _
    · have Q6:Hid (V=false):=by
        show _=_;rw [HA.out,HR.out k hk mM.out (fun x hx=>by
          have:=(List.getElem?_eq_some_iff.1 hx).1;have e:s.data.toList.length=s.size:=by simp
          omega)]
        simp [hlt]
      have q:decide ((k:Int)<(s.size:Int))=false:=by simp;omega
      go_wp2;all_goals
        go_ret;refine ⟨E8 ?_,jox _ _⟩;rw [Q6.out]
        (try simp)
        (try omega)
open Go.RowKit
def xD:List UInt8:=[91,93,59,64,123,36,96]
theorem A8 (s:ByteArray):mZ s=(!iA s||!trimS s||dP s xD):=rfl
def jjk (pre suf:ByteArray) (wi:js1) (vj:Value) (wj:js1):Prop:=js2 wi.heap.size wi wj/\(vj=.int .i64 0\/(vj=.int .i64 1/\mZ pre=false)\/(vj=.int .i64 2/\mZ pre=false/\mZ suf=false))
def Vp (l:List Ci) (E:Nat) (w:js1) (vi:Value) (wr:js1):Prop:=∃ k:Nat,k<=l.length/\vi=.int .i64 k/\js2 w.heap.size w wr/\lK (l.drop k)=E
theorem xE (l:List Ci) (a:Option Addr) (cap:Nat) (w:js1) (h:Rd (·<w.heap.size) w (PE l) [.slice a l.length cap]) (hsz:∀ c∈l,c.key.size<=5000/\c.pre.size<=5000/\c.suf.size<=5000) : Calls Tryz.prog 293 #[.slice a l.length cap] w (gu (.int .i64 (kU l:Nat)) w):=by
  obtain ⟨a',c',hv,hs⟩:=Rd.aC h;obtain ⟨rfl,rfl⟩:a'=a/\c'=cap:=by simp at hv;exact ⟨hv.1.symm,hv.2.symm⟩
  have hcap:l.length<=c':=by simpa using hs.le
  have hmx:=hs.max;unfold maxLen at hmx;have HS:=hid hs;have SZ:=hid hsz;clear hs hv h hsz;by_cases h0:l.length=0
  · have hv:kU l=8:=by
      obtain rfl:=List.eq_nil_of_length_eq_zero h0;rfl
    rw [hv];have e0:((l.length:Int)==0)=true:=by rw [h0];rfl
    clear hv h0;go_enter Tryz.func293,Tryz.ntmps293;go_wp2;go_ret;exact ⟨rfl,jox _ _⟩
  have hv:kU l=lK l:=by
    cases l with
    | nil=>simp at h0
    | cons x l=>rfl
  rw [hv];have e0:((l.length:Int)==0)=false:=by rw [beq_eq_false_iff_ne];omega
  obtain ⟨E,hE⟩:∃ E,lK l=E:=⟨_,rfl⟩;rw [hE];have R0:Hid (Vp l E w (.int .i64 0) w):=⟨0,jpj _,rfl,jox _ _,hE⟩;clear hv hE h0;go_enter Tryz.func293,Tryz.ntmps293;go_wp2
  go_loopw [12] (fun i wr=>Vp l E w i wr) (fun i _=>l.length-(intOf i).toNat)
  case atStart=>exact R0.out
  case round=>
    clear R0;obtain ⟨k,hk,rfl,hbel,aU⟩:=hrel;have HB:=hid hbel;by_cases hlt:k<l.length
    · obtain ⟨x,hx⟩:∃ x,l[k]?=some x:=⟨_,joq hlt⟩
      have hxs:=SZ.out x (jpk hx);obtain ⟨b,off,rfl,-,-,c0,c1,c2,c3⟩:=PG HS.out hx;have c0:wr.cell? ⟨b,off+k*4,none⟩=some (.string x.key):=by rw [hbel.cell (p:=⟨b,off+k*4,none⟩) (jY c0)];exact c0
      have c1:wr.cell? ⟨b,off+k*4+1,none⟩=some (.string x.pre):=by rw [hbel.cell (p:=⟨b,off+k*4+1,none⟩) (jY c1)];exact c1
      have c2:wr.cell? ⟨b,off+k*4+2,none⟩=some (.string x.suf):=by rw [hbel.cell (p:=⟨b,off+k*4+2,none⟩) (jY c2)];exact c2
      have c3:wr.cell? ⟨b,off+k*4+3,none⟩=some (.bool x.bare):=by rw [hbel.cell (p:=⟨b,off+k*4+3,none⟩) (jY c3)];exact c3
      rw [NJ l k x hx,lK] at aU;obtain ⟨key,pre,suf,bare⟩:=x;dsimp only at c0 c1 c2 c3 hxs aU;have cK:=hid aU;have CN:=hid (fun w=>MV key w (by omega));clear aU hx hbel;cases hn:fO key with
      | false=>
        rw [hn] at CN;have HE:Hid (E=6):=by show E=6;have:=cK.out;rw [if_pos hn] at this;exact this.symm
        clear hn;go_wp2_with fail
        refine (CN.out _).mono ?_;rintro e w3 ⟨rfl,rfl⟩;go_wp2;go_ret;exact ⟨by rw [HE.out];rfl,HB.out.alloc HB.out.size _⟩
      | true=>
        rw [hn] at CN;have lX:Hid ((if mZ pre=true\/mZ suf=true then 17 else lK (l.drop (k+1)))=E):=by show _=_;have:=cK.out;rw [if_neg (by rw [hn];decide)] at this;exact this
        obtain ⟨wi,hwi⟩:∃ wi,wi=wr.alloc (.cells #[.string key,.string pre,.string suf,.bool bare] 126):=⟨_,rfl⟩;have HBI:Hid (js2 w.heap.size w wi):=by rw [hwi];exact HB.out.alloc HB.out.size _
        have i0:wi.cell? ⟨wr.heap.size,0,none⟩=some (.string key):=by rw [hwi];exact q16 wr [.string key,.string pre,.string suf,.bool bare] _ 0 _ rfl
        have i1:wi.cell? ⟨wr.heap.size,1,none⟩=some (.string pre):=by rw [hwi];exact q16 wr [.string key,.string pre,.string suf,.bool bare] _ 1 _ rfl
        have i2:wi.cell? ⟨wr.heap.size,2,none⟩=some (.string suf):=by rw [hwi];exact q16 wr [.string key,.string pre,.string suf,.bool bare] _ 2 _ rfl
        clear hn cK;go_upto_region 6 with (fail)
        rw [<- hwi];clear hwi c0 c1 c2 c3;have jn9:∀ wx,(Instr.index 295 (.agg #[.string pre,.string suf]) (.int .i64 0)).run Tryz.prog wx=.ok (.string pre) wx:=fun wx=>by kernel_rfl
        have jnj:∀ wx,(Instr.index 295 (.agg #[.string pre,.string suf]) (.int .i64 1)).run Tryz.prog wx=.ok (.string suf) wx:=fun wx=>by kernel_rfl
        go_wp2_with fail
        refine (CN.out _).mono ?_;rintro e w3 ⟨rfl,rfl⟩;go_wp2
        go_loopw [25] (fun j wj=>jjk pre suf wi j wj) (fun j _=>2-(intOf j).toNat)
        case atStart=>exact ⟨jox _ _,.inl rfl⟩
        case round=>
          clear i0 i1 i2;obtain ⟨hbj,hj⟩:=hrel;have Q7:=hid hbj;rcases hj with rfl | ⟨rfl,hp⟩ | ⟨rfl,hp,hsf⟩
          · have CL:=hid (fun w=>PD pre w (by omega))
            have CT:=hid (fun w=>iV pre w (by omega));have CA:=hid (fun w=>q1v pre ⟨#[91,93,59,64,123,36,96]⟩ w (by omega) jd0);have e7:(⟨#[91,93,59,64,123,36,96]⟩:ByteArray).data.toList=xD:=rfl;rw [e7] at CA;have uR:=hid (A8 pre);clear e7 hbj;cases hL:iA pre<;>cases hT:trimS pre<;>cases hA:dP pre xD
            all_goals
              rw [hL,hT,hA] at uR;rw [hL] at CL;rw [hT] at CT;rw [hA] at CA;clear hL hT hA;go_wp2_with (first | (go_at_call 58;refine (CL.out _).mono ?_;rintro e w2 ⟨rfl,q,rfl⟩) | (go_at_call 59;refine (CT.out _).mono ?_;rintro e w2 ⟨rfl,rfl⟩) | (go_at_call 315;refine (CA.out _).mono ?_;rintro e w2 ⟨rfl,hb2⟩))
              first
              | (go_ret
                 have HE:E=17:=by have:=lX.out;rw [if_pos (.inl (by rw [uR.out];rfl))] at this;exact this.symm
                 refine ⟨by rw [HE];rfl,aP (aP HBI.out Q7.out) ?_⟩;first | exact (eZ (jox _ _) _).trans hb2 | exact eZ (jox _ _) _)
              | (go_roundw
                 case rel=>exact ⟨aP Q7.out ((eZ (jox _ _) _).trans hb2),.inr (.inl ⟨by go_num,by rw [uR.out];rfl⟩)⟩
                 case measure=>simp [intOf])
          · have CL:=hid (fun w=>PD suf w (by omega))
            have CT:=hid (fun w=>iV suf w (by omega));have CA:=hid (fun w=>q1v suf ⟨#[91,93,59,64,123,36,96]⟩ w (by omega) jd0);have e7:(⟨#[91,93,59,64,123,36,96]⟩:ByteArray).data.toList=xD:=rfl;rw [e7] at CA;have uR:=hid (A8 suf);have HP:=hid hp;clear e7 hbj hp;cases hL:iA suf<;>cases hT:trimS suf<;>cases hA:dP suf xD
            all_goals
              rw [hL,hT,hA] at uR;rw [hL] at CL;rw [hT] at CT;rw [hA] at CA;clear hL hT hA;go_wp2_with (first | (go_at_call 58;refine (CL.out _).mono ?_;rintro e w2 ⟨rfl,q,rfl⟩) | (go_at_call 59;refine (CT.out _).mono ?_;rintro e w2 ⟨rfl,rfl⟩) | (go_at_call 315;refine (CA.out _).mono ?_;rintro e w2 ⟨rfl,hb2⟩))
              first
              | (go_ret
                 have HE:E=17:=by have:=lX.out;rw [if_pos (.inr (by rw [uR.out];rfl))] at this;exact this.symm
                 refine ⟨by rw [HE];rfl,aP (aP HBI.out Q7.out) ?_⟩;first | exact (eZ (jox _ _) _).trans hb2 | exact eZ (jox _ _) _)
              | (go_roundw
                 case rel=>exact ⟨aP Q7.out ((eZ (jox _ _) _).trans hb2),.inr (.inr ⟨by go_num,HP.out,by rw [uR.out];rfl⟩)⟩
                 case measure=>simp [intOf])
          · have HN:Hid (lK (l.drop (k+1))=E):=by
              show _=_;have:=lX.out;rw [if_neg (by rw [hp,hsf];simp)] at this;exact this
            clear hp hsf hbj;go_wp2;go_roundw;case rel=>exact ⟨k+1,by omega,by go_num,aP HBI.out Q7.out,HN.out⟩
            case measure=>simp [intOf];omega
    · obtain rfl:k=l.length:=by omega
      have HE:Hid (E=0):=by show E=0;rw [List.drop_length,lK] at aU;exact aU.symm
      clear aU;go_wp2;go_ret;exact ⟨by rw [HE.out];rfl,HB.out⟩
open Go.RowKit
def PI:List UInt8:=[124,123,125]
theorem L8 (s:ByteArray):jC s=(!iA s||dP s PI):=rfl
def NmR (l:List ByteArray) (w:js1) (vi:Value) (wr:js1):Prop:=∃ k:Nat,k<=l.length/\vi=.int .i64 k/\js2 w.heap.size w wr/\(l.take k).any jC=false
structure InS (t d ti:ByteArray) (a:At) (ar:List ByteArray) (ci:List Ci):Prop where
  t:t.size<=1000000
  d:d.size<=1000000
  ti:ti.size<=1000000
  at_:a.short
  ars:∀ c∈ar,c.size<=5000
  cis:∀ c∈ci,c.key.size<=5000/\c.pre.size<=5000/\c.suf.size<=5000
theorem Fv {α:Type} (p:α->Bool) {l:List α} {k:Nat} {x:α} (h:l[k]?=some x):(l.take (k+1)).any p=((l.take k).any p||p x):=by rw [List.take_add_one,h];simp
theorem PK {α:Type} (p:α->Bool) {l:List α} {k:Nat} {x:α} (h:l[k]?=some x) (hp:p x=true):l.any p=true:=List.any_eq_true.2 ⟨x,jpk h,hp⟩
theorem xG (w:js1) (b o:Nat) (k:Int) (t d ti:ByteArray) (at_:At) (ar:List ByteArray) (ci:List Ci) (ks:List aj) (ac ap aa ai ak:Option Addr) (cc cp ca oo ck:Nat) (h:Vk w b o k t d ti at_ ar ci ks ac ap aa ai ak cc cp ca oo ck) (hs:InS t d ti at_ ar ci) (hk:k=12\/k=14\/k=15) (har:k=15\/ar=[]) : Calls Tryz.prog 292 #[.pointer (some ⟨b,o,none⟩)] w (gu (.int .i64 (jk k t ti ar:Nat)) w):=by
  obtain ⟨a',c',hv,hsl⟩:=Rd.aC h.rd.args;obtain ⟨rfl,rfl⟩:a'=aa/\c'=ca:=by simp at hv;exact ⟨hv.1.symm,hv.2.symm⟩
  have hcap:ar.length<=c':=by simpa using hsl.le
  have hmx:=hsl.max;unfold maxLen at hmx;have HS:=hid hsl;have SZ:=hid hs.ars;have NT:=hid (fun w=>MV t w (by have:=hs.t;omega));obtain ⟨c0,c1,c2,c3,c4,c5,c6,c7,c8,c9⟩:=h.cells;have R0:Hid (NmR ar w (.int .i64 0) w):=⟨0,jpj _,rfl,jox _ _,by simp⟩;clear hv hsl h hs;have HE:Hid (jk k t ti ar=if fO t=false then 6 else if k=14/\eP ti=false/\ti.data.toList≠Fw then 5 else if 8<ar.length then 3 else if ar.any jC then 17 else 0):=rfl;obtain ⟨V,hV⟩:∃ V,V=jk k t ti ar:=⟨_,rfl⟩;rw [<- hV] at HE ⊢;clear hV;cases hn:fO t with
  | false=>
    rw [hn] at NT;have HV:Hid (V=6):=by show V=6;rw [HE.out,if_pos hn]
    clear hn;go_enter Tryz.func292,Tryz.ntmps292;go_wp2_with fail
    refine (NT.out _).mono ?_;rintro e w3 ⟨rfl,rfl⟩;go_wp2;go_ret;exact ⟨by rw [HV.out];rfl,jox _ _⟩
  | true=>
  rw [hn] at NT;have HE2:Hid (V=if k=14/\eP ti=false/\ti.data.toList≠Fw then 5 else if 8<ar.length then 3 else if ar.any jC then 17 else 0):=by show V=_;rw [HE.out,if_neg (by rw [hn];decide)]
  clear hn HE;rcases hk with rfl | rfl | rfl
  case' inl=>
    have h0:ar=[]:=by rcases har with h | h;(exact absurd h (by decide));exact h
    have hl0:ar.length<=8:=by rw [h0];simp
    have HL:Hid (V=if ar.any jC then 17 else 0):=by show V=_;rw [HE2.out,if_neg (by rintro ⟨h,-⟩;exact absurd h (by decide)),if_neg (by omega)]
    clear har h0 HE2
  case' inr.inl=>
    have h0:ar=[]:=by rcases har with h | h;(exact absurd h (by decide));exact h
    have hl0:ar.length<=8:=by rw [h0];simp
    clear har h0;rcases jA ti with rfl | ⟨t1,t2,t3,t4⟩
    case' inl=>
      have HL:Hid (V=if ar.any jC then 17 else 0):=by show V=_;rw [HE2.out,if_neg (by rintro ⟨-,h,-⟩;exact absurd h (by decide)),if_neg (by omega)]
      clear HE2
    case' inr=>
      have hpg:(ti.toList==[112,97,103,101])=decide (ti.data.toList=Fw):=by rw [Lib.toList_data,jp3,beq_iff_eq,decide_eq_true_iff];rfl
      by_cases hp:ti.data.toList=Fw;case neg=>
        have HV:Hid (V=5):=by show V=_;rw [HE2.out,if_pos ⟨rfl,t4,hp⟩]
        rw [decide_eq_false hp] at hpg;clear HE2 hp;go_enter Tryz.func292,Tryz.ntmps292;go_wp2_with fail
        refine (NT.out _).mono ?_;rintro e w3 ⟨rfl,rfl⟩;go_wp2;go_ret;exact ⟨by rw [HV.out];rfl,jox _ _⟩
      have HL:Hid (V=if ar.any jC then 17 else 0):=by show V=_;rw [HE2.out,if_neg (by rintro ⟨-,-,h⟩;exact h hp),if_neg (by omega)]
      rw [decide_eq_true hp] at hpg;clear HE2 hp
  case' inr.inr=>
    clear har;by_cases h8:8<ar.length
    · have HV:Hid (V=3):=by show V=_;rw [HE2.out,if_neg (by rintro ⟨h,-⟩;exact absurd h (by decide)),if_pos h8]
      have q8:decide ((8:Int)<(ar.length:Int))=true:=by simp;omega
      clear HE2;go_enter Tryz.func292,Tryz.ntmps292;go_wp2_with fail
      refine (NT.out _).mono ?_;rintro e w3 ⟨rfl,rfl⟩;go_wp2;go_ret;exact ⟨by rw [HV.out];rfl,jox _ _⟩
    have HL:Hid (V=if ar.any jC then 17 else 0):=by show V=_;rw [HE2.out,if_neg (by rintro ⟨h,-⟩;exact absurd h (by decide)),if_neg h8]
    have q8:decide ((8:Int)<(ar.length:Int))=false:=by simp;omega
    clear HE2
  all_goals
    go_enter Tryz.func292,Tryz.ntmps292;go_wp2_with fail
    refine (NT.out _).mono ?_;rintro e w3 ⟨rfl,rfl⟩;go_wp2
    go_loopw [48] (fun i wr=>NmR ar w i wr) (fun i _=>ar.length-(intOf i).toNat)
    case atStart=>exact R0.out
    case round=>
      clear R0;obtain ⟨j,hj,rfl,hbel,hno⟩:=hrel;have HB:=hid hbel;have Wp:=hid hno;by_cases hlt:j<ar.length
      · obtain ⟨x,hx⟩:∃ x,ar[j]?=some x:=⟨_,joq hlt⟩
        have hxs:=SZ.out x (jpk hx);obtain ⟨b2,off,rfl,-,-,x0⟩:=uT HS.out hx;have x0:wr.cell? ⟨b2,off+j,none⟩=some (.string x):=by rw [hbel.cell (p:=⟨b2,off+j,none⟩) (jY x0)];exact x0
        have CL:=hid (fun w=>PD x w (by omega));have CA:=hid (fun w=>q1v x ⟨#[124,123,125]⟩ w (by omega) jjj);have e7:(⟨#[124,123,125]⟩:ByteArray).data.toList=PI:=rfl;rw [e7] at CA;have uR:=hid (L8 x);have rZ:=hid (Fv jC hx);have HAT:=hid (PK jC hx);clear e7 hbel hno hx;cases hL:iA x<;>cases hA:dP x PI
        all_goals
          rw [hL,hA] at uR;rw [hL] at CL;rw [hA] at CA;clear hL hA;go_wp2_with (first | (go_at_call 58;refine (CL.out _).mono ?_;rintro e w2 ⟨rfl,q,rfl⟩) | (go_at_call 315;refine (CA.out _).mono ?_;rintro e w2 ⟨rfl,hb2⟩))
          first
          | (go_ret
             have hv:V=17:=by rw [HL.out,if_pos (HAT.out (by rw [uR.out];rfl))]
             refine ⟨by rw [hv];rfl,aP HB.out ?_⟩;first | exact (eZ (jox _ _) _).trans hb2 | exact eZ (jox _ _) _)
          | (go_roundw
             case rel=>exact ⟨j+1,by omega,by go_num,aP HB.out ((eZ (jox _ _) _).trans hb2),by rw [rZ.out,Wp.out,uR.out];rfl⟩
             case measure=>simp [intOf];omega)
      · have hv:V=0:=by
          have:=Wp.out;rw [List.take_of_length_le (by omega)] at this;rw [HL.out,if_neg (by rw [this];decide)]
        have HV:=hid hv;clear hv hno hbel;go_wp2;go_ret;exact ⟨by rw [HV.out];rfl,HB.out⟩
open Go.RowKit
theorem zy (w:js1) (b o:Nat) (k:Int) (t d ti:ByteArray) (at_:At) (ar:List ByteArray) (ci:List Ci) (ks:List aj) (ac ap aa ai ak:Option Addr) (cc cp ca oo ck:Nat) (h:Vk w b o k t d ti at_ ar ci ks ac ap aa ai ak cc cp ca oo ck) (hs:InS t d ti at_ ar ci) (hk:k=9\/k=10) : Calls Tryz.prog 291 #[.pointer (some ⟨b,o,none⟩)] w (gu (.int .i64 (gF k t d ti at_ ks:Nat)) w):=by
  have HP:=hid h;obtain ⟨s1,s2,s3,s4,-,-⟩:=hs;have LT:=hid (fun w=>AZ t w (by omega));have CD:=hid (fun w=>PD d w (by omega));have CT:=hid (fun w=>PD ti w (by omega));have AC:=hid (fun wx (hb:js2 w.heap.size w wx)=>jD at_ ac ap cc cp wx (h.rd.at_.up hb) s4);have AK:=hid (fun wx q (hb:js2 w.heap.size w wx)=>uh _ ks _ _ [9,16,12,14,13] wx.heap.size 5 ((wx.alloc (.cells #[.int .i64 9,.int .i64 16,.int .i64 12,.int .i64 14,.int .i64 13] 3)).drewN q) (joz _)
    ((h.rd.kids.up hb).up (eZ ((jox _ _).alloc (joz _) _) q)) (by simp) (Vl wx 3 9 16 12 14 13))
  simp only [jp6,List.length_nil,Nat.reduceAdd] at AK;obtain ⟨c0,c1,c2,c3,c4,c5,c6,c7,c8,c9⟩:=h.cells;have HE:Hid (gF k t d ti at_ ks=if eP t=false/\(eP d=false\/eP ti=false) then 5
  else if eP t=false/\eO t=false then 6
  else if iA d=false\/iA ti=false then 17
  else if k=9/\aj.dQ qY ks=true then 5
  else if k=10 then at_.err else 0):=rfl
  have hrk:aj.dQ [9,16,12,14,13] ks=aj.dQ qY ks:=rfl;rw [hrk] at AK;obtain ⟨V,hV⟩:∃ V,V=gF k t d ti at_ ks:=⟨_,rfl⟩
  rw [<- hV] at HE ⊢;have HD:=hid (Ct d).symm;have HT:=hid (Ct t).symm;have WJ:=hid (Ct ti).symm;generalize eO t=L at *;generalize iA d=L1 at *;generalize iA ti=L2 at *;generalize aj.dQ qY ks=K at *;generalize at_.err=E at *
  clear hV h hrk s1 s2 s3 s4;cases hT:t.toList.isEmpty<;>cases hD:d.toList.isEmpty<;>cases hTI:ti.toList.isEmpty<;>rcases hk with rfl | rfl
  all_goals
    go_enter Tryz.func291,Tryz.ntmps291;go_wp2_with (first | (go_at_call 198;refine (LT.out _).mono ?_;rintro e w2 ⟨rfl,hb1⟩;obtain ⟨p0,p1,p2,p3,p4,p5,p6,p7,p8,p9⟩:=(HP.out.up hb1).cells) | (go_at_call 58;(with_reducible refine (CD.out _).mono ?_);rintro e w2 ⟨rfl,q,rfl⟩) | (go_at_call 58;(with_reducible refine (CT.out _).mono ?_);rintro e w2 ⟨rfl,q2,rfl⟩) | (go_at_call 197;refine (AC.out _ (by first | exact eZ hb1 _ | exact eZ (jox _ _) _)).mono ?_;rintro e w2 ⟨rfl,hb3⟩) | (go_at_call 235;refine (AK.out _ _ (by first | exact hb1 | exact jox _ _)).mono ?_;rintro e w2 ⟨rfl,rfl⟩))
    all_goals
      go_ret;refine ⟨jT ?_,?_⟩
      · (try simp only [Bool.not_eq_true',Bool.not_eq_false'] at *)
        rw [HE.out,HD.out,HT.out,WJ.out,hT,hD,hTI];simp [*]
      · first
        | exact aP (eZ hb1 _) hb3 | exact aP (eZ (jox _ _) _) hb3
        | exact eZ (hb1.alloc hb1.size _) _ | exact eZ ((jox _ _).alloc (joz _) _) _
        | exact eZ hb1 _ | exact eZ (jox _ _) _ | exact hb1 | exact jox _ _
open Go.RowKit
theorem Il {k:Int} {t d ti:ByteArray} {a:At} {ar:List ByteArray} {ci:List Ci} {ks:List aj} (h:zh k t d ti a ar ci ks=true):1<=k/\k<=16/\(k=15\/ar=[]):=by
  unfold zh at h;simp only [Bool.and_eq_true,Bool.or_eq_true,decide_eq_true_eq] at h;obtain ⟨⟨⟨⟨⟨⟨⟨⟨h1,h2⟩,-⟩,-⟩,-⟩,-⟩,-⟩,h8⟩,-⟩:=h;refine ⟨h1,h2,?_⟩;rcases h8 with h | h
  · exact .inl h
  · exact .inr (by simpa using h)
theorem uN (w:js1) (b o:Nat) (k bf:Int) (t d ti:ByteArray) (at_:At) (ar:List ByteArray) (ci:List Ci) (ks:List aj) (ac ap aa ai ak:Option Addr) (cc cp ca oo ck:Nat) (h:Vk w b o k t d ti at_ ar ci ks ac ap aa ai ak cc cp ca oo ck) (hs:InS t d ti at_ ar ci) (hf:zh k t d ti at_ ar ci ks=true) : Calls Tryz.prog 268 #[.pointer (some ⟨b,o,none⟩),.int .i64 bf] w (gu (.int .i64 (su bf false false k t d ti at_ ar ci ks:Nat)) w):=by
  have HP:=hid h;obtain ⟨f1,f2,f3⟩:=Il hf;have l1:=(fE h.rd.at_.cls).2;have l2:=(fE h.rd.at_.aJ).2;obtain ⟨-,l5,m5⟩:=fE h.rd.kids;have AE:=hid (fun w=>pI at_ ac ap cc cp w (by omega) (by omega));unfold maxLen at m5;clear l1 l2;have CL:=hid (fun w=>PD t w (by have:=hs.t;omega));have AC:=hid (fun wx (hb:js2 w.heap.size w wx)=>jD at_ ac ap cc cp wx (h.rd.at_.up hb) hs.at_);have LK:=hid (zy w b o k t d ti at_ ar ci ks ac ap aa ai ak cc cp ca oo ck h hs);have NM:=hid (fun hk=>xG w b o k t d ti at_ ar ci ks ac ap aa ai ak cc cp ca oo ck h hs hk f3);have CC:=hid (xE ci ai oo w h.rd.ji hs.cis);have AD:=hid (Fq d w (by have:=hs.d;omega));have OO:=hid (kS bf [2,3] w.heap.size 2 _ (by simp) (Pt w 3 2 3));simp only [jp6,List.length_nil,Nat.reduceAdd] at OO;have hoo:([2,3]:List Int).contains bf=(decide (bf=2)||decide (bf=3)):=by rw [jp3];simp
  rw [hoo] at OO;obtain ⟨c0,c1,c2,c3,c4,c5,c6,c7,c8,c9⟩:=h.cells;have e3:=xw ks;have HE:Hid (su bf false false k t d ti at_ ar ci ks=if zh k t d ti at_ ar ci ks=false then 5
  else if k=1\/k=4\/k=5 then (if eP t=true\/iA t=false then 17 else if k≠5/\bf=k then 5 else 0)
  else if k=2 then (if bf=2\/bf=3\/false=true\/false=true then 5 else 0)
  else if k=3 then (if false=true then 5 else 0)
  else if k=6\/k=7\/k=8 then (if ks.isEmpty=true then 8 else 0)
  else if k=9\/k=10 then gF k t d ti at_ ks
  else if k=11 then (if at_.none=true then 8 else at_.err)
  else if k=12\/k=14\/k=15 then jk k t ti ar
  else if k=13 then kU ci
  else if qD d=true then 0 else 5):=rfl
  rw [hf] at HE;obtain ⟨V,hV⟩:∃ V,V=su bf false false k t d ti at_ ar ci ks:=⟨_,rfl⟩
  rw [<- hV] at HE ⊢;have HT:=hid (Ct t).symm;generalize iA t=L at *;generalize gF k t d ti at_ ks=E1 at *
  generalize at_.none=bn at *
  generalize at_.err=E2 at *
  generalize jk k t ti ar=E3 at *;generalize kU ci=E4 at *;generalize qD d=bu at *;generalize ks.isEmpty=bk at *;clear hV h hs hf hoo;rcases EZ k with rfl | rfl | rfl | rfl | rfl | rfl | rfl | rfl | rfl | rfl | rfl | rfl | rfl | rfl | rfl | rfl | hk
  case inr.inr.inr.inr.inr.inr.inr.inr.inr.inr.inr.inr.inr.inr.inr.inr=>omega
  all_goals
    go_enter Tryz.func268,Tryz.ntmps268;go_wp2_with (first | (go_at_call 58;refine (CL.out _).mono ?_;rintro e w2 ⟨rfl,q,rfl⟩) | (go_at_call 190;refine OO.out.mono ?_;rintro e w2 ⟨rfl,rfl⟩) | (go_at_call 291;refine (LK.out (by simp)).mono ?_;rintro e w2 ⟨rfl,hb3⟩) | (go_at_call 189;refine (AE.out _).mono ?_;rintro e w2 ⟨rfl,hb1⟩;obtain ⟨p0,p1,p2,p3,p4,p5,p6,p7,p8,p9⟩:=(HP.out.up hb1).cells) | (go_at_call 197;refine (AC.out _ hb1).mono ?_;rintro e w2 ⟨rfl,hb3⟩) | (go_at_call 292;refine (NM.out (by simp)).mono ?_;rintro e w2 ⟨rfl,hb3⟩) | (go_at_call 293;refine CC.out.mono ?_;rintro e w2 ⟨rfl,hb3⟩) | (go_at_call 294;refine AD.out.mono ?_;rintro e w2 ⟨rfl,hb3⟩))
    all_goals
      go_ret;refine ⟨jT ?_,?_⟩
      · (try simp only [Bool.not_eq_true',Bool.not_eq_false',beq_iff_eq,beq_eq_false_iff_ne,ne_eq] at *)
        rw [HE.out,HT.out];simp [*]
      · first
        | exact aP hb1 hb3 | exact hb3 | exact hb1
        | exact (jox _ _).alloc (joz _) _
        | exact eZ (jox _ _) _ | exact jox _ _
open Go.RowKit
def edge (k:Int) (first last:Bool):Bool:=(decide (k=2)&&first)||((decide (k=2)||decide (k=3))&&last)
theorem Fx (bf:Int) (first last:Bool) (k:Int) (t d ti:ByteArray) (a:At) (ar:List ByteArray) (ci:List Ci) (ks:List aj) (hf:zh k t d ti a ar ci ks=true) : su bf first last k t d ti a ar ci ks=if edge k first last=true then 5 else su bf false false k t d ti a ar ci ks:=by
  unfold su edge;rw [hf];simp only [Bool.true_eq_false,if_false];by_cases h1:k=1\/k=4\/k=5
  · have h2:k≠2:=by omega
    have h3:k≠3:=by omega
    simp [h1,h2,h3]
  · by_cases h2:k=2
    · subst h2
      cases first<;>cases last<;>simp
    · by_cases h3:k=3
      · subst h3
        cases first<;>cases last<;>simp
      · simp [h1,h2,h3]
theorem zD (bf:Int) (first last:Bool) (k:Int) (t d ti:ByteArray) (a:At) (ar:List ByteArray) (ci:List Ci) (ks:List aj) (hf:zh k t d ti a ar ci ks=false):su bf first last k t d ti a ar ci ks=5:=by unfold su;rw [if_pos hf]
def CJ (l:List aj) (k:Nat):Int:=if k=0 then 0 else match l[k-1]? with | some x=>x.kd | none=>0
def PL (l:List aj) (dp:Nat) (E:Nat) (w:js1) (vi:Value) (wr:js1):Prop:=∃ k:Nat,k<=l.length/\vi=.int .i64 k/\js2 w.heap.size w wr/\aj.aT (CJ l k) (decide (k=0)) dp (l.drop k)=E
theorem L9 {l:List aj} {k:Nat} {x:aj} (h:l[k]?=some x):CJ l (k+1)=x.kd:=by unfold CJ;rw [if_neg (by omega),Nat.add_sub_cancel,h]
mutual
def aj.mid:aj->Prop
  | .mk k t d ti a ar ci ks=>t.size<=1000000/\d.size<=1000000/\ti.size<=1000000/\a.short/\(∀ c∈ar,c.size<=5000)/\(∀ c∈ci,c.key.size<=5000/\c.pre.size<=5000/\c.suf.size<=5000)/\aj.fD ks
def aj.fD:List aj->Prop
  | []=>True
  | x::l=>x.mid/\aj.fD l
end
mutual
theorem aj.Im:∀ (x:aj),x.small->x.mid
  | .mk k t d ti a ar ci ks,h=>by
    rw [aj.small] at h;rw [aj.mid];obtain ⟨h1,h2,h3,h4,h5,h6,h7,h8,h9⟩:=h;exact ⟨by omega,by omega,by omega,h4,h7,h8,aj.gK ks h9⟩
theorem aj.gK:∀ (l:List aj),aj.aG l->aj.fD l
  | [],_=>by rw [aj.fD];trivial
  | x::l,h=>by
    rw [aj.aG] at h;rw [aj.fD];exact ⟨aj.Im x h.1,aj.gK l h.2⟩
end
theorem aj.ng:∀ {l:List aj} {k:Nat} {x:aj},aj.fD l->l[k]?=some x->x.mid
  | [],_,_,_,h=>by simp at h
  | y::l,0,x,hb,h=>by simp at h;subst h;rw [aj.fD] at hb;exact hb.1
  | y::l,k+1,x,hb,h=>by rw [aj.fD] at hb;exact aj.ng (l:=l) (k:=k) hb.2 (by simpa using h)
theorem Tp {kd:Int} {t d ti:ByteArray} {at_:At} {ar:List ByteArray} {ci:List Ci} {ks:List aj} (h:(aj.mk kd t d ti at_ ar ci ks).mid):InS t d ti at_ ar ci/\aj.fD ks:=by unfold aj.mid at h;obtain ⟨h1,h2,h3,h4,h7,h8,h9⟩:=h;exact ⟨⟨h1,h2,h3,h4,h7,h8⟩,h9⟩
theorem Ma (bf:Int) (st:Bool) (dp:Nat) (k:Int) (t d ti:ByteArray) (a:At) (ar:List ByteArray) (ci:List Ci) (ks:List aj) (l:List aj) (Tq:¬ 15<dp) : aj.aT bf st dp (aj.mk k t d ti a ar ci ks::l)=if zh k t d ti a ar ci ks=false then 5 else if edge k (decide (dp=0)&&st) (decide (dp=0)&&l.isEmpty)=true then 5 else if su bf false false k t d ti a ar ci ks≠0 then su bf false false k t d ti a ar ci ks else if aj.aT 0 true (dp+1) ks≠0 then aj.aT 0 true (dp+1) ks else aj.aT k false dp l:=by
  rw [aj.aT,if_neg Tq,aj.err];cases hf:zh k t d ti a ar ci ks with
  | false=>rw [zD _ _ _ _ _ _ _ _ _ _ _ hf];simp
  | true=>
    rw [Fx bf _ _ k t d ti a ar ci ks hf];cases he:edge k (decide (dp=0)&&st) (decide (dp=0)&&l.isEmpty) with
    | true=>simp
    | false=>
      simp only [Bool.true_eq_false,Bool.false_eq_true,if_false];by_cases h1:su bf false false k t d ti a ar ci ks=0
      · simp only [h1,ne_eq,not_true_eq_false,if_false]
        rfl
      · simp only [ne_eq,h1,not_false_eq_true,if_true]
theorem Tt (k:Int) (zd st lb:Bool):edge k (zd&&st) (zd&&lb)=(zd&&((k==2)&&st||((k==2)||(k==3))&&lb)):=by
  unfold edge;have h2:decide (k=2)=(k==2):=by rw [jp3];simp
  have h3:decide (k=3)=(k==3):=by rw [jp3];simp
  rw [h2,h3];cases (k==2)<;>cases (k==3)<;>cases zd<;>cases st<;>cases lb<;>rfl
theorem PN {w:js1} {l:List aj} {a:Option Addr} {cap:Nat} (h:rU (·<w.heap.size) w 10 (l.map aj.d) a cap) {k:Nat} {kd:Int} {t d ti:ByteArray} {at_:At} {ar:List ByteArray} {ci:List Ci} {ks:List aj} (hk:l[k]?=some (.mk kd t d ti at_ ar ci ks)) : ∃ b off ac ap aa ai ak cc cp ca oo ck,a=some ⟨b,off,none⟩/\Vk w b (off+k*10) kd t d ti at_ ar ci ks ac ap aa ai ak cc cp ca oo ck:=by
  obtain ⟨b,off,vc,vp,va,vi,vk,rfl,hok,hbl,hc,hR⟩:=iL h hk;obtain ⟨a1,c1,h1,-⟩:=hR.at_.cls.aC
  obtain ⟨a2,c2,h2,-⟩:=hR.at_.aJ.aC
  obtain ⟨a3,c3,h3,-⟩:=hR.args.aC;obtain ⟨a4,c4,h4,-⟩:=hR.ji.aC;obtain ⟨a5,c5,h5,-⟩:=hR.kids.aC;simp only [List.length_map,List.cons.injEq,and_true] at h1 h2 h3 h4 h5;subst h1 h2 h3 h4 h5;exact ⟨b,off,a1,a2,a3,a4,a5,c1,c2,c3,c4,c5,rfl,hc,hR,hbl⟩
theorem sU (n:Nat):∀ (l:List aj) (dp:Nat) (a:Option Addr) (cap:Nat) (w:js1),aj.aX l<=n->dp<=1000000->aj.fD l->Rd (·<w.heap.size) w (fK l) [.slice a l.length cap] -> Calls Tryz.prog 231 #[.slice a l.length cap,.int .i64 (dp:Int)] w (gu (.int .i64 (aj.aT 0 true dp l:Nat)) w):=by
  induction n using Nat.strongRecOn with
  | _ n ih=>
    intro l dp a cap w hn hdp hsm h;obtain ⟨a',c',hv,hs⟩:=Rd.aC h;obtain ⟨rfl,rfl⟩:a'=a/\c'=cap:=by simp at hv;exact ⟨hv.1.symm,hv.2.symm⟩
    have hcap:l.length<=c':=by simpa using hs.le
    have hmx:=hs.max;unfold maxLen at hmx;have HS:=hid hs;have IH:=hid ih;have SM:=hid hsm;obtain ⟨E,hE⟩:∃ E,aj.aT 0 true dp l=E:=⟨_,rfl⟩;rw [hE];have R0:Hid (PL l dp E w (.int .i64 0) w):=⟨0,jpj _,rfl,jox _ _,hE⟩;clear hs hv h ih hsm hE;by_cases Tq:15<dp
    · have q15:decide ((15:Int)<(dp:Int))=true:=by simp;omega
      go_enter Tryz.func231,Tryz.ntmps231;go_wp2
      go_loopw [12] (fun i wr=>PL l dp E w i wr) (fun i _=>l.length-(intOf i).toNat)
      case atStart=>exact R0.out
      case round=>
        clear R0;obtain ⟨k,hk,rfl,hbel,aU⟩:=hrel;have HB:=hid hbel;by_cases hlt:k<l.length
        · obtain ⟨x,hx⟩:∃ x,l[k]?=some x:=⟨_,joq hlt⟩
          have HE:Hid (E=11):=by show E=11;rw [<- aU,NJ l k x hx,aj.aT,if_pos Tq]
          clear aU hx;go_wp2;go_ret;exact ⟨by rw [HE.out];rfl,HB.out⟩
        · have HE:Hid (E=0):=by
            show E=0;rw [<- aU,List.drop_of_length_le (by omega),aj.aT]
          clear aU;go_wp2;go_ret;exact ⟨by rw [HE.out];rfl,HB.out⟩
    · have q15:decide ((15:Int)<(dp:Int))=false:=by simp;omega
      go_enter Tryz.func231,Tryz.ntmps231;go_wp2
      go_loopw [12] (fun i wr=>PL l dp E w i wr) (fun i _=>l.length-(intOf i).toNat)
      case atStart=>exact R0.out
      case round=>
        clear R0;obtain ⟨k,hk,rfl,hbel,aU⟩:=hrel;have HB:=hid hbel;by_cases hlt:k<l.length
        · obtain ⟨x,hx⟩:∃ x,l[k]?=some x:=⟨_,joq hlt⟩
          have hbs:=L9 hx;have hxs:x.mid:=aj.ng SM.out hx;have hsz:=aj.bP l k _ hx;rw [NJ l k x hx] at aU;have hle:(l.drop (k+1)).isEmpty=((k:Int)==(l.length:Int)-1):=by rw [jp3];simp;omega
          obtain ⟨kd,t,d,ti,at_,ar,ci,ks⟩:=x;rw [aj.sz] at hsz;obtain ⟨hins,hks⟩:=Tp hxs;rw [Ma _ _ _ _ _ _ _ _ _ _ _ _ Tq,Tt,hle] at aU;have hbk:CJ l (k+1)=kd:=hbs;obtain ⟨b,off,ac,ap,aa,ai,ak,cc,cp,ca,oo,ck,ha,hP0⟩:=PN HS.out hx;have hP:=hP0.up hbel;have Xu:Hid (k≠0->∃ kv,wr.cell? ⟨b,off+(k-1)*10,none⟩=some (.int .i64 kv)/\CJ l k=kv):=by
            intro hk0;obtain ⟨y,hy⟩:∃ y,l[k-1]?=some y:=⟨_,joq (show k-1<l.length by omega)⟩;obtain ⟨kv,t',d',YR,at',ar',ci',ks'⟩:=y;obtain ⟨b',off',ac',ap',aa',ai',ak',cc',cp',ca',jnk,ck',ha',hP'⟩:=PN HS.out hy;rw [ha] at ha';injection ha' with ha'
            injection ha' with e1 e2 e3
            subst e1 e2;refine ⟨kv,(hP'.up hbel).cells.c0,?_⟩;unfold CJ;rw [if_neg hk0,hy];rfl
          subst ha;have HBK:=hid hbk;have HZ0:Hid (k=0->CJ l k=0):=fun h=>by unfold CJ;rw [if_pos h]
          obtain ⟨bf,hbf⟩:∃ bf,CJ l k=bf:=⟨_,rfl⟩;rw [hbf] at aU Xu HZ0;have HP:=hid hP;have Nf:=hid (sP wr b (off+k*10) kd t d ti at_ ar ci ks ac ap aa ai ak cc cp ca oo ck hP);have CI:=hid (fun wx (hb:js2 wr.heap.size wr wx) hf=>uN wx b (off+k*10) kd bf t d ti at_ ar ci ks ac ap aa ai ak cc cp ca oo ck (hP.up hb) hins hf);have CK:=hid (fun wx (hb:js2 wr.heap.size wr wx)=>IH.out (aj.aX ks) (by omega) ks (dp+1) ak ck wx (joz _) (by omega) hks (hP.up hb).rd.kids);have cK:=hid aU;clear hbs hxs hsz hle hins hks hbk hP hP0 hbf aU hx hbel;have OO:=hid (fun wx:js1=>kS kd [2,3] wx.heap.size 2 _ (by simp) (Pt wx 3 2 3));simp only [jp6,List.length_nil,Nat.reduceAdd] at OO;have hoo:([2,3]:List Int).contains kd=((kd==2)||(kd==3)):=by rw [jp3];simp
          rw [hoo] at OO;obtain ⟨ed,hed⟩:∃ ed,(decide (dp=0)&&((kd==2)&&decide (k=0)||((kd==2)||(kd==3))&&((k:Int)==(l.length:Int)-1)))=ed:=⟨_,rfl⟩;rw [hed] at cK;have HED:=hid hed;have z1:((dp:Int)==0)=decide (dp=0):=by rw [jp3];simp
          have z3:((k:Int)==0)=decide (k=0):=by rw [jp3];simp
          have Z1:=hid z1;have Z3:=hid z3;clear hoo hed z1 z3
          go_upto_if 18 with (fail)
          go_cut [6] (fun s6 wx=>s6=.int .i64 bf/\wr=wx)
          case first=>
            clear OO HED cK CK CI Nf HP Z1 Z3;cases k with
            | zero=>
              have hb0:=HZ0.out rfl;have HB0:=hid hb0;clear hb0 Xu HZ0;go_wp2_with fail
              go_meet
              exact ⟨by rw [HB0.out],rfl⟩
            | succ j=>
              obtain ⟨kv,hcell,hkv⟩:=Xu.out (by omega);rw [Nat.add_sub_cancel] at hcell;have HKV:=hid hkv;clear hkv Xu HZ0;go_wp2_with fail
              go_meet
              exact ⟨by rw [HKV.out],rfl⟩
          case rest=>
            obtain ⟨rfl,rfl⟩:=hcut;clear Xu HZ0;cases hf:zh kd t d ti at_ ar ci ks with
            | false=>
              rw [hf] at Nf;have HE:Hid (E=5):=by show E=5;have:=cK.out;rw [if_pos hf] at this;exact this.symm
              clear hf;go_wp2_with fail
              refine Nf.out.mono ?_;rintro e w2 ⟨rfl,hb2⟩;go_wp2;go_ret;exact ⟨by rw [HE.out];rfl,aP HB.out hb2⟩
            | true=>
              rw [hf] at Nf;have lX:Hid ((if ed=true then 5 else if su bf false false kd t d ti at_ ar ci ks≠0 then su bf false false kd t d ti at_ ar ci ks else if aj.aT 0 true (dp+1) ks≠0 then aj.aT 0 true (dp+1) ks else aj.aT kd false dp (l.drop (k+1)))=E):=by show _=_;have:=cK.out;rw [if_neg (by rw [hf];decide)] at this;exact this
              have Y2:=hid (fun wx hb=>CI.out wx hb hf);clear hf cK CI;go_wp2_with fail
              refine Nf.out.mono ?_;rintro e w2 ⟨rfl,hb2⟩;have HB2:=hid hb2;obtain ⟨p0,p1,p2,p3,p4,p5,p6,p7,p8,p9⟩:=(HP.out.up hb2).cells;go_upto_region 12 with (fail)
              go_cut [58] (fun s58 wx=>s58=.bool ed/\js2 w2.heap.size w2 wx)
              case first=>
                have z1:=Z1.out;have z3:=Z3.out;have OW:=hid (OO.out w2);have XL:=HED.out;obtain ⟨zd,hzd⟩:∃ zd,decide (dp=0)=zd:=⟨_,rfl⟩;obtain ⟨st,hst⟩:∃ st,decide (k=0)=st:=⟨_,rfl⟩;obtain ⟨b2,hb2'⟩:∃ b2,(kd==2)=b2:=⟨_,rfl⟩;obtain ⟨b3,XM⟩:∃ b3,(kd==3)=b3:=⟨_,rfl⟩;obtain ⟨lb,hlb⟩:∃ lb,((k:Int)==(l.length:Int)-1)=lb:=⟨_,rfl⟩;rw [hzd,hst,hb2',XM,hlb] at XL;rw [hzd] at z1;rw [hst] at z3;rw [hb2',XM] at OW;have jjq:=hid XL;clear XL hzd hst XM OO HED lX CK Y2 Nf Z1 Z3 hb2;cases zd<;>cases b2<;>cases st<;>cases b3<;>cases lb
                all_goals
                  go_wp2_with (go_at_call 190;refine OW.out.mono ?_;rintro e w3 ⟨rfl,rfl⟩)
                  go_meet
                  exact ⟨by rw [<- jjq.out];rfl,by first | exact (jox _ _).alloc (joz _) _ | exact jox _ _⟩
              case rest=>
                obtain ⟨rfl,hbx⟩:=hcut;have vv:=hid (aP HB2.out hbx);clear p0 p1 p2 p3 p4 p5 p6 p7 p8 p9 hbx hb2;cases ed with
                | true=>
                  have HE:Hid (E=5):=by show E=5;have:=lX.out;rw [if_pos rfl] at this;exact this.symm
                  go_wp2;go_ret;exact ⟨by rw [HE.out];rfl,aP HB.out vv.out⟩
                | false=>
                  have xH:Hid ((if su bf false false kd t d ti at_ ar ci ks≠0 then su bf false false kd t d ti at_ ar ci ks else if aj.aT 0 true (dp+1) ks≠0 then aj.aT 0 true (dp+1) ks else aj.aT kd false dp (l.drop (k+1)))=E):=by show _=_;have:=lX.out;rw [if_neg (by decide)] at this;exact this
                  have Tv:=hid (Y2.out _ vv.out);clear lX Y2;generalize su bf false false kd t d ti at_ ar ci ks=E1 at *
                  generalize aj.aT 0 true (dp+1) ks=E2 at *;by_cases h1:E1=0
                  · have JZ:Hid ((if E2≠0 then E2 else aj.aT kd false dp (l.drop (k+1)))=E):=by
                      show _=_;have:=xH.out;rw [if_neg (by simpa using h1)] at this;exact this
                    subst h1;go_wp2_with fail
                    refine Tv.out.mono ?_;rintro e w4 ⟨rfl,hb4⟩;have yK:=hid (aP vv.out hb4);obtain ⟨p0,p1,p2,p3,p4,p5,p6,p7,p8,p9⟩:=(HP.out.up yK.out).cells;have Tw:=hid (CK.out _ yK.out);clear Tv hb4 CK xH;by_cases h2:E2=0
                    · have XO:Hid (aj.aT kd false dp (l.drop (k+1))=E):=by
                        show _=_;have:=JZ.out;rw [if_neg (by simpa using h2)] at this;exact this
                      subst h2;go_wp2_with fail
                      refine Tw.out.mono ?_;rintro e w5 ⟨rfl,hb5⟩;have uU:=hid (aP yK.out hb5);clear Tw hb5;go_wp2;go_roundw;case rel=>exact ⟨k+1,by omega,by go_num,aP HB.out uU.out,by rw [HBK.out,decide_eq_false (by omega)];exact XO.out⟩
                      case measure=>simp [intOf];omega
                    · have XO:Hid (E=E2):=by
                        show _=_;have:=JZ.out;rw [if_pos h2] at this;exact this.symm
                      have hn2:((E2:Int) != 0)=true:=by rw [bne_iff_ne];omega
                      clear h2;go_wp2_with fail
                      refine Tw.out.mono ?_;rintro e w5 ⟨rfl,hb5⟩;have uU:=hid (aP yK.out hb5);clear Tw hb5;go_wp2;go_ret;exact ⟨by rw [XO.out];rfl,aP HB.out uU.out⟩
                  · have JZ:Hid (E=E1):=by
                      show _=_;have:=xH.out;rw [if_pos h1] at this;exact this.symm
                    have hn1:((E1:Int) != 0)=true:=by rw [bne_iff_ne];omega
                    clear h1;go_wp2_with fail
                    refine Tv.out.mono ?_;rintro e w4 ⟨rfl,hb4⟩;have yK:=hid (aP vv.out hb4);clear Tv hb4;go_wp2;go_ret;exact ⟨by rw [JZ.out];rfl,aP HB.out yK.out⟩
        · have HE:Hid (E=0):=by
            show E=0;rw [<- aU,List.drop_of_length_le (by omega),aj.aT]
          clear aU;go_wp2;go_ret;exact ⟨by rw [HE.out];rfl,HB.out⟩
open Go.RowKit
theorem qZ (l:List aj) (a:Option Addr) (cap:Nat) (w:js1) (hsm:aj.fD l) (h:Rd (·<w.heap.size) w (fK l) [.slice a l.length cap]) : Calls Tryz.prog 191 #[.slice a l.length cap] w (gu (.int .i64 (dK l:Nat)) w):=by
  have CK:=hid (sU _ l 0 a cap w (joz _) (by omega) hsm h);change Hid (Calls _ _ _ _ (gu (.int .i64 (dK l:Nat)) w)) at CK;generalize dK l=E at *;clear h hsm;go_enter Tryz.func191,Tryz.ntmps191;go_wp2_with fail
  refine CK.out.mono ?_;rintro e w1 ⟨rfl,hb⟩;go_wp2;go_ret;exact ⟨rfl,hb⟩
def nu (l:List aj):Nat:=if aj.dQ kV l=true then 5 else dK l
theorem jU (l:List aj) (a:Option Addr) (cap:Nat) (w:js1) (hsm:aj.fD l) (h:Rd (·<w.heap.size) w (fK l) [.slice a l.length cap]) : Calls Tryz.prog 196 #[.slice a l.length cap] w (gu (.int .i64 (nu l:Nat)) w):=by
  have hb0:js2 w.heap.size w (w.alloc (.cells #[.int .i64 2,.int .i64 3] 3)):=(jox _ _).alloc (joz _) _;have AK:=hid (uh _ l _ _ [2,3] w.heap.size 2 _ (joz _) (h.up hb0) (by simp) (Pt w 3 2 3));simp only [jp6,List.length_nil,Nat.reduceAdd] at AK;have hrk:aj.dQ [2,3] l=aj.dQ kV l:=rfl;rw [hrk] at AK;have LE:=hid (qZ l a cap _ hsm (h.up hb0));have HE:Hid (nu l=if aj.dQ kV l=true then 5 else dK l):=rfl;generalize nu l=V at *;generalize dK l=E at *;generalize aj.dQ kV l=K at *;have HB:=hid hb0;clear h hsm hrk hb0;cases K
  all_goals
    go_enter Tryz.func196,Tryz.ntmps196;go_wp2_with (first | (go_at_call 235;refine AK.out.mono ?_;rintro e w2 ⟨rfl,rfl⟩) | (go_at_call 191;refine LE.out.mono ?_;rintro e w2 ⟨rfl,hb2⟩))
    go_ret;refine ⟨by rw [HE.out];rfl,?_⟩;first | exact aP HB.out hb2 | exact HB.out
def ru (lv:Int) (a:At) (li:List aj):Nat:=if lv<1\/6<lv then 9 else if a.err≠0 then a.err else nu li
theorem zF (w:js1) (b o:Nat) (k lv:Int) (i t d ti:ByteArray) (at_:At) (li:List aj) (ks:List ah) (ac ap al ak:Option Addr) (cc cp cl ck:Nat) (h:Q5 w b o k lv i t d ti at_ li ks ac ap al ak cc cp cl ck) (ha:at_.short) (hsm:aj.fD li) : Calls Tryz.prog 192 #[.pointer (some ⟨b,o,none⟩)] w (gu (.int .i64 (ru lv at_ li:Nat)) w):=by
  have HP:=hid h;have AC:=hid (jD at_ ac ap cc cp w h.rd.at_ ha);have UE:=hid (fun wx (hb:js2 w.heap.size w wx)=>jU li al cl wx hsm (h.rd.line.up hb));obtain ⟨c0,c1,c2,c3,c4,c5,c6,c7,c8,c9,c10⟩:=h.cells;have HE:Hid (ru lv at_ li=if lv<1\/6<lv then 9 else if at_.err≠0 then at_.err else nu li):=rfl;generalize ru lv at_ li=V at *
  generalize at_.err=E at *
  generalize nu li=U at *;clear h ha hsm;by_cases hlv:lv<1\/6<lv
  · have HV:Hid (V=9):=by show V=9;rw [HE.out,if_pos hlv]
    clear HE;rcases hlv with hlv | hlv
    all_goals
      go_enter Tryz.func192,Tryz.ntmps192;go_wp2;go_ret;exact ⟨by rw [HV.out];rfl,jox _ _⟩
  · have HV:Hid (V=if E≠0 then E else U):=by show V=_;rw [HE.out,if_neg hlv]
    have g1:1<=lv:=by omega
    have g2:lv<=6:=by omega
    clear hlv HE;by_cases h1:E=0
    · subst h1
      go_enter Tryz.func192,Tryz.ntmps192;go_wp2_with fail
      refine AC.out.mono ?_;rintro e w2 ⟨rfl,hb2⟩;obtain ⟨p0,p1,p2,p3,p4,p5,p6,p7,p8,p9,Gz⟩:=(HP.out.up hb2).cells;go_wp2_with fail
      refine (UE.out _ hb2).mono ?_;rintro e w3 ⟨rfl,hb3⟩;go_wp2;go_ret;exact ⟨by rw [HV.out];rfl,aP hb2 hb3⟩
    · have hn:((E:Int) != 0)=true:=by rw [bne_iff_ne];omega
      have Y3:Hid (V=E):=by show V=E;rw [HV.out,if_pos h1]
      clear h1 HV;go_enter Tryz.func192,Tryz.ntmps192;go_wp2_with fail
      refine AC.out.mono ?_;rintro e w2 ⟨rfl,hb2⟩;go_wp2;go_ret;exact ⟨by rw [Y3.out];rfl,hb2⟩
theorem Io (p:UInt8->Bool):∀ l:List UInt8,l.dropWhile p=[]↔l.all p=true
  | []=>by simp
  | x::l=>by
    rw [List.dropWhile_cons,List.all_cons];cases p x with
    | true=>simpa using Io p l
    | false=>simp
theorem Tx (p:UInt8->Bool) (l:List UInt8):∀ x∈l.takeWhile p,p x=true:=by
  induction l with
  | nil=>simp
  | cons y l ih=>
    intro x hx;rw [List.takeWhile_cons] at hx;cases h:p y with
    | true=>
      rw [h] at hx;simp at hx;rcases hx with rfl | hx
      · exact h
      · exact ih x hx
    | false=>rw [h] at hx;simp at hx
theorem Mc (l cs:List UInt8):Lib.trimS l cs=[]↔l.all (fun c=>cs.contains c)=true:=by
  unfold Lib.trimS Lib.trimLeftS Lib.trimRightS;rw [Io];constructor
  · intro h
    rw [List.all_reverse] at h;have h2:=(List.takeWhile_append_dropWhile (p:=fun c=>cs.contains c) (l:=l.reverse));have h3:(l.reverse).all (fun c=>cs.contains c)=true:=by rw [<- h2,List.all_append,Bool.and_eq_true];exact ⟨List.all_eq_true.2 (fun x hx=>(Tx _ _ x hx)),h⟩
    rwa [List.all_reverse] at h3
  · intro h
    have h3:(l.reverse).all (fun c=>cs.contains c)=true:=by rwa [List.all_reverse]
    rw [(Io _ _).2 h3];rfl
open Go.RowKit
def uj:List UInt8:=[45,108,99,114]
def Vq (ks:List ah) (n:Nat) (w:js1) (vi:Value) (wr:js1):Prop:=∃ k:Nat,k<=ks.length/\vi=.int .i64 k/\js2 w.heap.size w wr/\(ks.take k).any (fun b=>!decide (b.Fy=n))=false
theorem PO {w:js1} {l:List ah} {a:Option Addr} {cap:Nat} (h:rU (·<w.heap.size) w 11 (l.map ah.d) a cap) {k:Nat} {kd lv:Int} {i t d ti:ByteArray} {at_:At} {li:List aj} {ks:List ah} (hk:l[k]?=some (.mk kd lv i t d ti at_ li ks)) : ∃ b off ac ap al ak cc cp cl ck,a=some ⟨b,off,none⟩/\Q5 w b (off+k*11) kd lv i t d ti at_ li ks ac ap al ak cc cp cl ck:=by
  obtain ⟨b,off,vc,vp,vl,vk,rfl,hok,hbl,hc,hR⟩:=dH h hk;obtain ⟨a1,c1,h1,-⟩:=hR.at_.cls.aC
  obtain ⟨a2,c2,h2,-⟩:=hR.at_.aJ.aC
  obtain ⟨a3,c3,h3,-⟩:=hR.line.aC;obtain ⟨a5,c5,h5,-⟩:=hR.kids.aC;simp only [List.length_map,List.cons.injEq,and_true] at h1 h2 h3 h5;subst h1 h2 h3 h5;exact ⟨b,off,a1,a2,a3,a5,c1,c2,c3,c5,rfl,hc,hR,hbl⟩
theorem XP (l:List UInt8):(⟨l.toArray⟩:ByteArray)=ByteArray.empty↔l=[]:=by
  constructor
  · intro h
    have:=congrArg (fun b:ByteArray=>b.data.toList) h;simpa using this
  · rintro rfl;rfl
theorem xI (w:js1) (b o:Nat) (k lv:Int) (i t d ti:ByteArray) (at_:At) (li:List aj) (ks:List ah) (ac ap al ak:Option Addr) (cc cp cl ck:Nat) (h:Q5 w b o k lv i t d ti at_ li ks ac ap al ak cc cp cl ck) (hi:i.size<=1000000000) : Calls Tryz.prog 195 #[.pointer (some ⟨b,o,none⟩)] w (gu (.int .i64 (jw i ks:Nat)) w):=by
  have HP:=hid h;obtain ⟨a',c',hv,hs⟩:=Rd.aC h.rd.kids;obtain ⟨rfl,rfl⟩:a'=ak/\c'=ck:=by simp at hv;exact ⟨hv.1.symm,hv.2.symm⟩
  have hcap:ks.length<=c':=by simpa using hs.le
  have hmx:=hs.max;unfold maxLen at hmx;have HS:=hid hs;have e3:=xw ks;have h116:(Tryz.prog.info? 228).map (fun i=>(i.zero,i.size))=some (some (.agg (Array.replicate 256 (.bool false))),256):=by kernel_rfl
  have TR:=hid (fun w=>Any.strings_Trim_laid Tryz.lays160 h116 i ⟨#[45,108,99,114]⟩ w (by omega) (by decide) (ascii_of_all (by decide)));have HTR:Hid (∀ w,Calls Tryz.prog 234 #[.string i,.string ⟨#[45,108,99,114]⟩] w fun e w'=>e=.returned (.string ⟨(Lib.trimS i.data.toList uj).toArray⟩)/\js2 w.heap.size w w'):=TR.out;have HN:=hid (Mc i.data.toList uj);have HBN:=hid (XP (Lib.trimS i.data.toList uj));have HE:Hid (jw i ks=if 32<i.size then 3 else if eP i=true then 5 else if i.data.toList.any (fun c=>!(uj:List UInt8).contains c) then 5
      else if ks.isEmpty=true then 8 else if ks.any (fun b=>!decide (b.Fy=i.size)) then 15 else 0):=rfl
  obtain ⟨c0,c1,c2,c3,c4,c5,c6,c7,c8,c9,c10⟩:=h.cells;generalize jw i ks=V at *;obtain ⟨trs,jd1⟩:∃ trs,trs=(⟨(Lib.trimS i.data.toList uj).toArray⟩:ByteArray):=⟨_,rfl⟩;rw [<- jd1] at HTR HBN;clear hv hs h TR jd1 h116;by_cases h32:32<i.size
  · have HV:Hid (V=3):=by show V=3;rw [HE.out,if_pos h32]
    have q:decide ((32:Int)<(i.size:Int))=true:=by simp;omega
    clear HE;go_enter Tryz.func195,Tryz.ntmps195;go_wp2;go_ret;exact ⟨by rw [HV.out];rfl,jox _ _⟩
  have q:decide ((32:Int)<(i.size:Int))=false:=by simp;omega
  rcases jA i with rfl | ⟨i1,i2,i3,i4⟩
  · have HV:Hid (V=5):=by show V=5;rw [HE.out,if_neg h32,if_pos (by decide)]
    clear HE;go_enter Tryz.func195,Tryz.ntmps195;go_wp2;go_ret;exact ⟨by rw [HV.out];rfl,jox _ _⟩
  have hany:(i.data.toList.any fun c=>!(uj:List UInt8).contains c)=!(i.data.toList.all fun c=>(uj:List UInt8).contains c):=by rw [List.all_eq_not_any_not];simp
  cases hal:i.data.toList.all fun c=>(uj:List UInt8).contains c with
  | false=>
    have HV:Hid (V=5):=by show V=5;rw [HE.out,if_neg h32,if_neg (by rw [i4];decide),if_pos (by rw [hany,hal];rfl)]
    have hne:trs≠ByteArray.empty:=fun e=>by
      have:=HN.out.1 (HBN.out.1 e);rw [hal] at this;cases this
    rcases jA trs with e | ⟨t1,t2,t3,t4⟩
    · exact absurd e hne
    clear HE HN HBN hne hany hal;go_enter Tryz.func195,Tryz.ntmps195;go_wp2_with fail
    refine (HTR.out _).mono ?_;rintro e w2 ⟨rfl,hb2⟩;go_wp2;go_ret;exact ⟨by rw [HV.out];rfl,hb2⟩
  | true=>
    have he:trs=ByteArray.empty:=HBN.out.2 (HN.out.2 hal);subst he;have HV:Hid (V=if ks.isEmpty=true then 8 else if ks.any (fun b=>!decide (b.Fy=i.size)) then 15 else 0):=by show V=_;rw [HE.out,if_neg h32,if_neg (by rw [i4];decide),if_neg (by rw [hany,hal];decide)]
    clear HE HN HBN hany hal;cases hk0:ks.isEmpty with
    | true=>
      rw [hk0] at e3;have Y3:Hid (V=8):=by show V=8;rw [HV.out,if_pos hk0]
      clear hk0;go_enter Tryz.func195,Tryz.ntmps195;go_wp2_with fail
      refine (HTR.out _).mono ?_;rintro e w2 ⟨rfl,hb2⟩;obtain ⟨p0,p1,p2,p3,p4,p5,p6,p7,p8,p9,Gz⟩:=(HP.out.up hb2).cells;go_wp2;go_ret;exact ⟨by rw [Y3.out];rfl,hb2⟩
    | false=>
      rw [hk0] at e3;have Y3:Hid (V=if ks.any (fun b=>!decide (b.Fy=i.size)) then 15 else 0):=by show V=_;rw [HV.out,if_neg (by rw [hk0];decide)]
      clear hk0 HV;go_enter Tryz.func195,Tryz.ntmps195;go_wp2_with fail
      refine (HTR.out _).mono ?_;rintro e w2 ⟨rfl,hb2⟩;obtain ⟨p0,p1,p2,p3,p4,p5,p6,p7,p8,p9,Gz⟩:=(HP.out.up hb2).cells;have R0:Hid (Vq ks i.size w (.int .i64 0) w2):=⟨0,jpj _,rfl,hb2,by simp⟩;clear hb2;go_wp2
      go_loopw [34] (fun i' wr=>Vq ks i.size w i' wr) (fun i' _=>ks.length-(intOf i').toNat)
      case atStart=>exact R0.out
      case round=>
        clear R0 p0 p1 p2 p3 p4 p5 p6 p7 p8 p9 Gz;obtain ⟨j,hj,rfl,hbel,hno⟩:=hrel;have HB:=hid hbel;have Wp:=hid hno;by_cases hlt:j<ks.length
        · obtain ⟨x,hx⟩:∃ x,ks[j]?=some x:=⟨_,joq hlt⟩
          have rZ:=hid (Fv (fun b:ah=>!decide (b.Fy=i.size)) hx);have HAT:=hid (PK (fun b:ah=>!decide (b.Fy=i.size)) hx);obtain ⟨kd',lv',i',t',d',YR,at',Xk,ks'⟩:=x;obtain ⟨b',off',ac',ap',al',ak',cc',cp',cl',ck',ha',hP'⟩:=PO HS.out hx;have k10:=(hP'.up hbel).cells.c10;obtain ⟨p0,p1,p2,p3,p4,p5,p6,p7,p8,p9,Gz⟩:=(HP.out.up hbel).cells;subst ha';have Z0:Hid ((ah.mk kd' lv' i' t' d' YR at' Xk ks').Fy=ks'.length):=rfl;clear hP' hx hno hbel;by_cases hq:ks'.length=i.size
          · have q1:((ks'.length:Int) != (i.size:Int))=false:=by rw [bne_eq_false_iff_eq];omega
            have HQ:=hid hq;clear hq;go_wp2_with fail
            go_quiet (fail)
            go_wp2;go_roundw;case rel=>exact ⟨j+1,by omega,by go_num,eZ HB.out _,by rw [rZ.out,Wp.out,Z0.out,HQ.out];simp⟩
            case measure=>simp [intOf];omega
          · have q1:((ks'.length:Int) != (i.size:Int))=true:=by rw [bne_iff_ne];omega
            have hv:V=15:=by rw [Y3.out,if_pos (HAT.out (by rw [Z0.out];simp [hq]))]
            have HV3:=hid hv;clear hq hv;go_wp2_with fail
            go_quiet (fail)
            go_wp2;go_ret;exact ⟨by rw [HV3.out];rfl,eZ HB.out _⟩
        · have hv:V=0:=by
            have:=Wp.out;rw [List.take_of_length_le (by omega)] at this;rw [Y3.out,if_neg (by rw [this];decide)]
          have HV3:=hid hv;clear hv hno hbel;go_wp2;go_ret;exact ⟨by rw [HV3.out];rfl,HB.out⟩
open Go.RowKit
def rz (cl:ByteArray->Bool) (t:ByteArray) (a:At):Nat:=if gU t=false then 17 else if cl t=true then 5 else a.err
def uf (cl:ByteArray->Bool):Prop:=∀ (w:js1) (b o:Nat) (k lv:Int) (i t d ti:ByteArray) (at_:At) (li:List aj) (ks:List ah) (ac ap al ak:Option Addr) (cc cp cl' ck:Nat),
  Q5 w b o k lv i t d ti at_ li ks ac ap al ak cc cp cl' ck->t.size<=300->at_.short->Calls Tryz.prog 194 #[.pointer (some ⟨b,o,none⟩)] w (gu (.int .i64 (rz cl t at_:Nat)) w)
structure BlM (i t d ti:ByteArray) (a:At) (li:List aj):Prop where
  i:i.size<=300
  t:t.size<=300
  d:d.size<=300
  ti:ti.size<=300
  at_:a.short
  li:aj.fD li
theorem CO {k lv:Int} {i t d ti:ByteArray} {a:At} {li:List aj} {ks:List ah} (h:EH k lv i t d ti a li ks=true):1<=k/\k<=15/\(k=2\/k=8\/lv=0):=by
  unfold EH at h;simp only [Bool.and_eq_true,Bool.or_eq_true,decide_eq_true_eq] at h;obtain ⟨⟨⟨⟨⟨⟨⟨⟨h1,h2⟩,h3⟩,-⟩,-⟩,-⟩,-⟩,-⟩,-⟩:=h;refine ⟨h1,h2,?_⟩;rcases h3 with h | h
  · simp at h;omega
  · exact .inr (.inr h)
theorem xJ (cl:ByteArray->Bool) (w:js1) (b o:Nat) (k lv:Int) (i t d ti:ByteArray) (at_:At) (li:List aj) (ks:List ah) (ac ap al ak:Option Addr) (cc cp cl' ck:Nat) (h:Q5 w b o k lv i t d ti at_ li ks ac ap al ak cc cp cl' ck) (hs:BlM i t d ti at_ li) (hf:EH k lv i t d ti at_ li ks=true) (hm:k=4->uf cl) : Calls Tryz.prog 150 #[.pointer (some ⟨b,o,none⟩)] w (gu (.int .i64 (uX cl k lv i t d ti at_ li ks:Nat)) w):=by
  have HP:=hid h;obtain ⟨f1,f2,f3⟩:=CO hf;obtain ⟨-,l4,m4⟩:=fE h.rd.line;obtain ⟨-,l5,m5⟩:=fE h.rd.kids;unfold maxLen at m4 m5;have LE:=hid (qZ li al cl' w hs.li h.rd.line);have UE:=hid (jU li al cl' w hs.li h.rd.line);have HDE:=hid (zF w b o k lv i t d ti at_ li ks ac ap al ak cc cp cl' ck h hs.at_ hs.li);have TBE:=hid (xI w b o k lv i t d ti at_ li ks ac ap al ak cc cp cl' ck h (by have:=hs.i;omega));have MTE:=hid (fun hk=>hm hk w b o k lv i t d ti at_ li ks ac ap al ak cc cp cl' ck h hs.t hs.at_);have CLI:=hid (fun w=>PD i w (by have:=hs.i;omega));have CTR:=hid (fun w=>iV i w (by have:=hs.i;omega));have CTX:=hid (fun w=>oG t w (by have:=hs.t;omega));have CNM:=hid (fun w=>MV i w (by have:=hs.i;omega));have CLB:=hid (AZ i w (by have:=hs.i;omega));have CLD:=hid (fun w=>PD d w (by have:=hs.d;omega));have CLT:=hid (fun w=>PD ti w (by have:=hs.ti;omega));have AC:=hid (jD at_ ac ap cc cp w h.rd.at_ hs.at_);obtain ⟨c0,c1,c2,c3,c4,c5,c6,c7,c8,c9,c10⟩:=h.cells;have e2:=xw li;have e3:=xw ks;have HE:Hid (uX cl k lv i t d ti at_ li ks=if k=1 then (if li.isEmpty=true then 8 else dK li)
  else if k=2 then ru lv at_ li
  else if k=12 then nu li
  else if k=3 then (if iA i=false\/trimS i=false\/gU t=false then 17 else 0)
  else if k=4 then rz cl t at_
  else if k=7\/k=8 then (if ks.isEmpty=true then 8 else if k=8/\(lv<0\/999999999<lv) then 9 else 0)
  else if k=10 then jw i ks
  else if k=13\/k=14 then (if fO i=false then 6 else at_.err)
  else if k=15 then (if eO i=false then 6 else if iA d=false\/iA ti=false then 17 else 0)
  else 0):=rfl
  generalize uX cl k lv i t d ti at_ li ks=V at *
  generalize dK li=E1 at *;generalize ru lv at_ li=E2 at *
  generalize nu li=E3 at *;generalize rz cl t at_=E4 at *
  generalize jw i ks=E5 at *;generalize at_.err=E6 at *
  generalize iA i=b1 at *;generalize trimS i=b2 at *;generalize gU t=b3 at *;generalize fO i=b4 at *;generalize eO i=b5 at *;generalize iA d=b6 at *;generalize iA ti=b7 at *;generalize li.isEmpty=bl at *;generalize ks.isEmpty=bk at *;clear h hs hf hm;rcases E9 k with rfl | rfl | rfl | rfl | rfl | rfl | rfl | rfl | rfl | rfl | rfl | rfl | rfl | rfl | rfl | hk
  case inr.inr.inr.inr.inr.inr.inr.inr.inr.inr.inr.inr.inr.inr.inr=>omega
  case inr.inr.inr.inr.inr.inr.inl=>
    have hlv:lv=0:=by omega
    subst hlv;clear f1 f2 f3;go_enter Tryz.func150,Tryz.ntmps150;go_wp2;all_goals
      go_ret;refine ⟨jT ?_,jox _ _⟩
      (try simp only [Bool.not_eq_true',Bool.not_eq_false'] at *)
      rw [HE.out];simp [*]
  case inr.inr.inr.inr.inr.inr.inr.inl=>
    clear f1 f2 f3;by_cases hlv:lv<0\/999999999<lv
    · rcases hlv with hlv | hlv
      all_goals
        go_enter Tryz.func150,Tryz.ntmps150;go_wp2;all_goals
          go_ret;refine ⟨jT ?_,jox _ _⟩
          (try simp only [Bool.not_eq_true',Bool.not_eq_false'] at *)
          rw [HE.out];simp [*]
    · have g1:0<=lv:=by omega
      have g2:lv<=999999999:=by omega
      have HG:Hid (¬ (lv<0\/999999999<lv)):=hlv;clear hlv;go_enter Tryz.func150,Tryz.ntmps150;go_wp2;all_goals
        go_ret;refine ⟨jT ?_,jox _ _⟩
        (try simp only [Bool.not_eq_true',Bool.not_eq_false'] at *)
        rw [HE.out];simp [*,HG.out]
  all_goals
    clear f1 f2 f3;go_enter Tryz.func150,Tryz.ntmps150;go_wp2_with (first | (go_at_call 191;refine LE.out.mono ?_;rintro e w2 ⟨rfl,hb3⟩) | (go_at_call 192;refine HDE.out.mono ?_;rintro e w2 ⟨rfl,hb3⟩) | (go_at_call 194;refine (MTE.out (by simp)).mono ?_;rintro e w2 ⟨rfl,hb3⟩) | (go_at_call 195;refine TBE.out.mono ?_;rintro e w2 ⟨rfl,hb3⟩) | (go_at_call 196;refine UE.out.mono ?_;rintro e w2 ⟨rfl,hb3⟩) | (go_at_call 197;refine AC.out.mono ?_;rintro e w2 ⟨rfl,hb3⟩) | (go_at_call 54;refine (CNM.out _).mono ?_;rintro e w2 ⟨rfl,rfl⟩) | (go_at_call 198;refine CLB.out.mono ?_;rintro e w2 ⟨rfl,hb1⟩;obtain ⟨p0,p1,p2,p3,p4,p5,p6,p7,p8,p9,Gz⟩:=(HP.out.up hb1).cells) | (go_at_call 59;refine (CTR.out _).mono ?_;rintro e w2 ⟨rfl,rfl⟩) | (go_at_call 193;refine (CTX.out _).mono ?_;rintro e w2 ⟨rfl,q3,rfl⟩) | (go_at_call 58;(with_reducible refine (CLI.out _).mono ?_);rintro e w2 ⟨rfl,q,rfl⟩) | (go_at_call 58;(with_reducible refine (CLD.out _).mono ?_);rintro e w2 ⟨rfl,q,rfl⟩) | (go_at_call 58;(with_reducible refine (CLT.out _).mono ?_);rintro e w2 ⟨rfl,q2,rfl⟩))
    all_goals
      go_ret;refine ⟨jT ?_,?_⟩
      · (try simp only [Bool.not_eq_true',Bool.not_eq_false'] at *)
        rw [HE.out];simp [*]
      · first
        | exact hb3 | exact eZ hb1 _ | exact hb1 | exact eZ (jox _ _) _ | exact jox _ _
end Go.Proofs.YtdneicipdlofiaaGreatDoor

