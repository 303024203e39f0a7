/- Contracts of tree.checkCites, checkNamed, checkLink. Contracts of tree.checkNamed, checkLink. The contract of tree.checkLink. The contract of tree.checkInline. -/
import Derived.Test.YtclikfjalmcoaaaGreatDoorKChL
set_option maxHeartbeats 8000000
set_option maxRecDepth 100000
open Go.Lib (hid)
namespace Go.Proofs.YtclikfjalmcoaaaGreatDoor
open List renaming getElem?_eq_getElem->jh0,mem_of_getElem?->jhx,take_of_length_le->ji4
open Go.RowKit.Below renaming refl->jh1
open Go.RowKit
set_option linter.unusedVariables false
set_option linter.unusedSimpArgs false
def wh:List UInt8:=[91,93,59,64,123,36,96]
theorem Ab (s:ByteArray):gW s=(!eB s||!trimS s||oG s wh):=rfl
def ja8 (pre suf:ByteArray) (wi:World) (vj:Value) (wj:World):Prop:=Below wi.heap.size wi wj/\(vj=.int .i64 0\/(vj=.int .i64 1/\gW pre=false)\/(vj=.int .i64 2/\gW pre=false/\gW suf=false))
def SN (l:List Ci) (E:Nat) (w:World) (vi:Value) (wr:World):Prop:=∃ k:Nat,k<=l.length/\vi=.int .i64 k/\Below w.heap.size w wr/\eU (l.drop k)=E
theorem wm (l:List Ci) (a:Option Addr) (cap:Nat) (w:World) (h:Rd (·<w.heap.size) w (KF l) [.slice a l.length cap]) (hsz:∀ c∈l,c.key.size<=5000/\c.pre.size<=5000/\c.suf.size<=5000) : Calls Tryz.prog 182 #[.slice a l.length cap] w (bR (.int .i64 (MO l:Nat)) w):=by
  obtain ⟨a',c',hv,hs⟩:=Rd.aB h;obtain ⟨rfl,rfl⟩:a'=a/\c'=cap:=by simp at hv;exact ⟨hv.1.symm,hv.2.symm⟩
  have hcap:l.length<=c':=by simpa using hs.le
  have hmx:=hs.max;unfold maxLen at hmx;have HS:=hid hs;have SZ:=hid hsz;clear hs hv h hsz;by_cases h0:l.length=0
  · have hv:MO l=8:=by
      obtain rfl:=List.eq_nil_of_length_eq_zero h0;rfl
    rw [hv];have e0:((l.length:Int)==0)=true:=by rw [h0];rfl
    clear hv h0;go_enter Tryz.func182,Tryz.ntmps182;go_wp2;go_ret;exact ⟨rfl,jh1 _ _⟩
  have hv:MO l=eU l:=by
    cases l with
    | nil=>simp at h0
    | cons x l=>rfl
  rw [hv];have e0:((l.length:Int)==0)=false:=by rw [beq_eq_false_iff_ne];omega
  obtain ⟨E,hE⟩:∃ E,eU l=E:=⟨_,rfl⟩;rw [hE];have R0:Hid (SN l E w (.int .i64 0) w):=⟨0,Nat.zero_le _,rfl,jh1 _ _,hE⟩;clear hv hE h0;go_enter Tryz.func182,Tryz.ntmps182;go_wp2
  go_loopw [12] (fun i wr=>SN l E w i wr) (fun i _=>l.length-(intOf i).toNat)
  case atStart=>exact R0.out
  case round=>
    clear R0;obtain ⟨k,hk,rfl,hbel,aQ⟩:=hrel;have HB:=hid hbel;by_cases hlt:k<l.length
    · obtain ⟨x,hx⟩:∃ x,l[k]?=some x:=⟨_,jh0 hlt⟩
      have hxs:=SZ.out x (jhx hx);obtain ⟨b,off,rfl,-,-,c0,c1,c2,c3⟩:=Gv HS.out hx;have c0:wr.cell? ⟨b,off+k*4,none⟩=some (.string x.key):=by rw [hbel.cell (p:=⟨b,off+k*4,none⟩) (mJ c0)];exact c0
      have c1:wr.cell? ⟨b,off+k*4+1,none⟩=some (.string x.pre):=by rw [hbel.cell (p:=⟨b,off+k*4+1,none⟩) (mJ c1)];exact c1
      have c2:wr.cell? ⟨b,off+k*4+2,none⟩=some (.string x.suf):=by rw [hbel.cell (p:=⟨b,off+k*4+2,none⟩) (mJ c2)];exact c2
      have c3:wr.cell? ⟨b,off+k*4+3,none⟩=some (.bool x.bare):=by rw [hbel.cell (p:=⟨b,off+k*4+3,none⟩) (mJ c3)];exact c3
      rw [Eh l k x hx,eU] at aQ;obtain ⟨key,pre,suf,bare⟩:=x;dsimp only at c0 c1 c2 c3 hxs aQ;have bO:=hid aQ;have CN:=hid (fun w=>Jw key w (by omega));clear aQ hx hbel;cases hn:fP key with
      | false=>
        rw [hn] at CN;have HE:Hid (E=6):=by show E=6;have:=bO.out;rw [if_pos hn] at this;exact this.symm
        clear hn;go_wp2_with fail
        refine (CN.out _).mono ?_;rintro e w3 ⟨rfl,rfl⟩;go_wp2;go_ret;exact ⟨by rw [HE.out];rfl,HB.out.alloc HB.out.size _⟩
      | true=>
        rw [hn] at CN;have fC:Hid ((if gW pre=true\/gW suf=true then 17 else eU (l.drop (k+1)))=E):=by show _=_;have:=bO.out;rw [if_neg (by rw [hn];decide)] at this;exact this
        obtain ⟨wi,hwi⟩:∃ wi,wi=wr.alloc (.cells #[.string key,.string pre,.string suf,.bool bare] 125):=⟨_,rfl⟩;have HBI:Hid (Below w.heap.size w wi):=by rw [hwi];exact HB.out.alloc HB.out.size _
        have i0:wi.cell? ⟨wr.heap.size,0,none⟩=some (.string key):=by rw [hwi];exact BK wr [.string key,.string pre,.string suf,.bool bare] _ 0 _ rfl
        have i1:wi.cell? ⟨wr.heap.size,1,none⟩=some (.string pre):=by rw [hwi];exact BK wr [.string key,.string pre,.string suf,.bool bare] _ 1 _ rfl
        have i2:wi.cell? ⟨wr.heap.size,2,none⟩=some (.string suf):=by rw [hwi];exact BK wr [.string key,.string pre,.string suf,.bool bare] _ 2 _ rfl
        clear hn bO;go_upto_region 6 with (fail)
        rw [<- hwi];clear hwi c0 c1 c2 c3;have jex:∀ wx,(Instr.index 197 (.agg #[.string pre,.string suf]) (.int .i64 0)).run Tryz.prog wx=.ok (.string pre) wx:=fun wx=>by kernel_rfl
        have jez:∀ wx,(Instr.index 197 (.agg #[.string pre,.string suf]) (.int .i64 1)).run Tryz.prog wx=.ok (.string suf) wx:=fun wx=>by kernel_rfl
        go_wp2_with fail
        refine (CN.out _).mono ?_;rintro e w3 ⟨rfl,rfl⟩;go_wp2
        go_loopw [25] (fun j wj=>ja8 pre suf wi j wj) (fun j _=>2-(intOf j).toNat)
        case atStart=>exact ⟨jh1 _ _,.inl rfl⟩
        case round=>
          clear i0 i1 i2;obtain ⟨hbj,hj⟩:=hrel;have Ql:=hid hbj;rcases hj with rfl | ⟨rfl,hp⟩ | ⟨rfl,hp,hsf⟩
          · have CL:=hid (fun w=>Jr pre w (by omega))
            have CT:=hid (fun w=>ji pre w (by omega));have CA:=hid (fun w=>UO pre ⟨#[91,93,59,64,123,36,96]⟩ w (by omega) XM);have e7:(⟨#[91,93,59,64,123,36,96]⟩:ByteArray).data.toList=wh:=rfl;rw [e7] at CA;have jD:=hid (Ab pre);clear e7 hbj;cases hL:eB pre<;>cases hT:trimS pre<;>cases hA:oG pre wh
            all_goals
              rw [hL,hT,hA] at jD;rw [hL] at CL;rw [hT] at CT;rw [hA] at CA;clear hL hT hA;go_wp2_with (first | (go_at_call 112;refine (CL.out _).mono ?_;rintro e w2 ⟨rfl,q,rfl⟩) | (go_at_call 113;refine (CT.out _).mono ?_;rintro e w2 ⟨rfl,rfl⟩) | (go_at_call 218;refine (CA.out _).mono ?_;rintro e w2 ⟨rfl,hb2⟩))
              first
              | (go_ret
                 have HE:E=17:=by have:=fC.out;rw [if_pos (.inl (by rw [jD.out];rfl))] at this;exact this.symm
                 refine ⟨by rw [HE];rfl,aM (aM HBI.out Ql.out) ?_⟩;first | exact (eD (jh1 _ _) _).trans hb2 | exact eD (jh1 _ _) _)
              | (go_roundw
                 case rel=>exact ⟨aM Ql.out ((eD (jh1 _ _) _).trans hb2),.inr (.inl ⟨by go_num,by rw [jD.out];rfl⟩)⟩
                 case measure=>simp [intOf])
          · have CL:=hid (fun w=>Jr suf w (by omega))
            have CT:=hid (fun w=>ji suf w (by omega));have CA:=hid (fun w=>UO suf ⟨#[91,93,59,64,123,36,96]⟩ w (by omega) XM);have e7:(⟨#[91,93,59,64,123,36,96]⟩:ByteArray).data.toList=wh:=rfl;rw [e7] at CA;have jD:=hid (Ab suf);have HP:=hid hp;clear e7 hbj hp;cases hL:eB suf<;>cases hT:trimS suf<;>cases hA:oG suf wh
            all_goals
              rw [hL,hT,hA] at jD;rw [hL] at CL;rw [hT] at CT;rw [hA] at CA;clear hL hT hA;go_wp2_with (first | (go_at_call 112;refine (CL.out _).mono ?_;rintro e w2 ⟨rfl,q,rfl⟩) | (go_at_call 113;refine (CT.out _).mono ?_;rintro e w2 ⟨rfl,rfl⟩) | (go_at_call 218;refine (CA.out _).mono ?_;rintro e w2 ⟨rfl,hb2⟩))
              first
              | (go_ret
                 have HE:E=17:=by have:=fC.out;rw [if_pos (.inr (by rw [jD.out];rfl))] at this;exact this.symm
                 refine ⟨by rw [HE];rfl,aM (aM HBI.out Ql.out) ?_⟩;first | exact (eD (jh1 _ _) _).trans hb2 | exact eD (jh1 _ _) _)
              | (go_roundw
                 case rel=>exact ⟨aM Ql.out ((eD (jh1 _ _) _).trans hb2),.inr (.inr ⟨by go_num,HP.out,by rw [jD.out];rfl⟩)⟩
                 case measure=>simp [intOf])
          · have HN:Hid (eU (l.drop (k+1))=E):=by
              show _=_;have:=fC.out;rw [if_neg (by rw [hp,hsf];simp)] at this;exact this
            clear hp hsf hbj;go_wp2;go_roundw;case rel=>exact ⟨k+1,by omega,by go_num,aM HBI.out Ql.out,HN.out⟩
            case measure=>simp [intOf];omega
    · obtain rfl:k=l.length:=by omega
      have HE:Hid (E=0):=by show E=0;rw [List.drop_length,eU] at aQ;exact aQ.symm
      clear aQ;go_wp2;go_ret;exact ⟨by rw [HE.out];rfl,HB.out⟩
open Go.RowKit
def qO:List UInt8:=[124,123,125]
theorem oH (s:ByteArray):uS s=(!eB s||oG s qO):=rfl
def UQ (l:List ByteArray) (w:World) (vi:Value) (wr:World):Prop:=∃ k:Nat,k<=l.length/\vi=.int .i64 k/\Below w.heap.size w wr/\(l.take k).any uS=false
structure SQ (t d ti:ByteArray) (a:At) (ar:List ByteArray) (ci:List Ci):Prop where
  t:t.size<=1000000
  d:d.size<=1000000
  ti:ti.size<=1000000
  at_:a.short
  ars:∀ c∈ar,c.size<=5000
  cis:∀ c∈ci,c.key.size<=5000/\c.pre.size<=5000/\c.suf.size<=5000
theorem kR {α:Type} (p:α->Bool) {l:List α} {k:Nat} {x:α} (h:l[k]?=some x):(l.take (k+1)).any p=((l.take k).any p||p x):=by rw [List.take_add_one,h];simp
theorem sM {α:Type} (p:α->Bool) {l:List α} {k:Nat} {x:α} (h:l[k]?=some x) (hp:p x=true):l.any p=true:=List.any_eq_true.2 ⟨x,jhx h,hp⟩
theorem wo (w:World) (b o:Nat) (k:Int) (t d ti:ByteArray) (at_:At) (ar:List ByteArray) (ci:List Ci) (ks:List aj) (ac ap aa ai ak:Option Addr) (cc cp ca gF ck:Nat) (h:SG w b o k t d ti at_ ar ci ks ac ap aa ai ak cc cp ca gF ck) (hs:SQ t d ti at_ ar ci) (hk:k=12\/k=14\/k=15) (har:k=15\/ar=[]) : Calls Tryz.prog 181 #[.pointer (some ⟨b,o,none⟩)] w (bR (.int .i64 (MP k t ti ar:Nat)) w):=by
  obtain ⟨a',c',hv,hsl⟩:=Rd.aB h.rd.args;obtain ⟨rfl,rfl⟩:a'=aa/\c'=ca:=by simp at hv;exact ⟨hv.1.symm,hv.2.symm⟩
  have hcap:ar.length<=c':=by simpa using hsl.le
  have hmx:=hsl.max;unfold maxLen at hmx;have HS:=hid hsl;have SZ:=hid hs.ars;have NT:=hid (fun w=>Jw t w (by have:=hs.t;omega));obtain ⟨c0,c1,c2,c3,c4,c5,c6,c7,c8,c9⟩:=h.cells;have R0:Hid (UQ ar w (.int .i64 0) w):=⟨0,Nat.zero_le _,rfl,jh1 _ _,by simp⟩;clear hv hsl h hs;have HE:Hid (MP k t ti ar=if fP t=false then 6 else if k=14/\aT ti=false/\ti.data.toList≠nI then 5 else if 8<ar.length then 3 else if ar.any uS then 17 else 0):=rfl;obtain ⟨V,hV⟩:∃ V,V=MP k t ti ar:=⟨_,rfl⟩;rw [<- hV] at HE ⊢;clear hV;cases hn:fP t with
  | false=>
    rw [hn] at NT;have HV:Hid (V=6):=by show V=6;rw [HE.out,if_pos hn]
    clear hn;go_enter Tryz.func181,Tryz.ntmps181;go_wp2_with fail
    refine (NT.out _).mono ?_;rintro e w3 ⟨rfl,rfl⟩;go_wp2;go_ret;exact ⟨by rw [HV.out];rfl,jh1 _ _⟩
  | true=>
  rw [hn] at NT;have HE2:Hid (V=if k=14/\aT ti=false/\ti.data.toList≠nI then 5 else if 8<ar.length then 3 else if ar.any uS then 17 else 0):=by show V=_;rw [HE.out,if_neg (by rw [hn];decide)]
  clear hn HE;rcases hk with rfl | rfl | rfl
  · have h0:ar=[]:=by rcases har with h | h;(exact absurd h (by decide));exact h
    have hl0:ar.length<=8:=by rw [h0];simp
    have HL:Hid (V=if ar.any uS then 17 else 0):=by show V=_;rw [HE2.out,if_neg (by rintro ⟨h,-⟩;exact absurd h (by decide)),if_neg (by omega)]
    clear har h0 HE2;go_enter Tryz.func181,Tryz.ntmps181;go_wp2_with fail
    refine (NT.out _).mono ?_;rintro e w3 ⟨rfl,rfl⟩;go_wp2
    go_loopw [48] (fun i wr=>UQ ar w i wr) (fun i _=>ar.length-(intOf i).toNat)
    case atStart=>exact R0.out
    case round=>
      clear R0;obtain ⟨j,hj,rfl,hbel,hno⟩:=hrel;have HB:=hid hbel;have yZ:=hid hno;by_cases hlt:j<ar.length
      · obtain ⟨x,hx⟩:∃ x,ar[j]?=some x:=⟨_,jh0 hlt⟩
        have hxs:=SZ.out x (jhx hx);obtain ⟨b2,off,rfl,-,-,x0⟩:=eF HS.out hx;have x0:wr.cell? ⟨b2,off+j,none⟩=some (.string x):=by rw [hbel.cell (p:=⟨b2,off+j,none⟩) (mJ x0)];exact x0
        have CL:=hid (fun w=>Jr x w (by omega));have CA:=hid (fun w=>UO x ⟨#[124,123,125]⟩ w (by omega) Qk);have e7:(⟨#[124,123,125]⟩:ByteArray).data.toList=qO:=rfl;rw [e7] at CA;have jD:=hid (oH x);have iE:=hid (kR uS hx);have HAT:=hid (sM uS hx);clear e7 hbel hno hx;cases hL:eB x<;>cases hA:oG x qO
        all_goals
          rw [hL,hA] at jD;rw [hL] at CL;rw [hA] at CA;clear hL hA;go_wp2_with (first | (go_at_call 112;refine (CL.out _).mono ?_;rintro e w2 ⟨rfl,q,rfl⟩) | (go_at_call 218;refine (CA.out _).mono ?_;rintro e w2 ⟨rfl,hb2⟩))
          first
          | (go_ret
             have hv:V=17:=by rw [HL.out,if_pos (HAT.out (by rw [jD.out];rfl))]
             refine ⟨by rw [hv];rfl,aM HB.out ?_⟩;first | exact (eD (jh1 _ _) _).trans hb2 | exact eD (jh1 _ _) _)
          | (go_roundw
             case rel=>exact ⟨j+1,by omega,by go_num,aM HB.out ((eD (jh1 _ _) _).trans hb2),by rw [iE.out,yZ.out,jD.out];rfl⟩
             case measure=>simp [intOf];omega)
      · have hv:V=0:=by
          have:=yZ.out;rw [ji4 (by omega)] at this;rw [HL.out,if_neg (by rw [this];decide)]
        have HV:=hid hv;clear hv hno hbel;go_wp2;go_ret;exact ⟨by rw [HV.out];rfl,HB.out⟩
  · have h0:ar=[]:=by rcases har with h | h;(exact absurd h (by decide));exact h
    have hl0:ar.length<=8:=by rw [h0];simp
    clear har h0;rcases iL ti with rfl | ⟨t1,t2,t3,t4⟩
    · have HL:Hid (V=if ar.any uS then 17 else 0):=by show V=_;rw [HE2.out,if_neg (by rintro ⟨-,h,-⟩;exact absurd h (by decide)),if_neg (by omega)]
      clear HE2;go_enter Tryz.func181,Tryz.ntmps181;go_wp2_with fail
      refine (NT.out _).mono ?_;rintro e w3 ⟨rfl,rfl⟩;go_wp2
      go_loopw [48] (fun i wr=>UQ ar w i wr) (fun i _=>ar.length-(intOf i).toNat)
      case atStart=>exact R0.out
      case round=>
        clear R0;obtain ⟨j,hj,rfl,hbel,hno⟩:=hrel;have HB:=hid hbel;have yZ:=hid hno;by_cases hlt:j<ar.length
        · obtain ⟨x,hx⟩:∃ x,ar[j]?=some x:=⟨_,jh0 hlt⟩
          have hxs:=SZ.out x (jhx hx);obtain ⟨b2,off,rfl,-,-,x0⟩:=eF HS.out hx;have x0:wr.cell? ⟨b2,off+j,none⟩=some (.string x):=by rw [hbel.cell (p:=⟨b2,off+j,none⟩) (mJ x0)];exact x0
          have CL:=hid (fun w=>Jr x w (by omega));have CA:=hid (fun w=>UO x ⟨#[124,123,125]⟩ w (by omega) Qk);have e7:(⟨#[124,123,125]⟩:ByteArray).data.toList=qO:=rfl;rw [e7] at CA;have jD:=hid (oH x);have iE:=hid (kR uS hx);have HAT:=hid (sM uS hx);clear e7 hbel hno hx;cases hL:eB x<;>cases hA:oG x qO
          all_goals
            rw [hL,hA] at jD;rw [hL] at CL;rw [hA] at CA;clear hL hA;go_wp2_with (first | (go_at_call 112;refine (CL.out _).mono ?_;rintro e w2 ⟨rfl,q,rfl⟩) | (go_at_call 218;refine (CA.out _).mono ?_;rintro e w2 ⟨rfl,hb2⟩))
            first
            | (go_ret
               have hv:V=17:=by rw [HL.out,if_pos (HAT.out (by rw [jD.out];rfl))]
               refine ⟨by rw [hv];rfl,aM HB.out ?_⟩;first | exact (eD (jh1 _ _) _).trans hb2 | exact eD (jh1 _ _) _)
            | (go_roundw
               case rel=>exact ⟨j+1,by omega,by go_num,aM HB.out ((eD (jh1 _ _) _).trans hb2),by rw [iE.out,yZ.out,jD.out];rfl⟩
               case measure=>simp [intOf];omega)
        · have hv:V=0:=by
            have:=yZ.out;rw [ji4 (by omega)] at this;rw [HL.out,if_neg (by rw [this];decide)]
          have HV:=hid hv;clear hv hno hbel;go_wp2;go_ret;exact ⟨by rw [HV.out];rfl,HB.out⟩
    · have hpg:(ti.toList==[112,97,103,101])=decide (ti.data.toList=nI):=by
        rw [Lib.toList_data,Bool.eq_iff_iff,beq_iff_eq,decide_eq_true_iff];rfl
      by_cases hp:ti.data.toList=nI
      · have HL:Hid (V=if ar.any uS then 17 else 0):=by show V=_;rw [HE2.out,if_neg (by rintro ⟨-,-,h⟩;exact h hp),if_neg (by omega)]
        rw [decide_eq_true hp] at hpg;clear HE2 hp;go_enter Tryz.func181,Tryz.ntmps181;go_wp2_with fail
        refine (NT.out _).mono ?_;rintro e w3 ⟨rfl,rfl⟩;go_wp2
        go_loopw [48] (fun i wr=>UQ ar w i wr) (fun i _=>ar.length-(intOf i).toNat)
        case atStart=>exact R0.out
        case round=>
          clear R0;obtain ⟨j,hj,rfl,hbel,hno⟩:=hrel;have HB:=hid hbel;have yZ:=hid hno;by_cases hlt:j<ar.length
          · obtain ⟨x,hx⟩:∃ x,ar[j]?=some x:=⟨_,jh0 hlt⟩
            have hxs:=SZ.out x (jhx hx);obtain ⟨b2,off,rfl,-,-,x0⟩:=eF HS.out hx;have x0:wr.cell? ⟨b2,off+j,none⟩=some (.string x):=by rw [hbel.cell (p:=⟨b2,off+j,none⟩) (mJ x0)];exact x0
            have CL:=hid (fun w=>Jr x w (by omega));have CA:=hid (fun w=>UO x ⟨#[124,123,125]⟩ w (by omega) Qk);have e7:(⟨#[124,123,125]⟩:ByteArray).data.toList=qO:=rfl;rw [e7] at CA;have jD:=hid (oH x);have iE:=hid (kR uS hx);have HAT:=hid (sM uS hx);clear e7 hbel hno hx;cases hL:eB x<;>cases hA:oG x qO
            all_goals
              rw [hL,hA] at jD;rw [hL] at CL;rw [hA] at CA;clear hL hA;go_wp2_with (first | (go_at_call 112;refine (CL.out _).mono ?_;rintro e w2 ⟨rfl,q,rfl⟩) | (go_at_call 218;refine (CA.out _).mono ?_;rintro e w2 ⟨rfl,hb2⟩))
              first
              | (go_ret
                 have hv:V=17:=by rw [HL.out,if_pos (HAT.out (by rw [jD.out];rfl))]
                 refine ⟨by rw [hv];rfl,aM HB.out ?_⟩;first | exact (eD (jh1 _ _) _).trans hb2 | exact eD (jh1 _ _) _)
              | (go_roundw
                 case rel=>exact ⟨j+1,by omega,by go_num,aM HB.out ((eD (jh1 _ _) _).trans hb2),by rw [iE.out,yZ.out,jD.out];rfl⟩
                 case measure=>simp [intOf];omega)
          · have hv:V=0:=by
              have:=yZ.out;rw [ji4 (by omega)] at this;rw [HL.out,if_neg (by rw [this];decide)]
            have HV:=hid hv;clear hv hno hbel;go_wp2;go_ret;exact ⟨by rw [HV.out];rfl,HB.out⟩
      · have HV:Hid (V=5):=by show V=_;rw [HE2.out,if_pos ⟨rfl,t4,hp⟩]
        rw [decide_eq_false hp] at hpg;clear HE2 hp;go_enter Tryz.func181,Tryz.ntmps181;go_wp2_with fail
        refine (NT.out _).mono ?_;rintro e w3 ⟨rfl,rfl⟩;go_wp2;go_ret;exact ⟨by rw [HV.out];rfl,jh1 _ _⟩
  · clear har
    by_cases h8:8<ar.length
    · have HV:Hid (V=3):=by show V=_;rw [HE2.out,if_neg (by rintro ⟨h,-⟩;exact absurd h (by decide)),if_pos h8]
      have q8:decide ((8:Int)<(ar.length:Int))=true:=by simp;omega
      clear HE2;go_enter Tryz.func181,Tryz.ntmps181;go_wp2_with fail
      refine (NT.out _).mono ?_;rintro e w3 ⟨rfl,rfl⟩;go_wp2;go_ret;exact ⟨by rw [HV.out];rfl,jh1 _ _⟩
    · have HL:Hid (V=if ar.any uS then 17 else 0):=by show V=_;rw [HE2.out,if_neg (by rintro ⟨h,-⟩;exact absurd h (by decide)),if_neg h8]
      have q8:decide ((8:Int)<(ar.length:Int))=false:=by simp;omega
      clear HE2;go_enter Tryz.func181,Tryz.ntmps181;go_wp2_with fail
      refine (NT.out _).mono ?_;rintro e w3 ⟨rfl,rfl⟩;go_wp2
      go_loopw [48] (fun i wr=>UQ ar w i wr) (fun i _=>ar.length-(intOf i).toNat)
      case atStart=>exact R0.out
      case round=>
        clear R0;obtain ⟨j,hj,rfl,hbel,hno⟩:=hrel;have HB:=hid hbel;have yZ:=hid hno;by_cases hlt:j<ar.length
        · obtain ⟨x,hx⟩:∃ x,ar[j]?=some x:=⟨_,jh0 hlt⟩
          have hxs:=SZ.out x (jhx hx);obtain ⟨b2,off,rfl,-,-,x0⟩:=eF HS.out hx;have x0:wr.cell? ⟨b2,off+j,none⟩=some (.string x):=by rw [hbel.cell (p:=⟨b2,off+j,none⟩) (mJ x0)];exact x0
          have CL:=hid (fun w=>Jr x w (by omega));have CA:=hid (fun w=>UO x ⟨#[124,123,125]⟩ w (by omega) Qk);have e7:(⟨#[124,123,125]⟩:ByteArray).data.toList=qO:=rfl;rw [e7] at CA;have jD:=hid (oH x);have iE:=hid (kR uS hx);have HAT:=hid (sM uS hx);clear e7 hbel hno hx;cases hL:eB x<;>cases hA:oG x qO
          all_goals
            rw [hL,hA] at jD;rw [hL] at CL;rw [hA] at CA;clear hL hA;go_wp2_with (first | (go_at_call 112;refine (CL.out _).mono ?_;rintro e w2 ⟨rfl,q,rfl⟩) | (go_at_call 218;refine (CA.out _).mono ?_;rintro e w2 ⟨rfl,hb2⟩))
            first
            | (go_ret
               have hv:V=17:=by rw [HL.out,if_pos (HAT.out (by rw [jD.out];rfl))]
               refine ⟨by rw [hv];rfl,aM HB.out ?_⟩;first | exact (eD (jh1 _ _) _).trans hb2 | exact eD (jh1 _ _) _)
            | (go_roundw
               case rel=>exact ⟨j+1,by omega,by go_num,aM HB.out ((eD (jh1 _ _) _).trans hb2),by rw [iE.out,yZ.out,jD.out];rfl⟩
               case measure=>simp [intOf];omega)
        · have hv:V=0:=by
            have:=yZ.out;rw [ji4 (by omega)] at this;rw [HL.out,if_neg (by rw [this];decide)]
          have HV:=hid hv;clear hv hno hbel;go_wp2;go_ret;exact ⟨by rw [HV.out];rfl,HB.out⟩
open Go.RowKit
theorem zq (w:World) (b o:Nat) (k:Int) (t d ti:ByteArray) (at_:At) (ar:List ByteArray) (ci:List Ci) (ks:List aj) (ac ap aa ai ak:Option Addr) (cc cp ca gF ck:Nat) (h:SG w b o k t d ti at_ ar ci ks ac ap aa ai ak cc cp ca gF ck) (hs:SQ t d ti at_ ar ci) (hk:k=9\/k=10) : Calls Tryz.prog 180 #[.pointer (some ⟨b,o,none⟩)] w (bR (.int .i64 (q1z k t d ti at_ ks:Nat)) w):=by
  have HP:=hid h;obtain ⟨s1,s2,s3,s4,-,-⟩:=hs;have LT:=hid (fun w=>zY t w (by omega));have CD:=hid (fun w=>Jr d w (by omega));have CT:=hid (fun w=>Jr ti w (by omega));have AC:=hid (fun wx (hb:Below w.heap.size w wx)=>gX at_ ac ap cc cp wx (h.rd.at_.up hb) s4);have AK:=hid (fun wx q (hb:Below w.heap.size w wx)=>tX _ ks _ _ [9,16,12,14,13] wx.heap.size 5 ((wx.alloc (.cells #[.int .i64 9,.int .i64 16,.int .i64 12,.int .i64 14,.int .i64 13] 3)).drewN q) (Nat.le_refl _)
    ((h.rd.kids.up hb).up (eD ((jh1 _ _).alloc (Nat.le_refl _) _) q)) (by simp) (SH wx 3 9 16 12 14 13))
  simp only [List.length_cons,List.length_nil,Nat.reduceAdd] at AK;obtain ⟨c0,c1,c2,c3,c4,c5,c6,c7,c8,c9⟩:=h.cells;have HE:Hid (q1z k t d ti at_ ks=if aT t=false/\(aT d=false\/aT ti=false) then 5
  else if aT t=false/\tV t=false then 6
  else if eB d=false\/eB ti=false then 17
  else if k=9/\aj.cO bX ks=true then 5
  else if k=10 then at_.err else 0):=rfl
  have XQ:aj.cO [9,16,12,14,13] ks=aj.cO bX ks:=rfl;rw [XQ] at AK;obtain ⟨V,hV⟩:∃ V,V=q1z k t d ti at_ ks:=⟨_,rfl⟩
  rw [<- hV] at HE ⊢;have HD:=hid (sD d).symm;have HT:=hid (sD t).symm;have UJ:=hid (sD ti).symm;generalize tV t=L at *;generalize eB d=L1 at *;generalize eB ti=L2 at *;generalize aj.cO bX ks=K at *;generalize at_.err=E at *
  clear hV h XQ s1 s2 s3 s4;cases hT:t.toList.isEmpty<;>cases hD:d.toList.isEmpty<;>cases hTI:ti.toList.isEmpty<;>rcases hk with rfl | rfl
  all_goals
    go_enter Tryz.func180,Tryz.ntmps180;go_wp2_with (first | (go_at_call 199;refine (LT.out _).mono ?_;rintro e w2 ⟨rfl,hb1⟩;obtain ⟨p0,p1,p2,p3,p4,p5,p6,p7,p8,p9⟩:=(HP.out.up hb1).cells) | (go_at_call 112;(with_reducible refine (CD.out _).mono ?_);rintro e w2 ⟨rfl,q,rfl⟩) | (go_at_call 112;(with_reducible refine (CT.out _).mono ?_);rintro e w2 ⟨rfl,q2,rfl⟩) | (go_at_call 114;refine (AC.out _ (by first | exact eD hb1 _ | exact eD (jh1 _ _) _)).mono ?_;rintro e w2 ⟨rfl,hb3⟩) | (go_at_call 217;refine (AK.out _ _ (by first | exact hb1 | exact jh1 _ _)).mono ?_;rintro e w2 ⟨rfl,rfl⟩))
    all_goals
      go_ret;refine ⟨gD ?_,?_⟩
      · (try simp only [Bool.not_eq_true',Bool.not_eq_false'] at *)
        rw [HE.out,HD.out,HT.out,UJ.out,hT,hD,hTI];simp [*]
      · first
        | exact aM (eD hb1 _) hb3 | exact aM (eD (jh1 _ _) _) hb3
        | exact eD (hb1.alloc hb1.size _) _ | exact eD ((jh1 _ _).alloc (Nat.le_refl _) _) _
        | exact eD hb1 _ | exact eD (jh1 _ _) _ | exact hb1 | exact jh1 _ _
open Go.RowKit
theorem wu {k:Int} {t d ti:ByteArray} {a:At} {ar:List ByteArray} {ci:List Ci} {ks:List aj} (h:vW k t d ti a ar ci ks=true):1<=k/\k<=16/\(k=15\/ar=[]):=by
  unfold vW at h;simp only [Bool.and_eq_true,Bool.or_eq_true,decide_eq_true_eq] at h;obtain ⟨⟨⟨⟨⟨⟨⟨⟨h1,h2⟩,-⟩,-⟩,-⟩,-⟩,-⟩,h8⟩,-⟩:=h;refine ⟨h1,h2,?_⟩;rcases h8 with h | h
  · exact .inl h
  · exact .inr (by simpa using h)
theorem uT (w:World) (b o:Nat) (k bf:Int) (t d ti:ByteArray) (at_:At) (ar:List ByteArray) (ci:List Ci) (ks:List aj) (ac ap aa ai ak:Option Addr) (cc cp ca gF ck:Nat) (h:SG w b o k t d ti at_ ar ci ks ac ap aa ai ak cc cp ca gF ck) (hs:SQ t d ti at_ ar ci) (hf:vW k t d ti at_ ar ci ks=true) : Calls Tryz.prog 148 #[.pointer (some ⟨b,o,none⟩),.int .i64 bf] w (bR (.int .i64 (oI bf false false k t d ti at_ ar ci ks:Nat)) w):=by
  have HP:=hid h;obtain ⟨f1,f2,f3⟩:=wu hf;have l1:=(yY h.rd.at_.cls).2;have l2:=(yY h.rd.at_.aF).2;obtain ⟨-,l5,m5⟩:=yY h.rd.kids;have AE:=hid (fun w=>pY at_ ac ap cc cp w (by omega) (by omega));unfold maxLen at m5;clear l1 l2;have CL:=hid (fun w=>Jr t w (by have:=hs.t;omega));have AC:=hid (fun wx (hb:Below w.heap.size w wx)=>gX at_ ac ap cc cp wx (h.rd.at_.up hb) hs.at_);have LK:=hid (zq w b o k t d ti at_ ar ci ks ac ap aa ai ak cc cp ca gF ck h hs);have NM:=hid (fun hk=>wo w b o k t d ti at_ ar ci ks ac ap aa ai ak cc cp ca gF ck h hs hk f3);have CC:=hid (wm ci ai gF w h.rd.bg hs.cis);have AD:=hid (Ee d w (by have:=hs.d;omega));have OO:=hid (kN bf [2,3] w.heap.size 2 _ (by simp) (MJ w 3 2 3));simp only [List.length_cons,List.length_nil,Nat.reduceAdd] at OO;have XR:([2,3]:List Int).contains bf=(decide (bf=2)||decide (bf=3)):=by rw [Bool.eq_iff_iff];simp
  rw [XR] at OO;obtain ⟨c0,c1,c2,c3,c4,c5,c6,c7,c8,c9⟩:=h.cells;have e3:=nE ks;have HE:Hid (oI bf false false k t d ti at_ ar ci ks=if vW k t d ti at_ ar ci ks=false then 5
  else if k=1\/k=4\/k=5 then (if aT t=true\/eB t=false then 17 else if k≠5/\bf=k then 5 else 0)
  else if k=2 then (if bf=2\/bf=3\/false=true\/false=true then 5 else 0)
  else if k=3 then (if false=true then 5 else 0)
  else if k=6\/k=7\/k=8 then (if ks.isEmpty=true then 8 else 0)
  else if k=9\/k=10 then q1z k t d ti at_ ks
  else if k=11 then (if at_.none=true then 8 else at_.err)
  else if k=12\/k=14\/k=15 then MP k t ti ar
  else if k=13 then MO ci
  else if mI d=true then 0 else 5):=rfl
  rw [hf] at HE;obtain ⟨V,hV⟩:∃ V,V=oI bf false false k t d ti at_ ar ci ks:=⟨_,rfl⟩
  rw [<- hV] at HE ⊢;have HT:=hid (sD t).symm;generalize eB t=L at *;generalize q1z k t d ti at_ ks=E1 at *
  generalize at_.none=bn at *
  generalize at_.err=E2 at *
  generalize MP k t ti ar=E3 at *;generalize MO ci=E4 at *;generalize mI d=bu at *;generalize ks.isEmpty=bk at *;clear hV h hs hf XR;rcases qN k with rfl | rfl | rfl | rfl | rfl | rfl | rfl | rfl | rfl | rfl | rfl | rfl | rfl | rfl | rfl | rfl | hk
  case inr.inr.inr.inr.inr.inr.inr.inr.inr.inr.inr.inr.inr.inr.inr.inr=>omega
  all_goals
    go_enter Tryz.func148,Tryz.ntmps148;go_wp2_with (first | (go_at_call 112;refine (CL.out _).mono ?_;rintro e w2 ⟨rfl,q,rfl⟩) | (go_at_call 147;refine OO.out.mono ?_;rintro e w2 ⟨rfl,rfl⟩) | (go_at_call 180;refine (LK.out (by simp)).mono ?_;rintro e w2 ⟨rfl,hb3⟩) | (go_at_call 179;refine (AE.out _).mono ?_;rintro e w2 ⟨rfl,hb1⟩;obtain ⟨p0,p1,p2,p3,p4,p5,p6,p7,p8,p9⟩:=(HP.out.up hb1).cells) | (go_at_call 114;refine (AC.out _ hb1).mono ?_;rintro e w2 ⟨rfl,hb3⟩) | (go_at_call 181;refine (NM.out (by simp)).mono ?_;rintro e w2 ⟨rfl,hb3⟩) | (go_at_call 182;refine CC.out.mono ?_;rintro e w2 ⟨rfl,hb3⟩) | (go_at_call 183;refine AD.out.mono ?_;rintro e w2 ⟨rfl,hb3⟩))
    all_goals
      go_ret;refine ⟨gD ?_,?_⟩
      · (try simp only [Bool.not_eq_true',Bool.not_eq_false',beq_iff_eq,beq_eq_false_iff_ne,ne_eq] at *)
        rw [HE.out,HT.out];simp [*]
      · first
        | exact aM hb1 hb3 | exact hb3 | exact hb1
        | exact (jh1 _ _).alloc (Nat.le_refl _) _
        | exact eD (jh1 _ _) _ | exact jh1 _ _
end Go.Proofs.YtclikfjalmcoaaaGreatDoor

