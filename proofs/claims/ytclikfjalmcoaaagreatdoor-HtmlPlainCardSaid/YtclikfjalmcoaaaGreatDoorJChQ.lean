/- Contracts of tree.checkCites, checkNamed, checkLink. Contracts of tree.checkNamed, checkLink. The contract of tree.checkLink. The contract of tree.checkInline. -/
import Derived.Test.YtclikfjalmcoaaaGreatDoorJChL
set_option maxHeartbeats 8000000
set_option maxRecDepth 100000
open Go.Lib (hid)
namespace Go.Proofs.YtclikfjalmcoaaaGreatDoor
open List renaming getElem?_eq_getElem->jc6,mem_of_getElem?->jd4,take_of_length_le->jdj
open Go.RowKit.Below renaming refl->jc7
open Go.RowKit
set_option linter.unusedVariables false
set_option linter.unusedSimpArgs false
def uj:List UInt8:=[91,93,59,64,123,36,96]
theorem xV (s:ByteArray):lU s=(!fP s||!trimS s||q24 s uj):=rfl
def XF (pre suf:ByteArray) (wi:World) (vj:Value) (wj:World):Prop:=Below wi.heap.size wi wj/\(vj=.int .i64 0\/(vj=.int .i64 1/\lU pre=false)\/(vj=.int .i64 2/\lU pre=false/\lU suf=false))
def OZ (l:List Ci) (E:Nat) (w:World) (vi:Value) (wr:World):Prop:=∃ k:Nat,k<=l.length/\vi=.int .i64 k/\Below w.heap.size w wr/\kD (l.drop k)=E
theorem um (l:List Ci) (a:Option Addr) (cap:Nat) (w:World) (h:Rd (·<w.heap.size) w (Jz l) [.slice a l.length cap]) (hsz:∀ c∈l,c.key.size<=5000/\c.pre.size<=5000/\c.suf.size<=5000) : Calls Tryz.prog 182 #[.slice a l.length cap] w (dJ (.int .i64 (jN l:Nat)) w):=by
  obtain ⟨a',c',hv,hs⟩:=Rd.aD h;obtain ⟨rfl,rfl⟩:a'=a/\c'=cap:=by simp at hv;exact ⟨hv.1.symm,hv.2.symm⟩
  have hcap:l.length<=c':=by simpa using hs.le
  have hmx:=hs.max;unfold maxLen at hmx;have HS:=hid hs;have SZ:=hid hsz;clear hs hv h hsz;by_cases h0:l.length=0
  · have hv:jN l=8:=by
      obtain rfl:=List.eq_nil_of_length_eq_zero h0;rfl
    rw [hv];have e0:((l.length:Int)==0)=true:=by rw [h0];rfl
    clear hv h0;go_enter Tryz.func182,Tryz.ntmps182;go_wp2;go_ret;exact ⟨rfl,jc7 _ _⟩
  have hv:jN l=kD l:=by
    cases l with
    | nil=>simp at h0
    | cons x l=>rfl
  rw [hv];have e0:((l.length:Int)==0)=false:=by rw [beq_eq_false_iff_ne];omega
  obtain ⟨E,hE⟩:∃ E,kD l=E:=⟨_,rfl⟩;rw [hE];have R0:Hid (OZ l E w (.int .i64 0) w):=⟨0,Nat.zero_le _,rfl,jc7 _ _,hE⟩;clear hv hE h0;go_enter Tryz.func182,Tryz.ntmps182;go_wp2
  go_loopw [12] (fun i wr=>OZ l E w i wr) (fun i _=>l.length-(intOf i).toNat)
  case atStart=>exact R0.out
  case round=>
    clear R0;obtain ⟨k,hk,rfl,hbel,aX⟩:=hrel;have HB:=hid hbel;by_cases hlt:k<l.length
    · obtain ⟨x,hx⟩:∃ x,l[k]?=some x:=⟨_,jc6 hlt⟩
      have hxs:=SZ.out x (jd4 hx);obtain ⟨b,off,rfl,-,-,c0,c1,c2,c3⟩:=JA HS.out hx;have c0:wr.cell? ⟨b,off+k*4,none⟩=some (.string x.key):=by rw [hbel.cell (p:=⟨b,off+k*4,none⟩) (wF c0)];exact c0
      have c1:wr.cell? ⟨b,off+k*4+1,none⟩=some (.string x.pre):=by rw [hbel.cell (p:=⟨b,off+k*4+1,none⟩) (wF c1)];exact c1
      have c2:wr.cell? ⟨b,off+k*4+2,none⟩=some (.string x.suf):=by rw [hbel.cell (p:=⟨b,off+k*4+2,none⟩) (wF c2)];exact c2
      have c3:wr.cell? ⟨b,off+k*4+3,none⟩=some (.bool x.bare):=by rw [hbel.cell (p:=⟨b,off+k*4+3,none⟩) (wF c3)];exact c3
      rw [JB l k x hx,kD] at aX;obtain ⟨key,pre,suf,bare⟩:=x;dsimp only at c0 c1 c2 c3 hxs aX;have cZ:=hid aX;have CN:=hid (fun w=>Gb key w (by omega));clear aX hx hbel;cases hn:iQ key with
      | false=>
        rw [hn] at CN;have HE:Hid (E=6):=by show E=6;have:=cZ.out;rw [if_pos hn] at this;exact this.symm
        clear hn;go_wp2_with fail
        refine (CN.out _).mono ?_;rintro e w3 ⟨rfl,rfl⟩;go_wp2;go_ret;exact ⟨by rw [HE.out];rfl,HB.out.alloc HB.out.size _⟩
      | true=>
        rw [hn] at CN;have rH:Hid ((if lU pre=true\/lU suf=true then 17 else kD (l.drop (k+1)))=E):=by show _=_;have:=cZ.out;rw [if_neg (by rw [hn];decide)] at this;exact this
        obtain ⟨wi,hwi⟩:∃ wi,wi=wr.alloc (.cells #[.string key,.string pre,.string suf,.bool bare] 125):=⟨_,rfl⟩;have XG:Hid (Below w.heap.size w wi):=by rw [hwi];exact HB.out.alloc HB.out.size _
        have i0:wi.cell? ⟨wr.heap.size,0,none⟩=some (.string key):=by rw [hwi];exact BG wr [.string key,.string pre,.string suf,.bool bare] _ 0 _ rfl
        have i1:wi.cell? ⟨wr.heap.size,1,none⟩=some (.string pre):=by rw [hwi];exact BG wr [.string key,.string pre,.string suf,.bool bare] _ 1 _ rfl
        have i2:wi.cell? ⟨wr.heap.size,2,none⟩=some (.string suf):=by rw [hwi];exact BG wr [.string key,.string pre,.string suf,.bool bare] _ 2 _ rfl
        clear hn cZ;go_upto_region 6 with (fail)
        rw [<- hwi];clear hwi c0 c1 c2 c3;have jaj:∀ wx,(Instr.index 197 (.agg #[.string pre,.string suf]) (.int .i64 0)).run Tryz.prog wx=.ok (.string pre) wx:=fun wx=>by kernel_rfl
        have jak:∀ wx,(Instr.index 197 (.agg #[.string pre,.string suf]) (.int .i64 1)).run Tryz.prog wx=.ok (.string suf) wx:=fun wx=>by kernel_rfl
        go_wp2_with fail
        refine (CN.out _).mono ?_;rintro e w3 ⟨rfl,rfl⟩;go_wp2
        go_loopw [25] (fun j wj=>XF pre suf wi j wj) (fun j _=>2-(intOf j).toNat)
        case atStart=>exact ⟨jc7 _ _,.inl rfl⟩
        case round=>
          clear i0 i1 i2;obtain ⟨hbj,hj⟩:=hrel;have MP:=hid hbj;rcases hj with rfl | ⟨rfl,hp⟩ | ⟨rfl,hp,hsf⟩
          · have CL:=hid (fun w=>q0z pre w (by omega))
            have CT:=hid (fun w=>ig pre w (by omega));have CA:=hid (fun w=>Qy pre ⟨#[91,93,59,64,123,36,96]⟩ w (by omega) TK);have e7:(⟨#[91,93,59,64,123,36,96]⟩:ByteArray).data.toList=uj:=rfl;rw [e7] at CA;have iM:=hid (xV pre);clear e7 hbj;cases hL:fP pre<;>cases hT:trimS pre<;>cases hA:q24 pre uj
            all_goals
              rw [hL,hT,hA] at iM;rw [hL] at CL;rw [hT] at CT;rw [hA] at CA;clear hL hT hA;go_wp2_with (first | (go_at_call 112;refine (CL.out _).mono ?_;rintro e w2 ⟨rfl,q,rfl⟩) | (go_at_call 113;refine (CT.out _).mono ?_;rintro e w2 ⟨rfl,rfl⟩) | (go_at_call 218;refine (CA.out _).mono ?_;rintro e w2 ⟨rfl,hb2⟩))
              first
              | (go_ret
                 have HE:E=17:=by have:=rH.out;rw [if_pos (.inl (by rw [iM.out];rfl))] at this;exact this.symm
                 refine ⟨by rw [HE];rfl,aQ (aQ XG.out MP.out) ?_⟩;first | exact (eT (jc7 _ _) _).trans hb2 | exact eT (jc7 _ _) _)
              | (go_roundw
                 case rel=>exact ⟨aQ MP.out ((eT (jc7 _ _) _).trans hb2),.inr (.inl ⟨by go_num,by rw [iM.out];rfl⟩)⟩
                 case measure=>simp [intOf])
          · have CL:=hid (fun w=>q0z suf w (by omega))
            have CT:=hid (fun w=>ig suf w (by omega));have CA:=hid (fun w=>Qy suf ⟨#[91,93,59,64,123,36,96]⟩ w (by omega) TK);have e7:(⟨#[91,93,59,64,123,36,96]⟩:ByteArray).data.toList=uj:=rfl;rw [e7] at CA;have iM:=hid (xV suf);have HP:=hid hp;clear e7 hbj hp;cases hL:fP suf<;>cases hT:trimS suf<;>cases hA:q24 suf uj
            all_goals
              rw [hL,hT,hA] at iM;rw [hL] at CL;rw [hT] at CT;rw [hA] at CA;clear hL hT hA;go_wp2_with (first | (go_at_call 112;refine (CL.out _).mono ?_;rintro e w2 ⟨rfl,q,rfl⟩) | (go_at_call 113;refine (CT.out _).mono ?_;rintro e w2 ⟨rfl,rfl⟩) | (go_at_call 218;refine (CA.out _).mono ?_;rintro e w2 ⟨rfl,hb2⟩))
              first
              | (go_ret
                 have HE:E=17:=by have:=rH.out;rw [if_pos (.inr (by rw [iM.out];rfl))] at this;exact this.symm
                 refine ⟨by rw [HE];rfl,aQ (aQ XG.out MP.out) ?_⟩;first | exact (eT (jc7 _ _) _).trans hb2 | exact eT (jc7 _ _) _)
              | (go_roundw
                 case rel=>exact ⟨aQ MP.out ((eT (jc7 _ _) _).trans hb2),.inr (.inr ⟨by go_num,HP.out,by rw [iM.out];rfl⟩)⟩
                 case measure=>simp [intOf])
          · have HN:Hid (kD (l.drop (k+1))=E):=by
              show _=_;have:=rH.out;rw [if_neg (by rw [hp,hsf];simp)] at this;exact this
            clear hp hsf hbj;go_wp2;go_roundw;case rel=>exact ⟨k+1,by omega,by go_num,aQ XG.out MP.out,HN.out⟩
            case measure=>simp [intOf];omega
    · obtain rfl:k=l.length:=by omega
      have HE:Hid (E=0):=by show E=0;rw [List.drop_length,kD] at aX;exact aX.symm
      clear aX;go_wp2;go_ret;exact ⟨by rw [HE.out];rfl,HB.out⟩
open Go.RowKit
def oV:List UInt8:=[124,123,125]
theorem mQ (s:ByteArray):dK s=(!fP s||q24 s oV):=rfl
def TP (l:List ByteArray) (w:World) (vi:Value) (wr:World):Prop:=∃ k:Nat,k<=l.length/\vi=.int .i64 k/\Below w.heap.size w wr/\(l.take k).any dK=false
structure Wt (t d ti:ByteArray) (a:At) (ar:List ByteArray) (ci:List Ci):Prop where
  t:t.size<=1000000
  d:d.size<=1000000
  ti:ti.size<=1000000
  at_:a.short
  ars:∀ c∈ar,c.size<=5000
  cis:∀ c∈ci,c.key.size<=5000/\c.pre.size<=5000/\c.suf.size<=5000
theorem lV {α:Type} (p:α->Bool) {l:List α} {k:Nat} {x:α} (h:l[k]?=some x):(l.take (k+1)).any p=((l.take k).any p||p x):=by rw [List.take_add_one,h];simp
theorem uo {α:Type} (p:α->Bool) {l:List α} {k:Nat} {x:α} (h:l[k]?=some x) (hp:p x=true):l.any p=true:=List.any_eq_true.2 ⟨x,jd4 h,hp⟩
theorem uq (w:World) (b o:Nat) (k:Int) (t d ti:ByteArray) (at_:At) (ar:List ByteArray) (ci:List Ci) (ks:List ah) (ac ap aa ai ak:Option Addr) (cc cp ca nD ck:Nat) (h:O4 w b o k t d ti at_ ar ci ks ac ap aa ai ak cc cp ca nD ck) (hs:Wt t d ti at_ ar ci) (hk:k=12\/k=14\/k=15) (har:k=15\/ar=[]) : Calls Tryz.prog 181 #[.pointer (some ⟨b,o,none⟩)] w (dJ (.int .i64 (jO k t ti ar:Nat)) w):=by
  obtain ⟨a',c',hv,hsl⟩:=Rd.aD h.rd.args;obtain ⟨rfl,rfl⟩:a'=aa/\c'=ca:=by simp at hv;exact ⟨hv.1.symm,hv.2.symm⟩
  have hcap:ar.length<=c':=by simpa using hsl.le
  have hmx:=hsl.max;unfold maxLen at hmx;have HS:=hid hsl;have SZ:=hid hs.ars;have NT:=hid (fun w=>Gb t w (by have:=hs.t;omega));obtain ⟨c0,c1,c2,c3,c4,c5,c6,c7,c8,c9⟩:=h.cells;have R0:Hid (TP ar w (.int .i64 0) w):=⟨0,Nat.zero_le _,rfl,jc7 _ _,by simp⟩;clear hv hsl h hs;have HE:Hid (jO k t ti ar=if iQ t=false then 6 else if k=14/\aW ti=false/\ti.data.toList≠BI then 5 else if 8<ar.length then 3 else if ar.any dK then 17 else 0):=rfl;obtain ⟨V,hV⟩:∃ V,V=jO k t ti ar:=⟨_,rfl⟩;rw [<- hV] at HE ⊢;clear hV;cases hn:iQ t with
  | false=>
    rw [hn] at NT;have HV:Hid (V=6):=by show V=6;rw [HE.out,if_pos hn]
    clear hn;go_enter Tryz.func181,Tryz.ntmps181;go_wp2_with fail
    refine (NT.out _).mono ?_;rintro e w3 ⟨rfl,rfl⟩;go_wp2;go_ret;exact ⟨by rw [HV.out];rfl,jc7 _ _⟩
  | true=>
  rw [hn] at NT;have HE2:Hid (V=if k=14/\aW ti=false/\ti.data.toList≠BI then 5 else if 8<ar.length then 3 else if ar.any dK then 17 else 0):=by show V=_;rw [HE.out,if_neg (by rw [hn];decide)]
  clear hn HE;rcases hk with rfl | rfl | rfl
  · have h0:ar=[]:=by rcases har with h | h;(exact absurd h (by decide));exact h
    have hl0:ar.length<=8:=by rw [h0];simp
    have HL:Hid (V=if ar.any dK then 17 else 0):=by show V=_;rw [HE2.out,if_neg (by rintro ⟨h,-⟩;exact absurd h (by decide)),if_neg (by omega)]
    clear har h0 HE2;go_enter Tryz.func181,Tryz.ntmps181;go_wp2_with fail
    refine (NT.out _).mono ?_;rintro e w3 ⟨rfl,rfl⟩;go_wp2
    go_loopw [48] (fun i wr=>TP ar w i wr) (fun i _=>ar.length-(intOf i).toNat)
    case atStart=>exact R0.out
    case round=>
      clear R0;obtain ⟨j,hj,rfl,hbel,hno⟩:=hrel;have HB:=hid hbel;have DY:=hid hno;by_cases hlt:j<ar.length
      · obtain ⟨x,hx⟩:∃ x,ar[j]?=some x:=⟨_,jc6 hlt⟩
        have hxs:=SZ.out x (jd4 hx);obtain ⟨b2,off,rfl,-,-,x0⟩:=iq HS.out hx;have x0:wr.cell? ⟨b2,off+j,none⟩=some (.string x):=by rw [hbel.cell (p:=⟨b2,off+j,none⟩) (wF x0)];exact x0
        have CL:=hid (fun w=>q0z x w (by omega));have CA:=hid (fun w=>Qy x ⟨#[124,123,125]⟩ w (by omega) MO);have e7:(⟨#[124,123,125]⟩:ByteArray).data.toList=oV:=rfl;rw [e7] at CA;have iM:=hid (mQ x);have kE:=hid (lV dK hx);have HAT:=hid (uo dK hx);clear e7 hbel hno hx;cases hL:fP x<;>cases hA:q24 x oV
        all_goals
          rw [hL,hA] at iM;rw [hL] at CL;rw [hA] at CA;clear hL hA;go_wp2_with (first | (go_at_call 112;refine (CL.out _).mono ?_;rintro e w2 ⟨rfl,q,rfl⟩) | (go_at_call 218;refine (CA.out _).mono ?_;rintro e w2 ⟨rfl,hb2⟩))
          first
          | (go_ret
             have hv:V=17:=by rw [HL.out,if_pos (HAT.out (by rw [iM.out];rfl))]
             refine ⟨by rw [hv];rfl,aQ HB.out ?_⟩;first | exact (eT (jc7 _ _) _).trans hb2 | exact eT (jc7 _ _) _)
          | (go_roundw
             case rel=>exact ⟨j+1,by omega,by go_num,aQ HB.out ((eT (jc7 _ _) _).trans hb2),by rw [kE.out,DY.out,iM.out];rfl⟩
             case measure=>simp [intOf];omega)
      · have hv:V=0:=by
          have:=DY.out;rw [jdj (by omega)] at this;rw [HL.out,if_neg (by rw [this];decide)]
        have HV:=hid hv;clear hv hno hbel;go_wp2;go_ret;exact ⟨by rw [HV.out];rfl,HB.out⟩
  · have h0:ar=[]:=by rcases har with h | h;(exact absurd h (by decide));exact h
    have hl0:ar.length<=8:=by rw [h0];simp
    clear har h0;rcases iO ti with rfl | ⟨t1,t2,t3,t4⟩
    · have HL:Hid (V=if ar.any dK then 17 else 0):=by show V=_;rw [HE2.out,if_neg (by rintro ⟨-,h,-⟩;exact absurd h (by decide)),if_neg (by omega)]
      clear HE2;go_enter Tryz.func181,Tryz.ntmps181;go_wp2_with fail
      refine (NT.out _).mono ?_;rintro e w3 ⟨rfl,rfl⟩;go_wp2
      go_loopw [48] (fun i wr=>TP ar w i wr) (fun i _=>ar.length-(intOf i).toNat)
      case atStart=>exact R0.out
      case round=>
        clear R0;obtain ⟨j,hj,rfl,hbel,hno⟩:=hrel;have HB:=hid hbel;have DY:=hid hno;by_cases hlt:j<ar.length
        · obtain ⟨x,hx⟩:∃ x,ar[j]?=some x:=⟨_,jc6 hlt⟩
          have hxs:=SZ.out x (jd4 hx);obtain ⟨b2,off,rfl,-,-,x0⟩:=iq HS.out hx;have x0:wr.cell? ⟨b2,off+j,none⟩=some (.string x):=by rw [hbel.cell (p:=⟨b2,off+j,none⟩) (wF x0)];exact x0
          have CL:=hid (fun w=>q0z x w (by omega));have CA:=hid (fun w=>Qy x ⟨#[124,123,125]⟩ w (by omega) MO);have e7:(⟨#[124,123,125]⟩:ByteArray).data.toList=oV:=rfl;rw [e7] at CA;have iM:=hid (mQ x);have kE:=hid (lV dK hx);have HAT:=hid (uo dK hx);clear e7 hbel hno hx;cases hL:fP x<;>cases hA:q24 x oV
          all_goals
            rw [hL,hA] at iM;rw [hL] at CL;rw [hA] at CA;clear hL hA;go_wp2_with (first | (go_at_call 112;refine (CL.out _).mono ?_;rintro e w2 ⟨rfl,q,rfl⟩) | (go_at_call 218;refine (CA.out _).mono ?_;rintro e w2 ⟨rfl,hb2⟩))
            first
            | (go_ret
               have hv:V=17:=by rw [HL.out,if_pos (HAT.out (by rw [iM.out];rfl))]
               refine ⟨by rw [hv];rfl,aQ HB.out ?_⟩;first | exact (eT (jc7 _ _) _).trans hb2 | exact eT (jc7 _ _) _)
            | (go_roundw
               case rel=>exact ⟨j+1,by omega,by go_num,aQ HB.out ((eT (jc7 _ _) _).trans hb2),by rw [kE.out,DY.out,iM.out];rfl⟩
               case measure=>simp [intOf];omega)
        · have hv:V=0:=by
            have:=DY.out;rw [jdj (by omega)] at this;rw [HL.out,if_neg (by rw [this];decide)]
          have HV:=hid hv;clear hv hno hbel;go_wp2;go_ret;exact ⟨by rw [HV.out];rfl,HB.out⟩
    · have hpg:(ti.toList==[112,97,103,101])=decide (ti.data.toList=BI):=by
        rw [Lib.toList_data,Bool.eq_iff_iff,beq_iff_eq,decide_eq_true_iff];rfl
      by_cases hp:ti.data.toList=BI
      · have HL:Hid (V=if ar.any dK then 17 else 0):=by show V=_;rw [HE2.out,if_neg (by rintro ⟨-,-,h⟩;exact h hp),if_neg (by omega)]
        rw [decide_eq_true hp] at hpg;clear HE2 hp;go_enter Tryz.func181,Tryz.ntmps181;go_wp2_with fail
        refine (NT.out _).mono ?_;rintro e w3 ⟨rfl,rfl⟩;go_wp2
        go_loopw [48] (fun i wr=>TP ar w i wr) (fun i _=>ar.length-(intOf i).toNat)
        case atStart=>exact R0.out
        case round=>
          clear R0;obtain ⟨j,hj,rfl,hbel,hno⟩:=hrel;have HB:=hid hbel;have DY:=hid hno;by_cases hlt:j<ar.length
          · obtain ⟨x,hx⟩:∃ x,ar[j]?=some x:=⟨_,jc6 hlt⟩
            have hxs:=SZ.out x (jd4 hx);obtain ⟨b2,off,rfl,-,-,x0⟩:=iq HS.out hx;have x0:wr.cell? ⟨b2,off+j,none⟩=some (.string x):=by rw [hbel.cell (p:=⟨b2,off+j,none⟩) (wF x0)];exact x0
            have CL:=hid (fun w=>q0z x w (by omega));have CA:=hid (fun w=>Qy x ⟨#[124,123,125]⟩ w (by omega) MO);have e7:(⟨#[124,123,125]⟩:ByteArray).data.toList=oV:=rfl;rw [e7] at CA;have iM:=hid (mQ x);have kE:=hid (lV dK hx);have HAT:=hid (uo dK hx);clear e7 hbel hno hx;cases hL:fP x<;>cases hA:q24 x oV
            all_goals
              rw [hL,hA] at iM;rw [hL] at CL;rw [hA] at CA;clear hL hA;go_wp2_with (first | (go_at_call 112;refine (CL.out _).mono ?_;rintro e w2 ⟨rfl,q,rfl⟩) | (go_at_call 218;refine (CA.out _).mono ?_;rintro e w2 ⟨rfl,hb2⟩))
              first
              | (go_ret
                 have hv:V=17:=by rw [HL.out,if_pos (HAT.out (by rw [iM.out];rfl))]
                 refine ⟨by rw [hv];rfl,aQ HB.out ?_⟩;first | exact (eT (jc7 _ _) _).trans hb2 | exact eT (jc7 _ _) _)
              | (go_roundw
                 case rel=>exact ⟨j+1,by omega,by go_num,aQ HB.out ((eT (jc7 _ _) _).trans hb2),by rw [kE.out,DY.out,iM.out];rfl⟩
                 case measure=>simp [intOf];omega)
          · have hv:V=0:=by
              have:=DY.out;rw [jdj (by omega)] at this;rw [HL.out,if_neg (by rw [this];decide)]
            have HV:=hid hv;clear hv hno hbel;go_wp2;go_ret;exact ⟨by rw [HV.out];rfl,HB.out⟩
      · have HV:Hid (V=5):=by show V=_;rw [HE2.out,if_pos ⟨rfl,t4,hp⟩]
        rw [decide_eq_false hp] at hpg;clear HE2 hp;go_enter Tryz.func181,Tryz.ntmps181;go_wp2_with fail
        refine (NT.out _).mono ?_;rintro e w3 ⟨rfl,rfl⟩;go_wp2;go_ret;exact ⟨by rw [HV.out];rfl,jc7 _ _⟩
  · clear har
    by_cases h8:8<ar.length
    · have HV:Hid (V=3):=by show V=_;rw [HE2.out,if_neg (by rintro ⟨h,-⟩;exact absurd h (by decide)),if_pos h8]
      have q8:decide ((8:Int)<(ar.length:Int))=true:=by simp;omega
      clear HE2;go_enter Tryz.func181,Tryz.ntmps181;go_wp2_with fail
      refine (NT.out _).mono ?_;rintro e w3 ⟨rfl,rfl⟩;go_wp2;go_ret;exact ⟨by rw [HV.out];rfl,jc7 _ _⟩
    · have HL:Hid (V=if ar.any dK then 17 else 0):=by show V=_;rw [HE2.out,if_neg (by rintro ⟨h,-⟩;exact absurd h (by decide)),if_neg h8]
      have q8:decide ((8:Int)<(ar.length:Int))=false:=by simp;omega
      clear HE2;go_enter Tryz.func181,Tryz.ntmps181;go_wp2_with fail
      refine (NT.out _).mono ?_;rintro e w3 ⟨rfl,rfl⟩;go_wp2
      go_loopw [48] (fun i wr=>TP ar w i wr) (fun i _=>ar.length-(intOf i).toNat)
      case atStart=>exact R0.out
      case round=>
        clear R0;obtain ⟨j,hj,rfl,hbel,hno⟩:=hrel;have HB:=hid hbel;have DY:=hid hno;by_cases hlt:j<ar.length
        · obtain ⟨x,hx⟩:∃ x,ar[j]?=some x:=⟨_,jc6 hlt⟩
          have hxs:=SZ.out x (jd4 hx);obtain ⟨b2,off,rfl,-,-,x0⟩:=iq HS.out hx;have x0:wr.cell? ⟨b2,off+j,none⟩=some (.string x):=by rw [hbel.cell (p:=⟨b2,off+j,none⟩) (wF x0)];exact x0
          have CL:=hid (fun w=>q0z x w (by omega));have CA:=hid (fun w=>Qy x ⟨#[124,123,125]⟩ w (by omega) MO);have e7:(⟨#[124,123,125]⟩:ByteArray).data.toList=oV:=rfl;rw [e7] at CA;have iM:=hid (mQ x);have kE:=hid (lV dK hx);have HAT:=hid (uo dK hx);clear e7 hbel hno hx;cases hL:fP x<;>cases hA:q24 x oV
          all_goals
            rw [hL,hA] at iM;rw [hL] at CL;rw [hA] at CA;clear hL hA;go_wp2_with (first | (go_at_call 112;refine (CL.out _).mono ?_;rintro e w2 ⟨rfl,q,rfl⟩) | (go_at_call 218;refine (CA.out _).mono ?_;rintro e w2 ⟨rfl,hb2⟩))
            first
            | (go_ret
               have hv:V=17:=by rw [HL.out,if_pos (HAT.out (by rw [iM.out];rfl))]
               refine ⟨by rw [hv];rfl,aQ HB.out ?_⟩;first | exact (eT (jc7 _ _) _).trans hb2 | exact eT (jc7 _ _) _)
            | (go_roundw
               case rel=>exact ⟨j+1,by omega,by go_num,aQ HB.out ((eT (jc7 _ _) _).trans hb2),by rw [kE.out,DY.out,iM.out];rfl⟩
               case measure=>simp [intOf];omega)
        · have hv:V=0:=by
            have:=DY.out;rw [jdj (by omega)] at this;rw [HL.out,if_neg (by rw [this];decide)]
          have HV:=hid hv;clear hv hno hbel;go_wp2;go_ret;exact ⟨by rw [HV.out];rfl,HB.out⟩
open Go.RowKit
theorem wX (w:World) (b o:Nat) (k:Int) (t d ti:ByteArray) (at_:At) (ar:List ByteArray) (ci:List Ci) (ks:List ah) (ac ap aa ai ak:Option Addr) (cc cp ca nD ck:Nat) (h:O4 w b o k t d ti at_ ar ci ks ac ap aa ai ak cc cp ca nD ck) (hs:Wt t d ti at_ ar ci) (hk:k=9\/k=10) : Calls Tryz.prog 180 #[.pointer (some ⟨b,o,none⟩)] w (dJ (.int .i64 (iF k t d ti at_ ks:Nat)) w):=by
  have HP:=hid h;obtain ⟨s1,s2,s3,s4,-,-⟩:=hs;have LT:=hid (fun w=>xS t w (by omega));have CD:=hid (fun w=>q0z d w (by omega));have CT:=hid (fun w=>q0z ti w (by omega));have AC:=hid (fun wx (hb:Below w.heap.size w wx)=>fQ at_ ac ap cc cp wx (h.rd.at_.up hb) s4);have AK:=hid (fun wx q (hb:Below w.heap.size w wx)=>rJ _ ks _ _ [9,16,12,14,13] wx.heap.size 5 ((wx.alloc (.cells #[.int .i64 9,.int .i64 16,.int .i64 12,.int .i64 14,.int .i64 13] 3)).drewN q) (Nat.le_refl _)
    ((h.rd.kids.up hb).up (eT ((jc7 _ _).alloc (Nat.le_refl _) _) q)) (by simp) (OU wx 3 9 16 12 14 13))
  simp only [List.length_cons,List.length_nil,Nat.reduceAdd] at AK;obtain ⟨c0,c1,c2,c3,c4,c5,c6,c7,c8,c9⟩:=h.cells;have HE:Hid (iF k t d ti at_ ks=if aW t=false/\(aW d=false\/aW ti=false) then 5
  else if aW t=false/\eG t=false then 6
  else if fP d=false\/fP ti=false then 17
  else if k=9/\ah.dW oW ks=true then 5
  else if k=10 then at_.err else 0):=rfl
  have TQ:ah.dW [9,16,12,14,13] ks=ah.dW oW ks:=rfl;rw [TQ] at AK;obtain ⟨V,hV⟩:∃ V,V=iF k t d ti at_ ks:=⟨_,rfl⟩
  rw [<- hV] at HE ⊢;have HD:=hid (dw d).symm;have HT:=hid (dw t).symm;have TS:=hid (dw ti).symm;generalize eG t=L at *;generalize fP d=L1 at *;generalize fP ti=L2 at *;generalize ah.dW oW ks=K at *;generalize at_.err=E at *
  clear hV h TQ s1 s2 s3 s4;cases hT:t.toList.isEmpty<;>cases hD:d.toList.isEmpty<;>cases hTI:ti.toList.isEmpty<;>rcases hk with rfl | rfl
  all_goals
    go_enter Tryz.func180,Tryz.ntmps180;go_wp2_with (first | (go_at_call 199;refine (LT.out _).mono ?_;rintro e w2 ⟨rfl,hb1⟩;obtain ⟨p0,p1,p2,p3,p4,p5,p6,p7,p8,p9⟩:=(HP.out.up hb1).cells) | (go_at_call 112;(with_reducible refine (CD.out _).mono ?_);rintro e w2 ⟨rfl,q,rfl⟩) | (go_at_call 112;(with_reducible refine (CT.out _).mono ?_);rintro e w2 ⟨rfl,q2,rfl⟩) | (go_at_call 114;refine (AC.out _ (by first | exact eT hb1 _ | exact eT (jc7 _ _) _)).mono ?_;rintro e w2 ⟨rfl,hb3⟩) | (go_at_call 217;refine (AK.out _ _ (by first | exact hb1 | exact jc7 _ _)).mono ?_;rintro e w2 ⟨rfl,rfl⟩))
    all_goals
      go_ret;refine ⟨jo ?_,?_⟩
      · (try simp only [Bool.not_eq_true',Bool.not_eq_false'] at *)
        rw [HE.out,HD.out,HT.out,TS.out,hT,hD,hTI];simp [*]
      · first
        | exact aQ (eT hb1 _) hb3 | exact aQ (eT (jc7 _ _) _) hb3
        | exact eT (hb1.alloc hb1.size _) _ | exact eT ((jc7 _ _).alloc (Nat.le_refl _) _) _
        | exact eT hb1 _ | exact eT (jc7 _ _) _ | exact hb1 | exact jc7 _ _
open Go.RowKit
theorem Ei {k:Int} {t d ti:ByteArray} {a:At} {ar:List ByteArray} {ci:List Ci} {ks:List ah} (h:BJ k t d ti a ar ci ks=true):1<=k/\k<=16/\(k=15\/ar=[]):=by
  unfold BJ at h;simp only [Bool.and_eq_true,Bool.or_eq_true,decide_eq_true_eq] at h;obtain ⟨⟨⟨⟨⟨⟨⟨⟨h1,h2⟩,-⟩,-⟩,-⟩,-⟩,-⟩,h8⟩,-⟩:=h;refine ⟨h1,h2,?_⟩;rcases h8 with h | h
  · exact .inl h
  · exact .inr (by simpa using h)
theorem sK (w:World) (b o:Nat) (k bf:Int) (t d ti:ByteArray) (at_:At) (ar:List ByteArray) (ci:List Ci) (ks:List ah) (ac ap aa ai ak:Option Addr) (cc cp ca nD ck:Nat) (h:O4 w b o k t d ti at_ ar ci ks ac ap aa ai ak cc cp ca nD ck) (hs:Wt t d ti at_ ar ci) (hf:BJ k t d ti at_ ar ci ks=true) : Calls Tryz.prog 148 #[.pointer (some ⟨b,o,none⟩),.int .i64 bf] w (dJ (.int .i64 (rM bf false false k t d ti at_ ar ci ks:Nat)) w):=by
  have HP:=hid h;obtain ⟨f1,f2,f3⟩:=Ei hf;have l1:=(fC h.rd.at_.cls).2;have l2:=(fC h.rd.at_.aH).2;obtain ⟨-,l5,m5⟩:=fC h.rd.kids;have AE:=hid (fun w=>nY at_ ac ap cc cp w (by omega) (by omega));unfold maxLen at m5;clear l1 l2;have CL:=hid (fun w=>q0z t w (by have:=hs.t;omega));have AC:=hid (fun wx (hb:Below w.heap.size w wx)=>fQ at_ ac ap cc cp wx (h.rd.at_.up hb) hs.at_);have LK:=hid (wX w b o k t d ti at_ ar ci ks ac ap aa ai ak cc cp ca nD ck h hs);have NM:=hid (fun hk=>uq w b o k t d ti at_ ar ci ks ac ap aa ai ak cc cp ca nD ck h hs hk f3);have CC:=hid (um ci ai nD w h.rd.bM hs.cis);have AD:=hid (BD d w (by have:=hs.d;omega));have OO:=hid (jM bf [2,3] w.heap.size 2 _ (by simp) (JC w 3 2 3));simp only [List.length_cons,List.length_nil,Nat.reduceAdd] at OO;have TT:([2,3]:List Int).contains bf=(decide (bf=2)||decide (bf=3)):=by rw [Bool.eq_iff_iff];simp
  rw [TT] at OO;obtain ⟨c0,c1,c2,c3,c4,c5,c6,c7,c8,c9⟩:=h.cells;have e3:=uw ks;have HE:Hid (rM bf false false k t d ti at_ ar ci ks=if BJ k t d ti at_ ar ci ks=false then 5
  else if k=1\/k=4\/k=5 then (if aW t=true\/fP t=false then 17 else if k≠5/\bf=k then 5 else 0)
  else if k=2 then (if bf=2\/bf=3\/false=true\/false=true then 5 else 0)
  else if k=3 then (if false=true then 5 else 0)
  else if k=6\/k=7\/k=8 then (if ks.isEmpty=true then 8 else 0)
  else if k=9\/k=10 then iF k t d ti at_ ks
  else if k=11 then (if at_.none=true then 8 else at_.err)
  else if k=12\/k=14\/k=15 then jO k t ti ar
  else if k=13 then jN ci
  else if uh d=true then 0 else 5):=rfl
  rw [hf] at HE;obtain ⟨V,hV⟩:∃ V,V=rM bf false false k t d ti at_ ar ci ks:=⟨_,rfl⟩
  rw [<- hV] at HE ⊢;have HT:=hid (dw t).symm;generalize fP t=L at *;generalize iF k t d ti at_ ks=E1 at *
  generalize at_.none=bn at *
  generalize at_.err=E2 at *
  generalize jO k t ti ar=E3 at *;generalize jN ci=E4 at *;generalize uh d=bu at *;generalize ks.isEmpty=bk at *;clear hV h hs hf TT;rcases BK k with rfl | rfl | rfl | rfl | rfl | rfl | rfl | rfl | rfl | rfl | rfl | rfl | rfl | rfl | rfl | rfl | hk
  case inr.inr.inr.inr.inr.inr.inr.inr.inr.inr.inr.inr.inr.inr.inr.inr=>omega
  all_goals
    go_enter Tryz.func148,Tryz.ntmps148;go_wp2_with (first | (go_at_call 112;refine (CL.out _).mono ?_;rintro e w2 ⟨rfl,q,rfl⟩) | (go_at_call 147;refine OO.out.mono ?_;rintro e w2 ⟨rfl,rfl⟩) | (go_at_call 180;refine (LK.out (by simp)).mono ?_;rintro e w2 ⟨rfl,hb3⟩) | (go_at_call 179;refine (AE.out _).mono ?_;rintro e w2 ⟨rfl,hb1⟩;obtain ⟨p0,p1,p2,p3,p4,p5,p6,p7,p8,p9⟩:=(HP.out.up hb1).cells) | (go_at_call 114;refine (AC.out _ hb1).mono ?_;rintro e w2 ⟨rfl,hb3⟩) | (go_at_call 181;refine (NM.out (by simp)).mono ?_;rintro e w2 ⟨rfl,hb3⟩) | (go_at_call 182;refine CC.out.mono ?_;rintro e w2 ⟨rfl,hb3⟩) | (go_at_call 183;refine AD.out.mono ?_;rintro e w2 ⟨rfl,hb3⟩))
    all_goals
      go_ret;refine ⟨jo ?_,?_⟩
      · (try simp only [Bool.not_eq_true',Bool.not_eq_false',beq_iff_eq,beq_eq_false_iff_ne,ne_eq] at *)
        rw [HE.out,HT.out];simp [*]
      · first
        | exact aQ hb1 hb3 | exact hb3 | exact hb1
        | exact (jc7 _ _).alloc (Nat.le_refl _) _
        | exact eT (jc7 _ _) _ | exact jc7 _ _
end Go.Proofs.YtclikfjalmcoaaaGreatDoor

