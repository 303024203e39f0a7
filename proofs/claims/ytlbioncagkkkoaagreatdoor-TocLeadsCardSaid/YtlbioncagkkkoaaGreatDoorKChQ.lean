/- Contracts of tree.checkCites, checkNamed, checkLink. Contracts of tree.checkNamed, checkLink. The contract of tree.checkLink. The contract of tree.checkInline. -/
import Derived.Test.YtlbioncagkkkoaaGreatDoorKChL
import Derived.Test.YtlbioncagkkkoaaGreatDoorKChG
set_option maxHeartbeats 8000000
set_option maxRecDepth 100000
open Go.Lib (hid)
namespace Go.Proofs.YtlbioncagkkkoaaGreatDoor
open Go.RowKit
set_option linter.unusedVariables false
set_option linter.unusedSimpArgs false
def citeBs:List UInt8:=[91,93,59,64,123,36,96]
theorem citBad_eq (s:ByteArray):citBad s=(!q0d s||!trimS s||q0r s citeBs):=rfl
def CkIn (pre suf:ByteArray) (wi:World) (vj:Value) (wj:World):Prop:=Below wi.heap.size wi wj/\(vj=.int .i64 0\/(vj=.int .i64 1/\citBad pre=false)\/(vj=.int .i64 2/\citBad pre=false/\citBad suf=false))
def CkRel (l:List Ci) (E:Nat) (w:World) (vi:Value) (wr:World):Prop:=∃ k:Nat,k<=l.length/\vi=.int .i64 k/\Below w.heap.size w wr/\cisErr (l.drop k)=E
theorem checkCites_any (l:List Ci) (a:Option Addr) (cap:Nat) (w:World) (h:Rd (·<w.heap.size) w (cisD l) [.slice a l.length cap]) (hsz:∀ c∈l,c.key.size<=5000/\c.pre.size<=5000/\c.suf.size<=5000) :
    Calls Tryz.prog 221 #[.slice a l.length cap] w (RetB (.int .i64 (q2i l:Nat)) w):=by
  obtain ⟨a',c',hv,hs⟩:=Rd.sl_open h
  obtain ⟨rfl,rfl⟩:a'=a/\c'=cap:=by simp at hv;exact ⟨hv.1.symm,hv.2.symm⟩
  have hcap:l.length<=c':=by simpa using hs.le
  have hmx:=hs.max
  unfold maxLen at hmx
  have HS:=hid hs
  have SZ:=hid hsz
  clear hs hv h hsz
  by_cases h0:l.length=0
  · have hv:q2i l=8:=by
      obtain rfl:=List.eq_nil_of_length_eq_zero h0
      rfl
    rw [hv]
    have e0:((l.length:Int)==0)=true:=by rw [h0];rfl
    clear hv h0
    go_enter Tryz.func221,Tryz.ntmps221
    go_wp2
    go_ret
    exact ⟨rfl,Below.refl _ _⟩
  have hv:q2i l=cisErr l:=by
    cases l with
    | nil=>simp at h0
    | cons x l=>rfl
  rw [hv]
  have e0:((l.length:Int)==0)=false:=by rw [beq_eq_false_iff_ne];omega
  obtain ⟨E,hE⟩:∃ E,cisErr l=E:=⟨_,rfl⟩
  rw [hE]
  have R0:Hid (CkRel l E w (.int .i64 0) w):=⟨0,Nat.zero_le _,rfl,Below.refl _ _,hE⟩
  clear hv hE h0
  go_enter Tryz.func221,Tryz.ntmps221
  go_wp2
  go_loopw [12] (fun i wr=>CkRel l E w i wr) (fun i _=>l.length-(intOf i).toNat)
  case atStart=>exact R0.out
  case round=>
    clear R0
    obtain ⟨k,hk,rfl,hbel,herr⟩:=hrel
    have HB:=hid hbel
    by_cases hlt:k<l.length
    · obtain ⟨x,hx⟩:∃ x,l[k]?=some x:=⟨_,List.getElem?_eq_getElem hlt⟩
      have hxs:=SZ.out x (List.mem_of_getElem? hx)
      obtain ⟨b,off,rfl,-,-,c0,c1,c2,c3⟩:=cis_at HS.out hx
      have c0:wr.cell? ⟨b,off+k*4,none⟩=some (.string x.key):=by rw [hbel.cell (p:=⟨b,off+k*4,none⟩) (q0c c0)];exact c0
      have c1:wr.cell? ⟨b,off+k*4+1,none⟩=some (.string x.pre):=by rw [hbel.cell (p:=⟨b,off+k*4+1,none⟩) (q0c c1)];exact c1
      have c2:wr.cell? ⟨b,off+k*4+2,none⟩=some (.string x.suf):=by rw [hbel.cell (p:=⟨b,off+k*4+2,none⟩) (q0c c2)];exact c2
      have c3:wr.cell? ⟨b,off+k*4+3,none⟩=some (.bool x.bare):=by rw [hbel.cell (p:=⟨b,off+k*4+3,none⟩) (q0c c3)];exact c3
      rw [q0s l k x hx,cisErr] at herr
      obtain ⟨key,pre,suf,bare⟩:=x
      dsimp only at c0 c1 c2 c3 hxs herr
      have HERR:=hid herr
      have CN:=hid (fun w=>name_any key w (by omega))
      clear herr hx hbel
      cases hn:q0a key with
      | false=>
        rw [hn] at CN
        have HE:Hid (E=6):=by
          show E=6
          have:=HERR.out
          rw [if_pos hn] at this
          exact this.symm
        clear hn
        go_wp2_with fail
        refine (CN.out _).mono ?_
        rintro e w3 ⟨rfl,rfl⟩
        go_wp2
        go_ret
        exact ⟨by rw [HE.out];rfl,HB.out.alloc HB.out.size _⟩
      | true=>
        rw [hn] at CN
        have HERR2:Hid ((if citBad pre=true\/citBad suf=true then 17 else cisErr (l.drop (k+1)))=E):=by
          show _=_
          have:=HERR.out
          rw [if_neg (by rw [hn];decide)] at this
          exact this
        obtain ⟨wi,hwi⟩:∃ wi,wi=wr.alloc (.cells #[.string key,.string pre,.string suf,.bool bare] 96):=⟨_,rfl⟩
        have HBI:Hid (Below w.heap.size w wi):=by rw [hwi];exact HB.out.alloc HB.out.size _
        have i0:wi.cell? ⟨wr.heap.size,0,none⟩=some (.string key):=by rw [hwi];exact q11 wr [.string key,.string pre,.string suf,.bool bare] _ 0 _ rfl
        have i1:wi.cell? ⟨wr.heap.size,1,none⟩=some (.string pre):=by rw [hwi];exact q11 wr [.string key,.string pre,.string suf,.bool bare] _ 1 _ rfl
        have i2:wi.cell? ⟨wr.heap.size,2,none⟩=some (.string suf):=by rw [hwi];exact q11 wr [.string key,.string pre,.string suf,.bool bare] _ 2 _ rfl
        clear hn HERR
        go_upto_region 6 with (fail)
        rw [<- hwi]
        clear hwi c0 c1 c2 c3
        have hix0:∀ wx,(Instr.index 227 (.agg #[.string pre,.string suf]) (.int .i64 0)).run Tryz.prog wx=.ok (.string pre) wx:=fun wx=>by kernel_rfl
        have hix1:∀ wx,(Instr.index 227 (.agg #[.string pre,.string suf]) (.int .i64 1)).run Tryz.prog wx=.ok (.string suf) wx:=fun wx=>by kernel_rfl
        go_wp2_with fail
        refine (CN.out _).mono ?_
        rintro e w3 ⟨rfl,rfl⟩
        go_wp2
        go_loopw [25] (fun j wj=>CkIn pre suf wi j wj) (fun j _=>2-(intOf j).toNat)
        case atStart=>exact ⟨Below.refl _ _,.inl rfl⟩
        case round=>
          clear i0 i1 i2
          obtain ⟨hbj,hj⟩:=hrel
          have HBJ:=hid hbj
          rcases hj with rfl | ⟨rfl,hp⟩ | ⟨rfl,hp,hsf⟩
          · have CL:=hid (fun w=>q1n pre w (by omega))
            have CT:=hid (fun w=>tTrimmed_any pre w (by omega))
            have CA:=hid (fun w=>q1a pre ⟨#[91,93,59,64,123,36,96]⟩ w (by omega) asc7)
            have e7:(⟨#[91,93,59,64,123,36,96]⟩:ByteArray).data.toList=citeBs:=rfl
            rw [e7] at CA
            have HBD:=hid (citBad_eq pre)
            clear e7 hbj
            cases hL:q0d pre<;>cases hT:trimS pre<;>cases hA:q0r pre citeBs
            all_goals
              rw [hL,hT,hA] at HBD
              rw [hL] at CL
              rw [hT] at CT
              rw [hA] at CA
              clear hL hT hA
              go_wp2_with (first | (go_at_call 122;refine (CL.out _).mono ?_;rintro e w2 ⟨rfl,q,rfl⟩) | (go_at_call 123;refine (CT.out _).mono ?_;rintro e w2 ⟨rfl,rfl⟩) | (go_at_call 238;refine (CA.out _).mono ?_;rintro e w2 ⟨rfl,hb2⟩))
              first
              | (go_ret
                 have HE:E=17:=by have:=HERR2.out;rw [if_pos (.inl (by rw [HBD.out];rfl))] at this;exact this.symm
                 refine ⟨by rw [HE];rfl,q01 (q01 HBI.out HBJ.out) ?_⟩
                 first | exact (q03 (Below.refl _ _) _).trans hb2 | exact q03 (Below.refl _ _) _)
              | (go_roundw
                 case rel=>exact ⟨q01 HBJ.out ((q03 (Below.refl _ _) _).trans hb2),.inr (.inl ⟨by go_num,by rw [HBD.out];rfl⟩)⟩
                 case measure=>simp [intOf])
          · have CL:=hid (fun w=>q1n suf w (by omega))
            have CT:=hid (fun w=>tTrimmed_any suf w (by omega))
            have CA:=hid (fun w=>q1a suf ⟨#[91,93,59,64,123,36,96]⟩ w (by omega) asc7)
            have e7:(⟨#[91,93,59,64,123,36,96]⟩:ByteArray).data.toList=citeBs:=rfl
            rw [e7] at CA
            have HBD:=hid (citBad_eq suf)
            have HP:=hid hp
            clear e7 hbj hp
            cases hL:q0d suf<;>cases hT:trimS suf<;>cases hA:q0r suf citeBs
            all_goals
              rw [hL,hT,hA] at HBD
              rw [hL] at CL
              rw [hT] at CT
              rw [hA] at CA
              clear hL hT hA
              go_wp2_with (first | (go_at_call 122;refine (CL.out _).mono ?_;rintro e w2 ⟨rfl,q,rfl⟩) | (go_at_call 123;refine (CT.out _).mono ?_;rintro e w2 ⟨rfl,rfl⟩) | (go_at_call 238;refine (CA.out _).mono ?_;rintro e w2 ⟨rfl,hb2⟩))
              first
              | (go_ret
                 have HE:E=17:=by have:=HERR2.out;rw [if_pos (.inr (by rw [HBD.out];rfl))] at this;exact this.symm
                 refine ⟨by rw [HE];rfl,q01 (q01 HBI.out HBJ.out) ?_⟩
                 first | exact (q03 (Below.refl _ _) _).trans hb2 | exact q03 (Below.refl _ _) _)
              | (go_roundw
                 case rel=>exact ⟨q01 HBJ.out ((q03 (Below.refl _ _) _).trans hb2),.inr (.inr ⟨by go_num,HP.out,by rw [HBD.out];rfl⟩)⟩
                 case measure=>simp [intOf])
          · have HN:Hid (cisErr (l.drop (k+1))=E):=by
              show _=_
              have:=HERR2.out
              rw [if_neg (by rw [hp,hsf];simp)] at this
              exact this
            clear hp hsf hbj
            go_wp2
            go_roundw
            case rel=>exact ⟨k+1,by omega,by go_num,q01 HBI.out HBJ.out,HN.out⟩
            case measure=>simp [intOf];omega
    · obtain rfl:k=l.length:=by omega
      have HE:Hid (E=0):=by
        show E=0
        rw [List.drop_length,cisErr] at herr;exact herr.symm
      clear herr
      go_wp2
      go_ret
      exact ⟨by rw [HE.out];rfl,HB.out⟩
open Go.RowKit
def argBs:List UInt8:=[124,123,125]
theorem argBad_eq (s:ByteArray):q1q s=(!q0d s||q0r s argBs):=rfl
def NmR (l:List ByteArray) (w:World) (vi:Value) (wr:World):Prop:=∃ k:Nat,k<=l.length/\vi=.int .i64 k/\Below w.heap.size w wr/\(l.take k).any q1q=false
structure InS (t d ti:ByteArray) (a:At) (ar:List ByteArray) (ci:List Ci):Prop where
  t:t.size<=1000000
  d:d.size<=1000000
  ti:ti.size<=1000000
  at_:a.short
  ars:∀ c∈ar,c.size<=5000
  cis:∀ c∈ci,c.key.size<=5000/\c.pre.size<=5000/\c.suf.size<=5000
theorem any_snoc {α:Type} (p:α->Bool) {l:List α} {k:Nat} {x:α} (h:l[k]?=some x):(l.take (k+1)).any p=((l.take k).any p||p x):=by
  rw [List.take_add_one,h];simp
theorem any_at {α:Type} (p:α->Bool) {l:List α} {k:Nat} {x:α} (h:l[k]?=some x) (hp:p x=true):l.any p=true:=List.any_eq_true.2 ⟨x,List.mem_of_getElem? h,hp⟩
theorem checkNamed_any (w:World) (b o:Nat) (k:Int) (t d ti:ByteArray) (at_:At) (ar:List ByteArray) (ci:List Ci) (ks:List Inl) (ac ap aa ai ak:Option Addr) (cc cp ca cai ck:Nat)
    (h:InP w b o k t d ti at_ ar ci ks ac ap aa ai ak cc cp ca cai ck) (hs:InS t d ti at_ ar ci) (hk:k=12\/k=14\/k=15) (har:k=15\/ar=[]) :
    Calls Tryz.prog 220 #[.pointer (some ⟨b,o,none⟩)] w (RetB (.int .i64 (q2j k t ti ar:Nat)) w):=by
  obtain ⟨a',c',hv,hsl⟩:=Rd.sl_open h.rd.args
  obtain ⟨rfl,rfl⟩:a'=aa/\c'=ca:=by simp at hv;exact ⟨hv.1.symm,hv.2.symm⟩
  have hcap:ar.length<=c':=by simpa using hsl.le
  have hmx:=hsl.max
  unfold maxLen at hmx
  have HS:=hid hsl
  have SZ:=hid hs.ars
  have NT:=hid (fun w=>name_any t w (by have:=hs.t;omega))
  obtain ⟨c0,c1,c2,c3,c4,c5,c6,c7,c8,c9⟩:=h.cells
  have R0:Hid (NmR ar w (.int .i64 0) w):=⟨0,Nat.zero_le _,rfl,Below.refl _ _,by simp⟩
  clear hv hsl h hs
  have HE:Hid (q2j k t ti ar=if q0a t=false then 6 else if k=14/\q06 ti=false/\ti.data.toList≠pageL then 5 else if 8<ar.length then 3 else if ar.any q1q then 17 else 0):=rfl
  obtain ⟨V,hV⟩:∃ V,V=q2j k t ti ar:=⟨_,rfl⟩
  rw [<- hV] at HE ⊢
  clear hV
  cases hn:q0a t with
  | false=>
    rw [hn] at NT
    have HV:Hid (V=6):=by show V=6;rw [HE.out,if_pos hn]
    clear hn
    go_enter Tryz.func220,Tryz.ntmps220
    go_wp2_with fail
    refine (NT.out _).mono ?_
    rintro e w3 ⟨rfl,rfl⟩
    go_wp2
    go_ret
    exact ⟨by rw [HV.out];rfl,Below.refl _ _⟩
  | true=>
  rw [hn] at NT
  have HE2:Hid (V=if k=14/\q06 ti=false/\ti.data.toList≠pageL then 5 else if 8<ar.length then 3 else if ar.any q1q then 17 else 0):=by
    show V=_;rw [HE.out,if_neg (by rw [hn];decide)]
  clear hn HE
  rcases hk with rfl | rfl | rfl
  · have h0:ar=[]:=by rcases har with h | h;(exact absurd h (by decide));exact h
    have hl0:ar.length<=8:=by rw [h0];simp
    have HL:Hid (V=if ar.any q1q then 17 else 0):=by show V=_;rw [HE2.out,if_neg (by rintro ⟨h,-⟩;exact absurd h (by decide)),if_neg (by omega)]
    clear har h0 HE2
    go_enter Tryz.func220,Tryz.ntmps220
    go_wp2_with fail
    refine (NT.out _).mono ?_
    rintro e w3 ⟨rfl,rfl⟩
    go_wp2
    go_loopw [48] (fun i wr=>NmR ar w i wr) (fun i _=>ar.length-(intOf i).toNat)
    case atStart=>exact R0.out
    case round=>
      clear R0
      obtain ⟨j,hj,rfl,hbel,hno⟩:=hrel
      have HB:=hid hbel
      have HNO:=hid hno
      by_cases hlt:j<ar.length
      · obtain ⟨x,hx⟩:∃ x,ar[j]?=some x:=⟨_,List.getElem?_eq_getElem hlt⟩
        have hxs:=SZ.out x (List.mem_of_getElem? hx)
        obtain ⟨b2,off,rfl,-,-,x0⟩:=strs_at HS.out hx
        have x0:wr.cell? ⟨b2,off+j,none⟩=some (.string x):=by rw [hbel.cell (p:=⟨b2,off+j,none⟩) (q0c x0)];exact x0
        have CL:=hid (fun w=>q1n x w (by omega))
        have CA:=hid (fun w=>q1a x ⟨#[124,123,125]⟩ w (by omega) asc4)
        have e7:(⟨#[124,123,125]⟩:ByteArray).data.toList=argBs:=rfl
        rw [e7] at CA
        have HBD:=hid (argBad_eq x)
        have HSN:=hid (any_snoc q1q hx)
        have HAT:=hid (any_at q1q hx)
        clear e7 hbel hno hx
        cases hL:q0d x<;>cases hA:q0r x argBs
        all_goals
          rw [hL,hA] at HBD
          rw [hL] at CL
          rw [hA] at CA
          clear hL hA
          go_wp2_with (first | (go_at_call 122;refine (CL.out _).mono ?_;rintro e w2 ⟨rfl,q,rfl⟩) | (go_at_call 238;refine (CA.out _).mono ?_;rintro e w2 ⟨rfl,hb2⟩))
          first
          | (go_ret
             have hv:V=17:=by rw [HL.out,if_pos (HAT.out (by rw [HBD.out];rfl))]
             refine ⟨by rw [hv];rfl,q01 HB.out ?_⟩
             first | exact (q03 (Below.refl _ _) _).trans hb2 | exact q03 (Below.refl _ _) _)
          | (go_roundw
             case rel=>exact ⟨j+1,by omega,by go_num,q01 HB.out ((q03 (Below.refl _ _) _).trans hb2),by rw [HSN.out,HNO.out,HBD.out];rfl⟩
             case measure=>simp [intOf];omega)
      · have hv:V=0:=by
          have:=HNO.out
          rw [List.take_of_length_le (by omega)] at this
          rw [HL.out,if_neg (by rw [this];decide)]
        have HV:=hid hv
        clear hv hno hbel
        go_wp2
        go_ret
        exact ⟨by rw [HV.out];rfl,HB.out⟩
  · have h0:ar=[]:=by rcases har with h | h;(exact absurd h (by decide));exact h
    have hl0:ar.length<=8:=by rw [h0];simp
    clear har h0
    rcases emp_part ti with rfl | ⟨t1,t2,t3,t4⟩
    · have HL:Hid (V=if ar.any q1q then 17 else 0):=by show V=_;rw [HE2.out,if_neg (by rintro ⟨-,h,-⟩;exact absurd h (by decide)),if_neg (by omega)]
      clear HE2
      go_enter Tryz.func220,Tryz.ntmps220
      go_wp2_with fail
      refine (NT.out _).mono ?_
      rintro e w3 ⟨rfl,rfl⟩
      go_wp2
      go_loopw [48] (fun i wr=>NmR ar w i wr) (fun i _=>ar.length-(intOf i).toNat)
      case atStart=>exact R0.out
      case round=>
        clear R0
        obtain ⟨j,hj,rfl,hbel,hno⟩:=hrel
        have HB:=hid hbel
        have HNO:=hid hno
        by_cases hlt:j<ar.length
        · obtain ⟨x,hx⟩:∃ x,ar[j]?=some x:=⟨_,List.getElem?_eq_getElem hlt⟩
          have hxs:=SZ.out x (List.mem_of_getElem? hx)
          obtain ⟨b2,off,rfl,-,-,x0⟩:=strs_at HS.out hx
          have x0:wr.cell? ⟨b2,off+j,none⟩=some (.string x):=by rw [hbel.cell (p:=⟨b2,off+j,none⟩) (q0c x0)];exact x0
          have CL:=hid (fun w=>q1n x w (by omega))
          have CA:=hid (fun w=>q1a x ⟨#[124,123,125]⟩ w (by omega) asc4)
          have e7:(⟨#[124,123,125]⟩:ByteArray).data.toList=argBs:=rfl
          rw [e7] at CA
          have HBD:=hid (argBad_eq x)
          have HSN:=hid (any_snoc q1q hx)
          have HAT:=hid (any_at q1q hx)
          clear e7 hbel hno hx
          cases hL:q0d x<;>cases hA:q0r x argBs
          all_goals
            rw [hL,hA] at HBD
            rw [hL] at CL
            rw [hA] at CA
            clear hL hA
            go_wp2_with (first | (go_at_call 122;refine (CL.out _).mono ?_;rintro e w2 ⟨rfl,q,rfl⟩) | (go_at_call 238;refine (CA.out _).mono ?_;rintro e w2 ⟨rfl,hb2⟩))
            first
            | (go_ret
               have hv:V=17:=by rw [HL.out,if_pos (HAT.out (by rw [HBD.out];rfl))]
               refine ⟨by rw [hv];rfl,q01 HB.out ?_⟩
               first | exact (q03 (Below.refl _ _) _).trans hb2 | exact q03 (Below.refl _ _) _)
            | (go_roundw
               case rel=>exact ⟨j+1,by omega,by go_num,q01 HB.out ((q03 (Below.refl _ _) _).trans hb2),by rw [HSN.out,HNO.out,HBD.out];rfl⟩
               case measure=>simp [intOf];omega)
        · have hv:V=0:=by
            have:=HNO.out
            rw [List.take_of_length_le (by omega)] at this
            rw [HL.out,if_neg (by rw [this];decide)]
          have HV:=hid hv
          clear hv hno hbel
          go_wp2
          go_ret
          exact ⟨by rw [HV.out];rfl,HB.out⟩
    · have hpg:(ti.toList==[112,97,103,101])=decide (ti.data.toList=pageL):=by
        rw [Lib.toList_data,Bool.eq_iff_iff,beq_iff_eq,decide_eq_true_iff];rfl
      by_cases hp:ti.data.toList=pageL
      · have HL:Hid (V=if ar.any q1q then 17 else 0):=by show V=_;rw [HE2.out,if_neg (by rintro ⟨-,-,h⟩;exact h hp),if_neg (by omega)]
        rw [decide_eq_true hp] at hpg
        clear HE2 hp
        go_enter Tryz.func220,Tryz.ntmps220
        go_wp2_with fail
        refine (NT.out _).mono ?_
        rintro e w3 ⟨rfl,rfl⟩
        go_wp2
        go_loopw [48] (fun i wr=>NmR ar w i wr) (fun i _=>ar.length-(intOf i).toNat)
        case atStart=>exact R0.out
        case round=>
          clear R0
          obtain ⟨j,hj,rfl,hbel,hno⟩:=hrel
          have HB:=hid hbel
          have HNO:=hid hno
          by_cases hlt:j<ar.length
          · obtain ⟨x,hx⟩:∃ x,ar[j]?=some x:=⟨_,List.getElem?_eq_getElem hlt⟩
            have hxs:=SZ.out x (List.mem_of_getElem? hx)
            obtain ⟨b2,off,rfl,-,-,x0⟩:=strs_at HS.out hx
            have x0:wr.cell? ⟨b2,off+j,none⟩=some (.string x):=by rw [hbel.cell (p:=⟨b2,off+j,none⟩) (q0c x0)];exact x0
            have CL:=hid (fun w=>q1n x w (by omega))
            have CA:=hid (fun w=>q1a x ⟨#[124,123,125]⟩ w (by omega) asc4)
            have e7:(⟨#[124,123,125]⟩:ByteArray).data.toList=argBs:=rfl
            rw [e7] at CA
            have HBD:=hid (argBad_eq x)
            have HSN:=hid (any_snoc q1q hx)
            have HAT:=hid (any_at q1q hx)
            clear e7 hbel hno hx
            cases hL:q0d x<;>cases hA:q0r x argBs
            all_goals
              rw [hL,hA] at HBD
              rw [hL] at CL
              rw [hA] at CA
              clear hL hA
              go_wp2_with (first | (go_at_call 122;refine (CL.out _).mono ?_;rintro e w2 ⟨rfl,q,rfl⟩) | (go_at_call 238;refine (CA.out _).mono ?_;rintro e w2 ⟨rfl,hb2⟩))
              first
              | (go_ret
                 have hv:V=17:=by rw [HL.out,if_pos (HAT.out (by rw [HBD.out];rfl))]
                 refine ⟨by rw [hv];rfl,q01 HB.out ?_⟩
                 first | exact (q03 (Below.refl _ _) _).trans hb2 | exact q03 (Below.refl _ _) _)
              | (go_roundw
                 case rel=>exact ⟨j+1,by omega,by go_num,q01 HB.out ((q03 (Below.refl _ _) _).trans hb2),by rw [HSN.out,HNO.out,HBD.out];rfl⟩
                 case measure=>simp [intOf];omega)
          · have hv:V=0:=by
              have:=HNO.out
              rw [List.take_of_length_le (by omega)] at this
              rw [HL.out,if_neg (by rw [this];decide)]
            have HV:=hid hv
            clear hv hno hbel
            go_wp2
            go_ret
            exact ⟨by rw [HV.out];rfl,HB.out⟩
      · have HV:Hid (V=5):=by show V=_;rw [HE2.out,if_pos ⟨rfl,t4,hp⟩]
        rw [decide_eq_false hp] at hpg
        clear HE2 hp
        go_enter Tryz.func220,Tryz.ntmps220
        go_wp2_with fail
        refine (NT.out _).mono ?_
        rintro e w3 ⟨rfl,rfl⟩
        go_wp2
        go_ret
        exact ⟨by rw [HV.out];rfl,Below.refl _ _⟩
  · clear har
    by_cases h8:8<ar.length
    · have HV:Hid (V=3):=by show V=_;rw [HE2.out,if_neg (by rintro ⟨h,-⟩;exact absurd h (by decide)),if_pos h8]
      have q8:decide ((8:Int)<(ar.length:Int))=true:=by simp;omega
      clear HE2
      go_enter Tryz.func220,Tryz.ntmps220
      go_wp2_with fail
      refine (NT.out _).mono ?_
      rintro e w3 ⟨rfl,rfl⟩
      go_wp2
      go_ret
      exact ⟨by rw [HV.out];rfl,Below.refl _ _⟩
    · have HL:Hid (V=if ar.any q1q then 17 else 0):=by show V=_;rw [HE2.out,if_neg (by rintro ⟨h,-⟩;exact absurd h (by decide)),if_neg h8]
      have q8:decide ((8:Int)<(ar.length:Int))=false:=by simp;omega
      clear HE2
      go_enter Tryz.func220,Tryz.ntmps220
      go_wp2_with fail
      refine (NT.out _).mono ?_
      rintro e w3 ⟨rfl,rfl⟩
      go_wp2
      go_loopw [48] (fun i wr=>NmR ar w i wr) (fun i _=>ar.length-(intOf i).toNat)
      case atStart=>exact R0.out
      case round=>
        clear R0
        obtain ⟨j,hj,rfl,hbel,hno⟩:=hrel
        have HB:=hid hbel
        have HNO:=hid hno
        by_cases hlt:j<ar.length
        · obtain ⟨x,hx⟩:∃ x,ar[j]?=some x:=⟨_,List.getElem?_eq_getElem hlt⟩
          have hxs:=SZ.out x (List.mem_of_getElem? hx)
          obtain ⟨b2,off,rfl,-,-,x0⟩:=strs_at HS.out hx
          have x0:wr.cell? ⟨b2,off+j,none⟩=some (.string x):=by rw [hbel.cell (p:=⟨b2,off+j,none⟩) (q0c x0)];exact x0
          have CL:=hid (fun w=>q1n x w (by omega))
          have CA:=hid (fun w=>q1a x ⟨#[124,123,125]⟩ w (by omega) asc4)
          have e7:(⟨#[124,123,125]⟩:ByteArray).data.toList=argBs:=rfl
          rw [e7] at CA
          have HBD:=hid (argBad_eq x)
          have HSN:=hid (any_snoc q1q hx)
          have HAT:=hid (any_at q1q hx)
          clear e7 hbel hno hx
          cases hL:q0d x<;>cases hA:q0r x argBs
          all_goals
            rw [hL,hA] at HBD
            rw [hL] at CL
            rw [hA] at CA
            clear hL hA
            go_wp2_with (first | (go_at_call 122;refine (CL.out _).mono ?_;rintro e w2 ⟨rfl,q,rfl⟩) | (go_at_call 238;refine (CA.out _).mono ?_;rintro e w2 ⟨rfl,hb2⟩))
            first
            | (go_ret
               have hv:V=17:=by rw [HL.out,if_pos (HAT.out (by rw [HBD.out];rfl))]
               refine ⟨by rw [hv];rfl,q01 HB.out ?_⟩
               first | exact (q03 (Below.refl _ _) _).trans hb2 | exact q03 (Below.refl _ _) _)
            | (go_roundw
               case rel=>exact ⟨j+1,by omega,by go_num,q01 HB.out ((q03 (Below.refl _ _) _).trans hb2),by rw [HSN.out,HNO.out,HBD.out];rfl⟩
               case measure=>simp [intOf];omega)
        · have hv:V=0:=by
            have:=HNO.out
            rw [List.take_of_length_le (by omega)] at this
            rw [HL.out,if_neg (by rw [this];decide)]
          have HV:=hid hv
          clear hv hno hbel
          go_wp2
          go_ret
          exact ⟨by rw [HV.out];rfl,HB.out⟩
open Go.RowKit
theorem checkLink_any (w:World) (b o:Nat) (k:Int) (t d ti:ByteArray) (at_:At) (ar:List ByteArray) (ci:List Ci) (ks:List Inl) (ac ap aa ai ak:Option Addr) (cc cp ca cai ck:Nat)
    (h:InP w b o k t d ti at_ ar ci ks ac ap aa ai ak cc cp ca cai ck) (hs:InS t d ti at_ ar ci) (hk:k=9\/k=10) :
    Calls Tryz.prog 219 #[.pointer (some ⟨b,o,none⟩)] w (RetB (.int .i64 (q1m k t d ti at_ ks:Nat)) w):=by
  have HP:=hid h
  obtain ⟨s1,s2,s3,s4,-,-⟩:=hs
  have LT:=hid (fun w=>label_any t w (by omega))
  have CD:=hid (fun w=>q1n d w (by omega))
  have CT:=hid (fun w=>q1n ti w (by omega))
  have AC:=hid (fun wx (hb:Below w.heap.size w wx)=>aCheck_any at_ ac ap cc cp wx (h.rd.at_.up hb) s4)
  have AK:=hid (fun wx q (hb:Below w.heap.size w wx)=>anyKind_any _ ks _ _ [9,16,12,14,13] wx.heap.size 5 ((wx.alloc (.cells #[.int .i64 9,.int .i64 16,.int .i64 12,.int .i64 14,.int .i64 13] 3)).drewN q) (Nat.le_refl _)
    ((h.rd.kids.up hb).up (q03 ((Below.refl _ _).alloc (Nat.le_refl _) _) q)) (by simp) (ints5 wx 3 9 16 12 14 13))
  simp only [List.length_cons,List.length_nil,Nat.reduceAdd] at AK
  obtain ⟨c0,c1,c2,c3,c4,c5,c6,c7,c8,c9⟩:=h.cells
  have HE:Hid (q1m k t d ti at_ ks=if q06 t=false/\(q06 d=false\/q06 ti=false) then 5
  else if q06 t=false/\q1i t=false then 6
  else if q0d d=false\/q0d ti=false then 17
  else if k=9/\Inl.anyL refKinds ks=true then 5
  else if k=10 then at_.err else 0):=rfl
  have hrk:Inl.anyL [9,16,12,14,13] ks=Inl.anyL refKinds ks:=rfl
  rw [hrk] at AK
  obtain ⟨V,hV⟩:∃ V,V=q1m k t d ti at_ ks:=⟨_,rfl⟩
  rw [<- hV] at HE ⊢
  have HD:=hid (q19 d).symm
  have HT:=hid (q19 t).symm
  have HTI:=hid (q19 ti).symm
  generalize q1i t=L at *
  generalize q0d d=L1 at *
  generalize q0d ti=L2 at *
  generalize Inl.anyL refKinds ks=K at *
  generalize at_.err=E at *
  clear hV h hrk s1 s2 s3 s4
  cases hT:t.toList.isEmpty<;>cases hD:d.toList.isEmpty<;>cases hTI:ti.toList.isEmpty<;>rcases hk with rfl | rfl
  all_goals
    go_enter Tryz.func219,Tryz.ntmps219
    go_wp2_with (first | (go_at_call 130;refine (LT.out _).mono ?_;rintro e w2 ⟨rfl,hb1⟩;obtain ⟨p0,p1,p2,p3,p4,p5,p6,p7,p8,p9⟩:=(HP.out.up hb1).cells) | (go_at_call 122;(with_reducible refine (CD.out _).mono ?_);rintro e w2 ⟨rfl,q,rfl⟩) | (go_at_call 122;(with_reducible refine (CT.out _).mono ?_);rintro e w2 ⟨rfl,q2,rfl⟩) | (go_at_call 129;refine (AC.out _ (by first | exact q03 hb1 _ | exact q03 (Below.refl _ _) _)).mono ?_;rintro e w2 ⟨rfl,hb3⟩) | (go_at_call 155;refine (AK.out _ _ (by first | exact hb1 | exact Below.refl _ _)).mono ?_;rintro e w2 ⟨rfl,rfl⟩))
    all_goals
      go_ret
      refine ⟨q1x ?_,?_⟩
      · (try simp only [Bool.not_eq_true',Bool.not_eq_false'] at *)
        rw [HE.out,HD.out,HT.out,HTI.out,hT,hD,hTI]
        simp [*]
      · first
        | exact q01 (q03 hb1 _) hb3 | exact q01 (q03 (Below.refl _ _) _) hb3
        | exact q03 (hb1.alloc hb1.size _) _ | exact q03 ((Below.refl _ _).alloc (Nat.le_refl _) _) _
        | exact q03 hb1 _ | exact q03 (Below.refl _ _) _ | exact hb1 | exact Below.refl _ _
open Go.RowKit
theorem fields_and {k:Int} {t d ti:ByteArray} {a:At} {ar:List ByteArray} {ci:List Ci} {ks:List Inl} (h:q0b k t d ti a ar ci ks=true):1<=k/\k<=16/\(k=15\/ar=[]):=by
  unfold q0b at h
  simp only [Bool.and_eq_true,Bool.or_eq_true,decide_eq_true_eq] at h
  obtain ⟨⟨⟨⟨⟨⟨⟨⟨h1,h2⟩,-⟩,-⟩,-⟩,-⟩,-⟩,h8⟩,-⟩:=h
  refine ⟨h1,h2,?_⟩
  rcases h8 with h | h
  · exact .inl h
  · exact .inr (by simpa using h)
theorem checkInline_any (w:World) (b o:Nat) (k bf:Int) (t d ti:ByteArray) (at_:At) (ar:List ByteArray) (ci:List Ci) (ks:List Inl) (ac ap aa ai ak:Option Addr) (cc cp ca cai ck:Nat)
    (h:InP w b o k t d ti at_ ar ci ks ac ap aa ai ak cc cp ca cai ck) (hs:InS t d ti at_ ar ci) (hf:q0b k t d ti at_ ar ci ks=true) :
    Calls Tryz.prog 188 #[.pointer (some ⟨b,o,none⟩),.int .i64 bf] w (RetB (.int .i64 (q0l bf false false k t d ti at_ ar ci ks:Nat)) w):=by
  have HP:=hid h
  obtain ⟨f1,f2,f3⟩:=fields_and hf
  have l1:=(q1f h.rd.at_.cls).2
  have l2:=(q1f h.rd.at_.prs).2
  obtain ⟨-,l5,m5⟩:=q1f h.rd.kids
  have AE:=hid (fun w=>aEmpty_any at_ ac ap cc cp w (by omega) (by omega))
  unfold maxLen at m5
  clear l1 l2
  have CL:=hid (fun w=>q1n t w (by have:=hs.t;omega))
  have AC:=hid (fun wx (hb:Below w.heap.size w wx)=>aCheck_any at_ ac ap cc cp wx (h.rd.at_.up hb) hs.at_)
  have LK:=hid (checkLink_any w b o k t d ti at_ ar ci ks ac ap aa ai ak cc cp ca cai ck h hs)
  have NM:=hid (fun hk=>checkNamed_any w b o k t d ti at_ ar ci ks ac ap aa ai ak cc cp ca cai ck h hs hk f3)
  have CC:=hid (checkCites_any ci ai cai w h.rd.cites hs.cis)
  have AD:=hid (address_any d w (by have:=hs.d;omega))
  have OO:=hid (oneOf_any bf [2,3] w.heap.size 2 _ (by simp) (ints2 w 3 2 3))
  simp only [List.length_cons,List.length_nil,Nat.reduceAdd] at OO
  have hoo:([2,3]:List Int).contains bf=(decide (bf=2)||decide (bf=3)):=by rw [Bool.eq_iff_iff];simp
  rw [hoo] at OO
  obtain ⟨c0,c1,c2,c3,c4,c5,c6,c7,c8,c9⟩:=h.cells
  have e3:=len0 ks
  have HE:Hid (q0l bf false false k t d ti at_ ar ci ks=if q0b k t d ti at_ ar ci ks=false then 5
  else if k=1\/k=4\/k=5 then (if q06 t=true\/q0d t=false then 17 else if k≠5/\bf=k then 5 else 0)
  else if k=2 then (if bf=2\/bf=3\/false=true\/false=true then 5 else 0)
  else if k=3 then (if false=true then 5 else 0)
  else if k=6\/k=7\/k=8 then (if ks.isEmpty=true then 8 else 0)
  else if k=9\/k=10 then q1m k t d ti at_ ks
  else if k=11 then (if at_.none=true then 8 else at_.err)
  else if k=12\/k=14\/k=15 then q2j k t ti ar
  else if k=13 then q2i ci
  else if autoS d=true then 0 else 5):=rfl
  rw [hf] at HE
  obtain ⟨V,hV⟩:∃ V,V=q0l bf false false k t d ti at_ ar ci ks:=⟨_,rfl⟩
  rw [<- hV] at HE ⊢
  have HT:=hid (q19 t).symm
  generalize q0d t=L at *
  generalize q1m k t d ti at_ ks=E1 at *
  generalize at_.none=bn at *
  generalize at_.err=E2 at *
  generalize q2j k t ti ar=E3 at *
  generalize q2i ci=E4 at *
  generalize autoS d=bu at *
  generalize ks.isEmpty=bk at *
  clear hV h hs hf hoo
  rcases in_kinds k with rfl | rfl | rfl | rfl | rfl | rfl | rfl | rfl | rfl | rfl | rfl | rfl | rfl | rfl | rfl | rfl | hk
  case inr.inr.inr.inr.inr.inr.inr.inr.inr.inr.inr.inr.inr.inr.inr.inr=>omega
  all_goals
    go_enter Tryz.func188,Tryz.ntmps188
    go_wp2_with (first | (go_at_call 122;refine (CL.out _).mono ?_;rintro e w2 ⟨rfl,q,rfl⟩) | (go_at_call 119;refine OO.out.mono ?_;rintro e w2 ⟨rfl,rfl⟩) | (go_at_call 219;refine (LK.out (by simp)).mono ?_;rintro e w2 ⟨rfl,hb3⟩) | (go_at_call 118;refine (AE.out _).mono ?_;rintro e w2 ⟨rfl,hb1⟩;obtain ⟨p0,p1,p2,p3,p4,p5,p6,p7,p8,p9⟩:=(HP.out.up hb1).cells) | (go_at_call 129;refine (AC.out _ hb1).mono ?_;rintro e w2 ⟨rfl,hb3⟩) | (go_at_call 220;refine (NM.out (by simp)).mono ?_;rintro e w2 ⟨rfl,hb3⟩) | (go_at_call 221;refine CC.out.mono ?_;rintro e w2 ⟨rfl,hb3⟩) | (go_at_call 222;refine AD.out.mono ?_;rintro e w2 ⟨rfl,hb3⟩))
    all_goals
      go_ret
      refine ⟨q1x ?_,?_⟩
      · (try simp only [Bool.not_eq_true',Bool.not_eq_false',beq_iff_eq,beq_eq_false_iff_ne,ne_eq] at *)
        rw [HE.out,HT.out]
        simp [*]
      · first
        | exact q01 hb1 hb3 | exact hb3 | exact hb1
        | exact (Below.refl _ _).alloc (Nat.le_refl _) _
        | exact q03 (Below.refl _ _) _ | exact Below.refl _ _
end Go.Proofs.YtlbioncagkkkoaaGreatDoor
