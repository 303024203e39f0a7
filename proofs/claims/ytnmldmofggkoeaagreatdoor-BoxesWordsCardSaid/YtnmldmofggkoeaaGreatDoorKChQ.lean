/- Contracts of tree.checkCites, checkNamed, checkLink. Contracts of tree.checkNamed, checkLink. The contract of tree.checkLink. The contract of tree.checkInline. -/
import Derived.Test.YtnmldmofggkoeaaGreatDoorKChL
set_option maxHeartbeats 8000000
set_option maxRecDepth 100000
open Go.Lib (hid)
namespace Go.Proofs.YtnmldmofggkoeaaGreatDoor
open Go.RowKit.Below renaming refl->YH
open List renaming mem_of_getElem?->YT
open Go.RowKit
set_option linter.unusedVariables false
set_option linter.unusedSimpArgs false
def oZ:List UInt8:=[91,93,59,64,123,36,96]
theorem rE (s:ByteArray):jh s=(!gL s||!trimS s||bJ s oZ):=rfl
def RH (pre suf:ByteArray) (wi:World) (vj:Value) (wj:World):Prop:=Below wi.heap.size wi wj/\(vj=.int .i64 0\/(vj=.int .i64 1/\jh pre=false)\/(vj=.int .i64 2/\jh pre=false/\jh suf=false))
def IX (l:List Ci) (E:Nat) (w:World) (vi:Value) (wr:World):Prop:=∃ k:Nat,k<=l.length/\vi=.int .i64 k/\Below w.heap.size w wr/\gY (l.drop k)=E
theorem o8 (l:List Ci) (a:Option Addr) (cap:Nat) (w:World) (h:Rd (·<w.heap.size) w (Gy l) [.slice a l.length cap]) (hsz:∀ c∈l,c.key.size<=5000/\c.pre.size<=5000/\c.suf.size<=5000) : Calls Tryz.prog 164 #[.slice a l.length cap] w (dO (.int .i64 (gF l:Nat)) w):=by
  obtain ⟨a',c',hv,hs⟩:=Rd.aD h;obtain ⟨rfl,rfl⟩:a'=a/\c'=cap:=by simp at hv;exact ⟨hv.1.symm,hv.2.symm⟩
  have hcap:l.length<=c':=by simpa using hs.le
  have hmx:=hs.max;unfold maxLen at hmx;have HS:=hid hs;have SZ:=hid hsz;clear hs hv h hsz;by_cases h0:l.length=0
  · have hv:gF l=8:=by
      obtain rfl:=List.eq_nil_of_length_eq_zero h0;rfl
    rw [hv];have e0:((l.length:Int)==0)=true:=by rw [h0];rfl
    clear hv h0;go_enter Tryz.func164,Tryz.ntmps164;go_wp2;go_ret;exact ⟨rfl,YH _ _⟩
  have hv:gF l=gY l:=by
    cases l with
    | nil=>simp at h0
    | cons x l=>rfl
  rw [hv];have e0:((l.length:Int)==0)=false:=by rw [beq_eq_false_iff_ne];omega
  obtain ⟨E,hE⟩:∃ E,gY l=E:=⟨_,rfl⟩;rw [hE];have R0:Hid (IX l E w (.int .i64 0) w):=⟨0,Nat.zero_le _,rfl,YH _ _,hE⟩;clear hv hE h0;go_enter Tryz.func164,Tryz.ntmps164;go_wp2
  go_loopw [12] (fun i wr=>IX l E w i wr) (fun i _=>l.length-(intOf i).toNat)
  case atStart=>exact R0.out
  case round=>
    clear R0;obtain ⟨k,hk,rfl,hbel,aH⟩:=hrel;have HB:=hid hbel;by_cases hlt:k<l.length
    · obtain ⟨x,hx⟩:∃ x,l[k]?=some x:=⟨_,List.getElem?_eq_getElem hlt⟩
      have hxs:=SZ.out x (YT hx);obtain ⟨b,off,rfl,-,-,c0,c1,c2,c3⟩:=KS HS.out hx;have c0:wr.cell? ⟨b,off+k*4,none⟩=some (.string x.key):=by rw [hbel.cell (p:=⟨b,off+k*4,none⟩) (fM c0)];exact c0
      have c1:wr.cell? ⟨b,off+k*4+1,none⟩=some (.string x.pre):=by rw [hbel.cell (p:=⟨b,off+k*4+1,none⟩) (fM c1)];exact c1
      have c2:wr.cell? ⟨b,off+k*4+2,none⟩=some (.string x.suf):=by rw [hbel.cell (p:=⟨b,off+k*4+2,none⟩) (fM c2)];exact c2
      have c3:wr.cell? ⟨b,off+k*4+3,none⟩=some (.bool x.bare):=by rw [hbel.cell (p:=⟨b,off+k*4+3,none⟩) (fM c3)];exact c3
      rw [Fv l k x hx,gY] at aH;obtain ⟨key,pre,suf,bare⟩:=x;dsimp only at c0 c1 c2 c3 hxs aH;have bB:=hid aH;have CN:=hid (fun w=>dH key w (by omega));clear aH hx hbel;cases hn:lJ key with
      | false=>
        rw [hn] at CN;have HE:Hid (E=6):=by show E=6;have:=bB.out;rw [if_pos hn] at this;exact this.symm
        clear hn;go_wp2_with fail
        refine (CN.out _).mono ?_;rintro e w3 ⟨rfl,rfl⟩;go_wp2;go_ret;exact ⟨by rw [HE.out];rfl,HB.out.alloc HB.out.size _⟩
      | true=>
        rw [hn] at CN;have iE:Hid ((if jh pre=true\/jh suf=true then 17 else gY (l.drop (k+1)))=E):=by show _=_;have:=bB.out;rw [if_neg (by rw [hn];decide)] at this;exact this
        obtain ⟨wi,hwi⟩:∃ wi,wi=wr.alloc (.cells #[.string key,.string pre,.string suf,.bool bare] 86):=⟨_,rfl⟩;have RI:Hid (Below w.heap.size w wi):=by rw [hwi];exact HB.out.alloc HB.out.size _
        have i0:wi.cell? ⟨wr.heap.size,0,none⟩=some (.string key):=by rw [hwi];exact bQ wr [.string key,.string pre,.string suf,.bool bare] _ 0 _ rfl
        have i1:wi.cell? ⟨wr.heap.size,1,none⟩=some (.string pre):=by rw [hwi];exact bQ wr [.string key,.string pre,.string suf,.bool bare] _ 1 _ rfl
        have i2:wi.cell? ⟨wr.heap.size,2,none⟩=some (.string suf):=by rw [hwi];exact bQ wr [.string key,.string pre,.string suf,.bool bare] _ 2 _ rfl
        clear hn bB;go_upto_region 6 with (fail)
        rw [<- hwi];clear hwi c0 c1 c2 c3;have WJ:∀ wx,(Instr.index 217 (.agg #[.string pre,.string suf]) (.int .i64 0)).run Tryz.prog wx=.ok (.string pre) wx:=fun wx=>by kernel_rfl
        have WK:∀ wx,(Instr.index 217 (.agg #[.string pre,.string suf]) (.int .i64 1)).run Tryz.prog wx=.ok (.string suf) wx:=fun wx=>by kernel_rfl
        go_wp2_with fail
        refine (CN.out _).mono ?_;rintro e w3 ⟨rfl,rfl⟩;go_wp2
        go_loopw [25] (fun j wj=>RH pre suf wi j wj) (fun j _=>2-(intOf j).toNat)
        case atStart=>exact ⟨YH _ _,.inl rfl⟩
        case round=>
          clear i0 i1 i2;obtain ⟨hbj,hj⟩:=hrel;have NQ:=hid hbj;rcases hj with rfl | ⟨rfl,hp⟩ | ⟨rfl,hp,hsf⟩
          · have CL:=hid (fun w=>D8 pre w (by omega))
            have CT:=hid (fun w=>dZ pre w (by omega));have CA:=hid (fun w=>Qe pre ⟨#[91,93,59,64,123,36,96]⟩ w (by omega) NK);have e7:(⟨#[91,93,59,64,123,36,96]⟩:ByteArray).data.toList=oZ:=rfl;rw [e7] at CA;have nH:=hid (rE pre);clear e7 hbj;cases hL:gL pre<;>cases hT:trimS pre<;>cases hA:bJ pre oZ
            all_goals
              rw [hL,hT,hA] at nH;rw [hL] at CL;rw [hT] at CT;rw [hA] at CA;clear hL hT hA;go_wp2_with (first | (go_at_call 36;refine (CL.out _).mono ?_;rintro e w2 ⟨rfl,q,rfl⟩) | (go_at_call 37;refine (CT.out _).mono ?_;rintro e w2 ⟨rfl,rfl⟩) | (go_at_call 180;refine (CA.out _).mono ?_;rintro e w2 ⟨rfl,hb2⟩))
              first
              | (go_ret
                 have HE:E=17:=by have:=iE.out;rw [if_pos (.inl (by rw [nH.out];rfl))] at this;exact this.symm
                 refine ⟨by rw [HE];rfl,aM (aM RI.out NQ.out) ?_⟩;first | exact (eY (YH _ _) _).trans hb2 | exact eY (YH _ _) _)
              | (go_roundw
                 case rel=>exact ⟨aM NQ.out ((eY (YH _ _) _).trans hb2),.inr (.inl ⟨by go_num,by rw [nH.out];rfl⟩)⟩
                 case measure=>simp [intOf])
          · have CL:=hid (fun w=>D8 suf w (by omega))
            have CT:=hid (fun w=>dZ suf w (by omega));have CA:=hid (fun w=>Qe suf ⟨#[91,93,59,64,123,36,96]⟩ w (by omega) NK);have e7:(⟨#[91,93,59,64,123,36,96]⟩:ByteArray).data.toList=oZ:=rfl;rw [e7] at CA;have nH:=hid (rE suf);have HP:=hid hp;clear e7 hbj hp;cases hL:gL suf<;>cases hT:trimS suf<;>cases hA:bJ suf oZ
            all_goals
              rw [hL,hT,hA] at nH;rw [hL] at CL;rw [hT] at CT;rw [hA] at CA;clear hL hT hA;go_wp2_with (first | (go_at_call 36;refine (CL.out _).mono ?_;rintro e w2 ⟨rfl,q,rfl⟩) | (go_at_call 37;refine (CT.out _).mono ?_;rintro e w2 ⟨rfl,rfl⟩) | (go_at_call 180;refine (CA.out _).mono ?_;rintro e w2 ⟨rfl,hb2⟩))
              first
              | (go_ret
                 have HE:E=17:=by have:=iE.out;rw [if_pos (.inr (by rw [nH.out];rfl))] at this;exact this.symm
                 refine ⟨by rw [HE];rfl,aM (aM RI.out NQ.out) ?_⟩;first | exact (eY (YH _ _) _).trans hb2 | exact eY (YH _ _) _)
              | (go_roundw
                 case rel=>exact ⟨aM NQ.out ((eY (YH _ _) _).trans hb2),.inr (.inr ⟨by go_num,HP.out,by rw [nH.out];rfl⟩)⟩
                 case measure=>simp [intOf])
          · have HN:Hid (gY (l.drop (k+1))=E):=by
              show _=_;have:=iE.out;rw [if_neg (by rw [hp,hsf];simp)] at this;exact this
            clear hp hsf hbj;go_wp2;go_roundw;case rel=>exact ⟨k+1,by omega,by go_num,aM RI.out NQ.out,HN.out⟩
            case measure=>simp [intOf];omega
    · obtain rfl:k=l.length:=by omega
      have HE:Hid (E=0):=by show E=0;rw [List.drop_length,gY] at aH;exact aH.symm
      clear aH;go_wp2;go_ret;exact ⟨by rw [HE.out];rfl,HB.out⟩
open Go.RowKit
def Eh:List UInt8:=[124,123,125]
theorem Bt (s:ByteArray):eU s=(!gL s||bJ s Eh):=rfl
def Ui (l:List ByteArray) (w:World) (vi:Value) (wr:World):Prop:=∃ k:Nat,k<=l.length/\vi=.int .i64 k/\Below w.heap.size w wr/\(l.take k).any eU=false
structure Qf (t d ti:ByteArray) (a:At) (ar:List ByteArray) (ci:List Ci):Prop where
  t:t.size<=1000000
  d:d.size<=1000000
  ti:ti.size<=1000000
  at_:a.short
  WL:∀ c∈ar,c.size<=5000
  WM:∀ c∈ci,c.key.size<=5000/\c.pre.size<=5000/\c.suf.size<=5000
theorem vR {α:Type} (p:α->Bool) {l:List α} {k:Nat} {x:α} (h:l[k]?=some x):(l.take (k+1)).any p=((l.take k).any p||p x):=by rw [List.take_add_one,h];simp
theorem Ei {α:Type} (p:α->Bool) {l:List α} {k:Nat} {x:α} (h:l[k]?=some x) (hp:p x=true):l.any p=true:=List.any_eq_true.2 ⟨x,YT h,hp⟩
theorem o9 (w:World) (b o:Nat) (k:Int) (t d ti:ByteArray) (at_:At) (ar:List ByteArray) (ci:List Ci) (ks:List ah) (ac ap aa ai ak:Option Addr) (cc cp ca qE ck:Nat) (h:IL w b o k t d ti at_ ar ci ks ac ap aa ai ak cc cp ca qE ck) (hs:Qf t d ti at_ ar ci) (hk:k=12\/k=14\/k=15) (har:k=15\/ar=[]) : Calls Tryz.prog 163 #[.pointer (some ⟨b,o,none⟩)] w (dO (.int .i64 (gG k t ti ar:Nat)) w):=by
  obtain ⟨a',c',hv,hsl⟩:=Rd.aD h.rd.args;obtain ⟨rfl,rfl⟩:a'=aa/\c'=ca:=by simp at hv;exact ⟨hv.1.symm,hv.2.symm⟩
  have hcap:ar.length<=c':=by simpa using hsl.le
  have hmx:=hsl.max;unfold maxLen at hmx;have HS:=hid hsl;have SZ:=hid hs.WL;have NT:=hid (fun w=>dH t w (by have:=hs.t;omega));obtain ⟨c0,c1,c2,c3,c4,c5,c6,c7,c8,c9⟩:=h.cells;have R0:Hid (Ui ar w (.int .i64 0) w):=⟨0,Nat.zero_le _,rfl,YH _ _,by simp⟩;clear hv hsl h hs;have HE:Hid (gG k t ti ar=if lJ t=false then 6 else if k=14/\dR ti=false/\ti.data.toList≠vS then 5 else if 8<ar.length then 3 else if ar.any eU then 17 else 0):=rfl;obtain ⟨V,hV⟩:∃ V,V=gG k t ti ar:=⟨_,rfl⟩;rw [<- hV] at HE ⊢;clear hV;cases hn:lJ t with
  | false=>
    rw [hn] at NT;have HV:Hid (V=6):=by show V=6;rw [HE.out,if_pos hn]
    clear hn;go_enter Tryz.func163,Tryz.ntmps163;go_wp2_with fail
    refine (NT.out _).mono ?_;rintro e w3 ⟨rfl,rfl⟩;go_wp2;go_ret;exact ⟨by rw [HV.out];rfl,YH _ _⟩
  | true=>
  rw [hn] at NT;have HE2:Hid (V=if k=14/\dR ti=false/\ti.data.toList≠vS then 5 else if 8<ar.length then 3 else if ar.any eU then 17 else 0):=by show V=_;rw [HE.out,if_neg (by rw [hn];decide)]
  clear hn HE;rcases hk with rfl | rfl | rfl
  case' inl=>
    have h0:ar=[]:=by rcases har with h | h;(exact absurd h (by decide));exact h
    have hl0:ar.length<=8:=by rw [h0];simp
    have HL:Hid (V=if ar.any eU then 17 else 0):=by show V=_;rw [HE2.out,if_neg (by rintro ⟨h,-⟩;exact absurd h (by decide)),if_neg (by omega)]
    clear har h0 HE2
  case' inr.inl=>
    have h0:ar=[]:=by rcases har with h | h;(exact absurd h (by decide));exact h
    have hl0:ar.length<=8:=by rw [h0];simp
    clear har h0;rcases eT ti with rfl | ⟨t1,t2,t3,t4⟩
    case' inl=>
      have HL:Hid (V=if ar.any eU then 17 else 0):=by show V=_;rw [HE2.out,if_neg (by rintro ⟨-,h,-⟩;exact absurd h (by decide)),if_neg (by omega)]
      clear HE2
    case' inr=>
      have hpg:(ti.toList==[112,97,103,101])=decide (ti.data.toList=vS):=by rw [Lib.toList_data,Bool.eq_iff_iff,beq_iff_eq,decide_eq_true_iff];rfl
      by_cases hp:ti.data.toList=vS;case neg=>
        have HV:Hid (V=5):=by show V=_;rw [HE2.out,if_pos ⟨rfl,t4,hp⟩]
        rw [decide_eq_false hp] at hpg;clear HE2 hp;go_enter Tryz.func163,Tryz.ntmps163;go_wp2_with fail
        refine (NT.out _).mono ?_;rintro e w3 ⟨rfl,rfl⟩;go_wp2;go_ret;exact ⟨by rw [HV.out];rfl,YH _ _⟩
      have HL:Hid (V=if ar.any eU then 17 else 0):=by show V=_;rw [HE2.out,if_neg (by rintro ⟨-,-,h⟩;exact h hp),if_neg (by omega)]
      rw [decide_eq_true hp] at hpg;clear HE2 hp
  case' inr.inr=>
    clear har;by_cases h8:8<ar.length
    · have HV:Hid (V=3):=by show V=_;rw [HE2.out,if_neg (by rintro ⟨h,-⟩;exact absurd h (by decide)),if_pos h8]
      have q8:decide ((8:Int)<(ar.length:Int))=true:=by simp;omega
      clear HE2;go_enter Tryz.func163,Tryz.ntmps163;go_wp2_with fail
      refine (NT.out _).mono ?_;rintro e w3 ⟨rfl,rfl⟩;go_wp2;go_ret;exact ⟨by rw [HV.out];rfl,YH _ _⟩
    have HL:Hid (V=if ar.any eU then 17 else 0):=by show V=_;rw [HE2.out,if_neg (by rintro ⟨h,-⟩;exact absurd h (by decide)),if_neg h8]
    have q8:decide ((8:Int)<(ar.length:Int))=false:=by simp;omega
    clear HE2
  all_goals
    go_enter Tryz.func163,Tryz.ntmps163;go_wp2_with fail
    refine (NT.out _).mono ?_;rintro e w3 ⟨rfl,rfl⟩;go_wp2
    go_loopw [48] (fun i wr=>Ui ar w i wr) (fun i _=>ar.length-(intOf i).toNat)
    case atStart=>exact R0.out
    case round=>
      clear R0;obtain ⟨j,hj,rfl,hbel,hno⟩:=hrel;have HB:=hid hbel;have JE:=hid hno;by_cases hlt:j<ar.length
      · obtain ⟨x,hx⟩:∃ x,ar[j]?=some x:=⟨_,List.getElem?_eq_getElem hlt⟩
        have hxs:=SZ.out x (YT hx);obtain ⟨b2,off,rfl,-,-,x0⟩:=su HS.out hx;have x0:wr.cell? ⟨b2,off+j,none⟩=some (.string x):=by rw [hbel.cell (p:=⟨b2,off+j,none⟩) (fM x0)];exact x0
        have CL:=hid (fun w=>D8 x w (by omega));have CA:=hid (fun w=>Qe x ⟨#[124,123,125]⟩ w (by omega) RG);have e7:(⟨#[124,123,125]⟩:ByteArray).data.toList=Eh:=rfl;rw [e7] at CA;have nH:=hid (Bt x);have FQ:=hid (vR eU hx);have HAT:=hid (Ei eU hx);clear e7 hbel hno hx;cases hL:gL x<;>cases hA:bJ x Eh
        all_goals
          rw [hL,hA] at nH;rw [hL] at CL;rw [hA] at CA;clear hL hA;go_wp2_with (first | (go_at_call 36;refine (CL.out _).mono ?_;rintro e w2 ⟨rfl,q,rfl⟩) | (go_at_call 180;refine (CA.out _).mono ?_;rintro e w2 ⟨rfl,hb2⟩))
          first
          | (go_ret
             have hv:V=17:=by rw [HL.out,if_pos (HAT.out (by rw [nH.out];rfl))]
             refine ⟨by rw [hv];rfl,aM HB.out ?_⟩;first | exact (eY (YH _ _) _).trans hb2 | exact eY (YH _ _) _)
          | (go_roundw
             case rel=>exact ⟨j+1,by omega,by go_num,aM HB.out ((eY (YH _ _) _).trans hb2),by rw [FQ.out,JE.out,nH.out];rfl⟩
             case measure=>simp [intOf];omega)
      · have hv:V=0:=by
          have:=JE.out;rw [List.take_of_length_le (by omega)] at this;rw [HL.out,if_neg (by rw [this];decide)]
        have HV:=hid hv;clear hv hno hbel;go_wp2;go_ret;exact ⟨by rw [HV.out];rfl,HB.out⟩
open Go.RowKit
theorem qG (w:World) (b o:Nat) (k:Int) (t d ti:ByteArray) (at_:At) (ar:List ByteArray) (ci:List Ci) (ks:List ah) (ac ap aa ai ak:Option Addr) (cc cp ca qE ck:Nat) (h:IL w b o k t d ti at_ ar ci ks ac ap aa ai ak cc cp ca qE ck) (hs:Qf t d ti at_ ar ci) (hk:k=9\/k=10) : Calls Tryz.prog 162 #[.pointer (some ⟨b,o,none⟩)] w (dO (.int .i64 (eD k t d ti at_ ks:Nat)) w):=by
  have HP:=hid h;obtain ⟨s1,s2,s3,s4,-,-⟩:=hs;have LT:=hid (fun w=>rD t w (by omega));have CD:=hid (fun w=>D8 d w (by omega));have CT:=hid (fun w=>D8 ti w (by omega));have AC:=hid (fun wx (hb:Below w.heap.size w wx)=>gZ at_ ac ap cc cp wx (h.rd.at_.up hb) s4);have AK:=hid (fun wx q (hb:Below w.heap.size w wx)=>mK _ ks _ _ [9,16,12,14,13] wx.heap.size 5 ((wx.alloc (.cells #[.int .i64 9,.int .i64 16,.int .i64 12,.int .i64 14,.int .i64 13] 3)).drewN q) (Nat.le_refl _)
    ((h.rd.kids.up hb).up (eY ((YH _ _).alloc (Nat.le_refl _) _) q)) (by simp) (IQ wx 3 9 16 12 14 13))
  simp only [List.length_cons,List.length_nil,Nat.reduceAdd] at AK;obtain ⟨c0,c1,c2,c3,c4,c5,c6,c7,c8,c9⟩:=h.cells;have HE:Hid (eD k t d ti at_ ks=if dR t=false/\(dR d=false\/dR ti=false) then 5
  else if dR t=false/\bX t=false then 6
  else if gL d=false\/gL ti=false then 17
  else if k=9/\ah.bK kZ ks=true then 5
  else if k=10 then at_.err else 0):=rfl
  have NR:ah.bK [9,16,12,14,13] ks=ah.bK kZ ks:=rfl;rw [NR] at AK;obtain ⟨V,hV⟩:∃ V,V=eD k t d ti at_ ks:=⟨_,rfl⟩
  rw [<- hV] at HE ⊢;have HD:=hid (bI d).symm;have HT:=hid (bI t).symm;have NC:=hid (bI ti).symm;generalize bX t=L at *;generalize gL d=L1 at *;generalize gL ti=L2 at *;generalize ah.bK kZ ks=K at *;generalize at_.err=E at *
  clear hV h NR s1 s2 s3 s4;cases hT:t.toList.isEmpty<;>cases hD:d.toList.isEmpty<;>cases WO:ti.toList.isEmpty<;>rcases hk with rfl | rfl
  all_goals
    go_enter Tryz.func162,Tryz.ntmps162;go_wp2_with (first | (go_at_call 95;refine (LT.out _).mono ?_;rintro e w2 ⟨rfl,hb1⟩;obtain ⟨p0,p1,p2,p3,p4,p5,p6,p7,p8,p9⟩:=(HP.out.up hb1).cells) | (go_at_call 36;(with_reducible refine (CD.out _).mono ?_);rintro e w2 ⟨rfl,q,rfl⟩) | (go_at_call 36;(with_reducible refine (CT.out _).mono ?_);rintro e w2 ⟨rfl,q2,rfl⟩) | (go_at_call 94;refine (AC.out _ (by first | exact eY hb1 _ | exact eY (YH _ _) _)).mono ?_;rintro e w2 ⟨rfl,hb3⟩) | (go_at_call 117;refine (AK.out _ _ (by first | exact hb1 | exact YH _ _)).mono ?_;rintro e w2 ⟨rfl,rfl⟩))
    all_goals
      go_ret;refine ⟨fF ?_,?_⟩
      · (try simp only [Bool.not_eq_true',Bool.not_eq_false'] at *)
        rw [HE.out,HD.out,HT.out,NC.out,hT,hD,WO];simp [*]
      · first
        | exact aM (eY hb1 _) hb3 | exact aM (eY (YH _ _) _) hb3
        | exact eY (hb1.alloc hb1.size _) _ | exact eY ((YH _ _).alloc (Nat.le_refl _) _) _
        | exact eY hb1 _ | exact eY (YH _ _) _ | exact hb1 | exact YH _ _
open Go.RowKit
theorem yG {k:Int} {t d ti:ByteArray} {a:At} {ar:List ByteArray} {ci:List Ci} {ks:List ah} (h:zM k t d ti a ar ci ks=true):1<=k/\k<=16/\(k=15\/ar=[]):=by
  unfold zM at h;simp only [Bool.and_eq_true,Bool.or_eq_true,decide_eq_true_eq] at h;obtain ⟨⟨⟨⟨⟨⟨⟨⟨h1,h2⟩,-⟩,-⟩,-⟩,-⟩,-⟩,h8⟩,-⟩:=h;refine ⟨h1,h2,?_⟩;rcases h8 with h | h
  · exact .inl h
  · exact .inr (by simpa using h)
theorem nu (w:World) (b o:Nat) (k bf:Int) (t d ti:ByteArray) (at_:At) (ar:List ByteArray) (ci:List Ci) (ks:List ah) (ac ap aa ai ak:Option Addr) (cc cp ca qE ck:Nat) (h:IL w b o k t d ti at_ ar ci ks ac ap aa ai ak cc cp ca qE ck) (hs:Qf t d ti at_ ar ci) (hf:zM k t d ti at_ ar ci ks=true) : Calls Tryz.prog 138 #[.pointer (some ⟨b,o,none⟩),.int .i64 bf] w (dO (.int .i64 (rF bf false false k t d ti at_ ar ci ks:Nat)) w):=by
  have HP:=hid h;obtain ⟨f1,f2,f3⟩:=yG hf;have l1:=(dn h.rd.at_.cls).2;have l2:=(dn h.rd.at_.aT).2;obtain ⟨-,l5,m5⟩:=dn h.rd.kids;have AE:=hid (fun w=>ko at_ ac ap cc cp w (by omega) (by omega));unfold maxLen at m5;clear l1 l2;have CL:=hid (fun w=>D8 t w (by have:=hs.t;omega));have AC:=hid (fun wx (hb:Below w.heap.size w wx)=>gZ at_ ac ap cc cp wx (h.rd.at_.up hb) hs.at_);have LK:=hid (qG w b o k t d ti at_ ar ci ks ac ap aa ai ak cc cp ca qE ck h hs);have NM:=hid (fun hk=>o9 w b o k t d ti at_ ar ci ks ac ap aa ai ak cc cp ca qE ck h hs hk f3);have CC:=hid (o8 ci ai qE w h.rd.gq hs.WM);have AD:=hid (vP d w (by have:=hs.d;omega));have OO:=hid (gD bf [2,3] w.heap.size 2 _ (by simp) (Eb w 3 2 3));simp only [List.length_cons,List.length_nil,Nat.reduceAdd] at OO;have NS:([2,3]:List Int).contains bf=(decide (bf=2)||decide (bf=3)):=by rw [Bool.eq_iff_iff];simp
  rw [NS] at OO;obtain ⟨c0,c1,c2,c3,c4,c5,c6,c7,c8,c9⟩:=h.cells;have e3:=oO ks;have HE:Hid (rF bf false false k t d ti at_ ar ci ks=if zM k t d ti at_ ar ci ks=false then 5
  else if k=1\/k=4\/k=5 then (if dR t=true\/gL t=false then 17 else if k≠5/\bf=k then 5 else 0)
  else if k=2 then (if bf=2\/bf=3\/false=true\/false=true then 5 else 0)
  else if k=3 then (if false=true then 5 else 0)
  else if k=6\/k=7\/k=8 then (if ks.isEmpty=true then 8 else 0)
  else if k=9\/k=10 then eD k t d ti at_ ks
  else if k=11 then (if at_.none=true then 8 else at_.err)
  else if k=12\/k=14\/k=15 then gG k t ti ar
  else if k=13 then gF ci
  else if oW d=true then 0 else 5):=rfl
  rw [hf] at HE;obtain ⟨V,hV⟩:∃ V,V=rF bf false false k t d ti at_ ar ci ks:=⟨_,rfl⟩
  rw [<- hV] at HE ⊢;have HT:=hid (bI t).symm;generalize gL t=L at *;generalize eD k t d ti at_ ks=E1 at *
  generalize at_.none=bn at *
  generalize at_.err=E2 at *
  generalize gG k t ti ar=E3 at *;generalize gF ci=E4 at *;generalize oW d=bu at *;generalize ks.isEmpty=bk at *;clear hV h hs hf NS;rcases vI k with rfl | rfl | rfl | rfl | rfl | rfl | rfl | rfl | rfl | rfl | rfl | rfl | rfl | rfl | rfl | rfl | hk
  case inr.inr.inr.inr.inr.inr.inr.inr.inr.inr.inr.inr.inr.inr.inr.inr=>omega
  all_goals
    go_enter Tryz.func138,Tryz.ntmps138;go_wp2_with (first | (go_at_call 36;refine (CL.out _).mono ?_;rintro e w2 ⟨rfl,q,rfl⟩) | (go_at_call 87;refine OO.out.mono ?_;rintro e w2 ⟨rfl,rfl⟩) | (go_at_call 162;refine (LK.out (by simp)).mono ?_;rintro e w2 ⟨rfl,hb3⟩) | (go_at_call 86;refine (AE.out _).mono ?_;rintro e w2 ⟨rfl,hb1⟩;obtain ⟨p0,p1,p2,p3,p4,p5,p6,p7,p8,p9⟩:=(HP.out.up hb1).cells) | (go_at_call 94;refine (AC.out _ hb1).mono ?_;rintro e w2 ⟨rfl,hb3⟩) | (go_at_call 163;refine (NM.out (by simp)).mono ?_;rintro e w2 ⟨rfl,hb3⟩) | (go_at_call 164;refine CC.out.mono ?_;rintro e w2 ⟨rfl,hb3⟩) | (go_at_call 165;refine AD.out.mono ?_;rintro e w2 ⟨rfl,hb3⟩))
    all_goals
      go_ret;refine ⟨fF ?_,?_⟩
      · (try simp only [Bool.not_eq_true',Bool.not_eq_false',beq_iff_eq,beq_eq_false_iff_ne,ne_eq] at *)
        rw [HE.out,HT.out];simp [*]
      · first
        | exact aM hb1 hb3 | exact hb3 | exact hb1
        | exact (YH _ _).alloc (Nat.le_refl _) _
        | exact eY (YH _ _) _ | exact YH _ _
end Go.Proofs.YtnmldmofggkoeaaGreatDoor

