/- The contract of wrap.Lines . -/
import Derived.Test.YtnmldmofggkoeaaGreatDoorKJoined
import Derived.Test.YtnmldmofggkoeaaGreatDoorKBreakAll
import Derived.WalkSpells
set_option maxHeartbeats 2000000
set_option maxRecDepth 100000
open Go.Lib (hid)
namespace Go.Proofs.YtnmldmofggkoeaaGreatDoor
open List renaming getElem?_eq_getElem->YG
open Nat renaming le_refl->YI
open Go.RowKit
set_option linter.unusedVariables false
set_option linter.unusedSimpArgs false
def EA (w:World) (s:ByteArray) (wd:Int) (e:Ending) (w':World):Prop:=
 ∃ v,e=.returned (.tuple #[v,.int .i64 0])/\w'.ownsRow w.heap.size 9 1 v (mZ (q01 s) (uw (bP (q01 s)) 30 wd)).length ((mZ (q01 s) (uw (bP (q01 s)) 30 wd)).map Value.string)/\Below w.heap.size w w'
def yS (l:List ByteArray) (k:Nat):Nat->Int:=fun j=>if j<k then (cO (l.getD j ByteArray.empty):Int) else 0
theorem EB (l:List ByteArray) (k:Nat) (x:ByteArray) (h:l[k]?=some x):(fun i=>if i=k then (cO x:Int) else yS l k i)=yS l (k+1):=by
 funext i
 unfold yS;by_cases e:i=k
 ·subst e;rw [if_pos rfl,if_pos (by omega),List.getD_eq_getElem?_getD,h];rfl
 ·rw [if_neg e];by_cases e2:i<k
  ·rw [if_pos e2,if_pos (by omega)]
  ·rw [if_neg e2,if_neg (by omega)]
theorem EC (l:List ByteArray):eF (yS l l.length) l.length=lN (bP l):=by
 apply List.ext_getElem?;intro i;by_cases hi:i<l.length
 ·rw [gP _ _ _ hi];unfold lN bP yS;rw [if_pos hi,List.getElem?_map,List.getElem?_map,List.getD_eq_getElem?_getD,YG hi];rfl
 ·rw [List.getElem?_eq_none (by simp [eG];omega),List.getElem?_eq_none (by simp [lN,bP];omega)]
def Sd (w1 wr:World) (l:List ByteArray) (vi:Value):Prop:=
 ∃ k:Nat,k<=l.length/\vi=.int .i64 k/\wr.ownsRow w1.heap.size 3 1 (.slice (some ⟨w1.heap.size,0,none⟩) l.length l.length) l.length (eF (yS l k) l.length)/\Below w1.heap.size w1 wr
def Sg (w2 wr:World) (l:List ByteArray) (F:List Int) (v vi:Value):Prop:=
 ∃ k:Nat,k<=F.length/\vi=.int .i64 k/\wr.ownsRow w2.heap.size 9 1 v (lC l F k).length ((lC l F k).map Value.string)/\Below w2.heap.size w2 wr
theorem AO (w:World) (s:ByteArray) (wd:Int) (hs:s.size<=100000) (hn:(q01 s).length<=4096) (Fq:∀ x∈q01 s,cO x<=1048576) (hd0:1<=wd) (hd1:wd<=1048576) (ht:TabAt w) : Calls Tryz.prog 75 #[.string s,.int .i64 wd] w (EA w s wd):=by
 obtain ⟨iI,Mq,Co,Cq,Cr⟩:=info_parts Ck;obtain ⟨iS,Ro,Kg,Kh,Ki⟩:=info_parts qP;have hwl:(q01 s).length<=4096:=hn;clear hn;have H8:=hid (oG s);have W0:=hid (BG s w (by omega));have HT:=hid ht;have hpost:EA w s wd=fun e w'=>∃ v,e=.returned (.tuple #[v,.int .i64 0])/\w'.ownsRow w.heap.size 9 1 v (mZ (q01 s) (uw (bP (q01 s)) 30 wd)).length ((mZ (q01 s) (uw (bP (q01 s)) 30 wd)).map Value.string)/\Below w.heap.size w w':=rfl
 have Oz:=sF (q01 s) 30 wd (by omega) hd1;have hok:Cm (bP (q01 s)) 30 wd:=⟨⟨hd0,hd1⟩,by omega,fun x hx=>by
  simp [bP] at hx;obtain ⟨a,ha,rfl⟩:=hx;have:=Fq a ha;omega⟩
 have PD:=hid Fq;clear Fq;have BR:=hid (fun w2 vw hs=>Ar w2 vw (bP (q01 s)) 30 wd hs (by rw [pU];omega));rw [hpost];have ED:=hid Oz;have zF:=hid hok;clear ht hpost Oz hok;generalize q01 s=l at *;go_enter Tryz.func75,Tryz.ntmps75;go_wp2_with fail
 refine W0.out.mono ?_;rintro e w1 ⟨v,rfl,hown,hb1⟩;have hse:=lQ.nX hown;clear hown W0;obtain ⟨-,a,cap,rfl,p1,p2,p3⟩:=hse;unfold maxLen at p2;have e1:decide ((4096:Int)<(l.length:Int))=false:=by simp;omega
 have hT1:=HT.out.below hb1;have HT1:=hid hT1;clear hT1 HT;rcases Nat.eq_zero_or_pos l.length with h0 | hpos
 ·obtain rfl:=List.length_eq_zero_iff.1 h0;have hmk:∀ w:World,(Instr.makeSlice 140 (.int .i64 0) (.int .i64 0)).run Tryz.prog w=.ok (.slice (some ⟨w.heap.size,0,none⟩) 0 0) (w.alloc (.cells #[] 3)):=fun _=>by kernel_rfl
  clear p3;go_wp2;refine wp_loop_rounds 1 ?_;rw [rounds_succ];go_wp2_with fail
  refine (fU ⟨#[32]⟩ _ (by decide) (HT1.out.below ((Below.refl _ _).alloc (YI _) _))).mono ?_;rintro e w2 ⟨rfl,hb2⟩;rw [zV];go_wp2_with fail
  refine (BR.out _ _ ⟨rfl,_,_,rfl,YI _,Nat.zero_le _,.inl rfl⟩).mono ?_;rintro e w3 (⟨-,v3,rfl,hown3,hb3⟩ | ⟨hno,-⟩)
  ·have s3:=lQ.nX hown3;obtain ⟨-,a3,Xz,rfl,q1,q2,-⟩:=s3;have Si:Below w.heap.size w w3:=aM (aM (hb1.alloc hb1.size _) hb2) hb3;clear hown3;go_wp2;refine wp_loop_rounds 1 ?_;rw [rounds_succ];go_wp2
   go_ret2
   exact ⟨.slice none 0 0,rfl,⟨rfl,.inl ⟨rfl,rfl⟩⟩,Si⟩
  ·exact absurd zF.out hno
 ·rcases p3 with p3 | ⟨b,off,rfl,p3⟩
  ·omega
  have hcells:∀ (j:Nat) y,l[j]?=some y->w1.cell? ⟨b,off+j,none⟩=some (.string y):=fun j y hy=>p3 j _ (by simp [hy])
  have hbl:b<w1.heap.size:=fM (hcells 0 _ (YG hpos));have HC:=hid hcells;clear p3 hcells;go_wp2_with (at_make;refine wpList_make_full _ rfl _ _ 140 rfl w1.heap.size 3 iI _ 1 Tryz.underlying140 Mq Co Cq .i64 .i64 _ _ l.length rfl rfl rfl rfl ?m3 ?m4 ?m5 ?_)
  case m3=>rw [Cr];omega
  case m4=>unfold maxLen;omega
  case m5=>exact YI _
  intro w2 hown2 nN;have hb2:Below w1.heap.size w1 w2:=(Below.refl _ _).grown nN (YI _) (by simp);have Jf:(madeCells #[Value.int .i64 0] l.length).toList=eF (yS l 0) l.length:=by have e:=ME l.length;rw [show (Value.int .i64 0).cells=#[Value.int .i64 0] from rfl,Nat.mul_one] at e;rw [e];rfl
  rw [Jf] at hown2;have U1:=hid hown2;clear hown2 nN Jf;go_wp2
  go_loopw [33] (fun vi wr=>Sd w1 wr l vi) (fun i _=>l.length-(intOf i).toNat)
  case atStart=>exact ⟨0,Nat.zero_le _,rfl,U1.out,hb2⟩
  case round=>
   obtain ⟨k,hk,rfl,hown3,iL⟩:=hrel;have OB:=hid hown3;clear hown3;by_cases hlt:k<l.length
   ·obtain ⟨x,hx⟩:∃ x,l[k]?=some x:=⟨_,YG hlt⟩;have c0:wr.cell? ⟨b,off+k,none⟩=some (.string x):=by rw [iL.cell (p:=⟨b,off+k,none⟩) hbl];exact HC.out k x hx
    have hxs:=H8.out x (List.mem_of_getElem? hx);have hwx:=PD.out x (List.mem_of_getElem? hx);have hst:=EB l k x hx;have HST:=hid hst;have WX:=hid (fU x wr (by omega) (HT1.out.below iL));generalize cO x=y at *;clear hx hst;go_wp2_with fail
    refine WX.out.mono ?_;rintro e w4 ⟨rfl,hb4⟩;have zW:=own_below OB.out hb4;have fz:=zW.frozenAt k;have fc:=zW.cellAt k (by omega);rw [gP _ _ _ hlt] at fc;have PL:=hid zW;have OC:Below w1.heap.size w1 w4:=aM iL hb4;have e5:decide ((1048576:Int)<(y:Int))=false:=by simp;omega
    clear zW WX;go_wp2;go_roundw;case rel=>
     obtain ⟨h1,h2⟩:=PL.out.stored k (.int .i64 y);rw [xH _ _ _ hlt,HST.out] at h1;exact ⟨k+1,by omega,by go_num,h1,OC.setCell (YI _) _⟩
    case measure=>simp [intOf];omega
   ·have hkl:k=l.length:=by omega
    have Sj:=OB.out;rw [hkl,EC] at Sj;have Mv:=hid Sj;clear Sj OB hkl;have W1:=hid (fU ⟨#[32]⟩ wr (by decide) (HT1.out.below iL));rw [zV] at W1;go_wp2_with fail
    refine W1.out.mono ?_;rintro e w5 ⟨rfl,hb5⟩;have OD:=aM iL hb5;have hse:=(lQ.nX Mv.out).below hb5;have B5:=hid (BR.out w5 (.slice (some ⟨w1.heap.size,0,none⟩) l.length l.length) (by rw [pU];exact hse));clear W1 hse;go_wp2_with fail
    refine B5.out.mono ?_;rintro e w6 (⟨-,v6,rfl,hown6,hb6⟩ | ⟨hno,-⟩)
    ·have Sk:=lQ.nX hown6;have EF:=aM OD hb6;clear hown6 B5 BR zF;generalize U2:uw (bP l) 30 wd=F at *;have QG:=hid U2;clear U2;generalize xC (bP l) 30 wd=C at *;obtain ⟨-,aF,XA,rfl,Yw,XB,OE⟩:=Sk;unfold maxLen at XB;have Yx:=ED.out.len;have Sl:0<F.length:=by
      have hz:=ED.out.z hpos;cases F with
      | nil=>simp at hz
      | cons _ _=>simp
     rcases OE with OE | ⟨bF,oF,rfl,OE⟩
     ·omega
     have Sm:∀ j x,F[j]?=some x->w6.cell? ⟨bF,oF+j,none⟩=some (.int .i64 x):=fun j x hx=>OE j _ (by simp [hx])
     have U3:bF<w6.heap.size:=fM (Sm 0 _ (YG Sl));have U4:=hid Sm;have OG:=aM hb1 EF;have XC:Hid (∀ (j:Nat) y,l[j]?=some y->w6.cell? ⟨b,off+j,none⟩=some (.string y)):=fun j y hy=>by rw [EF.cell (p:=⟨b,off+j,none⟩) hbl];exact HC.out j y hy
     have OH:b<w6.heap.size:=Nat.lt_of_lt_of_le hbl EF.size;clear OE Sm HC Mv U1 HT1;go_wp2;obtain ⟨wo,hwo⟩:∃ wo:World,wo=wr:=⟨_,rfl⟩;subst hwo
     go_loopw [13,62] (fun v vi wz=>Sg w6 wz l F v vi) (fun _ i _=>F.length-(intOf i).toNat)
     case atStart=>exact ⟨0,Nat.zero_le _,rfl,⟨rfl,.inl ⟨rfl,rfl⟩⟩,Below.refl _ _⟩
     case round=>
      obtain ⟨k,hk,rfl,uy,rH⟩:=hrel;have Sn:=hid uy;have Sq:=rH.size;clear uy;by_cases hlt:k<F.length
      ·have hlt2:=ED.out.lt k hlt;obtain ⟨fr,hfr⟩:∃ fr,fr=iY F k:=⟨_,rfl⟩;obtain ⟨tt,Qs⟩:∃ tt,tt=dX l F k:=⟨_,rfl⟩;rw [<- hfr,<- Qs] at hlt2;obtain ⟨hft,htl⟩:=hlt2;have Sr:F[k]?=some (fr:Int):=by
        have h1:=ED.out.ge k hlt;rw [hfr,iY,List.getD_eq_getElem?_getD,YG hlt] at *;simp only [Option.getD_some] at *;congr 1;omega
       have c0:wr.cell? ⟨bF,oF+k,none⟩=some (.int .i64 fr):=by rw [rH.cell (p:=⟨bF,oF+k,none⟩) U3];exact U4.out k _ Sr
       obtain ⟨sub,hsub⟩:∃ sub,sub=(l.take tt).drop fr:=⟨_,rfl⟩;have hsl:sub.length=tt-fr:=by rw [hsub];simp;omega
       have qQ:iZ l F k=jB (fun _=>1) sub:=by unfold iZ;rw [<- hfr,<- Qs,<- hsub]
       have hsc:∀ (j:Nat) y,sub[j]?=some y->wr.cell? ⟨b,(off+fr)+j,none⟩=some (.string y):=fun j y hy=>by
        rw [hsub,List.getElem?_drop,List.getElem?_take] at hy;split at hy
        ·rw [rH.cell (p:=⟨b,off+fr+j,none⟩) OH,Nat.add_assoc];exact XC.out (fr+j) y hy
        ·simp at hy
       have hss:(jB (fun _=>1) sub).size<=409700000:=by have h1:=ru l 100000 (fun x hx=>Nat.le_trans (H8.out x hx) hs) tt fr;rw [<- hsub] at h1;have h2:l.length*(1+100000)<=4096*100001:=Nat.mul_le_mul (by omega) (by omega);omega
       have J:=hid (Tryz.strings_Join b (off+fr) (cap-fr) sub ⟨#[32]⟩ wr hsc (Nat.lt_of_lt_of_le OH Sq) (by omega) (by omega) (by
        have h:=zX sub;have h2:(Lib.join (sub.map (·.data.toList)) [32]).length=(jB (fun _=>1) sub).size:=by rw [<- h];simp [ByteArray.size]
        show (Lib.join (sub.map (·.data.toList)) [32]).length<=_;omega))
       rw [show (ByteArray.mk #[32]).data.toList=[32] from rfl,zX,hsl,<- qQ] at J;have hcs:=yT l F k;have hcl:=BH l F k;have Qd:=hid hcs;have OI:Hid (tt=if k+1<F.length then (F.getD (k+1) 0).toNat else l.length):=Qs;have Yy:=hid Sr;generalize XD:iZ l F k=LA at *;generalize lC l F k=acc at *;generalize U5:lC l F (k+1)=acc' at *;have XE:=hid U5;have HSL:=hid hsl;have Yz:=hid hcl;have U6:acc.length<=k:=Nat.le_of_eq hcl;clear hcs hcl hsub hsl qQ hsc hss hfr Qs XD Sr U5
       go_upto_if 73 with (fail)
       go_cut [16] (fun s16 wx=>s16=.int .i64 tt/\wr=wx)
       case first=>
        by_cases hk1:k+1<F.length
        ·have h1:=ED.out.ge (k+1) hk1;have hE:=OI.out;rw [if_pos hk1] at hE;have hF1:F[k+1]?=some (tt:Int):=by
          rw [List.getD_eq_getElem?_getD,YG hk1] at *;simp only [Option.getD_some] at *;congr 1;omega
         have c1:wr.cell? ⟨bF,oF+(k+1),none⟩=some (.int .i64 tt):=by rw [rH.cell (p:=⟨bF,oF+(k+1),none⟩) U3];exact U4.out (k+1) _ hF1
         have e1:decide ((k:Int)+1<(F.length:Int))=true:=by simp;omega
         have j1:(k:Int)+1<(F.length:Int):=by omega
         have j2:((k:Int)+1).toNat=k+1:=by omega
         have HE:=hid hE;clear hE hF1 h1;go_wp2_with fail
         go_meet
         exact ⟨rfl,rfl⟩
        ·have hE:=OI.out;rw [if_neg hk1] at hE;have e1:decide ((k:Int)+1<(F.length:Int))=false:=by simp;omega
         have HE:=hid hE;clear hE;go_wp2_with fail
         go_meet
         exact ⟨by rw [HE.out],rfl⟩
       case rest=>
        obtain ⟨rfl,rfl⟩:=hcut;have q1:(fr:Int)<=(tt:Int):=by omega
        have q2:(tt:Int)<=(cap:Int):=by omega
        have q3:fr<cap:=by omega
        have q4:¬ fr=cap:=by omega
        clear c0;go_wp2_with fail
        refine J.out.mono ?_;rintro e w8 ⟨rfl,U7⟩;have EG:=own_below Sn.out U7;have Jg:=aM rH U7;have Sv:=Jg.size;clear J;go_wp2_with (at_builtin;refine wpList_append_own _ rfl _ _ 35 rfl w6.heap.size 9 iS (.string ByteArray.empty) 1 16 Tryz.underlying35 Ro Kg Kh Ki rfl (by decide) _ _ _ rfl (EG.alloc _) ⟨w8.heap.size,0,none⟩ 1 1 [.string LA] rfl rfl ?c1 ?c2 ?c3 ?c4 ?c5 ?_)
        case c1=>exact kN _ _ _
        case c2=>simp [Value.oneCell']
        case c3=>unfold maxLen;omega
        case c4=>omega
        case c5=>simp;omega
        intro v' w9 hown' hgrow _;have OJ:=below_app Jg Sv EG hgrow;have XF:=hid hown';clear hown' hgrow EG;go_wp2;go_roundw;case rel=>exact ⟨k+1,by omega,by go_num,by rw [XE.out,Qd.out];simpa using XF.out,OJ⟩
        case measure=>simp [intOf];omega
      ·have U8:k=F.length:=by omega
       have hO:=Sn.out;rw [U8] at hO;have HO:=hid hO;clear hO U8 Sn;go_wp2
       go_ret2
       exact ⟨_,rfl,by rw [QG.out];exact kP HO.out OG.size,aM OG rH⟩
    ·exact absurd zF.out hno
end Go.Proofs.YtnmldmofggkoeaaGreatDoor

