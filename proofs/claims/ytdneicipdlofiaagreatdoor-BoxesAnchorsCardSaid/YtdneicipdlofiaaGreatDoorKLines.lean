/- The contract of wrap.Lines . -/
import Derived.Test.YtdneicipdlofiaaGreatDoorKJoined
import Derived.Test.YtdneicipdlofiaaGreatDoorKBreakAll
import Derived.WalkSpells
set_option maxHeartbeats 2000000
set_option maxRecDepth 100000
open Go.Lib (hid)
namespace Go.Proofs.YtdneicipdlofiaaGreatDoor
open List renaming getElem?_eq_getElem->joq
open Go.RowKit
set_option linter.unusedVariables false
set_option linter.unusedSimpArgs false
def P7 (w:World) (s:ByteArray) (wd:Int) (e:Ending) (w':World):Prop:=
 ∃ v,e=.returned (.tuple #[v,.int .i64 0])/\w'.ownsRow w.heap.size 9 1 v (BH (fJ s) (Bz (dF (fJ s)) 30 wd)).length ((BH (fJ s) (Bz (dF (fJ s)) 30 wd)).map Value.string)/\Below w.heap.size w w'
def BO (l:List ByteArray) (k:Nat):Nat->Int:=fun j=>if j<k then (dA (l.getD j ByteArray.empty):Int) else 0
theorem Ef (l:List ByteArray) (k:Nat) (x:ByteArray) (h:l[k]?=some x):(fun i=>if i=k then (dA x:Int) else BO l k i)=BO l (k+1):=by
 funext i
 unfold BO;by_cases e:i=k
 ·subst e;rw [if_pos rfl,if_pos (by omega),List.getD_eq_getElem?_getD,h];rfl
 ·rw [if_neg e];by_cases e2:i<k
  ·rw [if_pos e2,if_pos (by omega)]
  ·rw [if_neg e2,if_neg (by omega)]
theorem P8 (l:List ByteArray):fQ (BO l l.length) l.length=rV (dF l):=by
 apply List.ext_getElem?;intro i;by_cases hi:i<l.length
 ·rw [jg _ _ _ hi];unfold rV dF BO;rw [if_pos hi,List.getElem?_map,List.getElem?_map,List.getD_eq_getElem?_getD,joq hi];rfl
 ·rw [List.getElem?_eq_none (by simp [jf];omega),List.getElem?_eq_none (by simp [rV,dF];omega)]
def jk1 (w1 wr:World) (l:List ByteArray) (vi:Value):Prop:=
 ∃ k:Nat,k<=l.length/\vi=.int .i64 k/\wr.ownsRow w1.heap.size 3 1 (.slice (some ⟨w1.heap.size,0,none⟩) l.length l.length) l.length (fQ (BO l k) l.length)/\Below w1.heap.size w1 wr
def jk2 (w2 wr:World) (l:List ByteArray) (F:List Int) (v vi:Value):Prop:=
 ∃ k:Nat,k<=F.length/\vi=.int .i64 k/\wr.ownsRow w2.heap.size 9 1 v (rC l F k).length ((rC l F k).map Value.string)/\Below w2.heap.size w2 wr
theorem zX (w:World) (s:ByteArray) (wd:Int) (hs:s.size<=100000) (hn:(fJ s).length<=4096) (QT:∀ x∈fJ s,dA x<=1048576) (hd0:1<=wd) (hd1:wd<=1048576) (ht:TabAt w) : Calls Tryz.prog 181 #[.string s,.int .i64 wd] w (P7 w s wd):=by
 obtain ⟨iI,QU,yX,yY,yZ⟩:=info_parts Jo;obtain ⟨iS,Hl,oV,oW,oZ⟩:=info_parts ku;have hwl:(fJ s).length<=4096:=hn;clear hn;have QS:=hid (oO s);have W0:=hid (Ac s w (by omega));have HT:=hid ht;have hpost:P7 w s wd=fun e w'=>∃ v,e=.returned (.tuple #[v,.int .i64 0])/\w'.ownsRow w.heap.size 9 1 v (BH (fJ s) (Bz (dF (fJ s)) 30 wd)).length ((BH (fJ s) (Bz (dF (fJ s)) 30 wd)).map Value.string)/\Below w.heap.size w w':=rfl
 have je3:=Oi (fJ s) 30 wd (by omega) hd1;have hok:Nj (dF (fJ s)) 30 wd:=⟨⟨hd0,hd1⟩,by omega,fun x hx=>by
  simp [dF] at hx;obtain ⟨a,ha,rfl⟩:=hx;have:=QT a ha;omega⟩
 have HWW:=hid QT;clear QT;have BR:=hid (fun w2 vw hs=>KN w2 vw (dF (fJ s)) 30 wd hs (by rw [xP];omega));rw [hpost];have P9:=hid je3;have JI:=hid hok;clear ht hpost je3 hok;generalize fJ s=l at *;go_enter Tryz.func181,Tryz.ntmps181;go_wp2_with fail
 refine W0.out.mono ?_;rintro e w1 ⟨v,rfl,hown,hb1⟩;have hse:=gQ.bV hown;clear hown W0;obtain ⟨-,a,cap,rfl,p1,p2,p3⟩:=hse;unfold maxLen at p2;have e1:decide ((4096:Int)<(l.length:Int))=false:=by simp;omega
 have hT1:=HT.out.below hb1;have HT1:=hid hT1;clear hT1 HT;rcases Nat.eq_zero_or_pos l.length with h0 | hpos
 ·obtain rfl:=List.length_eq_zero_iff.1 h0;have hmk:∀ w:World,(Instr.makeSlice 110 (.int .i64 0) (.int .i64 0)).run Tryz.prog w=.ok (.slice (some ⟨w.heap.size,0,none⟩) 0 0) (w.alloc (.cells #[] 3)):=fun _=>by kernel_rfl
  clear p3;go_wp2;refine wp_loop_rounds 1 ?_;rw [rounds_succ];go_wp2_with fail
  refine (jc ⟨#[32]⟩ _ (by decide) (HT1.out.below ((Below.refl _ _).alloc (Nat.le_refl _) _))).mono ?_;rintro e w2 ⟨rfl,hb2⟩;rw [J2];go_wp2_with fail
  refine (BR.out _ _ ⟨rfl,_,_,rfl,Nat.le_refl _,Nat.zero_le _,.inl rfl⟩).mono ?_;rintro e w3 (⟨-,v3,rfl,hown3,hb3⟩ | ⟨hno,-⟩)
  ·have s3:=gQ.bV hown3;obtain ⟨-,a3,jb1,rfl,q1,q2,-⟩:=s3;have jk3:Below w.heap.size w w3:=aP (aP (hb1.alloc hb1.size _) hb2) hb3;clear hown3;go_wp2;refine wp_loop_rounds 1 ?_;rw [rounds_succ];go_wp2
   go_ret2
   exact ⟨.slice none 0 0,rfl,⟨rfl,.inl ⟨rfl,rfl⟩⟩,jk3⟩
  ·exact absurd JI.out hno
 ·rcases p3 with p3 | ⟨b,off,rfl,p3⟩
  ·omega
  have hcells:∀ (j:Nat) y,l[j]?=some y->w1.cell? ⟨b,off+j,none⟩=some (.string y):=fun j y hy=>p3 j _ (by simp [hy])
  have hbl:b<w1.heap.size:=jY (hcells 0 _ (joq hpos));have HC:=hid hcells;clear p3 hcells;go_wp2_with (at_make;refine wpList_make_full _ rfl _ _ 110 rfl w1.heap.size 3 iI _ 1 Tryz.underlying110 QU yX yY .i64 .i64 _ _ l.length rfl rfl rfl rfl ?m3 ?m4 ?m5 ?_)
  case m3=>rw [yZ];omega
  case m4=>unfold maxLen;omega
  case m5=>exact Nat.le_refl _
  intro w2 hown2 qx;have hb2:Below w1.heap.size w1 w2:=(Below.refl _ _).grown qx (Nat.le_refl _) (by simp);have Ee:(madeCells #[Value.int .i64 0] l.length).toList=fQ (BO l 0) l.length:=by have e:=Ux l.length;rw [show (Value.int .i64 0).cells=#[Value.int .i64 0] from rfl,Nat.mul_one] at e;rw [e];rfl
  rw [Ee] at hown2;have NA:=hid hown2;clear hown2 qx Ee;go_wp2
  go_loopw [33] (fun vi wr=>jk1 w1 wr l vi) (fun i _=>l.length-(intOf i).toNat)
  case atStart=>exact ⟨0,Nat.zero_le _,rfl,NA.out,hb2⟩
  case round=>
   obtain ⟨k,hk,rfl,hown3,je⟩:=hrel;have Wt:=hid hown3;clear hown3;by_cases hlt:k<l.length
   ·obtain ⟨x,hx⟩:∃ x,l[k]?=some x:=⟨_,joq hlt⟩;have c0:wr.cell? ⟨b,off+k,none⟩=some (.string x):=by rw [je.cell (p:=⟨b,off+k,none⟩) hbl];exact HC.out k x hx
    have hxs:=QS.out x (List.mem_of_getElem? hx);have hwx:=HWW.out x (List.mem_of_getElem? hx);have hst:=Ef l k x hx;have HST:=hid hst;have WX:=hid (jc x wr (by omega) (HT1.out.below je));generalize dA x=y at *;clear hx hst;go_wp2_with fail
    refine WX.out.mono ?_;rintro e w4 ⟨rfl,hb4⟩;have iH:=zY Wt.out hb4;have fz:=iH.frozenAt k;have fc:=iH.cellAt k (by omega);rw [jg _ _ _ hlt] at fc;have GX:=hid iH;have Jt:Below w1.heap.size w1 w4:=aP je hb4;have e5:decide ((1048576:Int)<(y:Int))=false:=by simp;omega
    clear iH WX;go_wp2;go_roundw;case rel=>
     obtain ⟨h1,h2⟩:=GX.out.stored k (.int .i64 y);rw [vG _ _ _ hlt,HST.out] at h1;exact ⟨k+1,by omega,by go_num,h1,Jt.setCell (Nat.le_refl _) _⟩
    case measure=>simp [intOf];omega
   ·have hkl:k=l.length:=by omega
    have hO5:=Wt.out;rw [hkl,P8] at hO5;have Rn:=hid hO5;clear hO5 Wt hkl;have W1:=hid (jc ⟨#[32]⟩ wr (by decide) (HT1.out.below je));rw [J2] at W1;go_wp2_with fail
    refine W1.out.mono ?_;rintro e w5 ⟨rfl,hb5⟩;have je4:=aP je hb5;have hse:=(gQ.bV Rn.out).below hb5;have B5:=hid (BR.out w5 (.slice (some ⟨w1.heap.size,0,none⟩) l.length l.length) (by rw [xP];exact hse));clear W1 hse;go_wp2_with fail
    refine B5.out.mono ?_;rintro e w6 (⟨-,v6,rfl,hown6,hb6⟩ | ⟨hno,-⟩)
    ·have jk4:=gQ.bV hown6;have Qa:=aP je4 hb6;clear hown6 B5 BR JI;generalize hFF:Bz (dF l) 30 wd=F at *;have HFF:=hid hFF;clear hFF;generalize GK (dF l) 30 wd=C at *;obtain ⟨-,aF,jnz,rfl,pF1,pF2,pF3⟩:=jk4;unfold maxLen at pF2;have hFl:=P9.out.len;have hFp:0<F.length:=by
      have hz:=P9.out.z hpos;cases F with
      | nil=>simp at hz
      | cons _ _=>simp
     rcases pF3 with pF3 | ⟨bF,oF,rfl,pF3⟩
     ·omega
     have hFc:∀ j x,F[j]?=some x->w6.cell? ⟨bF,oF+j,none⟩=some (.int .i64 x):=fun j x hx=>pF3 j _ (by simp [hx])
     have hbF:bF<w6.heap.size:=jY (hFc 0 _ (joq hFp));have HFC:=hid hFc;have je5:=aP hb1 Qa;have HC6:Hid (∀ (j:Nat) y,l[j]?=some y->w6.cell? ⟨b,off+j,none⟩=some (.string y)):=fun j y hy=>by rw [Qa.cell (p:=⟨b,off+j,none⟩) hbl];exact HC.out j y hy
     have je6:b<w6.heap.size:=Nat.lt_of_lt_of_le hbl Qa.size;clear pF3 hFc HC Rn NA HT1;go_wp2;obtain ⟨wo,hwo⟩:∃ wo:World,wo=wr:=⟨_,rfl⟩;subst hwo
     go_loopw [13,62] (fun v vi wz=>jk2 w6 wz l F v vi) (fun _ i _=>F.length-(intOf i).toNat)
     case atStart=>exact ⟨0,Nat.zero_le _,rfl,⟨rfl,.inl ⟨rfl,rfl⟩⟩,Below.refl _ _⟩
     case round=>
      obtain ⟨k,hk,rfl,jK,Ba⟩:=hrel;have HO7:=hid jK;have jk5:=Ba.size;clear jK;by_cases hlt:k<F.length
      ·have hlt2:=P9.out.lt k hlt;obtain ⟨fr,hfr⟩:∃ fr,fr=wH F k:=⟨_,rfl⟩;obtain ⟨tt,htt⟩:∃ tt,tt=wE l F k:=⟨_,rfl⟩;rw [<- hfr,<- htt] at hlt2;obtain ⟨hft,htl⟩:=hlt2;have hFk:F[k]?=some (fr:Int):=by
        have h1:=P9.out.ge k hlt;rw [hfr,wH,List.getD_eq_getElem?_getD,joq hlt] at *;simp only [Option.getD_some] at *;congr 1;omega
       have c0:wr.cell? ⟨bF,oF+k,none⟩=some (.int .i64 fr):=by rw [Ba.cell (p:=⟨bF,oF+k,none⟩) hbF];exact HFC.out k _ hFk
       obtain ⟨sub,hsub⟩:∃ sub,sub=(l.take tt).drop fr:=⟨_,rfl⟩;have hsl:sub.length=tt-fr:=by rw [hsub];simp;omega
       have Ab:lF l F k=jB (fun _=>1) sub:=by unfold lF;rw [<- hfr,<- htt,<- hsub]
       have hsc:∀ (j:Nat) y,sub[j]?=some y->wr.cell? ⟨b,(off+fr)+j,none⟩=some (.string y):=fun j y hy=>by
        rw [hsub,List.getElem?_drop,List.getElem?_take] at hy;split at hy
        ·rw [Ba.cell (p:=⟨b,off+fr+j,none⟩) je6,Nat.add_assoc];exact HC6.out (fr+j) y hy
        ·simp at hy
       have hss:(jB (fun _=>1) sub).size<=409700000:=by have h1:=Ap l 100000 (fun x hx=>Nat.le_trans (QS.out x hx) hs) tt fr;rw [<- hsub] at h1;have h2:l.length*(1+100000)<=4096*100001:=Nat.mul_le_mul (by omega) (by omega);omega
       have J:=hid (Tryz.strings_Join b (off+fr) (cap-fr) sub ⟨#[32]⟩ wr hsc (Nat.lt_of_lt_of_le je6 jk5) (by omega) (by omega) (by
        have h:=J3 sub;have h2:(Lib.join (sub.map (·.data.toList)) [32]).length=(jB (fun _=>1) sub).size:=by rw [<- h];simp [ByteArray.size]
        show (Lib.join (sub.map (·.data.toList)) [32]).length<=_;omega))
       rw [show (ByteArray.mk #[32]).data.toList=[32] from rfl,J3,hsl,<- Ab] at J;have hcs:=Iy l F k;have hcl:=Mg l F k;have Jw:=hid hcs;have je7:Hid (tt=if k+1<F.length then (F.getD (k+1) 0).toNat else l.length):=htt;have HFK:=hid hFk;generalize hLA:lF l F k=LA at *;generalize rC l F k=acc at *;generalize hAC:rC l F (k+1)=acc' at *;have HAC:=hid hAC;have HSL:=hid hsl;have YI:=hid hcl;have jmk:acc.length<=k:=Nat.le_of_eq hcl;clear hcs hcl hsub hsl Ab hsc hss hfr htt hLA hFk hAC
       go_upto_if 73 with (fail)
       go_cut [16] (fun s16 wx=>s16=.int .i64 tt/\wr=wx)
       case first=>
        by_cases hk1:k+1<F.length
        ·have h1:=P9.out.ge (k+1) hk1;have hE:=je7.out;rw [if_pos hk1] at hE;have hF1:F[k+1]?=some (tt:Int):=by
          rw [List.getD_eq_getElem?_getD,joq hk1] at *;simp only [Option.getD_some] at *;congr 1;omega
         have c1:wr.cell? ⟨bF,oF+(k+1),none⟩=some (.int .i64 tt):=by rw [Ba.cell (p:=⟨bF,oF+(k+1),none⟩) hbF];exact HFC.out (k+1) _ hF1
         have e1:decide ((k:Int)+1<(F.length:Int))=true:=by simp;omega
         have j1:(k:Int)+1<(F.length:Int):=by omega
         have j2:((k:Int)+1).toNat=k+1:=by omega
         have HE:=hid hE;clear hE hF1 h1;go_wp2_with fail
         go_meet
         exact ⟨rfl,rfl⟩
        ·have hE:=je7.out;rw [if_neg hk1] at hE;have e1:decide ((k:Int)+1<(F.length:Int))=false:=by simp;omega
         have HE:=hid hE;clear hE;go_wp2_with fail
         go_meet
         exact ⟨by rw [HE.out],rfl⟩
       case rest=>
        obtain ⟨rfl,rfl⟩:=hcut;have q1:(fr:Int)<=(tt:Int):=by omega
        have q2:(tt:Int)<=(cap:Int):=by omega
        have q3:fr<cap:=by omega
        have q4:¬ fr=cap:=by omega
        clear c0;go_wp2_with fail
        refine J.out.mono ?_;rintro e w8 ⟨rfl,UR⟩;have Ao:=zY HO7.out UR;have VE:=aP Ba UR;have jk6:=VE.size;clear J;go_wp2_with (at_builtin;refine wpList_append_own _ rfl _ _ 35 rfl w6.heap.size 9 iS (.string ByteArray.empty) 1 16 Tryz.underlying35 Hl oV oW oZ rfl (by decide) _ _ _ rfl (Ao.alloc _) ⟨w8.heap.size,0,none⟩ 1 1 [.string LA] rfl rfl ?c1 ?c2 ?c3 ?c4 ?c5 ?_)
        case c1=>exact lu _ _ _
        case c2=>simp [Value.oneCell']
        case c3=>unfold maxLen;omega
        case c4=>omega
        case c5=>simp;omega
        intro v' w9 hown' hgrow _;have je8:=below_app VE jk6 Ao hgrow;have HO9:=hid hown';clear hown' hgrow Ao;go_wp2;go_roundw;case rel=>exact ⟨k+1,by omega,by go_num,by rw [HAC.out,Jw.out];simpa using HO9.out,je8⟩
        case measure=>simp [intOf];omega
      ·have hkF:k=F.length:=by omega
       have hO:=HO7.out;rw [hkF] at hO;have HO:=hid hO;clear hO hkF HO7;go_wp2
       go_ret2
       exact ⟨_,rfl,by rw [HFF.out];exact mG HO.out je5.size,aP je5 Ba⟩
    ·exact absurd JI.out hno
end Go.Proofs.YtdneicipdlofiaaGreatDoor

