/- The contract of wrap.Lines . -/
import Derived.Test.YtnmldmofggkoeaaGreatDoorKJoined
import Derived.Test.YtnmldmofggkoeaaGreatDoorKBreakAll
import Derived.WalkSpells
set_option maxHeartbeats 2000000
set_option maxRecDepth 100000
open Go.Lib (hid)
namespace Go.Proofs.YtnmldmofggkoeaaGreatDoor
open List renaming getElem?_eq_getElem->XR
open Nat renaming le_refl->XU
open Go.RowKit
set_option linter.unusedVariables false
set_option linter.unusedSimpArgs false
def EA (w:World) (s:ByteArray) (wd:Int) (e:Ending) (w':World):Prop:=
 ∃ v,e=.returned (.tuple #[v,.int .i64 0])/\w'.ownsRow w.heap.size 9 1 v (xQ (jh s) (tT (bO (jh s)) 30 wd)).length ((xQ (jh s) (tT (bO (jh s)) 30 wd)).map Value.string)/\Below w.heap.size w w'
def yX (l:List ByteArray) (k:Nat):Nat->Int:=fun j=>if j<k then (dD (l.getD j ByteArray.empty):Int) else 0
theorem EB (l:List ByteArray) (k:Nat) (x:ByteArray) (h:l[k]?=some x):(fun i=>if i=k then (dD x:Int) else yX l k i)=yX l (k+1):=by
 funext i
 unfold yX;by_cases e:i=k
 ·subst e;rw [if_pos rfl,if_pos (by omega),List.getD_eq_getElem?_getD,h];rfl
 ·rw [if_neg e];by_cases e2:i<k
  ·rw [if_pos e2,if_pos (by omega)]
  ·rw [if_neg e2,if_neg (by omega)]
theorem EC (l:List ByteArray):eD (yX l l.length) l.length=lG (bO l):=by
 apply List.ext_getElem?;intro i;by_cases hi:i<l.length
 ·rw [gL _ _ _ hi];unfold lG bO yX;rw [if_pos hi,List.getElem?_map,List.getElem?_map,List.getD_eq_getElem?_getD,XR hi];rfl
 ·rw [List.getElem?_eq_none (by simp [eF];omega),List.getElem?_eq_none (by simp [lG,bO];omega)]
def Rx (w1 wr:World) (l:List ByteArray) (vi:Value):Prop:=
 ∃ k:Nat,k<=l.length/\vi=.int .i64 k/\wr.ownsRow w1.heap.size 3 1 (.slice (some ⟨w1.heap.size,0,none⟩) l.length l.length) l.length (eD (yX l k) l.length)/\Below w1.heap.size w1 wr
def Ry (w2 wr:World) (l:List ByteArray) (F:List Int) (v vi:Value):Prop:=
 ∃ k:Nat,k<=F.length/\vi=.int .i64 k/\wr.ownsRow w2.heap.size 9 1 v (kW l F k).length ((kW l F k).map Value.string)/\Below w2.heap.size w2 wr
theorem Au (w:World) (s:ByteArray) (wd:Int) (hs:s.size<=100000) (hn:(jh s).length<=4096) (Fa:∀ x∈jh s,dD x<=1048576) (hd0:1<=wd) (hd1:wd<=1048576) (ht:TabAt w) : Calls Tryz.prog 75 #[.string s,.int .i64 wd] w (EA w s wd):=by
 obtain ⟨iI,LW,Ck,Cm,Cn⟩:=info_parts Cg;obtain ⟨iS,Mf,Jv,Jw,Jy⟩:=info_parts nL;have hwl:(jh s).length<=4096:=hn;clear hn;have GX:=hid (nV s);have W0:=hid (Bu s w (by omega));have HT:=hid ht;have hpost:EA w s wd=fun e w'=>∃ v,e=.returned (.tuple #[v,.int .i64 0])/\w'.ownsRow w.heap.size 9 1 v (xQ (jh s) (tT (bO (jh s)) 30 wd)).length ((xQ (jh s) (tT (bO (jh s)) 30 wd)).map Value.string)/\Below w.heap.size w w':=rfl
 have Ox:=Dl (jh s) 30 wd (by omega) hd1;have hok:Ch (bO (jh s)) 30 wd:=⟨⟨hd0,hd1⟩,by omega,fun x hx=>by
  simp [bO] at hx;obtain ⟨a,ha,rfl⟩:=hx;have:=Fa a ha;omega⟩
 have OY:=hid Fa;clear Fa;have BR:=hid (fun w2 vw hs=>Ah w2 vw (bO (jh s)) 30 wd hs (by rw [pF];omega));rw [hpost];have ED:=hid Ox;have ng:=hid hok;clear ht hpost Ox hok;generalize jh s=l at *;go_enter Tryz.func75,Tryz.ntmps75;go_wp2_with fail
 refine W0.out.mono ?_;rintro e w1 ⟨v,rfl,hown,hb1⟩;have hse:=jH.lI hown;clear hown W0;obtain ⟨-,a,cap,rfl,p1,p2,p3⟩:=hse;unfold maxLen at p2;have e1:decide ((4096:Int)<(l.length:Int))=false:=by simp;omega
 have hT1:=HT.out.below hb1;have HT1:=hid hT1;clear hT1 HT;rcases Nat.eq_zero_or_pos l.length with h0 | hpos
 ·obtain rfl:=List.length_eq_zero_iff.1 h0;have hmk:∀ w:World,(Instr.makeSlice 140 (.int .i64 0) (.int .i64 0)).run Tryz.prog w=.ok (.slice (some ⟨w.heap.size,0,none⟩) 0 0) (w.alloc (.cells #[] 3)):=fun _=>by kernel_rfl
  clear p3;go_wp2;refine wp_loop_rounds 1 ?_;rw [rounds_succ];go_wp2_with fail
  refine (fT ⟨#[32]⟩ _ (by decide) (HT1.out.below ((Below.refl _ _).alloc (XU _) _))).mono ?_;rintro e w2 ⟨rfl,hb2⟩;rw [zT];go_wp2_with fail
  refine (BR.out _ _ ⟨rfl,_,_,rfl,XU _,Nat.zero_le _,.inl rfl⟩).mono ?_;rintro e w3 (⟨-,v3,rfl,hown3,hb3⟩ | ⟨hno,-⟩)
  ·have s3:=jH.lI hown3;obtain ⟨-,a3,WM,rfl,q1,q2,-⟩:=s3;have Rz:Below w.heap.size w w3:=aL (aL (hb1.alloc hb1.size _) hb2) hb3;clear hown3;go_wp2;refine wp_loop_rounds 1 ?_;rw [rounds_succ];go_wp2
   go_ret2
   exact ⟨.slice none 0 0,rfl,⟨rfl,.inl ⟨rfl,rfl⟩⟩,Rz⟩
  ·exact absurd ng.out hno
 ·rcases p3 with p3 | ⟨b,off,rfl,p3⟩
  ·omega
  have hcells:∀ (j:Nat) y,l[j]?=some y->w1.cell? ⟨b,off+j,none⟩=some (.string y):=fun j y hy=>p3 j _ (by simp [hy])
  have hbl:b<w1.heap.size:=fJ (hcells 0 _ (XR hpos));have HC:=hid hcells;clear p3 hcells;go_wp2_with (at_make;refine wpList_make_full _ rfl _ _ 140 rfl w1.heap.size 3 iI _ 1 Tryz.underlying140 LW Ck Cm .i64 .i64 _ _ l.length rfl rfl rfl rfl ?m3 ?m4 ?m5 ?_)
  case m3=>rw [Cn];omega
  case m4=>unfold maxLen;omega
  case m5=>exact XU _
  intro w2 hown2 nJ;have hb2:Below w1.heap.size w1 w2:=(Below.refl _ _).grown nJ (XU _) (by simp);have IV:(madeCells #[Value.int .i64 0] l.length).toList=eD (yX l 0) l.length:=by have e:=Mc l.length;rw [show (Value.int .i64 0).cells=#[Value.int .i64 0] from rfl,Nat.mul_one] at e;rw [e];rfl
  rw [IV] at hown2;have UA:=hid hown2;clear hown2 nJ IV;go_wp2
  go_loopw [33] (fun vi wr=>Rx w1 wr l vi) (fun i _=>l.length-(intOf i).toNat)
  case atStart=>exact ⟨0,Nat.zero_le _,rfl,UA.out,hb2⟩
  case round=>
   obtain ⟨k,hk,rfl,hown3,fQ⟩:=hrel;have Kc:=hid hown3;clear hown3;by_cases hlt:k<l.length
   ·obtain ⟨x,hx⟩:∃ x,l[k]?=some x:=⟨_,XR hlt⟩;have c0:wr.cell? ⟨b,off+k,none⟩=some (.string x):=by rw [fQ.cell (p:=⟨b,off+k,none⟩) hbl];exact HC.out k x hx
    have hxs:=GX.out x (List.mem_of_getElem? hx);have hwx:=OY.out x (List.mem_of_getElem? hx);have hst:=EB l k x hx;have HST:=hid hst;have WX:=hid (fT x wr (by omega) (HT1.out.below fQ));generalize dD x=y at *;clear hx hst;go_wp2_with fail
    refine WX.out.mono ?_;rintro e w4 ⟨rfl,hb4⟩;have zU:=Jo Kc.out hb4;have fz:=zU.frozenAt k;have fc:=zU.cellAt k (by omega);rw [gL _ _ _ hlt] at fc;have O5:=hid zU;have Oy:Below w1.heap.size w1 w4:=aL fQ hb4;have e5:decide ((1048576:Int)<(y:Int))=false:=by simp;omega
    clear zU WX;go_wp2;go_roundw;case rel=>
     obtain ⟨h1,h2⟩:=O5.out.stored k (.int .i64 y);rw [xw _ _ _ hlt,HST.out] at h1;exact ⟨k+1,by omega,by go_num,h1,Oy.setCell (XU _) _⟩
    case measure=>simp [intOf];omega
   ·have hkl:k=l.length:=by omega
    have RA:=Kc.out;rw [hkl,EC] at RA;have L6:=hid RA;clear RA Kc hkl;have W1:=hid (fT ⟨#[32]⟩ wr (by decide) (HT1.out.below fQ));rw [zT] at W1;go_wp2_with fail
    refine W1.out.mono ?_;rintro e w5 ⟨rfl,hb5⟩;have Oz:=aL fQ hb5;have hse:=(jH.lI L6.out).below hb5;have B5:=hid (BR.out w5 (.slice (some ⟨w1.heap.size,0,none⟩) l.length l.length) (by rw [pF];exact hse));clear W1 hse;go_wp2_with fail
    refine B5.out.mono ?_;rintro e w6 (⟨-,v6,rfl,hown6,hb6⟩ | ⟨hno,-⟩)
    ·have RB:=jH.lI hown6;have EF:=aL Oz hb6;clear hown6 B5 BR ng;generalize UC:tT (bO l) 30 wd=F at *;have Qf:=hid UC;clear UC;generalize xg (bO l) 30 wd=C at *;obtain ⟨-,aF,WO,rfl,XI,WQ,OB⟩:=RB;unfold maxLen at WQ;have XJ:=ED.out.len;have WT:0<F.length:=by
      have hz:=ED.out.z hpos;cases F with
      | nil=>simp at hz
      | cons _ _=>simp
     rcases OB with OB | ⟨bF,oF,rfl,OB⟩
     ·omega
     have RD:∀ j x,F[j]?=some x->w6.cell? ⟨bF,oF+j,none⟩=some (.int .i64 x):=fun j x hx=>OB j _ (by simp [hx])
     have UD:bF<w6.heap.size:=fJ (RD 0 _ (XR WT));have UF:=hid RD;have OC:=aL hb1 EF;have WU:Hid (∀ (j:Nat) y,l[j]?=some y->w6.cell? ⟨b,off+j,none⟩=some (.string y)):=fun j y hy=>by rw [EF.cell (p:=⟨b,off+j,none⟩) hbl];exact HC.out j y hy
     have OD:b<w6.heap.size:=Nat.lt_of_lt_of_le hbl EF.size;clear OB RD HC L6 UA HT1;go_wp2;obtain ⟨wo,hwo⟩:∃ wo:World,wo=wr:=⟨_,rfl⟩;subst hwo
     go_loopw [13,62] (fun v vi wz=>Ry w6 wz l F v vi) (fun _ i _=>F.length-(intOf i).toNat)
     case atStart=>exact ⟨0,Nat.zero_le _,rfl,⟨rfl,.inl ⟨rfl,rfl⟩⟩,Below.refl _ _⟩
     case round=>
      obtain ⟨k,hk,rfl,tV,rA⟩:=hrel;have RF:=hid tV;have RG:=rA.size;clear tV;by_cases hlt:k<F.length
      ·have hlt2:=ED.out.lt k hlt;obtain ⟨fr,hfr⟩:∃ fr,fr=qN F k:=⟨_,rfl⟩;obtain ⟨tt,P6⟩:∃ tt,tt=qM l F k:=⟨_,rfl⟩;rw [<- hfr,<- P6] at hlt2;obtain ⟨hft,htl⟩:=hlt2;have RI:F[k]?=some (fr:Int):=by
        have h1:=ED.out.ge k hlt;rw [hfr,qN,List.getD_eq_getElem?_getD,XR hlt] at *;simp only [Option.getD_some] at *;congr 1;omega
       have c0:wr.cell? ⟨bF,oF+k,none⟩=some (.int .i64 fr):=by rw [rA.cell (p:=⟨bF,oF+k,none⟩) UD];exact UF.out k _ RI
       obtain ⟨sub,hsub⟩:∃ sub,sub=(l.take tt).drop fr:=⟨_,rfl⟩;have hsl:sub.length=tt-fr:=by rw [hsub];simp;omega
       have qJ:jM l F k=jB (fun _=>1) sub:=by unfold jM;rw [<- hfr,<- P6,<- hsub]
       have hsc:∀ (j:Nat) y,sub[j]?=some y->wr.cell? ⟨b,(off+fr)+j,none⟩=some (.string y):=fun j y hy=>by
        rw [hsub,List.getElem?_drop,List.getElem?_take] at hy;split at hy
        ·rw [rA.cell (p:=⟨b,off+fr+j,none⟩) OD,Nat.add_assoc];exact WU.out (fr+j) y hy
        ·simp at hy
       have hss:(jB (fun _=>1) sub).size<=409700000:=by have h1:=qL l 100000 (fun x hx=>Nat.le_trans (GX.out x hx) hs) tt fr;rw [<- hsub] at h1;have h2:l.length*(1+100000)<=4096*100001:=Nat.mul_le_mul (by omega) (by omega);omega
       have J:=hid (Tryz.strings_Join b (off+fr) (cap-fr) sub ⟨#[32]⟩ wr hsc (Nat.lt_of_lt_of_le OD RG) (by omega) (by omega) (by
        have h:=zV sub;have h2:(Lib.join (sub.map (·.data.toList)) [32]).length=(jB (fun _=>1) sub).size:=by rw [<- h];simp [ByteArray.size]
        show (Lib.join (sub.map (·.data.toList)) [32]).length<=_;omega))
       rw [show (ByteArray.mk #[32]).data.toList=[32] from rfl,zV,hsl,<- qJ] at J;have hcs:=yY l F k;have hcl:=Bv l F k;have Io:=hid hcs;have OE:Hid (tt=if k+1<F.length then (F.getD (k+1) 0).toNat else l.length):=P6;have XK:=hid RI;generalize WV:jM l F k=LA at *;generalize kW l F k=acc at *;generalize UG:kW l F (k+1)=acc' at *;have WW:=hid UG;have HSL:=hid hsl;have XL:=hid hcl;have UH:acc.length<=k:=Nat.le_of_eq hcl;clear hcs hcl hsub hsl qJ hsc hss hfr P6 WV RI UG
       go_upto_if 73 with (fail)
       go_cut [16] (fun s16 wx=>s16=.int .i64 tt/\wr=wx)
       case first=>
        by_cases hk1:k+1<F.length
        ·have h1:=ED.out.ge (k+1) hk1;have hE:=OE.out;rw [if_pos hk1] at hE;have hF1:F[k+1]?=some (tt:Int):=by
          rw [List.getD_eq_getElem?_getD,XR hk1] at *;simp only [Option.getD_some] at *;congr 1;omega
         have c1:wr.cell? ⟨bF,oF+(k+1),none⟩=some (.int .i64 tt):=by rw [rA.cell (p:=⟨bF,oF+(k+1),none⟩) UD];exact UF.out (k+1) _ hF1
         have e1:decide ((k:Int)+1<(F.length:Int))=true:=by simp;omega
         have j1:(k:Int)+1<(F.length:Int):=by omega
         have j2:((k:Int)+1).toNat=k+1:=by omega
         have HE:=hid hE;clear hE hF1 h1;go_wp2_with fail
         go_meet
         exact ⟨rfl,rfl⟩
        ·have hE:=OE.out;rw [if_neg hk1] at hE;have e1:decide ((k:Int)+1<(F.length:Int))=false:=by simp;omega
         have HE:=hid hE;clear hE;go_wp2_with fail
         go_meet
         exact ⟨by rw [HE.out],rfl⟩
       case rest=>
        obtain ⟨rfl,rfl⟩:=hcut;have q1:(fr:Int)<=(tt:Int):=by omega
        have q2:(tt:Int)<=(cap:Int):=by omega
        have q3:fr<cap:=by omega
        have q4:¬ fr=cap:=by omega
        clear c0;go_wp2_with fail
        refine J.out.mono ?_;rintro e w8 ⟨rfl,UJ⟩;have EG:=Jo RF.out UJ;have IW:=aL rA UJ;have RJ:=IW.size;clear J;go_wp2_with (at_builtin;refine wpList_append_own _ rfl _ _ 35 rfl w6.heap.size 9 iS (.string ByteArray.empty) 1 16 Tryz.underlying35 Mf Jv Jw Jy rfl (by decide) _ _ _ rfl (EG.alloc _) ⟨w8.heap.size,0,none⟩ 1 1 [.string LA] rfl rfl ?c1 ?c2 ?c3 ?c4 ?c5 ?_)
        case c1=>exact kD _ _ _
        case c2=>simp [Value.oneCell']
        case c3=>unfold maxLen;omega
        case c4=>omega
        case c5=>simp;omega
        intro v' w9 hown' hgrow _;have OG:=below_app IW RJ EG hgrow;have WY:=hid hown';clear hown' hgrow EG;go_wp2;go_roundw;case rel=>exact ⟨k+1,by omega,by go_num,by rw [WW.out,Io.out];simpa using WY.out,OG⟩
        case measure=>simp [intOf];omega
      ·have UK:k=F.length:=by omega
       have hO:=RF.out;rw [UK] at hO;have HO:=hid hO;clear hO UK RF;go_wp2
       go_ret2
       exact ⟨_,rfl,by rw [Qf.out];exact kE HO.out OC.size,aL OC rA⟩
    ·exact absurd ng.out hno
end Go.Proofs.YtnmldmofggkoeaaGreatDoor

