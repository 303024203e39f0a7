/- The closure of wrap.Break that extends the table by one word. -/
import Derived.Test.YtnmldmofggkoeaaGreatDoorKName
set_option maxHeartbeats 1000000
set_option maxRecDepth 100000
open Go.Lib (hid)
namespace Go.Proofs.YtnmldmofggkoeaaGreatDoor
open Go.RowKit
set_option linter.unusedVariables false
set_option linter.unusedSimpArgs false
def mh (d:Dv) (i:Nat):Value:=if i=0 then .int .i64 d.c else if i=1 then .int .i64 d.l else .int .i64 d.nx
def bG (T:Nat->Dv) (N:Nat):List Value:=(List.range (N*3)).map fun i=>mh (T (i/3)) (i%3)
theorem gN (T:Nat->Dv) (N:Nat):(bG T N).length=N*3:=by simp [bG]
theorem bS (T:Nat->Dv) (N j i:Nat) (hj:j<N) (hi:i<3):(bG T N)[j*3+i]?=some (mh (T j) i):=by
 unfold bG;rw [List.getElem?_map,List.getElem?_range (by omega)];have h1:(j*3+i)/3=j:=by omega
 have h2:(j*3+i)%3=i:=by omega
 simp [h1,h2]
theorem xJ (T:Nat->Dv) (N j:Nat) (hj:j<N) (d:Dv) : (((bG T N).set (j*3) (.int .i64 d.c)).set (j*3+1) (.int .i64 d.l)).set (j*3+2) (.int .i64 d.nx)=bG (upd T j d) N:=by
 apply List.ext_getElem?;intro i;by_cases hi:i<N*3
 ·have e:i=i/3*3+i%3:=by omega
  have h3:i%3<3:=by omega
  generalize i/3=a at *;generalize i%3=r at *;subst e;rw [bS _ _ _ _ (by omega) h3];simp only [List.getElem?_set,List.length_set,gN];by_cases ha:a=j
  ·subst ha;have:r=0\/r=1\/r=2:=by omega
   rcases this with rfl | rfl | rfl
   ·simp [upd,mh];omega
   ·simp [upd,mh];omega
   ·simp [upd,mh];omega
  ·have n1:¬ (j*3+2=a*3+r):=by omega
   have n2:¬ (j*3+1=a*3+r):=by omega
   have n3:¬ (j*3=a*3+r):=by omega
   rw [if_neg n1,if_neg n2,if_neg n3,bS _ _ _ _ (by omega) h3];simp [upd,ha]
 ·rw [List.getElem?_eq_none (by simp [gN];omega),List.getElem?_eq_none (by simp [gN];omega)]
theorem upd_same (T:Nat->Dv) (j:Nat):upd T j (T j)=T:=by
 funext i;unfold upd;split<;>simp_all
theorem FL (T:Nat->Dv) (j:Nat) (d d':Dv):upd (upd T j d) j d'=upd T j d':=by
 funext i;unfold upd;split<;>rfl
theorem Jy {wr:World} {B e g N:Nat} {T:Nat->Dv} (hown:wr.ownsRow B e 3 (.slice (some ⟨g,0,none⟩) N N) N (bG T N)) (o1 o2:Obj) (j:Nat) (hj:j<N) (d:Dv) : ((((wr.setCell ⟨g,j*3,none⟩ (.int .i64 d.c)).setCell ⟨g,j*3+1,none⟩ (.int .i64 d.l)).setCell ⟨g,j*3+2,none⟩ (.int .i64 d.nx)).alloc o1 |>.alloc o2).drew.ownsRow B e 3 (.slice (some ⟨g,0,none⟩) N N) N (bG (upd T j d) N) /\ wr.grownBy ((((wr.setCell ⟨g,j*3,none⟩ (.int .i64 d.c)).setCell ⟨g,j*3+1,none⟩ (.int .i64 d.l)).setCell ⟨g,j*3+2,none⟩ (.int .i64 d.nx)).alloc o1 |>.alloc o2).drew (some g):=by obtain ⟨h1,g1⟩:=hown.stored (j*3) (.int .i64 d.c);obtain ⟨h2,g2⟩:=h1.stored (j*3+1) (.int .i64 d.l);obtain ⟨h3,g3⟩:=h2.stored (j*3+2) (.int .i64 d.nx);rw [xJ T N j hj d] at h3;exact ⟨((h3.alloc o1).alloc o2).drew,jW (eZ (eZ (dG g1 (dG g2 g3)) o1) o2)⟩
structure H9 (w:World) (pw pb pn pd ps g:Nat) (vw:Value) (ws:List Int) (sp wd:Int):Prop where
 cw:w.cell? ⟨pw,0,none⟩=some vw
 cb:w.cell? ⟨pb,0,none⟩=some (.slice (some ⟨g,0,none⟩) (ws.length+1) (ws.length+1))
 cn:w.cell? ⟨pn,0,none⟩=some (.int .i64 ws.length)
 cd:w.cell? ⟨pd,0,none⟩=some (.int .i64 wd)
 cs:w.cell? ⟨ps,0,none⟩=some (.int .i64 sp)
 nw:pw≠g
 nb:pb≠g
 nn:pn≠g
 nd:pd≠g
 ns:ps≠g
def QI (w wr:World) (B g:Nat) (T:Nat->Dv) (fr:Nat) (ws:List Int) (sp wd:Int) (k:Nat) (R:Dv) (vw vt:Value):Prop:=
 ∃ (tt:Nat) (wide:Int) (cur:Dv) (f:Nat),fr<tt/\tt<=ws.length/\tt+f=ws.length+1/\0<=wide/\wide<=1048576/\(tt=fr+1\/xK ws.length (k+1) fr cur) /\
  jQ ws sp wd ws.length T fr f tt wide cur=R/\vw=.int .i64 wide/\vt=.int .i64 tt /\
  wr.ownsRow B 163 3 (.slice (some ⟨g,0,none⟩) (ws.length+1) (ws.length+1)) (ws.length+1) (bG (upd T fr cur) (ws.length+1))/\w.grownBy wr (some g)
theorem xE (w:World) (pw pb pn pd ps g bw ow kM:Nat) (ws:List Int) (sp wd:Int) (E:H9 w pw pb pn pd ps g (.slice (some ⟨bw,ow,none⟩) ws.length kM) ws sp wd) (T:Nat->Dv) (fr k B:Nat) (hfr:fr+(k+1)=ws.length) (hT:uE ws.length k T) (hn:ws.length<=4096) (hwd:1<=wd/\wd<=1048576) (hsp:0<=sp/\sp<=1048576) (hws:∀ x∈ws,(0:Int)<=x/\x<=1048576) (hcw:∀ j x,ws[j]?=some x->w.cell? ⟨bw,ow+j,none⟩=some (.int .i64 x)) (hbw:bw≠g) (hown:w.ownsRow B 163 3 (.slice (some ⟨g,0,none⟩) (ws.length+1) (ws.length+1)) (ws.length+1) (bG T (ws.length+1))) : Calls Tryz.prog 126 #[.int .i64 fr,.pointer (some ⟨pw,0,none⟩),.pointer (some ⟨pb,0,none⟩),.pointer (some ⟨pn,0,none⟩),.pointer (some ⟨pd,0,none⟩),.pointer (some ⟨ps,0,none⟩)] w fun e w'=> e=.returned (.tuple #[]) /\ w'.ownsRow B 163 3 (.slice (some ⟨g,0,none⟩) (ws.length+1) (ws.length+1)) (ws.length+1) (bG (upd T fr (jQ ws sp wd ws.length T fr (k+1) (fr+1) (ws.getD fr 0) (T fr))) (ws.length+1))/\w.grownBy w' (some g):=by
 obtain ⟨cw,cb,cn,cd,cs,nw,nb,nn,nd,ns⟩:=E;have hwf:ws[fr]?=some (ws.getD fr 0):=by rw [List.getD_eq_getElem?_getD,List.getElem?_eq_getElem (by omega)];rfl
 have c0:=hcw fr _ hwf;have HC:=hid (And.intro cw (And.intro cb (And.intro cn (And.intro cd cs))));have PE:=hid hfr;have Ju:=hid hcw;have H8:=hid hws;have HOWN:=hid hown;have HT:=hid hT;have hlt:fr<ws.length:=by omega
 have hwb:=hws _ (List.mem_of_getElem? hwf);have hw0:=hwb.1;have hw1:=hwb.2;have VD:=hid hwf;clear hfr hcw hws hown hT hwf hwb;obtain ⟨x0,hx0⟩:∃ x,ws.getD fr 0=x:=⟨_,rfl⟩;rw [hx0] at c0 hw0 hw1 ⊢;clear hx0 VD;obtain ⟨R,hR⟩:∃ R,R=jQ ws sp wd ws.length T fr (k+1) (fr+1) x0 (T fr):=⟨_,rfl⟩;rw [<- hR];have HR:=hid hR;clear hR;go_enter Tryz.func126,Tryz.ntmps126;go_wp2
 go_loopw [7,8] (fun vw vt wr=>QI w wr B g T fr ws sp wd k R vw vt) (fun _ t _=>ws.length+1-(intOf t).toNat)
 case atStart=>exact ⟨fr+1,_,T fr,k+1,by omega,by omega,by have:=PE.out;omega,hw0,hw1,.inl rfl,HR.out.symm,rfl,by go_num,by rw [upd_same];exact HOWN.out,World.grownBy.refl _ _⟩
 case round=>
  obtain ⟨tt,wide,cur,f,r1,r2,r3,r4,r5,r6,r7,rfl,rfl,hown,hgr⟩:=hrel;have Tj:=HT.out.c0 tt;have Tk:=HT.out.l0 tt;have hk4:k<=4095:=by have:=PE.out;omega
  have t0:=hown.cellAt (tt*3) (by omega);have t1:=hown.cellAt (tt*3+1) (by omega);have f0:=hown.cellAt (fr*3) (by omega);have f1:=hown.cellAt (fr*3+1) (by omega);have f2:=hown.cellAt (fr*3+2) (by omega);rw [show tt*3=tt*3+0 from rfl,bS _ _ _ _ (by omega) (by omega)] at t0;rw [bS _ _ _ _ (by omega) (by omega)] at t1 f1 f2;rw [show fr*3=fr*3+0 from rfl,bS _ _ _ _ (by omega) (by omega)] at f0;have hne:upd T fr cur tt=T tt:=by unfold upd;rw [if_neg (by omega)]
  have heq:upd T fr cur fr=cur:=by unfold upd;rw [if_pos rfl]
  rw [hne] at t0 t1;rw [heq] at f0 f1 f2;simp only [mh,if_true,Nat.one_ne_zero,if_false,Nat.reduceEqDiff,Nat.add_zero] at t0 t1 f0 f1 f2;have e1:=hgr.cell cw (by simp [nw]);have e2:=hgr.cell cb (by simp [nb]);have e3:=hgr.cell cn (by simp [nn]);have e4:=hgr.cell cd (by simp [nd]);have e5:=hgr.cell cs (by simp [ns]);have H7:=hid r7;have H3:=hid r3;have H6:=hid r6;have HO:=hid hown;have HG:=hid hgr;clear hne heq r7 r3 r6 hown hgr cw cb cn cd cs c0;generalize hTe:T tt=Te at *;have VE:=hid hTe;clear hTe;obtain ⟨Tc,Tl,Tn⟩:=Te;obtain ⟨uc,ul,un⟩:=cur;simp only at t0 t1 f0 f1 f2 Tj Tk;have z1:=fM e1;have z2:=fM e2;have z3:=fM e3;have z4:=fM e4;have z5:=fM e5;have z6:=fM t0;have i1:(tt:Int)<(ws.length:Int)+1:=by omega
  have i2:(fr:Int)<(ws.length:Int)+1:=by omega
  obtain ⟨xc,hxc⟩:∃ xc,xc=Tc+(if tt<ws.length/\wide<=wd then (wd-wide)*(wd-wide) else 0):=⟨_,rfl⟩;have PG:=hid hxc;clear hxc;go_wp2
  go_region
  go_upto_region 4 with (fail)
  obtain ⟨q1,hq1⟩:∃ q:Bool,q=decide (tt<ws.length/\wide<=wd):=⟨_,rfl⟩;have FM:=hid hq1;clear hq1
  go_cut [39] (fun VF wx=>VF=.bool q1/\wx=(wr.alloc (.cells #[.int .i64 Tc,.int .i64 (Tl+1),.int .i64 tt] 163)).drew)
  case first=>
   by_cases htn:tt<ws.length
   ·by_cases Fq:wide<=wd
    ·have e:decide (wide<=wd)=true:=by simpa using Fq
     go_wp2_with fail
     go_meet
     exact ⟨by rw [FM.out];simp [htn,Fq],rfl⟩
    ·have e:decide (wide<=wd)=false:=by simpa using Fq
     go_wp2_with fail
     go_meet
     exact ⟨by rw [FM.out];simp [htn,Fq],rfl⟩
   ·have e:decide (tt<ws.length)=false:=by simpa using htn
    go_wp2_with fail
    go_meet
    exact ⟨by rw [FM.out];simp [htn],rfl⟩
  case rest=>
   obtain ⟨rfl,rfl⟩:=hcut
   go_upto_if 39 with (fail)
   go_cut [] (fun wx=>wx=(wr.alloc (.cells #[.int .i64 xc,.int .i64 (Tl+1),.int .i64 tt] 163)).drew)
   case first=>
    cases q1
    ·go_wp2_with fail
     go_meet
     have hxc:=PG.out;have hq:=FM.out;rw [if_neg (by simpa using hq.symm),Int.add_zero] at hxc;rw [hxc]
    ·have hq:=FM.out;have hq':tt<ws.length/\wide<=wd:=by simpa using hq.symm
     have QJ:=Ia (x:=wd-wide) (by omega) (by omega);have hq0:=QJ.1;have hq1:=QJ.2;have VG:=hid hq';clear QJ hq hq';go_wp2_with fail
     go_meet
     have hxc:=PG.out;rw [if_pos VG.out] at hxc;rw [hxc]
   case rest=>
    subst hcut;obtain ⟨q2,hq2⟩:∃ q:Bool,q=decide (tt=fr+1\/jA ⟨xc,Tl+1,tt⟩ ⟨uc,ul,un⟩=true):=⟨_,rfl⟩;have BX:=hid hq2;clear hq2 FM;go_upto_region 7 with (fail)
    go_cut [79] (fun VH wx=>VH=.bool q2/\wx=((wr.alloc (.cells #[.int .i64 xc,.int .i64 (Tl+1),.int .i64 tt] 163)).alloc (.cells #[.int .i64 uc,.int .i64 ul,.int .i64 un] 163)).drew)
    case first=>
     by_cases g1:tt=fr+1
     ·have e:((tt:Int)==(fr:Int)+1)=true:=by simp;omega
      have VI:=hid g1;clear g1;go_wp2_with fail
      go_meet
      exact ⟨by rw [BX.out];simp [VI.out],rfl⟩
     ·have e:((tt:Int)==(fr:Int)+1)=false:=by simp;omega
      by_cases g2:xc<uc
      ·have e2:decide (xc<uc)=true:=by simpa using g2
       go_wp2_with fail
       go_meet
       exact ⟨by rw [BX.out];simp [jA,g2],rfl⟩
      ·have e2:decide (xc<uc)=false:=by simpa using g2
       by_cases g3:xc=uc
       ·have e3:(xc==uc)=true:=by simpa using g3
        have Tm:=hid g3;clear g3;by_cases g4:Tl+1<ul
        ·have e4:decide (Tl+1<ul)=true:=by simpa using g4
         go_wp2_with fail
         go_meet
         exact ⟨by rw [BX.out];simp [jA,Tm.out,g4],rfl⟩
        ·have e4:decide (Tl+1<ul)=false:=by simpa using g4
         go_wp2_with fail
         go_meet
         exact ⟨by rw [BX.out];simp [jA,Tm.out,g4,g1],rfl⟩
       ·have e3:(xc==uc)=false:=by simpa using g3
        go_wp2_with fail
        go_meet
        exact ⟨by rw [BX.out];simp [jA,g2,g3,g1],rfl⟩
    case rest=>
     obtain ⟨rfl,rfl⟩:=hcut;have z7:=HO.out.frozenAt (fr*3);have z8:=HO.out.frozenAt (fr*3+1);have z9:=HO.out.frozenAt (fr*3+2);obtain ⟨N,hN⟩:∃ N,N=qx ws.length wd T fr tt wide ⟨uc,ul,un⟩:=⟨_,rfl⟩;have Tp:N=if q2=true then ⟨xc,Tl+1,tt⟩ else ⟨uc,ul,un⟩:=by
      have hc:mo ws.length wd T tt wide=⟨xc,Tl+1,tt⟩:=by unfold mo;rw [VE.out,PG.out]
      rw [hN,qx,hc,BX.out];simp
     have HN:=hid hN;have QK:=hid Tp;clear hN Tp BX PG
     go_upto_if 79 with (fail)
     go_cut [] (fun wx=>wx.ownsRow B 163 3 (.slice (some ⟨g,0,none⟩) (ws.length+1) (ws.length+1)) (ws.length+1) (bG (upd T fr N) (ws.length+1))/\w.grownBy wx (some g))
     case first=>
      cases q2
      ·go_wp2_with fail
       go_meet
       have hN:=QK.out;simp only [Bool.false_eq_true,if_false] at hN;subst hN;exact ⟨((HO.out.alloc _).alloc _).drew,jW (eZ (eZ HG.out _) _)⟩
      ·go_wp2_with fail
       go_meet
       have hN:=QK.out;simp only [if_true] at hN;have h3:=Jy HO.out (.cells #[.int .i64 xc,.int .i64 (Tl+1),.int .i64 tt] 163) (.cells #[.int .i64 uc,.int .i64 ul,.int .i64 un] 163) fr (by omega) ⟨xc,Tl+1,tt⟩;rw [FL] at h3;rw [hN];exact ⟨h3.1,dG HG.out h3.2⟩
     case rest=>
      obtain ⟨hown2,nN⟩:=hcut;obtain ⟨cw,cb,cn,cd,cs⟩:=HC.out;have k1:=nN.cell cw (by simp [nw]);have k3:=nN.cell cn (by simp [nn]);have k4:=nN.cell cd (by simp [nd]);have k5:=nN.cell cs (by simp [ns]);have hf1:1<=f:=by have:=H3.out;omega
      obtain ⟨f',rfl⟩:∃ f',f=f'+1:=⟨f-1,by omega⟩;have QL:xK ws.length (k+1) fr N:=by rw [HN.out];exact Ib HT.out hwd.2 r1 r2 r4 H6.out
      clear cw cb cn cd cs t0 t1 f0 f1 f2 e1 e2 e3 e4 e5 z1 z2 z3 z4 z5 z6 z7 z8 z9 HO HG QK Tj Tk;by_cases htn:tt=ws.length
      ·have QM:R=N:=by rw [<- H7.out,Au _ _ _ _ _ _ _ _ _ _ htn,HN.out]
       subst QM;have e:((tt:Int)==(ws.length:Int))=true:=by simp [htn]
       have VJ:=hid htn;clear htn H7 H3;go_wp2;exact bodyPost_ret (results_none (by kernel_rfl) _ _ _) rfl ⟨rfl,hown2,nN⟩
      ·have e:((tt:Int)==(ws.length:Int))=false:=by simp;omega
       have hlt2:tt<ws.length:=by omega
       have hwt:ws[tt]?=some (ws.getD tt 0):=by rw [List.getD_eq_getElem?_getD,List.getElem?_eq_getElem (by omega)];rfl
       have k6:=nN.cell (Ju.out tt _ hwt) (by simp [hbw]);have hyb:=H8.out _ (List.mem_of_getElem? hwt);have hlast:=hid (fun h=>(Av ws sp wd ws.length T fr f' tt wide ⟨uc,ul,un⟩ h).symm.trans H7.out);have hon:=hid (fun h=>(FN ws sp wd ws.length T fr f' tt wide ⟨uc,ul,un⟩ htn h).symm.trans H7.out);clear hwt H7;generalize ws.getD tt 0=y at *;obtain ⟨hy0,hy1⟩:=hyb;obtain ⟨hs0,hs1⟩:=hsp;obtain ⟨hd0,hd1⟩:=hwd;have i3:(tt:Int)<(ws.length:Int):=by omega
       have s1:IntKind.i64.wrap (sp+y)=sp+y:=IntWalk.i64_in _ (by omega);have s2:IntKind.i64.wrap (wide+(sp+y))=wide+(sp+y):=IntWalk.i64_in _ (by omega);have VJ:=hid htn;clear htn;go_wp2_with fail
       go_quiet (fail)
       clear s1 s2;by_cases Fq:wd<wide+(sp+y)
       ·have QM:R=N:=by rw [<- hlast.out Fq,HN.out]
        subst QM;clear hlast hon;go_wp2;exact bodyPost_ret (results_none (by kernel_rfl) _ _ _) rfl ⟨rfl,hown2,mq nN _⟩
       ·have hR2:=hid (hon.out (by omega));rw [<- HN.out] at hR2;clear hlast hon;go_wp2;go_roundw;case rel=>exact ⟨tt+1,wide+(sp+y),N,f',by omega,by omega,by have:=H3.out;omega,by omega,by omega,.inr QL,hR2.out,rfl,by go_num,hown2,mq nN _⟩
        case measure=>simp [intOf];omega
end Go.Proofs.YtnmldmofggkoeaaGreatDoor

