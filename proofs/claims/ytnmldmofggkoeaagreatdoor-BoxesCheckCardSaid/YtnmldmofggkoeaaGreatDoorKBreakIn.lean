/- The closure of wrap.Break that extends the table by one word. -/
import Derived.Test.YtnmldmofggkoeaaGreatDoorKName
import Derived.Test.YtnmldmofggkoeaaGreatDoorKPlLines
import Derived.Deep.DeepCutAuto
set_option maxHeartbeats 1000000
set_option maxRecDepth 100000
open Go.Lib (hid)
namespace Go.Proofs.YtnmldmofggkoeaaGreatDoor
open Go.RowKit
set_option linter.unusedVariables false
set_option linter.unusedSimpArgs false
def l6 (d:Dv) (i:Nat):Value:=if i=0 then .int .i64 d.c else if i=1 then .int .i64 d.l else .int .i64 d.nx
def bD (T:Nat->Dv) (N:Nat):List Value:=(List.range (N*3)).map fun i=>l6 (T (i/3)) (i%3)
theorem gK (T:Nat->Dv) (N:Nat):(bD T N).length=N*3:=by simp [bD]
theorem bS (T:Nat->Dv) (N j i:Nat) (hj:j<N) (hi:i<3):(bD T N)[j*3+i]?=some (l6 (T j) i):=by
 unfold bD;rw [List.getElem?_map,List.getElem?_range (by omega)];have h1:(j*3+i)/3=j:=by omega
 have h2:(j*3+i)%3=i:=by omega
 simp [h1,h2]
theorem xB (T:Nat->Dv) (N j:Nat) (hj:j<N) (d:Dv) : (((bD T N).set (j*3) (.int .i64 d.c)).set (j*3+1) (.int .i64 d.l)).set (j*3+2) (.int .i64 d.nx)=bD (upd T j d) N:=by
 apply List.ext_getElem?;intro i;by_cases hi:i<N*3
 ·have e:i=i/3*3+i%3:=by omega
  have h3:i%3<3:=by omega
  generalize i/3=a at *;generalize i%3=r at *;subst e;rw [bS _ _ _ _ (by omega) h3];simp only [List.getElem?_set,List.length_set,gK];by_cases ha:a=j
  ·subst ha;have:r=0\/r=1\/r=2:=by omega
   rcases this with rfl | rfl | rfl
   ·simp [upd,l6];omega
   ·simp [upd,l6];omega
   ·simp [upd,l6];omega
  ·have n1:¬ (j*3+2=a*3+r):=by omega
   have n2:¬ (j*3+1=a*3+r):=by omega
   have n3:¬ (j*3=a*3+r):=by omega
   rw [if_neg n1,if_neg n2,if_neg n3,bS _ _ _ _ (by omega) h3];simp [upd,ha]
 ·rw [List.getElem?_eq_none (by simp [gK];omega),List.getElem?_eq_none (by simp [gK];omega)]
theorem upd_same (T:Nat->Dv) (j:Nat):upd T j (T j)=T:=by
 funext i;unfold upd;split<;>simp_all
theorem Fx (T:Nat->Dv) (j:Nat) (d d':Dv):upd (upd T j d) j d'=upd T j d':=by
 funext i;unfold upd;split<;>rfl
theorem Jf {wr:World} {B e g N:Nat} {T:Nat->Dv} (hown:wr.ownsRow B e 3 (.slice (some ⟨g,0,none⟩) N N) N (bD T N)) (o1 o2:Obj) (j:Nat) (hj:j<N) (d:Dv) : ((((wr.setCell ⟨g,j*3,none⟩ (.int .i64 d.c)).setCell ⟨g,j*3+1,none⟩ (.int .i64 d.l)).setCell ⟨g,j*3+2,none⟩ (.int .i64 d.nx)).alloc o1 |>.alloc o2).drew.ownsRow B e 3 (.slice (some ⟨g,0,none⟩) N N) N (bD (upd T j d) N) /\ wr.grownBy ((((wr.setCell ⟨g,j*3,none⟩ (.int .i64 d.c)).setCell ⟨g,j*3+1,none⟩ (.int .i64 d.l)).setCell ⟨g,j*3+2,none⟩ (.int .i64 d.nx)).alloc o1 |>.alloc o2).drew (some g):=by obtain ⟨h1,g1⟩:=hown.stored (j*3) (.int .i64 d.c);obtain ⟨h2,g2⟩:=h1.stored (j*3+1) (.int .i64 d.l);obtain ⟨h3,g3⟩:=h2.stored (j*3+2) (.int .i64 d.nx);rw [xB T N j hj d] at h3;exact ⟨((h3.alloc o1).alloc o2).drew,jI (fu (fu (dK g1 (dK g2 g3)) o1) o2)⟩
structure GY (w:World) (pw pb pn pd ps g:Nat) (vw:Value) (ws:List Int) (sp wd:Int):Prop where
 cw:w.cell? ⟨pw,0,none⟩=some vw
 cb:w.cell? ⟨pb,0,none⟩=some (.slice (some ⟨g,0,none⟩) (ws.length+1) (ws.length+1))
 cn:w.cell? ⟨pn,0,none⟩=some (.int .i64 ws.length)
 cd:w.cell? ⟨pd,0,none⟩=some (.int .i64 wd)
 cs:w.cell? ⟨ps,0,none⟩=some (.int .i64 sp)
 nw:pw≠g
 nb:pb≠g
 nn:pn≠g
 nd:pd≠g
 ns:ps≠g
def Qh (w wr:World) (B g:Nat) (T:Nat->Dv) (fr:Nat) (ws:List Int) (sp wd:Int) (k:Nat) (R:Dv) (vw vt:Value):Prop:=
 ∃ (tt:Nat) (wide:Int) (cur:Dv) (f:Nat),fr<tt/\tt<=ws.length/\tt+f=ws.length+1/\0<=wide/\wide<=1048576/\(tt=fr+1\/xC ws.length (k+1) fr cur) /\
  jD ws sp wd ws.length T fr f tt wide cur=R/\vw=.int .i64 wide/\vt=.int .i64 tt /\
  wr.ownsRow B 163 3 (.slice (some ⟨g,0,none⟩) (ws.length+1) (ws.length+1)) (ws.length+1) (bD (upd T fr cur) (ws.length+1))/\w.grownBy wr (some g)
theorem xq (w:World) (pw pb pn pd ps g bw ow kC:Nat) (ws:List Int) (sp wd:Int) (E:GY w pw pb pn pd ps g (.slice (some ⟨bw,ow,none⟩) ws.length kC) ws sp wd) (T:Nat->Dv) (fr k B:Nat) (hfr:fr+(k+1)=ws.length) (hT:tZ ws.length k T) (hn:ws.length<=4096) (hwd:1<=wd/\wd<=1048576) (hsp:0<=sp/\sp<=1048576) (hws:∀ x∈ws,(0:Int)<=x/\x<=1048576) (hcw:∀ j x,ws[j]?=some x->w.cell? ⟨bw,ow+j,none⟩=some (.int .i64 x)) (hbw:bw≠g) (hown:w.ownsRow B 163 3 (.slice (some ⟨g,0,none⟩) (ws.length+1) (ws.length+1)) (ws.length+1) (bD T (ws.length+1))) : Calls Tryz.prog 126 #[.int .i64 fr,.pointer (some ⟨pw,0,none⟩),.pointer (some ⟨pb,0,none⟩),.pointer (some ⟨pn,0,none⟩),.pointer (some ⟨pd,0,none⟩),.pointer (some ⟨ps,0,none⟩)] w fun e w'=> e=.returned (.tuple #[]) /\ w'.ownsRow B 163 3 (.slice (some ⟨g,0,none⟩) (ws.length+1) (ws.length+1)) (ws.length+1) (bD (upd T fr (jD ws sp wd ws.length T fr (k+1) (fr+1) (ws.getD fr 0) (T fr))) (ws.length+1))/\w.grownBy w' (some g):=by
 obtain ⟨cw,cb,cn,cd,cs,nw,nb,nn,nd,ns⟩:=E;have hwf:ws[fr]?=some (ws.getD fr 0):=by rw [List.getD_eq_getElem?_getD,List.getElem?_eq_getElem (by omega)];rfl
 have c0:=hcw fr _ hwf;have HC:=hid (And.intro cw (And.intro cb (And.intro cn (And.intro cd cs))));have OZ:=hid hfr;have Jc:=hid hcw;have GX:=hid hws;have HOWN:=hid hown;have HT:=hid hT;have hlt:fr<ws.length:=by omega
 have hwb:=hws _ (List.mem_of_getElem? hwf);have hw0:=hwb.1;have hw1:=hwb.2;have U0:=hid hwf;clear hfr hcw hws hown hT hwf hwb;obtain ⟨x0,hx0⟩:∃ x,ws.getD fr 0=x:=⟨_,rfl⟩;rw [hx0] at c0 hw0 hw1 ⊢;clear hx0 U0;obtain ⟨R,hR⟩:∃ R,R=jD ws sp wd ws.length T fr (k+1) (fr+1) x0 (T fr):=⟨_,rfl⟩;rw [<- hR];have HR:=hid hR;clear hR;go_enter Tryz.func126,Tryz.ntmps126;go_wp2
 go_loopw [7,8] (fun vw vt wr=>Qh w wr B g T fr ws sp wd k R vw vt) (fun _ t _=>ws.length+1-(intOf t).toNat)
 case atStart=>exact ⟨fr+1,_,T fr,k+1,by omega,by omega,by have:=OZ.out;omega,hw0,hw1,.inl rfl,HR.out.symm,rfl,by go_num,by rw [upd_same];exact HOWN.out,World.grownBy.refl _ _⟩
 case round=>
  obtain ⟨tt,wide,cur,f,r1,r2,r3,r4,r5,r6,r7,rfl,rfl,hown,hgr⟩:=hrel;have Sc:=HT.out.c0 tt;have Sd:=HT.out.l0 tt;have hk4:k<=4095:=by have:=OZ.out;omega
  have t0:=hown.cellAt (tt*3) (by omega);have t1:=hown.cellAt (tt*3+1) (by omega);have f0:=hown.cellAt (fr*3) (by omega);have f1:=hown.cellAt (fr*3+1) (by omega);have f2:=hown.cellAt (fr*3+2) (by omega);rw [show tt*3=tt*3+0 from rfl,bS _ _ _ _ (by omega) (by omega)] at t0;rw [bS _ _ _ _ (by omega) (by omega)] at t1 f1 f2;rw [show fr*3=fr*3+0 from rfl,bS _ _ _ _ (by omega) (by omega)] at f0;have hne:upd T fr cur tt=T tt:=by unfold upd;rw [if_neg (by omega)]
  have heq:upd T fr cur fr=cur:=by unfold upd;rw [if_pos rfl]
  rw [hne] at t0 t1;rw [heq] at f0 f1 f2;simp only [l6,if_true,Nat.one_ne_zero,if_false,Nat.reduceEqDiff,Nat.add_zero] at t0 t1 f0 f1 f2;have e1:=hgr.cell cw (by simp [nw]);have e2:=hgr.cell cb (by simp [nb]);have e3:=hgr.cell cn (by simp [nn]);have e4:=hgr.cell cd (by simp [nd]);have e5:=hgr.cell cs (by simp [ns]);have H7:=hid r7;have H3:=hid r3;have H6:=hid r6;have HO:=hid hown;have HG:=hid hgr;clear hne heq r7 r3 r6 hown hgr cw cb cn cd cs c0;generalize hTe:T tt=Te at *;have U1:=hid hTe;clear hTe;obtain ⟨Tc,Tl,Tn⟩:=Te;obtain ⟨uc,ul,un⟩:=cur;simp only at t0 t1 f0 f1 f2 Sc Sd;have z1:=fJ e1;have z2:=fJ e2;have z3:=fJ e3;have z4:=fJ e4;have z5:=fJ e5;have z6:=fJ t0;have i1:(tt:Int)<(ws.length:Int)+1:=by omega
  have i2:(fr:Int)<(ws.length:Int)+1:=by omega
  obtain ⟨xc,hxc⟩:∃ xc,xc=Tc+(if tt<ws.length/\wide<=wd then (wd-wide)*(wd-wide) else 0):=⟨_,rfl⟩;have O1:=hid hxc;clear hxc;go_wp2
  go_region
  go_upto_region 4 with (fail)
  obtain ⟨q1,hq1⟩:∃ q:Bool,q=decide (tt<ws.length/\wide<=wd):=⟨_,rfl⟩;have Fy:=hid hq1;clear hq1
  go_cut [39] (fun U2 wx=>U2=.bool q1/\wx=(wr.alloc (.cells #[.int .i64 Tc,.int .i64 (Tl+1),.int .i64 tt] 163)).drew)
  case first=>
   by_cases htn:tt<ws.length
   ·by_cases Fa:wide<=wd
    ·have e:decide (wide<=wd)=true:=by simpa using Fa
     go_wp2_with fail
     go_meet
     exact ⟨by rw [Fy.out];simp [htn,Fa],rfl⟩
    ·have e:decide (wide<=wd)=false:=by simpa using Fa
     go_wp2_with fail
     go_meet
     exact ⟨by rw [Fy.out];simp [htn,Fa],rfl⟩
   ·have e:decide (tt<ws.length)=false:=by simpa using htn
    go_wp2_with fail
    go_meet
    exact ⟨by rw [Fy.out];simp [htn],rfl⟩
  case rest=>
   obtain ⟨rfl,rfl⟩:=hcut
   go_upto_if 39 with (fail)
   go_cut [] (fun wx=>wx=(wr.alloc (.cells #[.int .i64 xc,.int .i64 (Tl+1),.int .i64 tt] 163)).drew)
   case first=>
    cases q1
    ·go_wp2_with fail
     go_meet
     have hxc:=O1.out;have hq:=Fy.out;rw [if_neg (by simpa using hq.symm),Int.add_zero] at hxc;rw [hxc]
    ·have hq:=Fy.out;have hq':tt<ws.length/\wide<=wd:=by simpa using hq.symm
     have Qi:=GZ (x:=wd-wide) (by omega) (by omega);have hq0:=Qi.1;have hq1:=Qi.2;have U3:=hid hq';clear Qi hq hq';go_wp2_with fail
     go_meet
     have hxc:=O1.out;rw [if_pos U3.out] at hxc;rw [hxc]
   case rest=>
    subst hcut;obtain ⟨q2,hq2⟩:∃ q:Bool,q=decide (tt=fr+1\/je ⟨xc,Tl+1,tt⟩ ⟨uc,ul,un⟩=true):=⟨_,rfl⟩;have BP:=hid hq2;clear hq2 Fy;go_upto_region 7 with (fail)
    go_cut [79] (fun U4 wx=>U4=.bool q2/\wx=((wr.alloc (.cells #[.int .i64 xc,.int .i64 (Tl+1),.int .i64 tt] 163)).alloc (.cells #[.int .i64 uc,.int .i64 ul,.int .i64 un] 163)).drew)
    case first=>
     by_cases g1:tt=fr+1
     ·have e:((tt:Int)==(fr:Int)+1)=true:=by simp;omega
      have U5:=hid g1;clear g1;go_wp2_with fail
      go_meet
      exact ⟨by rw [BP.out];simp [U5.out],rfl⟩
     ·have e:((tt:Int)==(fr:Int)+1)=false:=by simp;omega
      by_cases g2:xc<uc
      ·have e2:decide (xc<uc)=true:=by simpa using g2
       go_wp2_with fail
       go_meet
       exact ⟨by rw [BP.out];simp [je,g2],rfl⟩
      ·have e2:decide (xc<uc)=false:=by simpa using g2
       by_cases g3:xc=uc
       ·have e3:(xc==uc)=true:=by simpa using g3
        have Sg:=hid g3;clear g3;by_cases g4:Tl+1<ul
        ·have e4:decide (Tl+1<ul)=true:=by simpa using g4
         go_wp2_with fail
         go_meet
         exact ⟨by rw [BP.out];simp [je,Sg.out,g4],rfl⟩
        ·have e4:decide (Tl+1<ul)=false:=by simpa using g4
         go_wp2_with fail
         go_meet
         exact ⟨by rw [BP.out];simp [je,Sg.out,g4,g1],rfl⟩
       ·have e3:(xc==uc)=false:=by simpa using g3
        go_wp2_with fail
        go_meet
        exact ⟨by rw [BP.out];simp [je,g2,g3,g1],rfl⟩
    case rest=>
     obtain ⟨rfl,rfl⟩:=hcut;have z7:=HO.out.frozenAt (fr*3);have z8:=HO.out.frozenAt (fr*3+1);have z9:=HO.out.frozenAt (fr*3+2);obtain ⟨N,hN⟩:∃ N,N=qh ws.length wd T fr tt wide ⟨uc,ul,un⟩:=⟨_,rfl⟩;have Si:N=if q2=true then ⟨xc,Tl+1,tt⟩ else ⟨uc,ul,un⟩:=by
      have hc:l7 ws.length wd T tt wide=⟨xc,Tl+1,tt⟩:=by unfold l7;rw [U1.out,O1.out]
      rw [hN,qh,hc,BP.out];simp
     have HN:=hid hN;have Qj:=hid Si;clear hN Si BP O1
     go_upto_if 79 with (fail)
     go_cut [] (fun wx=>wx.ownsRow B 163 3 (.slice (some ⟨g,0,none⟩) (ws.length+1) (ws.length+1)) (ws.length+1) (bD (upd T fr N) (ws.length+1))/\w.grownBy wx (some g))
     case first=>
      cases q2
      ·go_wp2_with fail
       go_meet
       have hN:=Qj.out;simp only [Bool.false_eq_true,if_false] at hN;subst hN;exact ⟨((HO.out.alloc _).alloc _).drew,jI (fu (fu HG.out _) _)⟩
      ·go_wp2_with fail
       go_meet
       have hN:=Qj.out;simp only [if_true] at hN;have h3:=Jf HO.out (.cells #[.int .i64 xc,.int .i64 (Tl+1),.int .i64 tt] 163) (.cells #[.int .i64 uc,.int .i64 ul,.int .i64 un] 163) fr (by omega) ⟨xc,Tl+1,tt⟩;rw [Fx] at h3;rw [hN];exact ⟨h3.1,dK HG.out h3.2⟩
     case rest=>
      obtain ⟨hown2,nJ⟩:=hcut;obtain ⟨cw,cb,cn,cd,cs⟩:=HC.out;have k1:=nJ.cell cw (by simp [nw]);have k3:=nJ.cell cn (by simp [nn]);have k4:=nJ.cell cd (by simp [nd]);have k5:=nJ.cell cs (by simp [ns]);have hf1:1<=f:=by have:=H3.out;omega
      obtain ⟨f',rfl⟩:∃ f',f=f'+1:=⟨f-1,by omega⟩;have Qk:xC ws.length (k+1) fr N:=by rw [HN.out];exact G5 HT.out hwd.2 r1 r2 r4 H6.out
      clear cw cb cn cd cs t0 t1 f0 f1 f2 e1 e2 e3 e4 e5 z1 z2 z3 z4 z5 z6 z7 z8 z9 HO HG Qj Sc Sd;by_cases htn:tt=ws.length
      ·have Ql:R=N:=by rw [<- H7.out,Aj _ _ _ _ _ _ _ _ _ _ htn,HN.out]
       subst Ql;have e:((tt:Int)==(ws.length:Int))=true:=by simp [htn]
       have U6:=hid htn;clear htn H7 H3;go_wp2;exact bodyPost_ret (results_none (by kernel_rfl) _ _ _) rfl ⟨rfl,hown2,nJ⟩
      ·have e:((tt:Int)==(ws.length:Int))=false:=by simp;omega
       have hlt2:tt<ws.length:=by omega
       have hwt:ws[tt]?=some (ws.getD tt 0):=by rw [List.getD_eq_getElem?_getD,List.getElem?_eq_getElem (by omega)];rfl
       have k6:=nJ.cell (Jc.out tt _ hwt) (by simp [hbw]);have hyb:=GX.out _ (List.mem_of_getElem? hwt);have hlast:=hid (fun h=>(Ak ws sp wd ws.length T fr f' tt wide ⟨uc,ul,un⟩ h).symm.trans H7.out);have hon:=hid (fun h=>(Fz ws sp wd ws.length T fr f' tt wide ⟨uc,ul,un⟩ htn h).symm.trans H7.out);clear hwt H7;generalize ws.getD tt 0=y at *;obtain ⟨hy0,hy1⟩:=hyb;obtain ⟨hs0,hs1⟩:=hsp;obtain ⟨hd0,hd1⟩:=hwd;have i3:(tt:Int)<(ws.length:Int):=by omega
       have s1:IntKind.i64.wrap (sp+y)=sp+y:=IntWalk.i64_in _ (by omega);have s2:IntKind.i64.wrap (wide+(sp+y))=wide+(sp+y):=IntWalk.i64_in _ (by omega);have U6:=hid htn;clear htn;go_wp2_with fail
       go_quiet (fail)
       clear s1 s2;by_cases Fa:wd<wide+(sp+y)
       ·have Ql:R=N:=by rw [<- hlast.out Fa,HN.out]
        subst Ql;clear hlast hon;go_wp2;exact bodyPost_ret (results_none (by kernel_rfl) _ _ _) rfl ⟨rfl,hown2,l8 nJ _⟩
       ·have hR2:=hid (hon.out (by omega));rw [<- HN.out] at hR2;clear hlast hon;go_wp2;go_roundw;case rel=>exact ⟨tt+1,wide+(sp+y),N,f',by omega,by omega,by have:=H3.out;omega,by omega,by omega,.inr Qk,hR2.out,rfl,by go_num,hown2,l8 nJ _⟩
        case measure=>simp [intOf];omega
end Go.Proofs.YtnmldmofggkoeaaGreatDoor

