/- The closure of wrap.Break that extends the table by one word. The contract of wrap.Break at arguments in range: the first words of the lines of the best division, and its cost. The contract of publisherref38.best: the table that it fills is the plain one. The contracts of wrap.Break outside its range, and without words. The contracts of publisherref38.Break: the same answers as those of wrap.Break. Both Breaks at whatever arguments of at most 4096 words. -/
import Derived.Test.YtdneicipdlofiaaGreatDoorKName
import Derived.OneCell
set_option maxHeartbeats 1000000
set_option maxRecDepth 100000
open Go.Lib (hid)
namespace Go.Proofs.YtdneicipdlofiaaGreatDoor
open List renaming getElem?_eq_getElem->joq,mem_of_getElem?->jpk,getElem?_eq_none->jr7
open Go.RowKit
set_option linter.unusedVariables false
set_option linter.unusedSimpArgs false
def tC (d:Dv) (i:Nat):Value:=if i=0 then .int .i64 d.c else if i=1 then .int .i64 d.l else .int .i64 d.nx
def dL (T:Nat->Dv) (N:Nat):List Value:=(List.range (N*3)).map fun i=>tC (T (i/3)) (i%3)
theorem lq (T:Nat->Dv) (N:Nat):(dL T N).length=N*3:=by simp [dL]
theorem eF (T:Nat->Dv) (N j i:Nat) (hj:j<N) (hi:i<3):(dL T N)[j*3+i]?=some (tC (T j) i):=by
 unfold dL;rw [List.getElem?_map,List.getElem?_range (by omega)];have h1:(j*3+i)/3=j:=by omega
 have h2:(j*3+i)%3=i:=by omega
 simp [h1,h2]
theorem GD (T:Nat->Dv) (N j:Nat) (hj:j<N) (d:Dv) : (((dL T N).set (j*3) (.int .i64 d.c)).set (j*3+1) (.int .i64 d.l)).set (j*3+2) (.int .i64 d.nx)=dL (upd T j d) N:=by
 apply List.ext_getElem?;intro i;by_cases hi:i<N*3
 ·have e:i=i/3*3+i%3:=by omega
  have h3:i%3<3:=by omega
  generalize i/3=a at *;generalize i%3=r at *;subst e;rw [eF _ _ _ _ (by omega) h3];simp only [List.getElem?_set,List.length_set,lq];by_cases ha:a=j
  ·subst ha;have:r=0\/r=1\/r=2:=by omega
   rcases this with rfl | rfl | rfl
   ·simp [upd,tC];omega
   ·simp [upd,tC];omega
   ·simp [upd,tC];omega
  ·have n1:¬ (j*3+2=a*3+r):=by omega
   have n2:¬ (j*3+1=a*3+r):=by omega
   have n3:¬ (j*3=a*3+r):=by omega
   rw [if_neg n1,if_neg n2,if_neg n3,eF _ _ _ _ (by omega) h3];simp [upd,ha]
 ·rw [jr7 (by simp [lq];omega),jr7 (by simp [lq];omega)]
theorem upd_same (T:Nat->Dv) (j:Nat):upd T j (T j)=T:=by
 funext i;unfold upd;split<;>simp_all
theorem Rk (T:Nat->Dv) (j:Nat) (d d':Dv):upd (upd T j d) j d'=upd T j d':=by
 funext i;unfold upd;split<;>rfl
theorem V6 {wr:World} {B e g N:Nat} {T:Nat->Dv} (hown:wr.ownsRow B e 3 (.slice (some ⟨g,0,none⟩) N N) N (dL T N)) (o1 o2:Obj) (j:Nat) (hj:j<N) (d:Dv) : ((((wr.setCell ⟨g,j*3,none⟩ (.int .i64 d.c)).setCell ⟨g,j*3+1,none⟩ (.int .i64 d.l)).setCell ⟨g,j*3+2,none⟩ (.int .i64 d.nx)).alloc o1 |>.alloc o2).drew.ownsRow B e 3 (.slice (some ⟨g,0,none⟩) N N) N (dL (upd T j d) N) /\ wr.grownBy ((((wr.setCell ⟨g,j*3,none⟩ (.int .i64 d.c)).setCell ⟨g,j*3+1,none⟩ (.int .i64 d.l)).setCell ⟨g,j*3+2,none⟩ (.int .i64 d.nx)).alloc o1 |>.alloc o2).drew (some g):=by obtain ⟨h1,g1⟩:=hown.stored (j*3) (.int .i64 d.c);obtain ⟨h2,g2⟩:=h1.stored (j*3+1) (.int .i64 d.l);obtain ⟨h3,g3⟩:=h2.stored (j*3+2) (.int .i64 d.nx);rw [GD T N j hj d] at h3;exact ⟨((h3.alloc o1).alloc o2).drew,oJ (jJ (jJ (gP g1 (gP g2 g3)) o1) o2)⟩
structure Ut (w:World) (pw pb pn pd ps g:Nat) (vw:Value) (ws:List Int) (sp wd:Int):Prop where
 cw:w.cell? ⟨pw,0,none⟩=some vw
 cb:w.cell? ⟨pb,0,none⟩=some (.slice (some ⟨g,0,none⟩) (ws.length+1) (ws.length+1))
 cn:w.cell? ⟨pn,0,none⟩=some (.int .i64 ws.length)
 cd:w.cell? ⟨pd,0,none⟩=some (.int .i64 wd)
 cs:w.cell? ⟨ps,0,none⟩=some (.int .i64 sp)
 nw:pw≠g
 nb:pb≠g
 nn:pn≠g
 nd:pd≠g
 ns:ps≠g
def jg3 (w wr:World) (B g:Nat) (T:Nat->Dv) (fr:Nat) (ws:List Int) (sp wd:Int) (k:Nat) (R:Dv) (vw vt:Value):Prop:=
 ∃ (tt:Nat) (wide:Int) (cur:Dv) (f:Nat),fr<tt/\tt<=ws.length/\tt+f=ws.length+1/\0<=wide/\wide<=1048576/\(tt=fr+1\/GH ws.length (k+1) fr cur) /\
  nZ ws sp wd ws.length T fr f tt wide cur=R/\vw=.int .i64 wide/\vt=.int .i64 tt /\
  wr.ownsRow B 247 3 (.slice (some ⟨g,0,none⟩) (ws.length+1) (ws.length+1)) (ws.length+1) (dL (upd T fr cur) (ws.length+1))/\w.grownBy wr (some g)
theorem GI (w:World) (pw pb pn pd ps g bw ow qw:Nat) (ws:List Int) (sp wd:Int) (E:Ut w pw pb pn pd ps g (.slice (some ⟨bw,ow,none⟩) ws.length qw) ws sp wd) (T:Nat->Dv) (fr k B:Nat) (hfr:fr+(k+1)=ws.length) (hT:DX ws.length k T) (hn:ws.length<=4096) (hwd:1<=wd/\wd<=1048576) (hsp:0<=sp/\sp<=1048576) (hws:∀ x∈ws,(0:Int)<=x/\x<=1048576) (hcw:∀ j x,ws[j]?=some x->w.cell? ⟨bw,ow+j,none⟩=some (.int .i64 x)) (hbw:bw≠g) (hown:w.ownsRow B 247 3 (.slice (some ⟨g,0,none⟩) (ws.length+1) (ws.length+1)) (ws.length+1) (dL T (ws.length+1))) : Calls Tryz.prog 257 #[.int .i64 fr,.pointer (some ⟨pw,0,none⟩),.pointer (some ⟨pb,0,none⟩),.pointer (some ⟨pn,0,none⟩),.pointer (some ⟨pd,0,none⟩),.pointer (some ⟨ps,0,none⟩)] w fun e w'=> e=.returned (.tuple #[]) /\ w'.ownsRow B 247 3 (.slice (some ⟨g,0,none⟩) (ws.length+1) (ws.length+1)) (ws.length+1) (dL (upd T fr (nZ ws sp wd ws.length T fr (k+1) (fr+1) (ws.getD fr 0) (T fr))) (ws.length+1))/\w.grownBy w' (some g):=by
 obtain ⟨cw,cb,cn,cd,cs,nw,nb,nn,nd,ns⟩:=E;have hwf:ws[fr]?=some (ws.getD fr 0):=by rw [List.getD_eq_getElem?_getD,joq (by omega)];rfl
 have c0:=hcw fr _ hwf;have HC:=hid (And.intro cw (And.intro cb (And.intro cn (And.intro cd cs))));have V7:=hid hfr;have V8:=hid hcw;have QS:=hid hws;have HOWN:=hid hown;have HT:=hid hT;have hlt:fr<ws.length:=by omega
 have hwb:=hws _ (jpk hwf);have hw0:=hwb.1;have hw1:=hwb.2;have Jm:=hid hwf;clear hfr hcw hws hown hT hwf hwb;obtain ⟨x0,hx0⟩:∃ x,ws.getD fr 0=x:=⟨_,rfl⟩;rw [hx0] at c0 hw0 hw1 ⊢;clear hx0 Jm;obtain ⟨R,hR⟩:∃ R,R=nZ ws sp wd ws.length T fr (k+1) (fr+1) x0 (T fr):=⟨_,rfl⟩;rw [<- hR];have HR:=hid hR;clear hR;go_enter Tryz.func257,Tryz.ntmps257;go_wp2
 go_loopw [7,8] (fun vw vt wr=>jg3 w wr B g T fr ws sp wd k R vw vt) (fun _ t _=>ws.length+1-(intOf t).toNat)
 case atStart=>exact ⟨fr+1,_,T fr,k+1,by omega,by omega,by have:=V7.out;omega,hw0,hw1,.inl rfl,HR.out.symm,rfl,by go_num,by rw [upd_same];exact HOWN.out,World.grownBy.refl _ _⟩
 case round=>
  obtain ⟨tt,wide,cur,f,r1,r2,r3,r4,r5,r6,r7,rfl,rfl,hown,hgr⟩:=hrel;have hTt:=HT.out.c0 tt;have Zd:=HT.out.l0 tt;have hk4:k<=4095:=by have:=V7.out;omega
  have t0:=hown.cellAt (tt*3) (by omega);have t1:=hown.cellAt (tt*3+1) (by omega);have f0:=hown.cellAt (fr*3) (by omega);have f1:=hown.cellAt (fr*3+1) (by omega);have f2:=hown.cellAt (fr*3+2) (by omega);rw [show tt*3=tt*3+0 from rfl,eF _ _ _ _ (by omega) (by omega)] at t0;rw [eF _ _ _ _ (by omega) (by omega)] at t1 f1 f2;rw [show fr*3=fr*3+0 from rfl,eF _ _ _ _ (by omega) (by omega)] at f0;have hne:upd T fr cur tt=T tt:=by unfold upd;rw [if_neg (by omega)]
  have heq:upd T fr cur fr=cur:=by unfold upd;rw [if_pos rfl]
  rw [hne] at t0 t1;rw [heq] at f0 f1 f2;simp only [tC,if_true,Nat.one_ne_zero,if_false,Nat.reduceEqDiff,Nat.add_zero] at t0 t1 f0 f1 f2;have e1:=hgr.cell cw (by simp [nw]);have e2:=hgr.cell cb (by simp [nb]);have e3:=hgr.cell cn (by simp [nn]);have e4:=hgr.cell cd (by simp [nd]);have e5:=hgr.cell cs (by simp [ns]);have H7:=hid r7;have H3:=hid r3;have H6:=hid r6;have HO:=hid hown;have HG:=hid hgr;clear hne heq r7 r3 r6 hown hgr cw cb cn cd cs c0;generalize hTe:T tt=Te at *;have HTe:=hid hTe;clear hTe;obtain ⟨Tc,Tl,Tn⟩:=Te;obtain ⟨uc,ul,un⟩:=cur;simp only at t0 t1 f0 f1 f2 hTt Zd;have z1:=jY e1;have z2:=jY e2;have z3:=jY e3;have z4:=jY e4;have z5:=jY e5;have z6:=jY t0;have i1:(tt:Int)<(ws.length:Int)+1:=by omega
  have i2:(fr:Int)<(ws.length:Int)+1:=by omega
  obtain ⟨xc,hxc⟩:∃ xc,xc=Tc+(if tt<ws.length/\wide<=wd then (wd-wide)*(wd-wide) else 0):=⟨_,rfl⟩;have HXC:=hid hxc;clear hxc;go_wp2
  go_region
  go_upto_region 4 with (fail)
  obtain ⟨q1,hq1⟩:∃ q:Bool,q=decide (tt<ws.length/\wide<=wd):=⟨_,rfl⟩;have Rl:=hid hq1;clear hq1
  go_cut [39] (fun s39 wx=>s39=.bool q1/\wx=(wr.alloc (.cells #[.int .i64 Tc,.int .i64 (Tl+1),.int .i64 tt] 247)).drew)
  case first=>
   by_cases htn:tt<ws.length
   ·by_cases QT:wide<=wd
    ·have e:decide (wide<=wd)=true:=by simpa using QT
     go_wp2_with fail
     go_meet
     exact ⟨by rw [Rl.out];simp [htn,QT],rfl⟩
    ·have e:decide (wide<=wd)=false:=by simpa using QT
     go_wp2_with fail
     go_meet
     exact ⟨by rw [Rl.out];simp [htn,QT],rfl⟩
   ·have e:decide (tt<ws.length)=false:=by simpa using htn
    go_wp2_with fail
    go_meet
    exact ⟨by rw [Rl.out];simp [htn],rfl⟩
  case rest=>
   obtain ⟨rfl,rfl⟩:=hcut
   go_upto_if 39 with (fail)
   go_cut [] (fun wx=>wx=(wr.alloc (.cells #[.int .i64 xc,.int .i64 (Tl+1),.int .i64 tt] 247)).drew)
   case first=>
    cases q1
    ·go_wp2_with fail
     go_meet
     have hxc:=HXC.out;have hq:=Rl.out;rw [if_neg (by simpa using hq.symm),Int.add_zero] at hxc;rw [hxc]
    ·have hq:=Rl.out;have hq':tt<ws.length/\wide<=wd:=by simpa using hq.symm
     have YB:=Uu (x:=wd-wide) (by omega) (by omega);have hq0:=YB.1;have hq1:=YB.2;have HQ':=hid hq';clear YB hq hq';go_wp2_with fail
     go_meet
     have hxc:=HXC.out;rw [if_pos HQ'.out] at hxc;rw [hxc]
   case rest=>
    subst hcut;obtain ⟨q2,hq2⟩:∃ q:Bool,q=decide (tt=fr+1\/nM ⟨xc,Tl+1,tt⟩ ⟨uc,ul,un⟩=true):=⟨_,rfl⟩;have Gn:=hid hq2;clear hq2 Rl;go_upto_region 7 with (fail)
    go_cut [79] (fun s79 wx=>s79=.bool q2/\wx=((wr.alloc (.cells #[.int .i64 xc,.int .i64 (Tl+1),.int .i64 tt] 247)).alloc (.cells #[.int .i64 uc,.int .i64 ul,.int .i64 un] 247)).drew)
    case first=>
     by_cases g1:tt=fr+1
     ·have e:((tt:Int)==(fr:Int)+1)=true:=by simp;omega
      have HG1:=hid g1;clear g1;go_wp2_with fail
      go_meet
      exact ⟨by rw [Gn.out];simp [HG1.out],rfl⟩
     ·have e:((tt:Int)==(fr:Int)+1)=false:=by simp;omega
      by_cases g2:xc<uc
      ·have e2:decide (xc<uc)=true:=by simpa using g2
       go_wp2_with fail
       go_meet
       exact ⟨by rw [Gn.out];simp [nM,g2],rfl⟩
      ·have e2:decide (xc<uc)=false:=by simpa using g2
       by_cases g3:xc=uc
       ·have e3:(xc==uc)=true:=by simpa using g3
        have HG3:=hid g3;clear g3;by_cases g4:Tl+1<ul
        ·have e4:decide (Tl+1<ul)=true:=by simpa using g4
         go_wp2_with fail
         go_meet
         exact ⟨by rw [Gn.out];simp [nM,HG3.out,g4],rfl⟩
        ·have e4:decide (Tl+1<ul)=false:=by simpa using g4
         go_wp2_with fail
         go_meet
         exact ⟨by rw [Gn.out];simp [nM,HG3.out,g4,g1],rfl⟩
       ·have e3:(xc==uc)=false:=by simpa using g3
        go_wp2_with fail
        go_meet
        exact ⟨by rw [Gn.out];simp [nM,g2,g3,g1],rfl⟩
    case rest=>
     obtain ⟨rfl,rfl⟩:=hcut;have z7:=HO.out.frozenAt (fr*3);have z8:=HO.out.frozenAt (fr*3+1);have z9:=HO.out.frozenAt (fr*3+2);obtain ⟨N,hN⟩:∃ N,N=yV ws.length wd T fr tt wide ⟨uc,ul,un⟩:=⟨_,rfl⟩;have hNq:N=if q2=true then ⟨xc,Tl+1,tt⟩ else ⟨uc,ul,un⟩:=by
      have hc:tF ws.length wd T tt wide=⟨xc,Tl+1,tt⟩:=by unfold tF;rw [HTe.out,HXC.out]
      rw [hN,yV,hc,Gn.out];simp
     have HN:=hid hN;have HNq:=hid hNq;clear hN hNq Gn HXC
     go_upto_if 79 with (fail)
     go_cut [] (fun wx=>wx.ownsRow B 247 3 (.slice (some ⟨g,0,none⟩) (ws.length+1) (ws.length+1)) (ws.length+1) (dL (upd T fr N) (ws.length+1))/\w.grownBy wx (some g))
     case first=>
      cases q2
      ·go_wp2_with fail
       go_meet
       have hN:=HNq.out;simp only [Bool.false_eq_true,if_false] at hN;subst hN;exact ⟨((HO.out.alloc _).alloc _).drew,oJ (jJ (jJ HG.out _) _)⟩
      ·go_wp2_with fail
       go_meet
       have hN:=HNq.out;simp only [if_true] at hN;have h3:=V6 HO.out (.cells #[.int .i64 xc,.int .i64 (Tl+1),.int .i64 tt] 247) (.cells #[.int .i64 uc,.int .i64 ul,.int .i64 un] 247) fr (by omega) ⟨xc,Tl+1,tt⟩;rw [Rk] at h3;rw [hN];exact ⟨h3.1,gP HG.out h3.2⟩
     case rest=>
      obtain ⟨hown2,qx⟩:=hcut;obtain ⟨cw,cb,cn,cd,cs⟩:=HC.out;have k1:=qx.cell cw (by simp [nw]);have k3:=qx.cell cn (by simp [nn]);have k4:=qx.cell cd (by simp [nd]);have k5:=qx.cell cs (by simp [ns]);have hf1:1<=f:=by have:=H3.out;omega
      obtain ⟨f',rfl⟩:∃ f',f=f'+1:=⟨f-1,by omega⟩;have jg4:GH ws.length (k+1) fr N:=by rw [HN.out];exact Uv HT.out hwd.2 r1 r2 r4 H6.out
      clear cw cb cn cd cs t0 t1 f0 f1 f2 e1 e2 e3 e4 e5 z1 z2 z3 z4 z5 z6 z7 z8 z9 HO HG HNq hTt Zd;by_cases htn:tt=ws.length
      ·have hRN:R=N:=by rw [<- H7.out,KJ _ _ _ _ _ _ _ _ _ _ htn,HN.out]
       subst hRN;have e:((tt:Int)==(ws.length:Int))=true:=by simp [htn]
       have HTN:=hid htn;clear htn H7 H3;go_wp2;exact bodyPost_ret (results_none (by kernel_rfl) _ _ _) rfl ⟨rfl,hown2,qx⟩
      ·have e:((tt:Int)==(ws.length:Int))=false:=by simp;omega
       have hlt2:tt<ws.length:=by omega
       have hwt:ws[tt]?=some (ws.getD tt 0):=by rw [List.getD_eq_getElem?_getD,joq (by omega)];rfl
       have k6:=qx.cell (V8.out tt _ hwt) (by simp [hbw]);have hyb:=QS.out _ (jpk hwt);have hlast:=hid (fun h=>(KM ws sp wd ws.length T fr f' tt wide ⟨uc,ul,un⟩ h).symm.trans H7.out);have hon:=hid (fun h=>(Rm ws sp wd ws.length T fr f' tt wide ⟨uc,ul,un⟩ htn h).symm.trans H7.out);clear hwt H7;generalize ws.getD tt 0=y at *;obtain ⟨hy0,hy1⟩:=hyb;obtain ⟨hs0,hs1⟩:=hsp;obtain ⟨hd0,hd1⟩:=hwd;have i3:(tt:Int)<(ws.length:Int):=by omega
       have s1:IntKind.i64.wrap (sp+y)=sp+y:=IntWalk.i64_in _ (by omega);have s2:IntKind.i64.wrap (wide+(sp+y))=wide+(sp+y):=IntWalk.i64_in _ (by omega);have HTN:=hid htn;clear htn;go_wp2_with fail
       go_quiet (fail)
       clear s1 s2;by_cases QT:wd<wide+(sp+y)
       ·have hRN:R=N:=by rw [<- hlast.out QT,HN.out]
        subst hRN;clear hlast hon;go_wp2;exact bodyPost_ret (results_none (by kernel_rfl) _ _ _) rfl ⟨rfl,hown2,tH qx _⟩
       ·have hR2:=hid (hon.out (by omega));rw [<- HN.out] at hR2;clear hlast hon;go_wp2;go_roundw;case rel=>exact ⟨tt+1,wide+(sp+y),N,f',by omega,by omega,by have:=H3.out;omega,by omega,by omega,.inr jg4,hR2.out,rfl,by go_num,hown2,tH qx _⟩
        case measure=>simp [intOf];omega
open Go.RowKit
theorem Jo:(Tryz.prog.info? 3).map (fun i=>(i.zero,i.size,i.bytes))=some (some (.int .i64 0),1,8):=by kernel_rfl
theorem Uw:(Tryz.prog.info? 247).map (fun i=>(i.zero,i.size,i.bytes))=some (some (.agg #[.int .i64 0,.int .i64 0,.int .i64 0]),3,24):=by kernel_rfl
theorem Ze (N:Nat):(madeCells (Value.agg #[.int .i64 0,.int .i64 0,.int .i64 0]).cells (N*3)).toList=dL (fun _=>⟨0,0,0⟩) N:=by
 apply List.ext_getElem?;intro i;by_cases hi:i<N*3
 ·simp only [madeCells,dL,Value.cells,Array.toList_map,Array.toList_range,List.getElem?_map,List.getElem?_range hi,Option.map_some];have h3:i%3<3:=by omega
  generalize i%3=r at *;have:r=0\/r=1\/r=2:=by omega
  rcases this with rfl | rfl | rfl<;>rfl
 ·rw [jr7 (by simp [madeCells];omega),jr7 (by simp [lq];omega)]
structure Nj (ws:List Int) (sp wd:Int):Prop where
 wd:1<=wd/\wd<=1048576
 sp:0<=sp/\sp<=1048576
 ws:∀ x∈ws,(0:Int)<=x/\x<=1048576
def GJ (w:World) (ws:List Int) (sp wd:Int) (e:Ending) (w':World):Prop:=
 ∃ v,e=.returned (.tuple #[v,.int .i64 (GK ws sp wd),.int .i64 0])/\w'.ownsRow w.heap.size 3 1 v (Bz ws sp wd).length ((Bz ws sp wd).map (Value.int .i64))/\Below w.heap.size w w'
def jg5 (w0 wr:World) (n:Nat) (T:Nat->Dv) (F:List Int) (v vi:Value):Prop:=
 ∃ (i f:Nat) (acc:List Int),i<=n/\n<=i+f/\acc.length<=i/\acc++BD n T f i=F/\vi=.int .i64 i/\wr.ownsRow w0.heap.size 3 1 v acc.length (acc.map (Value.int .i64))/\Below w0.heap.size w0 wr
def Zf (w0 wr:World) (B g:Nat) (ws:List Int) (sp wd:Int) (vi:Value):Prop:=
 ∃ k:Nat,k<=ws.length/\vi=.int .i64 ((ws.length:Int)-1-k) /\
  wr.ownsRow B 247 3 (.slice (some ⟨g,0,none⟩) (ws.length+1) (ws.length+1)) (ws.length+1) (dL (tab ws sp wd ws.length k) (ws.length+1))/\w0.grownBy wr (some g)
theorem Nk (w:World) (bw ow qw:Nat) (ws:List Int) (sp wd:Int) (hok:Nj ws sp wd) (hn0:0<ws.length) (hn:ws.length<=4096) (hcap:ws.length<=qw) (hcm:qw<=maxLen) (hcw:∀ j x,ws[j]?=some x->w.cell? ⟨bw,ow+j,none⟩=some (.int .i64 x)) : Calls Tryz.prog 222 #[.slice (some ⟨bw,ow,none⟩) ws.length qw,.int .i64 sp,.int .i64 wd] w (GJ w ws sp wd):=by
 obtain ⟨⟨hd0,hd1⟩,⟨hs0,hs1⟩,hws⟩:=hok;obtain ⟨iI,QU,yX,yY,yZ⟩:=info_parts Jo;obtain ⟨iD,hiD,Zg,Zh,jg6⟩:=info_parts Uw;have QS:=hid hws;have V8:=hid hcw;have V9:bw<w.heap.size:=jY (hcw 0 _ (joq hn0));clear hws hcw hcm;go_enter Tryz.func222,Tryz.ntmps222;go_wp2;obtain ⟨w3,hw3⟩:∃ w3,w3=((w.alloc (.cells #[.slice (some ⟨bw,ow,none⟩) ws.length qw] 110)).alloc (.cells #[.int .i64 sp] 3)).alloc (.cells #[.int .i64 wd] 3):=⟨_,rfl⟩;rw [<- hw3];have p0:w3.cell? ⟨w.heap.size,0,none⟩=some (.slice (some ⟨bw,ow,none⟩) ws.length qw):=by rw [hw3];simp [go_sem]
 have p1:w3.cell? ⟨w.heap.size+1,0,none⟩=some (.int .i64 sp):=by rw [hw3];simp [go_sem]
 have p2:w3.cell? ⟨w.heap.size+1+1,0,none⟩=some (.int .i64 wd):=by rw [hw3];simp [go_sem]
 have hs3:w3.heap.size=w.heap.size+3:=by rw [hw3];simp
 have hb3:Below w.heap.size w w3:=by rw [hw3];exact (((Below.refl _ _).alloc (Nat.le_refl _) _).alloc (by simp) _).alloc (by simp;omega) _
 have Nl:Hid (∀ j x,ws[j]?=some x->w3.cell? ⟨bw,ow+j,none⟩=some (.int .i64 x)):=fun j x h=>by rw [hb3.cell (p:=⟨bw,ow+j,none⟩) V9];exact V8.out j x h
 have YC:=hid hs3;clear hs3 hw3 V8
 go_loop [6,32] (fun s6 i=>∃ k:Nat,k<=ws.length/\i=.int .i64 k/\s6=.slice none 0 0) (fun _ i=>ws.length-(intOf i).toNat)
 case atStart=>exact ⟨0,Nat.zero_le _,rfl,rfl⟩
 case round=>
  obtain ⟨k,hk,rfl,rfl⟩:=hrel;by_cases hlt:k<ws.length
  ·obtain ⟨x,hwf⟩:∃ x,ws[k]?=some x:=⟨_,joq hlt⟩;have c0:=Nl.out k _ hwf;obtain ⟨b0,b1⟩:=QS.out _ (jpk hwf);clear hwf;go_wp2
   go_round
   case rel=>exact ⟨k+1,by omega,by go_num,rfl⟩
   case measure=>simp [intOf];omega
  ·have hlf:decide (k<ws.length)=false:=by simpa using hlt
   have q0:=jY p0;go_wp2_with (at_make;refine wpList_make_full _ rfl _ _ 245 rfl (w.heap.size+4) 247 iD _ 3 Tryz.underlying245 hiD Zg Zh .i64 .i64 _ _ (ws.length+1) rfl rfl ?m1 ?m2 ?m3 ?m4 ?m5 ?_)
   case m3=>omega
   case m4=>unfold maxLen;omega
   case m5=>have:=YC.out;omega
   intro w5 hown5 hgr5;have g0:=jY p0;have g1:=jY p1;have g2:=jY p2;have r0:=hgr5.cell (past p0 _) (by simp);have r1:=hgr5.cell (past p1 _) (by simp);have r2:=hgr5.cell (past p2 _) (by simp);have r3:w5.cell? ⟨w3.heap.size,0,none⟩=some (.int .i64 ws.length):=hgr5.cell (by simp [go_sem]) (by simp);have g5:w3.heap.size+1<w5.heap.size:=(hown5.lt _ rfl).2;have hb5:Below w.heap.size w w5:=(hb3.alloc (by omega) _).grown hgr5 (by simp;omega) (by simp);have Zi:Hid (∀ j x,ws[j]?=some x->w5.cell? ⟨bw,ow+j,none⟩=some (.int .i64 x)):=fun j x h=>hgr5.cell (past (Nl.out j x h) _) (by simp)
   rw [show #[Value.int .i64 0,.int .i64 0,.int .i64 0]=(Value.agg #[.int .i64 0,.int .i64 0,.int .i64 0]).cells from rfl,Ze] at hown5;have g6:=jY r3;have Rn:=hid hown5;clear hown5 hgr5 p0 p1 p2 Nl;go_wp2;obtain ⟨w6,y8⟩:∃ w6,w6=w5.alloc (.cells #[.slice (some ⟨w3.heap.size+1,0,none⟩) (ws.length+1) (ws.length+1)] 245):=⟨_,rfl⟩;rw [<- y8];have t0:w6.cell? ⟨w.heap.size,0,none⟩=some (.slice (some ⟨bw,ow,none⟩) ws.length qw):=by rw [y8];exact past r0 _
   have t1:w6.cell? ⟨w.heap.size+1,0,none⟩=some (.int .i64 sp):=by rw [y8];exact past r1 _
   have t2:w6.cell? ⟨w.heap.size+1+1,0,none⟩=some (.int .i64 wd):=by rw [y8];exact past r2 _
   have t3:w6.cell? ⟨w3.heap.size,0,none⟩=some (.int .i64 ws.length):=by rw [y8];exact past r3 _
   have t4:w6.cell? ⟨w5.heap.size,0,none⟩=some (.slice (some ⟨w3.heap.size+1,0,none⟩) (ws.length+1) (ws.length+1)):=by rw [y8];simp [go_sem]
   have hb6:Below w.heap.size w w6:=by rw [y8];exact hb5.alloc (by omega) _
   have jg7:Hid (∀ j x,ws[j]?=some x->w6.cell? ⟨bw,ow+j,none⟩=some (.int .i64 x)):=fun j x h=>by rw [y8];exact past (Zi.out j x h) _
   have HO6:Hid (w6.ownsRow (w.heap.size+4) 247 3 (.slice (some ⟨w3.heap.size+1,0,none⟩) (ws.length+1) (ws.length+1)) (ws.length+1) (dL (fun _=>⟨0,0,0⟩) (ws.length+1))):=by rw [y8];exact Rn.out.alloc _
   clear y8 r0 r1 r2 r3 Rn Zi;have HWW:Hid (∀ x∈ws,(0:Int)<=x):=fun x hx=>(QS.out x hx).1
   go_loopw [14] (fun vi wr=>Zf w6 wr (w.heap.size+4) (w3.heap.size+1) ws sp wd vi) (fun i _=>(intOf i+1).toNat)
   case atStart=>exact ⟨0,Nat.zero_le _,by go_num,HO6.out,World.grownBy.refl _ _⟩
   case round=>
    obtain ⟨k2,hk2,rfl,hown,hgr⟩:=hrel;have HO:=hid hown;have HG:=hid hgr;clear hown hgr;by_cases hkn:k2<ws.length
    ·obtain ⟨fr,hfr⟩:∃ fr:Nat,fr=ws.length-(k2+1):=⟨_,rfl⟩;have hfi:((ws.length:Int)-1-k2)=(fr:Int):=by omega
     rw [hfi];have EX:=hid (fun wr E hcw hown=>GI wr w.heap.size w5.heap.size w3.heap.size (w.heap.size+1+1) (w.heap.size+1) (w3.heap.size+1) bw ow qw ws sp wd E (tab ws sp wd ws.length k2) fr k2 (w.heap.size+4) (by omega) (BG ws sp wd ws.length hd1 hs0 HWW.out k2 (by omega)) hn ⟨hd0,hd1⟩ ⟨hs0,hs1⟩ QS.out hcw (by omega) hown);have E:Ut wr w.heap.size w5.heap.size w3.heap.size (w.heap.size+1+1) (w.heap.size+1) (w3.heap.size+1) (.slice (some ⟨bw,ow,none⟩) ws.length qw) ws sp wd:=
      ⟨HG.out.cell t0 (by simp;omega),HG.out.cell t4 (by simp;omega),HG.out.cell t3 (by simp),HG.out.cell t2 (by simp;omega),HG.out.cell t1 (by simp;omega),by omega,by omega,by omega,by omega,by omega⟩
     have Zj:∀ j x,ws[j]?=some x->wr.cell? ⟨bw,ow+j,none⟩=some (.int .i64 x):=fun j x h=>HG.out.cell (jg7.out j x h) (by simp;omega)
     have XX:=hid (EX.out wr E Zj HO.out);have HT:Hid (upd (tab ws sp wd ws.length k2) fr (nZ ws sp wd ws.length (tab ws sp wd ws.length k2) fr (k2+1) (fr+1) (ws.getD fr 0) (tab ws sp wd ws.length k2 fr))=tab ws sp wd ws.length (k2+1)):=by rw [tab,hfr,show ws.length-(k2+1)+1=ws.length-k2 from by omega];rfl
     have HF:=hid hfr;have Zk:=hid hfi;have hfl:fr<ws.length:=by omega
     clear hfr hfi EX E Zj;go_wp2_with fail
     refine XX.out.mono ?_;rintro e w7 ⟨rfl,jK,jg8⟩;rw [HT.out] at jK;have hG7:=gP HG.out jg8;clear XX HT HO HG;go_wp2;go_roundw;case rel=>exact ⟨k2+1,by omega,by have:=HF.out;go_num,jK,hG7⟩
     case measure=>simp [intOf]
    ·have hkk:k2=ws.length:=by omega
     subst hkk;have jn0:decide ((0:Int)<=(ws.length:Int)-1-ws.length)=false:=by simp;omega
     have Zl:=BG ws sp wd ws.length hd1 hs0 HWW.out ws.length (Nat.le_refl _);obtain ⟨F,hF⟩:∃ F,F=Bz ws sp wd:=⟨_,rfl⟩;have HF:Hid (BD ws.length (tab ws sp wd ws.length ws.length) ws.length 0=F):=hF.symm;have HFF:=hid hF;have HCC:Hid (GK ws sp wd=(tab ws sp wd ws.length ws.length 0).c):=rfl;clear hF;generalize tab ws sp wd ws.length ws.length=T at *;have jg9:=hid Zl;clear Zl;have u3:=HG.out.cell t3 (by simp);have u4:=HG.out.cell t4 (by simp;omega);have hbel:Below w.heap.size w wr:=hb6.grown HG.out (by have:=hb6.size;omega) (by simp;omega);have hsz:=hbel.size;have hcb:=HO.out.cellAt (0*3+0) (by omega);rw [eF _ _ _ _ (by omega) (by omega)] at hcb;simp only [tC,if_true,Nat.zero_mul,Nat.add_zero] at hcb;clear t0 t1 t2 t3 t4 g0 g1 g2 g5 g6 HG;have v3:=jY u3;have v4:=jY u4;have v5:=jY hcb;go_wp2;obtain ⟨wo,hwo⟩:∃ wo:World,wo=wr:=⟨_,rfl⟩;subst hwo
     go_loopw [6,15] (fun v vi wz=>jg5 wo wz ws.length T F v vi) (fun _ i _=>ws.length-(intOf i).toNat)
     case atStart=>exact ⟨0,ws.length,[],Nat.zero_le _,by omega,by simp,by simpa using HF.out,rfl,⟨rfl,.inl ⟨rfl,rfl⟩⟩,Below.refl _ _⟩
     case round=>
      obtain ⟨i,f,acc,x1,x2,x3,x4,rfl,hown,lU⟩:=hrel;have X4:=hid x4;have hsz2:=lU.size;clear x4;have y3:wr.cell? ⟨w3.heap.size,0,none⟩=some (.int .i64 ws.length):=by rw [lU.cell (p:=⟨w3.heap.size,0,none⟩) v3];exact u3
      have y4:wr.cell? ⟨w5.heap.size,0,none⟩=some (.slice (some ⟨w3.heap.size+1,0,none⟩) (ws.length+1) (ws.length+1)):=by rw [lU.cell (p:=⟨w5.heap.size,0,none⟩) v4];exact u4
      by_cases hil:i<ws.length
      ·have hci:=HO.out.cellAt (i*3+2) (by omega);rw [eF _ _ _ _ (by omega) (by omega)] at hci;simp only [tC,Nat.reduceEqDiff,if_false] at hci;have y5:wr.cell? ⟨w3.heap.size+1,i*3+2,none⟩=some (.int .i64 (T i).nx):=by rw [lU.cell (p:=⟨w3.heap.size+1,i*3+2,none⟩) v5];exact hci
       have hnx:=jg9.out.nx i (by omega) hil;have hfn:=hid (zR ws.length T (f-1) i hil);rw [show f-1+1=f from by omega] at hfn;clear hci;generalize (T i).nx=nx at *;obtain ⟨m,rfl⟩:∃ m:Nat,nx=(m:Int):=⟨nx.toNat,by omega⟩;simp only [Int.toNat_natCast] at hfn;have hi1:(i:Int)<(ws.length:Int)+1:=by omega
       go_wp2_with (at_builtin;refine wpList_append_own _ rfl _ _ 110 rfl wo.heap.size 3 iI (.int .i64 0) 1 8 Tryz.underlying110 QU yX yY yZ rfl (by decide) _ _ _ rfl (hown.alloc _) ⟨wr.heap.size,0,none⟩ 1 1 [.int .i64 i] rfl rfl ?c1 ?c2 ?c3 ?c4 ?c5 ?_)
       case c1=>exact lu _ _ _
       case c2=>simp [Value.oneCell']
       case c3=>unfold maxLen;omega
       case c4=>omega
       case c5=>simp;omega
       intro v' w8 hown' hgrow _;have je:=below_app lU hsz2 hown hgrow;have z4:w8.cell? ⟨w5.heap.size,0,none⟩=some (.slice (some ⟨w3.heap.size+1,0,none⟩) (ws.length+1) (ws.length+1)):=by rw [je.cell (p:=⟨w5.heap.size,0,none⟩) v4];exact u4
       have z5:w8.cell? ⟨w3.heap.size+1,i*3+2,none⟩=some (.int .i64 m):=by rw [je.cell (p:=⟨w3.heap.size+1,i*3+2,none⟩) v5,<- lU.cell (p:=⟨w3.heap.size+1,i*3+2,none⟩) v5];exact y5
       clear y3 y4 y5;go_wp2;go_roundw;case rel=>exact ⟨m,f-1,acc++[(i:Int)],by omega,by omega,by simp;omega,by rw [<- X4.out,hfn.out];simp,rfl,by simpa using hown',je⟩
       case measure=>simp [intOf];omega
      ·have hE:=hid (GL ws.length T f i hil);have y6:wr.cell? ⟨w3.heap.size+1,0,none⟩=some (.int .i64 (T 0).c):=by rw [lU.cell (p:=⟨w3.heap.size+1,0,none⟩) v5];exact hcb
       have hi0:(0:Int)<(ws.length:Int)+1:=by omega
       go_wp2_with fail
       go_quiet (fail)
       go_wp2
       go_ret3
       refine ⟨u6,by rw [HCC.out];rfl,?_,eZ (aP hbel lU) _⟩;have hA:acc=Bz ws sp wd:=by have:=X4.out;rw [hE.out,List.append_nil] at this;rw [this,HFF.out]
       rw [<- hA];exact mG hown hsz
open Go.RowKit
def fQ (f:Nat->Int) (N:Nat):List Value:=(List.range N).map fun j=>Value.int .i64 (f j)
theorem jf (f:Nat->Int) (N:Nat):(fQ f N).length=N:=by simp [fQ]
theorem jg (f:Nat->Int) (N j:Nat) (hj:j<N):(fQ f N)[j]?=some (.int .i64 (f j)):=by unfold fQ;rw [List.getElem?_map,List.getElem?_range hj];rfl
theorem vG (f:Nat->Int) (N j:Nat) (hj:j<N) (x:Int):(fQ f N).set j (.int .i64 x)=fQ (fun i=>if i=j then x else f i) N:=by
 apply List.ext_getElem?;intro i;by_cases hi:i<N
 ·rw [jg _ _ _ hi,List.getElem?_set,jf];by_cases e:j=i
  ·subst e;simp [hj]
  ·rw [if_neg e,jg _ _ _ hi,if_neg (fun h=>e h.symm)]
 ·rw [jr7 (by simp [jf];omega),jr7 (by simp [jf];omega)]
theorem Ux (N:Nat):(madeCells (Value.int .i64 0).cells (N*1)).toList=fQ (fun _=>0) N:=by
 apply List.ext_getElem?;intro i;by_cases hi:i<N
 ·simp [madeCells,fQ,Value.cells,hi,Nat.mod_one]
 ·rw [jr7 (by simp [madeCells];omega),jr7 (by simp [jf];omega)]
open Go.RowKit
def Wd (w:World) (e:Ending) (w':World):Prop:=
 e=.returned (.tuple #[.slice none 0 0,.int .i64 0,.int .i64 9])/\Below w.heap.size w w'
theorem vH (w:World) (o1 o2 o3:Obj):Below w.heap.size w (((w.alloc o1).alloc o2).alloc o3):=
 (((Below.refl _ _).alloc (Nat.le_refl _) _).alloc (by simp) _).alloc (by simp;omega) _
theorem DY (w:World) (a:Option Addr) (n cap:Nat) (sp wd:Int) (h:wd<1\/1048576<wd\/sp<0\/1048576<sp) : Calls Tryz.prog 222 #[.slice a n cap,.int .i64 sp,.int .i64 wd] w (Wd w):=by
 by_cases h1:wd<1
 ·have e1:decide (wd<1)=true:=by simpa using h1
  go_enter Tryz.func222,Tryz.ntmps222;go_wp2
  go_ret3
  exact ⟨rfl,vH _ _ _ _⟩
 have e1:decide (wd<1)=false:=by simpa using h1
 by_cases h2:1048576<wd
 ·have e2:decide (1048576<wd)=true:=by simpa using h2
  go_enter Tryz.func222,Tryz.ntmps222;go_wp2
  go_ret3
  exact ⟨rfl,vH _ _ _ _⟩
 have e2:decide (1048576<wd)=false:=by simpa using h2
 by_cases h3:sp<0
 ·have e3:decide (sp<0)=true:=by simpa using h3
  go_enter Tryz.func222,Tryz.ntmps222;go_wp2
  go_ret3
  exact ⟨rfl,vH _ _ _ _⟩
 have e3:decide (sp<0)=false:=by simpa using h3
 have h4:1048576<sp:=by omega
 have e4:decide (1048576<sp)=true:=by simpa using h4
 go_enter Tryz.func222,Tryz.ntmps222;go_wp2
 go_ret3
 exact ⟨rfl,vH _ _ _ _⟩
theorem GN (w:World) (bw ow qw:Nat) (ws:List Int) (sp wd:Int) (hd0:1<=wd) (hd1:wd<=1048576) (hs0:0<=sp) (hs1:sp<=1048576) (hn:ws.length<=4096) (hcap:ws.length<=qw) (hbad:¬ ∀ x∈ws,(0:Int)<=x/\x<=1048576) (hcw:∀ j x,ws[j]?=some x->w.cell? ⟨bw,ow+j,none⟩=some (.int .i64 x)) : Calls Tryz.prog 222 #[.slice (some ⟨bw,ow,none⟩) ws.length qw,.int .i64 sp,.int .i64 wd] w (Wd w):=by
 have HB:=hid hbad;have V8:=hid hcw;have hn0:0<ws.length:=by
  cases ws with
  | nil=>exact absurd (fun x hx=>by cases hx) hbad
  | cons a l=>simp
 have V9:bw<w.heap.size:=jY (hcw 0 _ (joq hn0));clear hbad hcw;go_enter Tryz.func222,Tryz.ntmps222;go_wp2;obtain ⟨w3,hw3⟩:∃ w3,w3=((w.alloc (.cells #[.slice (some ⟨bw,ow,none⟩) ws.length qw] 110)).alloc (.cells #[.int .i64 sp] 3)).alloc (.cells #[.int .i64 wd] 3):=⟨_,rfl⟩;rw [<- hw3];have hb3:Below w.heap.size w w3:=by rw [hw3];exact vH _ _ _ _
 have Nl:Hid (∀ j x,ws[j]?=some x->w3.cell? ⟨bw,ow+j,none⟩=some (.int .i64 x)):=fun j x h=>by rw [hb3.cell (p:=⟨bw,ow+j,none⟩) V9];exact V8.out j x h
 clear hw3 V8
 go_loop [32] (fun i=>∃ k:Nat,k<=ws.length/\i=.int .i64 k/\∀ j x,j<k->ws[j]?=some x->(0:Int)<=x/\x<=1048576) (fun i=>ws.length-(intOf i).toNat)
 case atStart=>exact ⟨0,Nat.zero_le _,rfl,fun j x h=>absurd h (by omega)⟩
 case round=>
  obtain ⟨k,hk,rfl,hall⟩:=hrel;have HA:=hid hall;clear hall;by_cases hlt:k<ws.length
  ·obtain ⟨x,hwf⟩:∃ x,ws[k]?=some x:=⟨_,joq hlt⟩;have c0:=Nl.out k _ hwf;have HW:=hid hwf;clear hwf;by_cases b0:x<0
   ·have e1:decide (x<0)=true:=by simpa using b0
    go_wp2
    go_ret3
    exact ⟨rfl,hb3⟩
   ·have e1:decide (x<0)=false:=by simpa using b0
    by_cases b1:1048576<x
    ·have e2:decide (1048576<x)=true:=by simpa using b1
     go_wp2
     go_ret3
     exact ⟨rfl,hb3⟩
    ·have e2:decide (1048576<x)=false:=by simpa using b1
     go_wp2
     go_round
     case rel=>
      refine ⟨k+1,by omega,by go_num,fun j y hj hy=>?_⟩;by_cases hjk:j=k
      ·subst hjk;have:=HW.out;rw [hy] at this;simp at this;omega
      ·exact HA.out j y (by omega) hy
     case measure=>simp [intOf];omega
  ·refine absurd (fun x hx=>?_) HB.out;obtain ⟨j,hj,e⟩:=List.mem_iff_getElem.1 hx;exact HA.out j x (by omega) (by rw [joq hj,e])
theorem DZ (w:World) (a:Option Addr) (cap:Nat) (sp wd:Int) (hd0:1<=wd) (hd1:wd<=1048576) (hs0:0<=sp) (hs1:sp<=1048576) : Calls Tryz.prog 222 #[.slice a 0 cap,.int .i64 sp,.int .i64 wd] w (GJ w [] sp wd):=by
 obtain ⟨iD,hiD,Zg,Zh,jg6⟩:=info_parts Uw;have hmk:∀ w:World,(Instr.makeSlice 245 (.int .i64 1) (.int .i64 1)).run Tryz.prog w=.ok (.slice (some ⟨w.heap.size,0,none⟩) 1 1) (w.alloc (.cells #[.int .i64 0,.int .i64 0,.int .i64 0] 247)):=fun _=>by kernel_rfl
 go_enter Tryz.func222,Tryz.ntmps222;go_wp2;refine wp_loop_rounds 1 ?_;rw [rounds_succ];go_wp2;refine wp_loop_rounds 1 ?_;rw [rounds_succ];go_wp2;refine wp_loop_rounds 1 ?_;rw [rounds_succ];go_wp2_with fail
 go_quiet (fail)
 go_wp2
 go_ret3
 refine ⟨.slice none 0 0,rfl,⟨rfl,.inl ⟨rfl,rfl⟩⟩,?_⟩;exact eZ ((((((((Below.refl _ _).alloc (Nat.le_refl _) _).alloc (by simp) _).alloc (by simp;omega) _).alloc (by simp;omega) _).alloc (by simp;omega) _).alloc (by simp;omega) _)) _
open Go.RowKit
open Go.RowKit
theorem Nn (ws:List Int) (sp wd:Int):Nj ws sp wd\/(wd<1\/1048576<wd\/sp<0\/1048576<sp)\/((1<=wd/\wd<=1048576/\0<=sp/\sp<=1048576)/\¬ ∀ x∈ws,(0:Int)<=x/\x<=1048576):=by
 by_cases h:wd<1\/1048576<wd\/sp<0\/1048576<sp
 ·exact .inr (.inl h)
 ·by_cases h':∀ x∈ws,(0:Int)<=x/\x<=1048576
  ·exact .inl ⟨by omega,by omega,h'⟩
  ·exact .inr (.inr ⟨by omega,h'⟩)
def rV (ws:List Int):List Value:=ws.map (Value.int .i64)
theorem vI {w:World} {b off:Nat} {ws:List Int} (h:∀ j u,(rV ws)[j]?=some u->w.cell? ⟨b,off+j,none⟩=some u) : ∀ j x,ws[j]?=some x->w.cell? ⟨b,off+j,none⟩=some (.int .i64 x):=
 fun j x hx=>h j _ (by simp [rV,hx])
theorem KN (w:World) (vw:Value) (ws:List Int) (sp wd:Int) (hs:gQ w 1 vw ws.length (rV ws)) (hn:ws.length<=4096) : Calls Tryz.prog 222 #[vw,.int .i64 sp,.int .i64 wd] w fun e w'=>(Nj ws sp wd/\GJ w ws sp wd e w')\/(¬ Nj ws sp wd/\Wd w e w'):=by
 obtain ⟨-,a,cap,rfl,h1,h2,h3⟩:=hs;rcases Nn ws sp wd with hok | hr | ⟨hr,hb⟩
 ·rcases Nat.eq_zero_or_pos ws.length with h0 | hpos
  ·obtain rfl:=List.length_eq_zero_iff.1 h0;exact (DZ w a cap sp wd hok.wd.1 hok.wd.2 hok.sp.1 hok.sp.2).mono fun e w' h=>.inl ⟨hok,h⟩
  ·rcases h3 with h3 | ⟨b,off,rfl,hc⟩
   ·omega
   ·exact (Nk w b off cap ws sp wd hok hpos hn h1 h2 (vI hc)).mono fun e w' h=>.inl ⟨hok,h⟩
 ·exact (DY w a ws.length cap sp wd hr).mono fun e w' h=>.inr ⟨fun hok=>by have:=hok.wd;have:=hok.sp;omega,h⟩
 ·rcases h3 with h3 | ⟨b,off,rfl,hc⟩
  ·obtain rfl:=List.length_eq_zero_iff.1 h3;exact absurd (fun x hx=>by cases hx) hb
  ·exact (GN w b off cap ws sp wd hr.1 hr.2.1 hr.2.2.1 hr.2.2.2 hn h1 hb (vI hc)).mono fun e w' h=>.inr ⟨fun hok=>hb hok.ws,h⟩
end Go.Proofs.YtdneicipdlofiaaGreatDoor

