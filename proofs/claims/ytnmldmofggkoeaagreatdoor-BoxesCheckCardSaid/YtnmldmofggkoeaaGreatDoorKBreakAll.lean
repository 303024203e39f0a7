/- The contract of wrap.Break at arguments in range: the first words of the lines of the best division, and its cost. The contract of publisherref38.best: the table that it fills is the plain one. The contracts of wrap.Break outside its range, and without words. The contracts of publisherref38.Break: the same answers as those of wrap.Break. Both Breaks at whatever arguments of at most 4096 words. -/
import Derived.Test.YtnmldmofggkoeaaGreatDoorKBreakIn
import Derived.OneCell
set_option maxHeartbeats 1000000
set_option maxRecDepth 100000
open Go.Lib (hid)
namespace Go.Proofs.YtnmldmofggkoeaaGreatDoor
open List renaming getElem?_eq_getElem->XR,getElem?_eq_none->YA
open Go renaming World->YJ
open Go.RowKit
set_option linter.unusedVariables false
set_option linter.unusedSimpArgs false
theorem Cg:(Tryz.prog.info? 3).map (fun i=>(i.zero,i.size,i.bytes))=some (some (.int .i64 0),1,8):=by kernel_rfl
theorem GV:(Tryz.prog.info? 163).map (fun i=>(i.zero,i.size,i.bytes))=some (some (.agg #[.int .i64 0,.int .i64 0,.int .i64 0]),3,24):=by kernel_rfl
theorem LU (N:Nat):(madeCells (Value.agg #[.int .i64 0,.int .i64 0,.int .i64 0]).cells (N*3)).toList=bD (fun _=>⟨0,0,0⟩) N:=by
 apply List.ext_getElem?;intro i;by_cases hi:i<N*3
 ·simp only [madeCells,bD,Value.cells,Array.toList_map,Array.toList_range,List.getElem?_map,List.getElem?_range hi,Option.map_some];have h3:i%3<3:=by omega
  generalize i%3=r at *;have:r=0\/r=1\/r=2:=by omega
  rcases this with rfl | rfl | rfl<;>rfl
 ·rw [YA (by simp [madeCells];omega),YA (by simp [gK];omega)]
structure Ch (ws:List Int) (sp wd:Int):Prop where
 wd:1<=wd/\wd<=1048576
 sp:0<=sp/\sp<=1048576
 ws:∀ x∈ws,(0:Int)<=x/\x<=1048576
def wZ (w:YJ) (ws:List Int) (sp wd:Int) (e:Ending) (w':YJ):Prop:=
 ∃ v,e=.returned (.tuple #[v,.int .i64 (xg ws sp wd),.int .i64 0])/\w'.ownsRow w.heap.size 3 1 v (tT ws sp wd).length ((tT ws sp wd).map (Value.int .i64))/\Below w.heap.size w w'
def Qa (w0 wr:YJ) (n:Nat) (T:Nat->Dv) (F:List Int) (v vi:Value):Prop:=
 ∃ (i f:Nat) (acc:List Int),i<=n/\n<=i+f/\acc.length<=i/\acc++rM n T f i=F/\vi=.int .i64 i/\wr.ownsRow w0.heap.size 3 1 v acc.length (acc.map (Value.int .i64))/\Below w0.heap.size w0 wr
def LV (w0 wr:YJ) (B g:Nat) (ws:List Int) (sp wd:Int) (vi:Value):Prop:=
 ∃ k:Nat,k<=ws.length/\vi=.int .i64 ((ws.length:Int)-1-k) /\
  wr.ownsRow B 163 3 (.slice (some ⟨g,0,none⟩) (ws.length+1) (ws.length+1)) (ws.length+1) (bD (tab ws sp wd ws.length k) (ws.length+1))/\w0.grownBy wr (some g)
theorem Cj (w:YJ) (bw ow kC:Nat) (ws:List Int) (sp wd:Int) (hok:Ch ws sp wd) (hn0:0<ws.length) (hn:ws.length<=4096) (hcap:ws.length<=kC) (hcm:kC<=maxLen) (hcw:∀ j x,ws[j]?=some x->w.cell? ⟨bw,ow+j,none⟩=some (.int .i64 x)) : Calls Tryz.prog 100 #[.slice (some ⟨bw,ow,none⟩) ws.length kC,.int .i64 sp,.int .i64 wd] w (wZ w ws sp wd):=by
 obtain ⟨⟨hd0,hd1⟩,⟨hs0,hs1⟩,hws⟩:=hok;obtain ⟨iI,LW,Ck,Cm,Cn⟩:=info_parts Cg;obtain ⟨iD,Sb,LX,LY,Qb⟩:=info_parts GV;have GX:=hid hws;have Jc:=hid hcw;have Jd:bw<w.heap.size:=fJ (hcw 0 _ (XR hn0));clear hws hcw hcm;go_enter Tryz.func100,Tryz.ntmps100;go_wp2;obtain ⟨w3,hw3⟩:∃ w3,w3=((w.alloc (.cells #[.slice (some ⟨bw,ow,none⟩) ws.length kC] 140)).alloc (.cells #[.int .i64 sp] 3)).alloc (.cells #[.int .i64 wd] 3):=⟨_,rfl⟩;rw [<- hw3];have p0:w3.cell? ⟨w.heap.size,0,none⟩=some (.slice (some ⟨bw,ow,none⟩) ws.length kC):=by rw [hw3];simp [go_sem]
 have p1:w3.cell? ⟨w.heap.size+1,0,none⟩=some (.int .i64 sp):=by rw [hw3];simp [go_sem]
 have p2:w3.cell? ⟨w.heap.size+1+1,0,none⟩=some (.int .i64 wd):=by rw [hw3];simp [go_sem]
 have hs3:w3.heap.size=w.heap.size+3:=by rw [hw3];simp
 have hb3:Below w.heap.size w w3:=by rw [hw3];exact (((Below.refl _ _).alloc (Nat.le_refl _) _).alloc (by simp) _).alloc (by simp;omega) _
 have Co:Hid (∀ j x,ws[j]?=some x->w3.cell? ⟨bw,ow+j,none⟩=some (.int .i64 x)):=fun j x h=>by rw [hb3.cell (p:=⟨bw,ow+j,none⟩) Jd];exact Jc.out j x h
 have OX:=hid hs3;clear hs3 hw3 Jc
 go_loop [6,32] (fun s6 i=>∃ k:Nat,k<=ws.length/\i=.int .i64 k/\s6=.slice none 0 0) (fun _ i=>ws.length-(intOf i).toNat)
 case atStart=>exact ⟨0,Nat.zero_le _,rfl,rfl⟩
 case round=>
  obtain ⟨k,hk,rfl,rfl⟩:=hrel;by_cases hlt:k<ws.length
  ·obtain ⟨x,hwf⟩:∃ x,ws[k]?=some x:=⟨_,XR hlt⟩;have c0:=Co.out k _ hwf;obtain ⟨b0,b1⟩:=GX.out _ (List.mem_of_getElem? hwf);clear hwf;go_wp2
   go_round
   case rel=>exact ⟨k+1,by omega,by go_num,rfl⟩
   case measure=>simp [intOf];omega
  ·have hlf:decide (k<ws.length)=false:=by simpa using hlt
   have q0:=fJ p0;go_wp2_with (at_make;refine wpList_make_full _ rfl _ _ 161 rfl (w.heap.size+4) 163 iD _ 3 Tryz.underlying161 Sb LX LY .i64 .i64 _ _ (ws.length+1) rfl rfl ?m1 ?m2 ?m3 ?m4 ?m5 ?_)
   case m3=>omega
   case m4=>unfold maxLen;omega
   case m5=>have:=OX.out;omega
   intro w5 hown5 hgr5;have g0:=fJ p0;have g1:=fJ p1;have g2:=fJ p2;have r0:=hgr5.cell (past p0 _) (by simp);have r1:=hgr5.cell (past p1 _) (by simp);have r2:=hgr5.cell (past p2 _) (by simp);have r3:w5.cell? ⟨w3.heap.size,0,none⟩=some (.int .i64 ws.length):=hgr5.cell (by simp [go_sem]) (by simp);have g5:w3.heap.size+1<w5.heap.size:=(hown5.lt _ rfl).2;have hb5:Below w.heap.size w w5:=(hb3.alloc (by omega) _).grown hgr5 (by simp;omega) (by simp);have LZ:Hid (∀ j x,ws[j]?=some x->w5.cell? ⟨bw,ow+j,none⟩=some (.int .i64 x)):=fun j x h=>hgr5.cell (past (Co.out j x h) _) (by simp)
   rw [show #[Value.int .i64 0,.int .i64 0,.int .i64 0]=(Value.agg #[.int .i64 0,.int .i64 0,.int .i64 0]).cells from rfl,LU] at hown5;have g6:=fJ r3;have L6:=hid hown5;clear hown5 hgr5 p0 p1 p2 Co;go_wp2;obtain ⟨w6,xk⟩:∃ w6,w6=w5.alloc (.cells #[.slice (some ⟨w3.heap.size+1,0,none⟩) (ws.length+1) (ws.length+1)] 161):=⟨_,rfl⟩;rw [<- xk];have t0:w6.cell? ⟨w.heap.size,0,none⟩=some (.slice (some ⟨bw,ow,none⟩) ws.length kC):=by rw [xk];exact past r0 _
   have t1:w6.cell? ⟨w.heap.size+1,0,none⟩=some (.int .i64 sp):=by rw [xk];exact past r1 _
   have t2:w6.cell? ⟨w.heap.size+1+1,0,none⟩=some (.int .i64 wd):=by rw [xk];exact past r2 _
   have t3:w6.cell? ⟨w3.heap.size,0,none⟩=some (.int .i64 ws.length):=by rw [xk];exact past r3 _
   have t4:w6.cell? ⟨w5.heap.size,0,none⟩=some (.slice (some ⟨w3.heap.size+1,0,none⟩) (ws.length+1) (ws.length+1)):=by rw [xk];simp [go_sem]
   have hb6:Below w.heap.size w w6:=by rw [xk];exact hb5.alloc (by omega) _
   have Qc:Hid (∀ j x,ws[j]?=some x->w6.cell? ⟨bw,ow+j,none⟩=some (.int .i64 x)):=fun j x h=>by rw [xk];exact past (LZ.out j x h) _
   have Qd:Hid (w6.ownsRow (w.heap.size+4) 163 3 (.slice (some ⟨w3.heap.size+1,0,none⟩) (ws.length+1) (ws.length+1)) (ws.length+1) (bD (fun _=>⟨0,0,0⟩) (ws.length+1))):=by rw [xk];exact L6.out.alloc _
   clear xk r0 r1 r2 r3 L6 LZ;have OY:Hid (∀ x∈ws,(0:Int)<=x):=fun x hx=>(GX.out x hx).1
   go_loopw [14] (fun vi wr=>LV w6 wr (w.heap.size+4) (w3.heap.size+1) ws sp wd vi) (fun i _=>(intOf i+1).toNat)
   case atStart=>exact ⟨0,Nat.zero_le _,by go_num,Qd.out,World.grownBy.refl _ _⟩
   case round=>
    obtain ⟨k2,hk2,rfl,hown,hgr⟩:=hrel;have HO:=hid hown;have HG:=hid hgr;clear hown hgr;by_cases hkn:k2<ws.length
    ·obtain ⟨fr,hfr⟩:∃ fr:Nat,fr=ws.length-(k2+1):=⟨_,rfl⟩;have hfi:((ws.length:Int)-1-k2)=(fr:Int):=by omega
     rw [hfi];have EX:=hid (fun wr E hcw hown=>xq wr w.heap.size w5.heap.size w3.heap.size (w.heap.size+1+1) (w.heap.size+1) (w3.heap.size+1) bw ow kC ws sp wd E (tab ws sp wd ws.length k2) fr k2 (w.heap.size+4) (by omega) (rO ws sp wd ws.length hd1 hs0 OY.out k2 (by omega)) hn ⟨hd0,hd1⟩ ⟨hs0,hs1⟩ GX.out hcw (by omega) hown);have E:GY wr w.heap.size w5.heap.size w3.heap.size (w.heap.size+1+1) (w.heap.size+1) (w3.heap.size+1) (.slice (some ⟨bw,ow,none⟩) ws.length kC) ws sp wd:=
      ⟨HG.out.cell t0 (by simp;omega),HG.out.cell t4 (by simp;omega),HG.out.cell t3 (by simp),HG.out.cell t2 (by simp;omega),HG.out.cell t1 (by simp;omega),by omega,by omega,by omega,by omega,by omega⟩
     have L8:∀ j x,ws[j]?=some x->wr.cell? ⟨bw,ow+j,none⟩=some (.int .i64 x):=fun j x h=>HG.out.cell (Qc.out j x h) (by simp;omega)
     have XX:=hid (EX.out wr E L8 HO.out);have HT:Hid (upd (tab ws sp wd ws.length k2) fr (jD ws sp wd ws.length (tab ws sp wd ws.length k2) fr (k2+1) (fr+1) (ws.getD fr 0) (tab ws sp wd ws.length k2 fr))=tab ws sp wd ws.length (k2+1)):=by rw [tab,hfr,show ws.length-(k2+1)+1=ws.length-k2 from by omega];rfl
     have HF:=hid hfr;have L9:=hid hfi;have hfl:fr<ws.length:=by omega
     clear hfr hfi EX E L8;go_wp2_with fail
     refine XX.out.mono ?_;rintro e w7 ⟨rfl,tV,Qe⟩;rw [HT.out] at tV;have UW:=dK HG.out Qe;clear XX HT HO HG;go_wp2;go_roundw;case rel=>exact ⟨k2+1,by omega,by have:=HF.out;go_num,tV,UW⟩
     case measure=>simp [intOf]
    ·have hkk:k2=ws.length:=by omega
     subst hkk;have UY:decide ((0:Int)<=(ws.length:Int)-1-ws.length)=false:=by simp;omega
     have Ma:=rO ws sp wd ws.length hd1 hs0 OY.out ws.length (Nat.le_refl _);obtain ⟨F,hF⟩:∃ F,F=tT ws sp wd:=⟨_,rfl⟩;have HF:Hid (rM ws.length (tab ws sp wd ws.length ws.length) ws.length 0=F):=hF.symm;have Qf:=hid hF;have UZ:Hid (xg ws sp wd=(tab ws sp wd ws.length ws.length 0).c):=rfl;clear hF;generalize tab ws sp wd ws.length ws.length=T at *;have Qg:=hid Ma;clear Ma;have u3:=HG.out.cell t3 (by simp);have u4:=HG.out.cell t4 (by simp;omega);have hbel:Below w.heap.size w wr:=hb6.grown HG.out (by have:=hb6.size;omega) (by simp;omega);have hsz:=hbel.size;have hcb:=HO.out.cellAt (0*3+0) (by omega);rw [bS _ _ _ _ (by omega) (by omega)] at hcb;simp only [l6,if_true,Nat.zero_mul,Nat.add_zero] at hcb;clear t0 t1 t2 t3 t4 g0 g1 g2 g5 g6 HG;have v3:=fJ u3;have v4:=fJ u4;have v5:=fJ hcb;go_wp2;obtain ⟨wo,hwo⟩:∃ wo:YJ,wo=wr:=⟨_,rfl⟩;subst hwo
     go_loopw [6,15] (fun v vi wz=>Qa wo wz ws.length T F v vi) (fun _ i _=>ws.length-(intOf i).toNat)
     case atStart=>exact ⟨0,ws.length,[],Nat.zero_le _,by omega,by simp,by simpa using HF.out,rfl,⟨rfl,.inl ⟨rfl,rfl⟩⟩,Below.refl _ _⟩
     case round=>
      obtain ⟨i,f,acc,x1,x2,x3,x4,rfl,hown,gZ⟩:=hrel;have X4:=hid x4;have hsz2:=gZ.size;clear x4;have y3:wr.cell? ⟨w3.heap.size,0,none⟩=some (.int .i64 ws.length):=by rw [gZ.cell (p:=⟨w3.heap.size,0,none⟩) v3];exact u3
      have y4:wr.cell? ⟨w5.heap.size,0,none⟩=some (.slice (some ⟨w3.heap.size+1,0,none⟩) (ws.length+1) (ws.length+1)):=by rw [gZ.cell (p:=⟨w5.heap.size,0,none⟩) v4];exact u4
      by_cases hil:i<ws.length
      ·have hci:=HO.out.cellAt (i*3+2) (by omega);rw [bS _ _ _ _ (by omega) (by omega)] at hci;simp only [l6,Nat.reduceEqDiff,if_false] at hci;have y5:wr.cell? ⟨w3.heap.size+1,i*3+2,none⟩=some (.int .i64 (T i).nx):=by rw [gZ.cell (p:=⟨w3.heap.size+1,i*3+2,none⟩) v5];exact hci
       have hnx:=Qg.out.nx i (by omega) hil;have hfn:=hid (qG ws.length T (f-1) i hil);rw [show f-1+1=f from by omega] at hfn;clear hci;generalize (T i).nx=nx at *;obtain ⟨m,rfl⟩:∃ m:Nat,nx=(m:Int):=⟨nx.toNat,by omega⟩;simp only [Int.toNat_natCast] at hfn;have hi1:(i:Int)<(ws.length:Int)+1:=by omega
       go_wp2_with (at_builtin;refine wpList_append_own _ rfl _ _ 140 rfl wo.heap.size 3 iI (.int .i64 0) 1 8 Tryz.underlying140 LW Ck Cm Cn rfl (by decide) _ _ _ rfl (hown.alloc _) ⟨wr.heap.size,0,none⟩ 1 1 [.int .i64 i] rfl rfl ?c1 ?c2 ?c3 ?c4 ?c5 ?_)
       case c1=>exact kD _ _ _
       case c2=>simp [Value.oneCell']
       case c3=>unfold maxLen;omega
       case c4=>omega
       case c5=>simp;omega
       intro v' w8 hown' hgrow _;have fQ:=below_app gZ hsz2 hown hgrow;have z4:w8.cell? ⟨w5.heap.size,0,none⟩=some (.slice (some ⟨w3.heap.size+1,0,none⟩) (ws.length+1) (ws.length+1)):=by rw [fQ.cell (p:=⟨w5.heap.size,0,none⟩) v4];exact u4
       have z5:w8.cell? ⟨w3.heap.size+1,i*3+2,none⟩=some (.int .i64 m):=by rw [fQ.cell (p:=⟨w3.heap.size+1,i*3+2,none⟩) v5,<- gZ.cell (p:=⟨w3.heap.size+1,i*3+2,none⟩) v5];exact y5
       clear y3 y4 y5;go_wp2;go_roundw;case rel=>exact ⟨m,f-1,acc++[(i:Int)],by omega,by omega,by simp;omega,by rw [<- X4.out,hfn.out];simp,rfl,by simpa using hown',fQ⟩
       case measure=>simp [intOf];omega
      ·have hE:=hid (xu ws.length T f i hil);have y6:wr.cell? ⟨w3.heap.size+1,0,none⟩=some (.int .i64 (T 0).c):=by rw [gZ.cell (p:=⟨w3.heap.size+1,0,none⟩) v5];exact hcb
       have hi0:(0:Int)<(ws.length:Int)+1:=by omega
       go_wp2_with fail
       go_quiet (fail)
       go_wp2
       go_ret3
       refine ⟨u6,by rw [UZ.out];rfl,?_,q01 (aL hbel gZ) _⟩;have hA:acc=tT ws sp wd:=by have:=X4.out;rw [hE.out,List.append_nil] at this;rw [this,Qf.out]
       rw [<- hA];exact kE hown hsz
open Go.RowKit
def eD (f:Nat->Int) (N:Nat):List Value:=(List.range N).map fun j=>Value.int .i64 (f j)
theorem eF (f:Nat->Int) (N:Nat):(eD f N).length=N:=by simp [eD]
theorem gL (f:Nat->Int) (N j:Nat) (hj:j<N):(eD f N)[j]?=some (.int .i64 (f j)):=by unfold eD;rw [List.getElem?_map,List.getElem?_range hj];rfl
theorem xw (f:Nat->Int) (N j:Nat) (hj:j<N) (x:Int):(eD f N).set j (.int .i64 x)=eD (fun i=>if i=j then x else f i) N:=by
 apply List.ext_getElem?;intro i;by_cases hi:i<N
 ·rw [gL _ _ _ hi,List.getElem?_set,eF];by_cases e:j=i
  ·subst e;simp [hj]
  ·rw [if_neg e,gL _ _ _ hi,if_neg (fun h=>e h.symm)]
 ·rw [YA (by simp [eF];omega),YA (by simp [eF];omega)]
theorem Mc (N:Nat):(madeCells (Value.int .i64 0).cells (N*1)).toList=eD (fun _=>0) N:=by
 apply List.ext_getElem?;intro i;by_cases hi:i<N
 ·simp [madeCells,eD,Value.cells,hi,Nat.mod_one]
 ·rw [YA (by simp [madeCells];omega),YA (by simp [eF];omega)]
open Go.RowKit
def Je (w:YJ) (e:Ending) (w':YJ):Prop:=
 e=.returned (.tuple #[.slice none 0 0,.int .i64 0,.int .i64 9])/\Below w.heap.size w w'
theorem nH (w:YJ) (o1 o2 o3:Obj):Below w.heap.size w (((w.alloc o1).alloc o2).alloc o3):=
 (((Below.refl _ _).alloc (Nat.le_refl _) _).alloc (by simp) _).alloc (by simp;omega) _
theorem tX (w:YJ) (a:Option Addr) (n cap:Nat) (sp wd:Int) (h:wd<1\/1048576<wd\/sp<0\/1048576<sp) : Calls Tryz.prog 100 #[.slice a n cap,.int .i64 sp,.int .i64 wd] w (Je w):=by
 by_cases h1:wd<1
 ·have e1:decide (wd<1)=true:=by simpa using h1
  go_enter Tryz.func100,Tryz.ntmps100;go_wp2
  go_ret3
  exact ⟨rfl,nH _ _ _ _⟩
 have e1:decide (wd<1)=false:=by simpa using h1
 by_cases h2:1048576<wd
 ·have e2:decide (1048576<wd)=true:=by simpa using h2
  go_enter Tryz.func100,Tryz.ntmps100;go_wp2
  go_ret3
  exact ⟨rfl,nH _ _ _ _⟩
 have e2:decide (1048576<wd)=false:=by simpa using h2
 by_cases h3:sp<0
 ·have e3:decide (sp<0)=true:=by simpa using h3
  go_enter Tryz.func100,Tryz.ntmps100;go_wp2
  go_ret3
  exact ⟨rfl,nH _ _ _ _⟩
 have e3:decide (sp<0)=false:=by simpa using h3
 have h4:1048576<sp:=by omega
 have e4:decide (1048576<sp)=true:=by simpa using h4
 go_enter Tryz.func100,Tryz.ntmps100;go_wp2
 go_ret3
 exact ⟨rfl,nH _ _ _ _⟩
theorem xA (w:YJ) (bw ow kC:Nat) (ws:List Int) (sp wd:Int) (hd0:1<=wd) (hd1:wd<=1048576) (hs0:0<=sp) (hs1:sp<=1048576) (hn:ws.length<=4096) (hcap:ws.length<=kC) (hbad:¬ ∀ x∈ws,(0:Int)<=x/\x<=1048576) (hcw:∀ j x,ws[j]?=some x->w.cell? ⟨bw,ow+j,none⟩=some (.int .i64 x)) : Calls Tryz.prog 100 #[.slice (some ⟨bw,ow,none⟩) ws.length kC,.int .i64 sp,.int .i64 wd] w (Je w):=by
 have HB:=hid hbad;have Jc:=hid hcw;have hn0:0<ws.length:=by
  cases ws with
  | nil=>exact absurd (fun x hx=>by cases hx) hbad
  | cons a l=>simp
 have Jd:bw<w.heap.size:=fJ (hcw 0 _ (XR hn0));clear hbad hcw;go_enter Tryz.func100,Tryz.ntmps100;go_wp2;obtain ⟨w3,hw3⟩:∃ w3,w3=((w.alloc (.cells #[.slice (some ⟨bw,ow,none⟩) ws.length kC] 140)).alloc (.cells #[.int .i64 sp] 3)).alloc (.cells #[.int .i64 wd] 3):=⟨_,rfl⟩;rw [<- hw3];have hb3:Below w.heap.size w w3:=by rw [hw3];exact nH _ _ _ _
 have Co:Hid (∀ j x,ws[j]?=some x->w3.cell? ⟨bw,ow+j,none⟩=some (.int .i64 x)):=fun j x h=>by rw [hb3.cell (p:=⟨bw,ow+j,none⟩) Jd];exact Jc.out j x h
 clear hw3 Jc
 go_loop [32] (fun i=>∃ k:Nat,k<=ws.length/\i=.int .i64 k/\∀ j x,j<k->ws[j]?=some x->(0:Int)<=x/\x<=1048576) (fun i=>ws.length-(intOf i).toNat)
 case atStart=>exact ⟨0,Nat.zero_le _,rfl,fun j x h=>absurd h (by omega)⟩
 case round=>
  obtain ⟨k,hk,rfl,hall⟩:=hrel;have HA:=hid hall;clear hall;by_cases hlt:k<ws.length
  ·obtain ⟨x,hwf⟩:∃ x,ws[k]?=some x:=⟨_,XR hlt⟩;have c0:=Co.out k _ hwf;have HW:=hid hwf;clear hwf;by_cases b0:x<0
   ·have e1:decide (x<0)=true:=by simpa using b0
    go_wp2
    go_ret3
    exact ⟨rfl,hb3⟩
   ·have e1:decide (x<0)=false:=by simpa using b0
    by_cases b1:1048576<x
    ·have e2:decide (1048576<x)=true:=by simpa using b1
     go_wp2
     go_ret3
     exact ⟨rfl,hb3⟩
    ·have e2:decide (1048576<x)=false:=by simpa using b1
     go_wp2
     go_round
     case rel=>
      refine ⟨k+1,by omega,by go_num,fun j y hj hy=>?_⟩;by_cases hjk:j=k
      ·subst hjk;have:=HW.out;rw [hy] at this;simp at this;omega
      ·exact HA.out j y (by omega) hy
     case measure=>simp [intOf];omega
  ·refine absurd (fun x hx=>?_) HB.out;obtain ⟨j,hj,e⟩:=List.mem_iff_getElem.1 hx;exact HA.out j x (by omega) (by rw [XR hj,e])
theorem tY (w:YJ) (a:Option Addr) (cap:Nat) (sp wd:Int) (hd0:1<=wd) (hd1:wd<=1048576) (hs0:0<=sp) (hs1:sp<=1048576) : Calls Tryz.prog 100 #[.slice a 0 cap,.int .i64 sp,.int .i64 wd] w (wZ w [] sp wd):=by
 obtain ⟨iD,Sb,LX,LY,Qb⟩:=info_parts GV;have hmk:∀ w:YJ,(Instr.makeSlice 161 (.int .i64 1) (.int .i64 1)).run Tryz.prog w=.ok (.slice (some ⟨w.heap.size,0,none⟩) 1 1) (w.alloc (.cells #[.int .i64 0,.int .i64 0,.int .i64 0] 163)):=fun _=>by kernel_rfl
 go_enter Tryz.func100,Tryz.ntmps100;go_wp2;refine wp_loop_rounds 1 ?_;rw [rounds_succ];go_wp2;refine wp_loop_rounds 1 ?_;rw [rounds_succ];go_wp2;refine wp_loop_rounds 1 ?_;rw [rounds_succ];go_wp2_with fail
 go_quiet (fail)
 go_wp2
 go_ret3
 refine ⟨.slice none 0 0,rfl,⟨rfl,.inl ⟨rfl,rfl⟩⟩,?_⟩;exact q01 ((((((((Below.refl _ _).alloc (Nat.le_refl _) _).alloc (by simp) _).alloc (by simp;omega) _).alloc (by simp;omega) _).alloc (by simp;omega) _).alloc (by simp;omega) _)) _
open Go.RowKit
open Go.RowKit
theorem Cq (ws:List Int) (sp wd:Int):Ch ws sp wd\/(wd<1\/1048576<wd\/sp<0\/1048576<sp)\/((1<=wd/\wd<=1048576/\0<=sp/\sp<=1048576)/\¬ ∀ x∈ws,(0:Int)<=x/\x<=1048576):=by
 by_cases h:wd<1\/1048576<wd\/sp<0\/1048576<sp
 ·exact .inr (.inl h)
 ·by_cases h':∀ x∈ws,(0:Int)<=x/\x<=1048576
  ·exact .inl ⟨by omega,by omega,h'⟩
  ·exact .inr (.inr ⟨by omega,h'⟩)
def lG (ws:List Int):List Value:=ws.map (Value.int .i64)
theorem nI {w:YJ} {b off:Nat} {ws:List Int} (h:∀ j u,(lG ws)[j]?=some u->w.cell? ⟨b,off+j,none⟩=some u) : ∀ j x,ws[j]?=some x->w.cell? ⟨b,off+j,none⟩=some (.int .i64 x):=
 fun j x hx=>h j _ (by simp [lG,hx])
theorem Ah (w:YJ) (vw:Value) (ws:List Int) (sp wd:Int) (hs:jH w 1 vw ws.length (lG ws)) (hn:ws.length<=4096) : Calls Tryz.prog 100 #[vw,.int .i64 sp,.int .i64 wd] w fun e w'=>(Ch ws sp wd/\wZ w ws sp wd e w')\/(¬ Ch ws sp wd/\Je w e w'):=by
 obtain ⟨-,a,cap,rfl,h1,h2,h3⟩:=hs;rcases Cq ws sp wd with hok | hr | ⟨hr,hb⟩
 ·rcases Nat.eq_zero_or_pos ws.length with h0 | hpos
  ·obtain rfl:=List.length_eq_zero_iff.1 h0;exact (tY w a cap sp wd hok.wd.1 hok.wd.2 hok.sp.1 hok.sp.2).mono fun e w' h=>.inl ⟨hok,h⟩
  ·rcases h3 with h3 | ⟨b,off,rfl,hc⟩
   ·omega
   ·exact (Cj w b off cap ws sp wd hok hpos hn h1 h2 (nI hc)).mono fun e w' h=>.inl ⟨hok,h⟩
 ·exact (tX w a ws.length cap sp wd hr).mono fun e w' h=>.inr ⟨fun hok=>by have:=hok.wd;have:=hok.sp;omega,h⟩
 ·rcases h3 with h3 | ⟨b,off,rfl,hc⟩
  ·obtain rfl:=List.length_eq_zero_iff.1 h3;exact absurd (fun x hx=>by cases hx) hb
  ·exact (xA w b off cap ws sp wd hr.1 hr.2.1 hr.2.2.1 hr.2.2.2 hn h1 hb (nI hc)).mono fun e w' h=>.inr ⟨fun hok=>hb hok.ws,h⟩
end Go.Proofs.YtnmldmofggkoeaaGreatDoor

