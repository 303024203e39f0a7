/- The contract of wrap.Break at arguments in range: the first words of the lines of the best division, and its cost. The contract of publisherref38.best: the table that it fills is the plain one. The contracts of wrap.Break outside its range, and without words. The contracts of publisherref38.Break: the same answers as those of wrap.Break. Both Breaks at whatever arguments of at most 4096 words. -/
import Derived.Test.YtnmldmofggkoeaaGreatDoorKBreakIn
import Derived.OneCell
set_option maxHeartbeats 1000000
set_option maxRecDepth 100000
open Go.Lib (hid)
namespace Go.Proofs.YtnmldmofggkoeaaGreatDoor
open List renaming getElem?_eq_getElem->YG,getElem?_eq_none->Zk
open Go renaming World->Zu
open Go.RowKit
set_option linter.unusedVariables false
set_option linter.unusedSimpArgs false
theorem Ck:(Tryz.prog.info? 3).map (fun i=>(i.zero,i.size,i.bytes))=some (some (.int .i64 0),1,8):=by kernel_rfl
theorem Hz:(Tryz.prog.info? 163).map (fun i=>(i.zero,i.size,i.bytes))=some (some (.agg #[.int .i64 0,.int .i64 0,.int .i64 0]),3,24):=by kernel_rfl
theorem Mk (N:Nat):(madeCells (Value.agg #[.int .i64 0,.int .i64 0,.int .i64 0]).cells (N*3)).toList=bG (fun _=>⟨0,0,0⟩) N:=by
 apply List.ext_getElem?;intro i;by_cases hi:i<N*3
 ·simp only [madeCells,bG,Value.cells,Array.toList_map,Array.toList_range,List.getElem?_map,List.getElem?_range hi,Option.map_some];have h3:i%3<3:=by omega
  generalize i%3=r at *;have:r=0\/r=1\/r=2:=by omega
  rcases this with rfl | rfl | rfl<;>rfl
 ·rw [Zk (by simp [madeCells];omega),Zk (by simp [gN];omega)]
structure Cm (ws:List Int) (sp wd:Int):Prop where
 wd:1<=wd/\wd<=1048576
 sp:0<=sp/\sp<=1048576
 ws:∀ x∈ws,(0:Int)<=x/\x<=1048576
def xB (w:Zu) (ws:List Int) (sp wd:Int) (e:Ending) (w':Zu):Prop:=
 ∃ v,e=.returned (.tuple #[v,.int .i64 (xC ws sp wd),.int .i64 0])/\w'.ownsRow w.heap.size 3 1 v (uw ws sp wd).length ((uw ws sp wd).map (Value.int .i64))/\Below w.heap.size w w'
def QC (w0 wr:Zu) (n:Nat) (T:Nat->Dv) (F:List Int) (v vi:Value):Prop:=
 ∃ (i f:Nat) (acc:List Int),i<=n/\n<=i+f/\acc.length<=i/\acc++q0z n T f i=F/\vi=.int .i64 i/\wr.ownsRow w0.heap.size 3 1 v acc.length (acc.map (Value.int .i64))/\Below w0.heap.size w0 wr
def Ml (w0 wr:Zu) (B g:Nat) (ws:List Int) (sp wd:Int) (vi:Value):Prop:=
 ∃ k:Nat,k<=ws.length/\vi=.int .i64 ((ws.length:Int)-1-k) /\
  wr.ownsRow B 163 3 (.slice (some ⟨g,0,none⟩) (ws.length+1) (ws.length+1)) (ws.length+1) (bG (tab ws sp wd ws.length k) (ws.length+1))/\w0.grownBy wr (some g)
theorem Cn (w:Zu) (bw ow kM:Nat) (ws:List Int) (sp wd:Int) (hok:Cm ws sp wd) (hn0:0<ws.length) (hn:ws.length<=4096) (hcap:ws.length<=kM) (hcm:kM<=maxLen) (hcw:∀ j x,ws[j]?=some x->w.cell? ⟨bw,ow+j,none⟩=some (.int .i64 x)) : Calls Tryz.prog 100 #[.slice (some ⟨bw,ow,none⟩) ws.length kM,.int .i64 sp,.int .i64 wd] w (xB w ws sp wd):=by
 obtain ⟨⟨hd0,hd1⟩,⟨hs0,hs1⟩,hws⟩:=hok;obtain ⟨iI,Mq,Co,Cq,Cr⟩:=info_parts Ck;obtain ⟨iD,Ti,Mr,Ms,QD⟩:=info_parts Hz;have H8:=hid hws;have Ju:=hid hcw;have Jv:bw<w.heap.size:=fM (hcw 0 _ (YG hn0));clear hws hcw hcm;go_enter Tryz.func100,Tryz.ntmps100;go_wp2;obtain ⟨w3,hw3⟩:∃ w3,w3=((w.alloc (.cells #[.slice (some ⟨bw,ow,none⟩) ws.length kM] 140)).alloc (.cells #[.int .i64 sp] 3)).alloc (.cells #[.int .i64 wd] 3):=⟨_,rfl⟩;rw [<- hw3];have p0:w3.cell? ⟨w.heap.size,0,none⟩=some (.slice (some ⟨bw,ow,none⟩) ws.length kM):=by rw [hw3];simp [go_sem]
 have p1:w3.cell? ⟨w.heap.size+1,0,none⟩=some (.int .i64 sp):=by rw [hw3];simp [go_sem]
 have p2:w3.cell? ⟨w.heap.size+1+1,0,none⟩=some (.int .i64 wd):=by rw [hw3];simp [go_sem]
 have hs3:w3.heap.size=w.heap.size+3:=by rw [hw3];simp
 have hb3:Below w.heap.size w w3:=by rw [hw3];exact (((Below.refl _ _).alloc (Nat.le_refl _) _).alloc (by simp) _).alloc (by simp;omega) _
 have Ct:Hid (∀ j x,ws[j]?=some x->w3.cell? ⟨bw,ow+j,none⟩=some (.int .i64 x)):=fun j x h=>by rw [hb3.cell (p:=⟨bw,ow+j,none⟩) Jv];exact Ju.out j x h
 have Pz:=hid hs3;clear hs3 hw3 Ju
 go_loop [6,32] (fun s6 i=>∃ k:Nat,k<=ws.length/\i=.int .i64 k/\s6=.slice none 0 0) (fun _ i=>ws.length-(intOf i).toNat)
 case atStart=>exact ⟨0,Nat.zero_le _,rfl,rfl⟩
 case round=>
  obtain ⟨k,hk,rfl,rfl⟩:=hrel;by_cases hlt:k<ws.length
  ·obtain ⟨x,hwf⟩:∃ x,ws[k]?=some x:=⟨_,YG hlt⟩;have c0:=Ct.out k _ hwf;obtain ⟨b0,b1⟩:=H8.out _ (List.mem_of_getElem? hwf);clear hwf;go_wp2
   go_round
   case rel=>exact ⟨k+1,by omega,by go_num,rfl⟩
   case measure=>simp [intOf];omega
  ·have hlf:decide (k<ws.length)=false:=by simpa using hlt
   have q0:=fM p0;go_wp2_with (at_make;refine wpList_make_full _ rfl _ _ 161 rfl (w.heap.size+4) 163 iD _ 3 Tryz.underlying161 Ti Mr Ms .i64 .i64 _ _ (ws.length+1) rfl rfl ?m1 ?m2 ?m3 ?m4 ?m5 ?_)
   case m3=>omega
   case m4=>unfold maxLen;omega
   case m5=>have:=Pz.out;omega
   intro w5 hown5 hgr5;have g0:=fM p0;have g1:=fM p1;have g2:=fM p2;have r0:=hgr5.cell (past p0 _) (by simp);have r1:=hgr5.cell (past p1 _) (by simp);have r2:=hgr5.cell (past p2 _) (by simp);have r3:w5.cell? ⟨w3.heap.size,0,none⟩=some (.int .i64 ws.length):=hgr5.cell (by simp [go_sem]) (by simp);have g5:w3.heap.size+1<w5.heap.size:=(hown5.lt _ rfl).2;have hb5:Below w.heap.size w w5:=(hb3.alloc (by omega) _).grown hgr5 (by simp;omega) (by simp);have Mt:Hid (∀ j x,ws[j]?=some x->w5.cell? ⟨bw,ow+j,none⟩=some (.int .i64 x)):=fun j x h=>hgr5.cell (past (Ct.out j x h) _) (by simp)
   rw [show #[Value.int .i64 0,.int .i64 0,.int .i64 0]=(Value.agg #[.int .i64 0,.int .i64 0,.int .i64 0]).cells from rfl,Mk] at hown5;have g6:=fM r3;have Mv:=hid hown5;clear hown5 hgr5 p0 p1 p2 Ct;go_wp2;obtain ⟨w6,xD⟩:∃ w6,w6=w5.alloc (.cells #[.slice (some ⟨w3.heap.size+1,0,none⟩) (ws.length+1) (ws.length+1)] 161):=⟨_,rfl⟩;rw [<- xD];have t0:w6.cell? ⟨w.heap.size,0,none⟩=some (.slice (some ⟨bw,ow,none⟩) ws.length kM):=by rw [xD];exact past r0 _
   have t1:w6.cell? ⟨w.heap.size+1,0,none⟩=some (.int .i64 sp):=by rw [xD];exact past r1 _
   have t2:w6.cell? ⟨w.heap.size+1+1,0,none⟩=some (.int .i64 wd):=by rw [xD];exact past r2 _
   have t3:w6.cell? ⟨w3.heap.size,0,none⟩=some (.int .i64 ws.length):=by rw [xD];exact past r3 _
   have t4:w6.cell? ⟨w5.heap.size,0,none⟩=some (.slice (some ⟨w3.heap.size+1,0,none⟩) (ws.length+1) (ws.length+1)):=by rw [xD];simp [go_sem]
   have hb6:Below w.heap.size w w6:=by rw [xD];exact hb5.alloc (by omega) _
   have QE:Hid (∀ j x,ws[j]?=some x->w6.cell? ⟨bw,ow+j,none⟩=some (.int .i64 x)):=fun j x h=>by rw [xD];exact past (Mt.out j x h) _
   have Vx:Hid (w6.ownsRow (w.heap.size+4) 163 3 (.slice (some ⟨w3.heap.size+1,0,none⟩) (ws.length+1) (ws.length+1)) (ws.length+1) (bG (fun _=>⟨0,0,0⟩) (ws.length+1))):=by rw [xD];exact Mv.out.alloc _
   clear xD r0 r1 r2 r3 Mv Mt;have PD:Hid (∀ x∈ws,(0:Int)<=x):=fun x hx=>(H8.out x hx).1
   go_loopw [14] (fun vi wr=>Ml w6 wr (w.heap.size+4) (w3.heap.size+1) ws sp wd vi) (fun i _=>(intOf i+1).toNat)
   case atStart=>exact ⟨0,Nat.zero_le _,by go_num,Vx.out,World.grownBy.refl _ _⟩
   case round=>
    obtain ⟨k2,hk2,rfl,hown,hgr⟩:=hrel;have HO:=hid hown;have HG:=hid hgr;clear hown hgr;by_cases hkn:k2<ws.length
    ·obtain ⟨fr,hfr⟩:∃ fr:Nat,fr=ws.length-(k2+1):=⟨_,rfl⟩;have hfi:((ws.length:Int)-1-k2)=(fr:Int):=by omega
     rw [hfi];have EX:=hid (fun wr E hcw hown=>xE wr w.heap.size w5.heap.size w3.heap.size (w.heap.size+1+1) (w.heap.size+1) (w3.heap.size+1) bw ow kM ws sp wd E (tab ws sp wd ws.length k2) fr k2 (w.heap.size+4) (by omega) (rV ws sp wd ws.length hd1 hs0 PD.out k2 (by omega)) hn ⟨hd0,hd1⟩ ⟨hs0,hs1⟩ H8.out hcw (by omega) hown);have E:H9 wr w.heap.size w5.heap.size w3.heap.size (w.heap.size+1+1) (w.heap.size+1) (w3.heap.size+1) (.slice (some ⟨bw,ow,none⟩) ws.length kM) ws sp wd:=
      ⟨HG.out.cell t0 (by simp;omega),HG.out.cell t4 (by simp;omega),HG.out.cell t3 (by simp),HG.out.cell t2 (by simp;omega),HG.out.cell t1 (by simp;omega),by omega,by omega,by omega,by omega,by omega⟩
     have Mw:∀ j x,ws[j]?=some x->wr.cell? ⟨bw,ow+j,none⟩=some (.int .i64 x):=fun j x h=>HG.out.cell (QE.out j x h) (by simp;omega)
     have XX:=hid (EX.out wr E Mw HO.out);have HT:Hid (upd (tab ws sp wd ws.length k2) fr (jQ ws sp wd ws.length (tab ws sp wd ws.length k2) fr (k2+1) (fr+1) (ws.getD fr 0) (tab ws sp wd ws.length k2 fr))=tab ws sp wd ws.length (k2+1)):=by rw [tab,hfr,show ws.length-(k2+1)+1=ws.length-k2 from by omega];rfl
     have HF:=hid hfr;have Mx:=hid hfi;have hfl:fr<ws.length:=by omega
     clear hfr hfi EX E Mw;go_wp2_with fail
     refine XX.out.mono ?_;rintro e w7 ⟨rfl,uy,QF⟩;rw [HT.out] at uy;have Vy:=dG HG.out QF;clear XX HT HO HG;go_wp2;go_roundw;case rel=>exact ⟨k2+1,by omega,by have:=HF.out;go_num,uy,Vy⟩
     case measure=>simp [intOf]
    ·have hkk:k2=ws.length:=by omega
     subst hkk;have Vz:decide ((0:Int)<=(ws.length:Int)-1-ws.length)=false:=by simp;omega
     have MB:=rV ws sp wd ws.length hd1 hs0 PD.out ws.length (Nat.le_refl _);obtain ⟨F,hF⟩:∃ F,F=uw ws sp wd:=⟨_,rfl⟩;have HF:Hid (q0z ws.length (tab ws sp wd ws.length ws.length) ws.length 0=F):=hF.symm;have QG:=hid hF;have VB:Hid (xC ws sp wd=(tab ws sp wd ws.length ws.length 0).c):=rfl;clear hF;generalize tab ws sp wd ws.length ws.length=T at *;have QH:=hid MB;clear MB;have u3:=HG.out.cell t3 (by simp);have u4:=HG.out.cell t4 (by simp;omega);have hbel:Below w.heap.size w wr:=hb6.grown HG.out (by have:=hb6.size;omega) (by simp;omega);have hsz:=hbel.size;have hcb:=HO.out.cellAt (0*3+0) (by omega);rw [bS _ _ _ _ (by omega) (by omega)] at hcb;simp only [mh,if_true,Nat.zero_mul,Nat.add_zero] at hcb;clear t0 t1 t2 t3 t4 g0 g1 g2 g5 g6 HG;have v3:=fM u3;have v4:=fM u4;have v5:=fM hcb;go_wp2;obtain ⟨wo,hwo⟩:∃ wo:Zu,wo=wr:=⟨_,rfl⟩;subst hwo
     go_loopw [6,15] (fun v vi wz=>QC wo wz ws.length T F v vi) (fun _ i _=>ws.length-(intOf i).toNat)
     case atStart=>exact ⟨0,ws.length,[],Nat.zero_le _,by omega,by simp,by simpa using HF.out,rfl,⟨rfl,.inl ⟨rfl,rfl⟩⟩,Below.refl _ _⟩
     case round=>
      obtain ⟨i,f,acc,x1,x2,x3,x4,rfl,hown,iC⟩:=hrel;have X4:=hid x4;have hsz2:=iC.size;clear x4;have y3:wr.cell? ⟨w3.heap.size,0,none⟩=some (.int .i64 ws.length):=by rw [iC.cell (p:=⟨w3.heap.size,0,none⟩) v3];exact u3
      have y4:wr.cell? ⟨w5.heap.size,0,none⟩=some (.slice (some ⟨w3.heap.size+1,0,none⟩) (ws.length+1) (ws.length+1)):=by rw [iC.cell (p:=⟨w5.heap.size,0,none⟩) v4];exact u4
      by_cases hil:i<ws.length
      ·have hci:=HO.out.cellAt (i*3+2) (by omega);rw [bS _ _ _ _ (by omega) (by omega)] at hci;simp only [mh,Nat.reduceEqDiff,if_false] at hci;have y5:wr.cell? ⟨w3.heap.size+1,i*3+2,none⟩=some (.int .i64 (T i).nx):=by rw [iC.cell (p:=⟨w3.heap.size+1,i*3+2,none⟩) v5];exact hci
       have hnx:=QH.out.nx i (by omega) hil;have hfn:=hid (qM ws.length T (f-1) i hil);rw [show f-1+1=f from by omega] at hfn;clear hci;generalize (T i).nx=nx at *;obtain ⟨m,rfl⟩:∃ m:Nat,nx=(m:Int):=⟨nx.toNat,by omega⟩;simp only [Int.toNat_natCast] at hfn;have hi1:(i:Int)<(ws.length:Int)+1:=by omega
       go_wp2_with (at_builtin;refine wpList_append_own _ rfl _ _ 140 rfl wo.heap.size 3 iI (.int .i64 0) 1 8 Tryz.underlying140 Mq Co Cq Cr rfl (by decide) _ _ _ rfl (hown.alloc _) ⟨wr.heap.size,0,none⟩ 1 1 [.int .i64 i] rfl rfl ?c1 ?c2 ?c3 ?c4 ?c5 ?_)
       case c1=>exact kN _ _ _
       case c2=>simp [Value.oneCell']
       case c3=>unfold maxLen;omega
       case c4=>omega
       case c5=>simp;omega
       intro v' w8 hown' hgrow _;have iL:=below_app iC hsz2 hown hgrow;have z4:w8.cell? ⟨w5.heap.size,0,none⟩=some (.slice (some ⟨w3.heap.size+1,0,none⟩) (ws.length+1) (ws.length+1)):=by rw [iL.cell (p:=⟨w5.heap.size,0,none⟩) v4];exact u4
       have z5:w8.cell? ⟨w3.heap.size+1,i*3+2,none⟩=some (.int .i64 m):=by rw [iL.cell (p:=⟨w3.heap.size+1,i*3+2,none⟩) v5,<- iC.cell (p:=⟨w3.heap.size+1,i*3+2,none⟩) v5];exact y5
       clear y3 y4 y5;go_wp2;go_roundw;case rel=>exact ⟨m,f-1,acc++[(i:Int)],by omega,by omega,by simp;omega,by rw [<- X4.out,hfn.out];simp,rfl,by simpa using hown',iL⟩
       case measure=>simp [intOf];omega
      ·have hE:=hid (xG ws.length T f i hil);have y6:wr.cell? ⟨w3.heap.size+1,0,none⟩=some (.int .i64 (T 0).c):=by rw [iC.cell (p:=⟨w3.heap.size+1,0,none⟩) v5];exact hcb
       have hi0:(0:Int)<(ws.length:Int)+1:=by omega
       go_wp2_with fail
       go_quiet (fail)
       go_wp2
       go_ret3
       refine ⟨u6,by rw [VB.out];rfl,?_,eY (aM hbel iC) _⟩;have hA:acc=uw ws sp wd:=by have:=X4.out;rw [hE.out,List.append_nil] at this;rw [this,QG.out]
       rw [<- hA];exact kP hown hsz
open Go.RowKit
def eF (f:Nat->Int) (N:Nat):List Value:=(List.range N).map fun j=>Value.int .i64 (f j)
theorem eG (f:Nat->Int) (N:Nat):(eF f N).length=N:=by simp [eF]
theorem gP (f:Nat->Int) (N j:Nat) (hj:j<N):(eF f N)[j]?=some (.int .i64 (f j)):=by unfold eF;rw [List.getElem?_map,List.getElem?_range hj];rfl
theorem xH (f:Nat->Int) (N j:Nat) (hj:j<N) (x:Int):(eF f N).set j (.int .i64 x)=eF (fun i=>if i=j then x else f i) N:=by
 apply List.ext_getElem?;intro i;by_cases hi:i<N
 ·rw [gP _ _ _ hi,List.getElem?_set,eG];by_cases e:j=i
  ·subst e;simp [hj]
  ·rw [if_neg e,gP _ _ _ hi,if_neg (fun h=>e h.symm)]
 ·rw [Zk (by simp [eG];omega),Zk (by simp [eG];omega)]
theorem ME (N:Nat):(madeCells (Value.int .i64 0).cells (N*1)).toList=eF (fun _=>0) N:=by
 apply List.ext_getElem?;intro i;by_cases hi:i<N
 ·simp [madeCells,eF,Value.cells,hi,Nat.mod_one]
 ·rw [Zk (by simp [madeCells];omega),Zk (by simp [eG];omega)]
open Go.RowKit
def Jw (w:Zu) (e:Ending) (w':Zu):Prop:=
 e=.returned (.tuple #[.slice none 0 0,.int .i64 0,.int .i64 9])/\Below w.heap.size w w'
theorem nL (w:Zu) (o1 o2 o3:Obj):Below w.heap.size w (((w.alloc o1).alloc o2).alloc o3):=
 (((Below.refl _ _).alloc (Nat.le_refl _) _).alloc (by simp) _).alloc (by simp;omega) _
theorem uz (w:Zu) (a:Option Addr) (n cap:Nat) (sp wd:Int) (h:wd<1\/1048576<wd\/sp<0\/1048576<sp) : Calls Tryz.prog 100 #[.slice a n cap,.int .i64 sp,.int .i64 wd] w (Jw w):=by
 by_cases h1:wd<1
 ·have e1:decide (wd<1)=true:=by simpa using h1
  go_enter Tryz.func100,Tryz.ntmps100;go_wp2
  go_ret3
  exact ⟨rfl,nL _ _ _ _⟩
 have e1:decide (wd<1)=false:=by simpa using h1
 by_cases h2:1048576<wd
 ·have e2:decide (1048576<wd)=true:=by simpa using h2
  go_enter Tryz.func100,Tryz.ntmps100;go_wp2
  go_ret3
  exact ⟨rfl,nL _ _ _ _⟩
 have e2:decide (1048576<wd)=false:=by simpa using h2
 by_cases h3:sp<0
 ·have e3:decide (sp<0)=true:=by simpa using h3
  go_enter Tryz.func100,Tryz.ntmps100;go_wp2
  go_ret3
  exact ⟨rfl,nL _ _ _ _⟩
 have e3:decide (sp<0)=false:=by simpa using h3
 have h4:1048576<sp:=by omega
 have e4:decide (1048576<sp)=true:=by simpa using h4
 go_enter Tryz.func100,Tryz.ntmps100;go_wp2
 go_ret3
 exact ⟨rfl,nL _ _ _ _⟩
theorem xI (w:Zu) (bw ow kM:Nat) (ws:List Int) (sp wd:Int) (hd0:1<=wd) (hd1:wd<=1048576) (hs0:0<=sp) (hs1:sp<=1048576) (hn:ws.length<=4096) (hcap:ws.length<=kM) (hbad:¬ ∀ x∈ws,(0:Int)<=x/\x<=1048576) (hcw:∀ j x,ws[j]?=some x->w.cell? ⟨bw,ow+j,none⟩=some (.int .i64 x)) : Calls Tryz.prog 100 #[.slice (some ⟨bw,ow,none⟩) ws.length kM,.int .i64 sp,.int .i64 wd] w (Jw w):=by
 have HB:=hid hbad;have Ju:=hid hcw;have hn0:0<ws.length:=by
  cases ws with
  | nil=>exact absurd (fun x hx=>by cases hx) hbad
  | cons a l=>simp
 have Jv:bw<w.heap.size:=fM (hcw 0 _ (YG hn0));clear hbad hcw;go_enter Tryz.func100,Tryz.ntmps100;go_wp2;obtain ⟨w3,hw3⟩:∃ w3,w3=((w.alloc (.cells #[.slice (some ⟨bw,ow,none⟩) ws.length kM] 140)).alloc (.cells #[.int .i64 sp] 3)).alloc (.cells #[.int .i64 wd] 3):=⟨_,rfl⟩;rw [<- hw3];have hb3:Below w.heap.size w w3:=by rw [hw3];exact nL _ _ _ _
 have Ct:Hid (∀ j x,ws[j]?=some x->w3.cell? ⟨bw,ow+j,none⟩=some (.int .i64 x)):=fun j x h=>by rw [hb3.cell (p:=⟨bw,ow+j,none⟩) Jv];exact Ju.out j x h
 clear hw3 Ju
 go_loop [32] (fun i=>∃ k:Nat,k<=ws.length/\i=.int .i64 k/\∀ j x,j<k->ws[j]?=some x->(0:Int)<=x/\x<=1048576) (fun i=>ws.length-(intOf i).toNat)
 case atStart=>exact ⟨0,Nat.zero_le _,rfl,fun j x h=>absurd h (by omega)⟩
 case round=>
  obtain ⟨k,hk,rfl,hall⟩:=hrel;have HA:=hid hall;clear hall;by_cases hlt:k<ws.length
  ·obtain ⟨x,hwf⟩:∃ x,ws[k]?=some x:=⟨_,YG hlt⟩;have c0:=Ct.out k _ hwf;have HW:=hid hwf;clear hwf;by_cases b0:x<0
   ·have e1:decide (x<0)=true:=by simpa using b0
    go_wp2
    go_ret3
    exact ⟨rfl,hb3⟩
   ·have e1:decide (x<0)=false:=by simpa using b0
    by_cases b1:1048576<x
    ·have e2:decide (1048576<x)=true:=by simpa using b1
     go_wp2
     go_ret3
     exact ⟨rfl,hb3⟩
    ·have e2:decide (1048576<x)=false:=by simpa using b1
     go_wp2
     go_round
     case rel=>
      refine ⟨k+1,by omega,by go_num,fun j y hj hy=>?_⟩;by_cases hjk:j=k
      ·subst hjk;have:=HW.out;rw [hy] at this;simp at this;omega
      ·exact HA.out j y (by omega) hy
     case measure=>simp [intOf];omega
  ·refine absurd (fun x hx=>?_) HB.out;obtain ⟨j,hj,e⟩:=List.mem_iff_getElem.1 hx;exact HA.out j x (by omega) (by rw [YG hj,e])
theorem uD (w:Zu) (a:Option Addr) (cap:Nat) (sp wd:Int) (hd0:1<=wd) (hd1:wd<=1048576) (hs0:0<=sp) (hs1:sp<=1048576) : Calls Tryz.prog 100 #[.slice a 0 cap,.int .i64 sp,.int .i64 wd] w (xB w [] sp wd):=by
 obtain ⟨iD,Ti,Mr,Ms,QD⟩:=info_parts Hz;have hmk:∀ w:Zu,(Instr.makeSlice 161 (.int .i64 1) (.int .i64 1)).run Tryz.prog w=.ok (.slice (some ⟨w.heap.size,0,none⟩) 1 1) (w.alloc (.cells #[.int .i64 0,.int .i64 0,.int .i64 0] 163)):=fun _=>by kernel_rfl
 go_enter Tryz.func100,Tryz.ntmps100;go_wp2;refine wp_loop_rounds 1 ?_;rw [rounds_succ];go_wp2;refine wp_loop_rounds 1 ?_;rw [rounds_succ];go_wp2;refine wp_loop_rounds 1 ?_;rw [rounds_succ];go_wp2_with fail
 go_quiet (fail)
 go_wp2
 go_ret3
 refine ⟨.slice none 0 0,rfl,⟨rfl,.inl ⟨rfl,rfl⟩⟩,?_⟩;exact eY ((((((((Below.refl _ _).alloc (Nat.le_refl _) _).alloc (by simp) _).alloc (by simp;omega) _).alloc (by simp;omega) _).alloc (by simp;omega) _).alloc (by simp;omega) _)) _
open Go.RowKit
open Go.RowKit
theorem Cu (ws:List Int) (sp wd:Int):Cm ws sp wd\/(wd<1\/1048576<wd\/sp<0\/1048576<sp)\/((1<=wd/\wd<=1048576/\0<=sp/\sp<=1048576)/\¬ ∀ x∈ws,(0:Int)<=x/\x<=1048576):=by
 by_cases h:wd<1\/1048576<wd\/sp<0\/1048576<sp
 ·exact .inr (.inl h)
 ·by_cases h':∀ x∈ws,(0:Int)<=x/\x<=1048576
  ·exact .inl ⟨by omega,by omega,h'⟩
  ·exact .inr (.inr ⟨by omega,h'⟩)
def lN (ws:List Int):List Value:=ws.map (Value.int .i64)
theorem nM {w:Zu} {b off:Nat} {ws:List Int} (h:∀ j u,(lN ws)[j]?=some u->w.cell? ⟨b,off+j,none⟩=some u) : ∀ j x,ws[j]?=some x->w.cell? ⟨b,off+j,none⟩=some (.int .i64 x):=
 fun j x hx=>h j _ (by simp [lN,hx])
theorem Ar (w:Zu) (vw:Value) (ws:List Int) (sp wd:Int) (hs:lQ w 1 vw ws.length (lN ws)) (hn:ws.length<=4096) : Calls Tryz.prog 100 #[vw,.int .i64 sp,.int .i64 wd] w fun e w'=>(Cm ws sp wd/\xB w ws sp wd e w')\/(¬ Cm ws sp wd/\Jw w e w'):=by
 obtain ⟨-,a,cap,rfl,h1,h2,h3⟩:=hs;rcases Cu ws sp wd with hok | hr | ⟨hr,hb⟩
 ·rcases Nat.eq_zero_or_pos ws.length with h0 | hpos
  ·obtain rfl:=List.length_eq_zero_iff.1 h0;exact (uD w a cap sp wd hok.wd.1 hok.wd.2 hok.sp.1 hok.sp.2).mono fun e w' h=>.inl ⟨hok,h⟩
  ·rcases h3 with h3 | ⟨b,off,rfl,hc⟩
   ·omega
   ·exact (Cn w b off cap ws sp wd hok hpos hn h1 h2 (nM hc)).mono fun e w' h=>.inl ⟨hok,h⟩
 ·exact (uz w a ws.length cap sp wd hr).mono fun e w' h=>.inr ⟨fun hok=>by have:=hok.wd;have:=hok.sp;omega,h⟩
 ·rcases h3 with h3 | ⟨b,off,rfl,hc⟩
  ·obtain rfl:=List.length_eq_zero_iff.1 h3;exact absurd (fun x hx=>by cases hx) hb
  ·exact (xI w b off cap ws sp wd hr.1 hr.2.1 hr.2.2.1 hr.2.2.2 hn h1 hb (nM hc)).mono fun e w' h=>.inr ⟨fun hok=>hb hok.ws,h⟩
end Go.Proofs.YtnmldmofggkoeaaGreatDoor

