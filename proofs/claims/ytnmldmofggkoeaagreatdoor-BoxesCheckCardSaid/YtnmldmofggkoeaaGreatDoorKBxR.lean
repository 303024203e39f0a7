/- Contracts of (*maker).block, kind by kind: what ends in a leaf. Contract of (*maker).blocks, where each block has its contract. Contract of (*maker).blocks, where each block has its contract: the walk. -/
import Derived.Test.YtnmldmofggkoeaaGreatDoorKBxP
import Derived.Test.YtnmldmofggkoeaaGreatDoorKBxA
import Derived.BigGuardPart
set_option maxHeartbeats 8000000
set_option maxRecDepth 100000
open Go.Lib (hid)
namespace Go.Proofs.YtnmldmofggkoeaaGreatDoor
open List renaming getElem?_eq_getElem->XR,length_map->X0,mem_of_getElem?->X9,getElem?_map->Ye
open Go.RowKit.Below renaming refl->XT
open Nat renaming le_refl->XU
open Go renaming World->YJ,Value->YL
open Go.RowKit renaming Below->YK
open Go.RowKit
set_option linter.unusedVariables false
set_option linter.unusedSimpArgs false
def mP (p:Px) (h:Int) (keep:Nat->Bool) (ts:List ByteArray) (k:Nat):List Bx:=(List.range k).map fun i=>Bx.new (p.text i (ts.getD i ⟨#[]⟩)) h (keep i)
theorem FM (p:Px) (h:Int) (keep:Nat->Bool) (ts:List ByteArray) (k:Nat):(mP p h keep ts k).length=k:=by simp [mP]
theorem uI (p:Px) (h:Int) (keep:Nat->Bool) (ts:List ByteArray) (k:Nat) (x:ByteArray) (hx:ts[k]?=some x):mP p h keep ts (k+1)=mP p h keep ts k++[Bx.new (p.text (mP p h keep ts k).length x) h (keep k)]:=by rw [FM];unfold mP;rw [List.range_succ,List.map_append,List.map_singleton,List.getD_eq_getElem?_getD,hx];rfl
theorem jq (p:Px) (h:Int) (keep:Nat->Bool) (ts:List ByteArray) (k:Nat):∀ y∈mP p h keep ts k,y.an=[]:=by intro y hy;obtain ⟨i,-,rfl⟩:=List.mem_map.1 hy;rfl
def bW (q N:Nat) (w5:YJ) (p:Px) (h:Int) (keep:Nat->Bool) (ts:List ByteArray) (vi:YL) (wr:YJ):Prop:=
 ∃ (k:Nat) (v:YL),k<=ts.length/\vi=.int .i64 k/\CB 99 q [.string p.first,.string p.rest,v] wr/\aI 37 6 (fun _=>False) N wr.heap.size ((mP p h keep ts k).map Bx.d) ((mP p h keep ts k).map bH) v wr/\aN (fun b=>b=q) w5 wr
theorem bW.zero {q:Nat} {w5:YJ} (p:Px) (h:Int) (keep:Nat->Bool) (ts:List ByteArray) (hc:CB 99 q [.string p.first,.string p.rest,.slice none 0 0] w5):bW q w5.heap.size w5 p h keep ts (.int .i64 0) w5:=
 ⟨0,_,Nat.zero_le _,rfl,hc,aI.nil _ _ _ (XU _),aN.refl _ _⟩
theorem bW.step {q:Nat} {w5 wr w':YJ} {p:Px} {h:Int} {keep:Nat->Bool} {ts:List ByteArray} {k:Nat} {x:ByteArray} {v:YL} {e:Ending} {U:Nat} {b:Bool} (hk:k<ts.length) (hx:ts[k]?=some x) (hb:keep k=b) (hr:aI 37 6 (fun _=>False) w5.heap.size U ((mP p h keep ts k).map Bx.d) ((mP p h keep ts k).map bH) v wr) (hf:aN (fun b=>b=q) w5 wr) (ha:rX q p (mP p h keep ts k++[Bx.new (p.text (mP p h keep ts k).length x) h b]) w5.heap.size wr v e w'):bW q w5.heap.size w5 p h keep ts (.int .i64 ((k+1:Nat):Int)) w':=by
 obtain ⟨-,v',h1,h2,h3⟩:=ha;rw [<- hb,<- uI p h keep ts k x hx] at h2;refine ⟨k+1,v',hk,rfl,h1,h2,hf.trans h3 (fun b hb e=>?_)⟩;rcases e with e | e
 ·exact e
 ·have:=(hr.own.lt b e).1;omega
theorem Dj (w:YJ) (cs:List YL) (f r:ByteArray):∃ S q w3,S=w.heap.size/\q=S+1+1/\w3=((w.alloc (.cells cs.toArray 47)).alloc (.cells #[.string f,.string r] 66)).alloc (.cells #[.string f,.string r,.slice none 0 0] 99) /\ CB 47 S cs w3/\CB 66 (S+1) [.string f,.string r] w3/\CB 99 q [.string f,.string r,.slice none 0 0] w3/\YK w.heap.size w w3/\w3.heap.size=S+3:=by
 obtain ⟨w1,hw1⟩:∃ w1,w1=w.alloc (.cells cs.toArray 47):=⟨_,rfl⟩;obtain ⟨w2,hw2⟩:∃ w2,w2=w1.alloc (.cells #[.string f,.string r] 66):=⟨_,rfl⟩;obtain ⟨w3,hw3⟩:∃ w3,w3=w2.alloc (.cells #[.string f,.string r,.slice none 0 0] 99):=⟨_,rfl⟩;have z1:w1.heap.size=w.heap.size+1:=by rw [hw1];simp
 have z2:w2.heap.size=w.heap.size+2:=by rw [hw2];simp [z1]
 have k1:CB 47 w.heap.size cs w1:=by rw [hw1];exact CB.new _ _ _
 have k2:CB 66 (w.heap.size+1) [.string f,.string r] w2:=by rw [hw2,<- z1];exact CB.new _ _ _
 have k3:CB 99 (w.heap.size+2) [.string f,.string r,.slice none 0 0] w3:=by rw [hw3,<- z2];exact CB.new _ _ _
 have b2:YK w1.heap.size w1 w2:=by rw [hw2];exact (XT _ _).alloc (XU _) _
 have b3:YK w2.heap.size w2 w3:=by rw [hw3];exact (XT _ _).alloc (XU _) _
 have b1:YK w.heap.size w w1:=by rw [hw1];exact (XT _ _).alloc (XU _) _
 refine ⟨w.heap.size,_,w3,rfl,rfl,by rw [hw3,hw2,hw1],(k1.below b2).below b3,k2.below b3,k3,aL (aL b1 b2) b3,by rw [hw3];simp [z2]⟩
structure lM (m:Nat) (W:Int) (w0:YJ) (st:St) (vp:YL) (p:Px) (x:Nat) (w:YJ):Prop where
 m0:w0.heap.size<=m
 b0:YK w0.heap.size w0 w
 uJ:nN m W st vp w
 wd:1<=W/\W<=1048576
 fit:Fits x st p
 tab:TabAt w0
 ml:kG w0
theorem lM.up {m:Nat} {W:Int} {w0:YJ} {st:St} {vp:YL} {p:Px} {x:Nat} {w w1:YJ} (h:lM m W w0 st vp p x w) (hb:YK w.heap.size w w1):lM m W w0 st vp p x w1:=⟨h.m0,aL h.b0 hb,h.uJ.below hb,h.wd,h.fit,h.tab,h.ml⟩
theorem lM.xO {m:Nat} {W:Int} {w0:YJ} {st:St} {vp:YL} {p:Px} {x:Nat} {w w1:YJ} (h:lM m W w0 st vp p x w) {P:Nat->Prop} (hf:aN P w w1) (hp:∀ b,P b->m<=b):YK w0.heap.size w0 w1:=
 h.b0.trans (hf.below _ h.b0.size (fun b e=>Nat.le_trans h.m0 (hp b e)))
theorem wS.to {w0 w1:YJ} {a:At} {li:List ah} {ks:List aj} {vc vp vl vk:YL} (h:wS (·<w0.heap.size) w0 a li ks vc vp vl vk) (hb:YK w0.heap.size w0 w1):wS (·<w1.heap.size) w1 a li ks vc vp vl vk:=
 ⟨⟨h.at_.cls.up hb,h.at_.aS.up hb⟩,h.line.up hb,h.kids.up hb⟩
theorem xP (k:Nat):∀ (s:ByteArray),((Lib.splitB CG 0 k s).map (·.size)).sum<=s.size:=by
 induction k with
 | zero=>intro s;rw [Lib.splitB];simp
 | succ k ih=>
  intro s;rw [Lib.splitB];split
  ·simp
  ·have h:=ih (s.extract ((Lib.indexB s CG).toNat+CG.size) s.size);rw [List.map_cons,List.sum_cons];rw [ByteArray.size_extract] at h ⊢;omega
theorem Dk (x:ByteArray) (wd:Int) (h:wd<=1048576):(rU x wd).length<=x.size+1:=by have h1:=(Dl (jh x) 30 wd (by decide) h).len;have h2:=AJ x;unfold rU xQ;rw [X0,List.length_range];omega
theorem nS (wd:Int) (h:wd<=1048576):∀ (l:List ByteArray),(pX wd l).length<=(l.map (·.size)).sum+l.length
 | []=>by simp [pX]
 | x::l=>by
  have h1:=Dk x wd h;have h2:=nS wd h l;unfold pX at h2 ⊢;rw [List.flatMap_cons,List.length_append,List.map_cons,List.sum_cons,List.length_cons];omega
theorem nT (s:ByteArray) (wd:Int) (h:wd<=1048576):(pX wd (fM s)).length<=2*s.size+1:=by have h1:=nS wd h (fM s);have h2:=xP (Lib.countB s CG) s;have h3:=kH s;unfold fM at *;omega
theorem iQ (p:Px) (W:Int) (h:1<=W/\W<=1048576):1<=p.inner W/\p.inner W<=1048576:=by unfold Px.inner;omega
theorem nU (li:List ah) (p:Px) (W:Int) (h:1<=W/\W<=1048576):(dF li (p.inner W)).length<=2*(ah.aA li).length+1/\dF li (p.inner W)≠[]:=by
 have h1:=nT (eZ li) (p.inner W) (iQ p W h).2;have h2:(eZ li).size=(ah.aA li).length:=by show (ah.aA li).toArray.size=_;rw [List.size_toArray]
 unfold dF lK;split
 ·simp
 ·rename_i h3;exact ⟨by omega,h3⟩
theorem uK (li:List ah) (wd:Int) (hsh:(ah.aA li).length<=100000) (hle:iN li=0):∀ x∈dF li wd,x.size<=1000000000:=by
 intro x hx;unfold dF lK at hx;split at hx
 ·simp at hx;rw [hx];show (0:Nat)<=_;omega
 ·unfold pX at hx;obtain ⟨s,hs,hx⟩:=List.mem_flatMap.1 hx;have h1:=jg _ s hs;have h2:(eZ li).size=(ah.aA li).length:=by show (ah.aA li).toArray.size=_;rw [List.size_toArray]
  have h3:=(nP (iM _ hle s hs)).1;unfold rU xQ at hx;obtain ⟨j,-,rfl⟩:=List.mem_map.1 hx;have h4:=qL (jh s) 100000 (fun y hy=>by have:=nV s y hy;omega) (qM (jh s) (tT (bO (jh s)) 30 wd) j) (qN (tT (bO (jh s)) 30 wd) j);have h5:(jh s).length*(1+100000)<=4096*100001:=Nat.mul_le_mul h3 (by omega);unfold jM;omega
theorem eG (t:ByteArray):(ig t).size<=t.size:=by show (Lib.trimSuffix t.data.toList [10]).toArray.size<=_;rw [List.size_toArray];have:=Lib.trimSuffix_le t.data.toList [10];rw [Lib.size_eq];exact this
theorem qO (s:ByteArray) (w:YJ) (hs:s.size<=1000000) (hm:kG w):Calls Tryz.prog 57 #[.string s,.string ⟨#[10]⟩] w fun e w'=>e=.returned (.slice (some ⟨w.heap.size,0,none⟩) (fM s).length (fM s).length)/\w'=w.alloc (.cells ((fM s).map Value.string).toArray 9):=by obtain ⟨m,hm⟩:=hm;have h:=Tryz.strings_Split s CG m w (by omega) hm (by decide);rw [fV];exact h
def fD (n:Nat):Nat->Bool:=fun j=>decide (1<n)&&(decide (j=0)||decide (j+2=n))
theorem Dm (m:Nat) (W:Int) (w0:YJ) (st:St) (vp:YL) (p:Px) (k lv:Int) (i t d ti:ByteArray) (at_:At) (li:List ah) (ks:List aj) (vc pY vl vk:YL) (w:YJ) (hk:k=1\/k=2\/k=3\/k=4\/k=5) (hin:lM m W w0 st vp p (aj.mk k lv i t d ti at_ li ks).mg w) (hR:wS (·<w0.heap.size) w0 at_ li ks vc pY vl vk) (hsh:(ah.aA li).length<=100000) (hle:iN li=0) (ht:t.size<=100000) (Pb:(iy (ah.aD li)).length<=100000) : Calls Tryz.prog 44 #[.pointer (some ⟨m,0,none⟩),.agg #[.int .i64 k,.int .i64 lv,.string i,.string t,.string d,.string ti,.string at_.id,vc,pY,vl,vk],.agg #[.string p.first,.string p.rest]] w (bT m W w vp (aj.iF W st p (.mk k lv i t d ti at_ li ks))):=by
 obtain ⟨ac,nc,cc,rfl⟩:=Rd.au hR.at_.cls
 obtain ⟨ap,np,cp,rfl⟩:=Rd.au hR.at_.aS
 obtain ⟨al,nl,cl,rfl⟩:=Rd.au hR.line;obtain ⟨ak,nk,ck,rfl⟩:=Rd.au hR.kids;obtain ⟨S,q,w3,hS,hq,hw3,kb,kp,kl,b3,z3⟩:=Dj w [.int .i64 k,.int .i64 lv,.string i,.string t,.string d,.string ti,.string at_.id,.slice ac nc cc,.slice ap np cp,.slice al nl cl,.slice ak nk ck] p.first p.rest
 have hfit:=hin.fit;have hv:(aj.mk k lv i t d ti at_ li ks).mg=30+i.size+2*t.size+2*(ah.aA li).length+(iy (ah.aD li)).length+aj.bg ks:=by rw [aj.mg]
 have g1:=hfit.f;have g2:=hfit.r;have g3:=hfit.g;have g4:=hfit.c;have g5:=hfit.p;have hown:(cK at_ li).length<=(iy (ah.aD li)).length+1:=by unfold cK Av;split<;>simp
 have Mw:=hid (hin.up b3);have Dn:=(hin.up b3).b0;have HR:=hid hR;have KB:=hid kb;have KP:=hid kp;have KL:=hid kl;have B3:=hid b3;have HS:=hid hS;have uL:=hid hin;have Vn:=hid (show (iy (ah.aD li)).length<=100000 from Pb);have Vo:=hid (fun (b:Nat) (e:vp.ownBlock=some b)=>(by rw [hS];exact (hin.uJ.own.lt b e).2:b<S));have HQ:=hid hq;have Z3:=hid z3;have WD:=hid hin.wd;have Ho:m<S:=by rw [hS];exact hin.uJ.cb.lt
 have zy:=hid Ho;have d0:=kb.cell 0 _ rfl;have d2:=kb.cell 2 _ rfl;have d3:=kb.cell 3 _ rfl;have d9:=kb.cell 9 _ rfl;have e0:=kp.cell 0 _ rfl;have e1:=kp.cell 1 _ rfl;have Mx:=(hin.up b3).uJ.cb.cell 0 _ rfl;have C1:=hid (Al p W w3.drew (by omega) (by omega) hin.wd ((hin.tab.below Dn).below (XT _ _).drew));have JA:=hid (iQ p W hin.wd);have FN:=hid (fun (w4:YJ) (hb:YK w3.heap.size w3 w4)=>Aq li (.slice al nl cl) (p.inner W) w4 (hR.line.up (aL Dn hb)) hsh hle (by have:=nT (eZ li) (p.inner W) (iQ p W hin.wd).2;have h2:(eZ li).size=(ah.aA li).length:=(by show (ah.aA li).toArray.size=_;rw [List.size_toArray]);omega) (iQ p W hin.wd).1 (iQ p W hin.wd).2 ((hin.tab.below Dn).below hb) ((hin.ml.below Dn).below hb));have Fe:=hid (fun (w':YJ) (hb:YK w3.heap.size w3 w')=>(⟨(kb.below hb).cell 9 _ rfl,(kp.below hb).cell 0 _ rfl,(kp.below hb).cell 1 _ rfl,((hin.up b3).uJ.cb.below hb).cell 0 _ rfl⟩:w'.cell? ⟨S,9,none⟩=some (.slice al nl cl)/\w'.cell? ⟨S+1,0,none⟩=some (.string p.first)/\w'.cell? ⟨S+1,1,none⟩=some (.string p.rest)/\w'.cell? ⟨m,0,none⟩=some (.int .i64 W)));have S6:=Fe.out _ (XT _ _).drew;have xR:=hid (nU li p W hin.wd);have xS:=hid (uK li (p.inner W) hsh hle);have FP:=hid hfit;have HV:=hid hv;have HOWN:=hid hown;have Sw:=hid hsh;have Sy:=hid hle;have HT:=hid ht;clear kb kp kl b3 z3 hfit hv g3 g4 g5 hown hR hin Dn hsh hle ht Ho Pb;go_enter Tryz.func44,Tryz.ntmps44;go_upto_region 2 with (fail)
 rw [<- hw3,<- hS,<- hq];clear hw3 hS hq;rcases hk with rfl | rfl | rfl | rfl | rfl
 case' inl=>
  go_upto_region 6 with (fail)
  obtain ⟨V,hV⟩:∃ V,V=p.inner W:=⟨_,rfl⟩;rw [<- hV] at C1 FN xR xS JA;have MB:=hid hV;clear hV
  go_region_held3 (fun w'=>w'.cell? ⟨S,9,none⟩=some (.slice al nl cl)/\w'.cell? ⟨S+1,0,none⟩=some (.string p.first)/\w'.cell? ⟨S+1,1,none⟩=some (.string p.rest)/\w'.cell? ⟨m,0,none⟩=some (.int .i64 W))
   (with_reducible assumption)
   (first
    | (go_simp;go_at_call 55;(with_reducible refine C1.out.mono ?_);rintro e w4 ⟨rfl,b4⟩;have B4:=hid (show YK w3.heap.size w3 w4 from (XT _ w3).drew.trans b4);have S4:=Fe.out w4 B4.out;have LC:=hid (FN.out w4 B4.out))
    | (go_simp;go_at_call 54;(with_reducible refine LC.out.mono ?_);rintro e w5 ⟨v5,rfl,h5,b5⟩;obtain ⟨a5,c5,rfl⟩:=lu h5;have B5:=hid (aL B4.out b5);have S5:=Fe.out w5 B5.out;have H5:=hid h5))
  all_goals
   obtain ⟨L,hL⟩:∃ L,L=dF li V:=⟨_,rfl⟩;rw [<- hL] at H5 xR xS;have HL:=hid hL;obtain ⟨n,hn⟩:∃ n,n=L.length:=⟨_,rfl⟩;have hn1:1<=n:=by
    rcases Nat.eq_zero_or_pos n with h | h
    ·exact absurd (List.length_eq_zero_iff.1 (by omega)) xR.out.2
    ·exact h
   have hnm:n<=200001:=by have:=xR.out.1;have:=Sw.out;omega
   rw [<- hL,<- hn];rw [<- hn] at H5;have HN:=hid hn;obtain ⟨g5,cap5,JB,hcap5⟩:=kI H5.out hn1;obtain ⟨rfl,rfl⟩:a5=some ⟨g5,0,none⟩/\c5=cap5:=by simp at JB;exact JB
   have hg5:=H5.out.lt g5 rfl;have Dp:g5≠q:=fun e=>bR H5.out (KL.out.below B5.out) (by decide) (by rw [e];rfl)
   have R0:Hid (bW q w5.heap.size w5 p 1 (fD n) L (.int .i64 0) w5):=bW.zero p 1 (fD n) L (KL.out.below B5.out);have Fg:q<w5.heap.size:=(KL.out.below B5.out).lt;have nW:Hid (aj.iF W st p (.mk 1 lv i t d ti at_ li ks)=q0z st (mP p 1 (fD n) L n) (cK at_ li)):=by show _=_;rw [aj.iF];simp only [ite_true,true_or,or_true,if_neg (show ¬ iN li≠0 from fun h=>h Sy.out),<- MB.out,<- HL.out,kJ,<- HN.out];rfl
   unfold maxLen at *;clear hL hn S6 S4 S5 h5 b4 b5 C1 LC FN Fe B4 d0 d2 d3 d9 e0 e1 Mx JB;go_wp2
   go_loopw [42] (fun vi wr=>bW q w5.heap.size w5 p 1 (fD n) L vi wr) (fun vi _=>n-(intOf vi).toNat)
   case' atStart=>exact R0.out
   case' round=>
    clear R0;obtain ⟨j,v,hj,rfl,hcl,hrow,hfr⟩:=hrel;have hjn:j<=n:=by have:=HN.out;omega
    rcases Nat.lt_or_ge j n with hlt | hge
    case' inl=>
     obtain ⟨x,hx⟩:∃ x,L[j]?=some x:=⟨_,XR (by have:=HN.out;omega)⟩;have hxs:=xS.out x (X9 hx);have c0:wr.cell? ⟨g5,j,none⟩=some (.string x):=by have h1:=H5.out.cellAt j (by omega);rw [Ye,hx] at h1;exact (lF (hfr.blk g5 hg5.2 Dp) (o:=j)).trans h1
     have d0:=((KB.out.below B5.out).fr hfr (fun e=>by have:=HQ.out;have e1:S=q:=e;omega)).cell 0 _ rfl;have hal:=FM p 1 (fD n) L j;have A1:=fun (b:Bool)=>jk q p (mP p 1 (fD n) L j) v w5.heap.size wr.heap.size x 1 b wr (by omega) (by omega) hxs (by omega) hcl Fg hrow
     have HST:=hid (fun (b:Bool) (hb:(fD n) j=b) e w' ha=>bW.step (e:=e) (w':=w') (by have:=HN.out;omega) hx hb hrow hfr ha);have HA1:=hid A1;clear hx hxs hal hcl hrow hfr A1;rcases (by unfold fD;rcases Nat.lt_or_ge 1 n with h1 | h1;rotate_left;exact .inl ⟨by omega,by simp;omega⟩;rcases Nat.eq_zero_or_pos j with h2 | h2;exact .inr (.inl ⟨h1,h2,by simp [h1,h2]⟩);rcases Nat.decEq (j+2) n with h3 | h3;exact .inr (.inr (.inr ⟨h1,by omega,h3,by simp [h3];omega⟩));exact .inr (.inr (.inl ⟨h1,by omega,h3,by simp [h1,h3]⟩)):(¬ 1<n/\fD n j=false)\/(1<n/\j=0/\fD n j=true)\/(1<n/\j≠0/\j+2=n/\fD n j=true)\/(1<n/\j≠0/\j+2≠n/\fD n j=false)) with ⟨h1,hb⟩ | ⟨h1,h2,hb⟩ | ⟨h1,h2,h3,hb⟩ | ⟨h1,h2,h3,hb⟩
     ·have HB:=hid hb;clear hb;have q1:decide ((1:Int)<(n:Int))=false:=by simp;omega
      clear h1;go_wp2_with fail
      (with_reducible refine (HA1.out false).mono ?_)
      rintro e w6 ha;have HF:=hid (HST.out false HB.out _ _ ha);obtain ⟨rfl,-⟩:=ha;clear c0 d0 HA1 HST;go_wp2;go_roundw;case rel=>exact HF.out
      case measure=>simp [intOf];omega
     ·have HB:=hid hb;clear hb;have q1:decide ((1:Int)<(n:Int))=true:=by simp;omega
      have q2:((j:Int)==0)=true:=by simp;omega
      clear h2;go_wp2_with fail
      (with_reducible refine (HA1.out true).mono ?_)
      rintro e w6 ha;have HF:=hid (HST.out true HB.out _ _ ha);obtain ⟨rfl,-⟩:=ha;clear c0 d0 HA1 HST;go_wp2;go_roundw;case rel=>exact HF.out
      case measure=>simp [intOf];omega
     ·have HB:=hid hb;clear hb;have q1:decide ((1:Int)<(n:Int))=true:=by simp;omega
      have q2:((j:Int)==0)=false:=by simp;omega
      have q3:((j:Int)==(n:Int)-2)=true:=by simp;omega
      have q4:(2:Int)<=(n:Int):=by omega
      clear h2 h3;go_wp2_with fail
      (with_reducible refine (HA1.out true).mono ?_)
      rintro e w6 ha;have HF:=hid (HST.out true HB.out _ _ ha);obtain ⟨rfl,-⟩:=ha;clear c0 d0 HA1 HST;go_wp2;go_roundw;case rel=>exact HF.out
      case measure=>simp [intOf];omega
     ·have HB:=hid hb;clear hb;have q1:decide ((1:Int)<(n:Int))=true:=by simp;omega
      have q2:((j:Int)==0)=false:=by simp;omega
      have q3:((j:Int)==(n:Int)-2)=false:=by simp;omega
      have q4:(2:Int)<=(n:Int):=by omega
      clear h2 h3;go_wp2_with fail
      (with_reducible refine (HA1.out false).mono ?_)
      rintro e w6 ha;have HF:=hid (HST.out false HB.out _ _ ha);obtain ⟨rfl,-⟩:=ha;clear c0 d0 HA1 HST;go_wp2;go_roundw;case rel=>exact HF.out
      case measure=>simp [intOf];omega
    case' inr=>
     have nX:j=n:=by omega
     have hE:=nW.out;rw [nX] at hrow;obtain ⟨LL,j6⟩:∃ LL,LL=mP p 1 (fD n) L n:=⟨_,rfl⟩;have hln:LL.length<=200001/\LL≠[]/\(∀ y∈LL,y.an=[])/\LL.length<=2*(ah.aA li).length+2*t.size+1:=by have h1:=FM p 1 (fD n) L n;rw [<- j6] at h1;refine ⟨by omega,fun e=>?_,by rw [j6];exact jq _ _ _ _ _,by have:=xR.out.1;have:=HN.out;omega⟩;rw [e] at h1;simp at h1;omega
     rw [<- j6] at hE hrow;have HE:=hid hE;have JC:=hid hln;have RW:=hid hrow;have CL:=hid hcl;have FR:=hid hfr;clear hE j6 hln hrow hcl hfr nW H5 xR xS HL HN MB hj hg5 Dp hcap5 JA nX;go_upto_region 40 with (fail)
     clear hjn hge hn1 hnm
 case' inr.inl=>
  go_upto_region 6 with (fail)
  obtain ⟨V,hV⟩:∃ V,V=p.inner W:=⟨_,rfl⟩;rw [<- hV] at C1 FN xR xS JA;have MB:=hid hV;clear hV
  go_region_held3 (fun w'=>w'.cell? ⟨S,9,none⟩=some (.slice al nl cl)/\w'.cell? ⟨S+1,0,none⟩=some (.string p.first)/\w'.cell? ⟨S+1,1,none⟩=some (.string p.rest)/\w'.cell? ⟨m,0,none⟩=some (.int .i64 W))
   (with_reducible assumption)
   (first
    | (go_simp;go_at_call 55;(with_reducible refine C1.out.mono ?_);rintro e w4 ⟨rfl,b4⟩;have B4:=hid (show YK w3.heap.size w3 w4 from (XT _ w3).drew.trans b4);have S4:=Fe.out w4 B4.out;have LC:=hid (FN.out w4 B4.out))
    | (go_simp;go_at_call 54;(with_reducible refine LC.out.mono ?_);rintro e w5 ⟨v5,rfl,h5,b5⟩;obtain ⟨a5,c5,rfl⟩:=lu h5;have B5:=hid (aL B4.out b5);have S5:=Fe.out w5 B5.out;have H5:=hid h5))
  all_goals
   obtain ⟨L,hL⟩:∃ L,L=dF li V:=⟨_,rfl⟩;rw [<- hL] at H5 xR xS;have HL:=hid hL;obtain ⟨n,hn⟩:∃ n,n=L.length:=⟨_,rfl⟩;have hn1:1<=n:=by
    rcases Nat.eq_zero_or_pos n with h | h
    ·exact absurd (List.length_eq_zero_iff.1 (by omega)) xR.out.2
    ·exact h
   have hnm:n<=200001:=by have:=xR.out.1;have:=Sw.out;omega
   rw [<- hL,<- hn];rw [<- hn] at H5;have HN:=hid hn;obtain ⟨g5,cap5,JB,hcap5⟩:=kI H5.out hn1;obtain ⟨rfl,rfl⟩:a5=some ⟨g5,0,none⟩/\c5=cap5:=by simp at JB;exact JB
   have hg5:=H5.out.lt g5 rfl;have Dp:g5≠q:=fun e=>bR H5.out (KL.out.below B5.out) (by decide) (by rw [e];rfl)
   have R0:Hid (bW q w5.heap.size w5 p 2 (fun _=>true) L (.int .i64 0) w5):=bW.zero p 2 (fun _=>true) L (KL.out.below B5.out);have Fg:q<w5.heap.size:=(KL.out.below B5.out).lt;have nW:Hid (aj.iF W st p (.mk 2 lv i t d ti at_ li ks)=q0z st (mP p 2 (fun _=>true) L n) (cK at_ li)):=by show _=_;rw [aj.iF];simp only [ite_true,true_or,or_true,if_neg (show ¬ iN li≠0 from fun h=>h Sy.out),<- MB.out,<- HL.out,kJ,<- HN.out];rfl
   unfold maxLen at *;clear hL hn S6 S4 S5 h5 b4 b5 C1 LC FN Fe B4 d0 d2 d3 d9 e0 e1 Mx JB;go_wp2
   go_loopw [42] (fun vi wr=>bW q w5.heap.size w5 p 2 (fun _=>true) L vi wr) (fun vi _=>n-(intOf vi).toNat)
   case' atStart=>exact R0.out
   case' round=>
    clear R0;obtain ⟨j,v,hj,rfl,hcl,hrow,hfr⟩:=hrel;have hjn:j<=n:=by have:=HN.out;omega
    rcases Nat.lt_or_ge j n with hlt | hge
    case' inl=>
     obtain ⟨x,hx⟩:∃ x,L[j]?=some x:=⟨_,XR (by have:=HN.out;omega)⟩;have hxs:=xS.out x (X9 hx);have c0:wr.cell? ⟨g5,j,none⟩=some (.string x):=by have h1:=H5.out.cellAt j (by omega);rw [Ye,hx] at h1;exact (lF (hfr.blk g5 hg5.2 Dp) (o:=j)).trans h1
     have d0:=((KB.out.below B5.out).fr hfr (fun e=>by have:=HQ.out;have e1:S=q:=e;omega)).cell 0 _ rfl;have hal:=FM p 2 (fun _=>true) L j;have A1:=fun (b:Bool)=>jk q p (mP p 2 (fun _=>true) L j) v w5.heap.size wr.heap.size x 2 b wr (by omega) (by omega) hxs (by omega) hcl Fg hrow
     have HST:=hid (fun (b:Bool) (hb:(fun _=>true) j=b) e w' ha=>bW.step (e:=e) (w':=w') (by have:=HN.out;omega) hx hb hrow hfr ha);have HA1:=hid A1;clear hx hxs hal hcl hrow hfr A1;go_wp2_with fail
     (with_reducible refine (HA1.out true).mono ?_)
     rintro e w6 ha;have HF:=hid (HST.out true rfl _ _ ha);obtain ⟨rfl,-⟩:=ha;clear c0 d0 HA1 HST;go_wp2;go_roundw;case rel=>exact HF.out
     case measure=>simp [intOf];omega
    case' inr=>
     have nX:j=n:=by omega
     have hE:=nW.out;rw [nX] at hrow;obtain ⟨LL,j6⟩:∃ LL,LL=mP p 2 (fun _=>true) L n:=⟨_,rfl⟩;have hln:LL.length<=200001/\LL≠[]/\(∀ y∈LL,y.an=[])/\LL.length<=2*(ah.aA li).length+2*t.size+1:=by have h1:=FM p 2 (fun _=>true) L n;rw [<- j6] at h1;refine ⟨by omega,fun e=>?_,by rw [j6];exact jq _ _ _ _ _,by have:=xR.out.1;have:=HN.out;omega⟩;rw [e] at h1;simp at h1;omega
     rw [<- j6] at hE hrow;have HE:=hid hE;have JC:=hid hln;have RW:=hid hrow;have CL:=hid hcl;have FR:=hid hfr;clear hE j6 hln hrow hcl hfr nW H5 xR xS HL HN MB hj hg5 Dp hcap5 JA nX;go_upto_region 40 with (fail)
     clear hjn hge hn1 hnm
 case' inr.inr.inl=>
  have TS:=hid (Tryz.strings_TrimSuffix t ⟨#[10]⟩ w3 (by have:=HT.out;omega));rw [show (⟨(Lib.trimSuffix t.data.toList (ByteArray.mk #[10]).data.toList).toArray⟩:ByteArray)=ig t from rfl] at TS;have JD:=hid (qO (ig t) w3 (by have:=eG t;have:=HT.out;omega) (by have h:=Mw.out;exact h.ml.below h.b0));obtain ⟨L,hL⟩:∃ L,L=fM (ig t):=⟨_,rfl⟩;obtain ⟨n,hn⟩:∃ n,n=L.length:=⟨_,rfl⟩;have Dq:(∀ x∈L,x.size<=100000)/\1<=L.length/\L.length<=t.size+1:=by rw [hL];have h1:=eG t;have h2:=HT.out;have h3:=kH (ig t);exact ⟨fun x hx=>by have:=jg _ x hx;omega,by rw [fV];omega,by omega⟩
  rw [<- hn] at Dq;rw [<- hL,<- hn] at JD;have HN:=hid hn;have xS:=hid Dq.1;have hn1:1<=n:=Dq.2.1;have hnm:n<=100001:=by have:=HT.out;omega
  have ME:Hid (n<=t.size+1):=Dq.2.2;have nW:Hid (aj.iF W st p (.mk 3 lv i t d ti at_ li ks)=q0z st (mP p 1 (fun _=>false) L n) (cK at_ li)):=by show _=_;rw [aj.iF,<- hL];rw [hn];rfl
  clear hL hn Dq S6 Fe C1 FN xR JA;go_wp2_with fail
  (with_reducible refine TS.out.mono ?_)
  rintro e wz ⟨rfl,hwz⟩;have hwz:=hwz.symm;subst hwz;go_wp2_with fail
  (with_reducible refine JD.out.mono ?_)
  rintro e w5 ⟨rfl,uD⟩;obtain ⟨g5,hg5⟩:∃ g5,g5=w3.heap.size:=⟨_,rfl⟩;have K5:Hid (CB 9 g5 (L.map Value.string) w5):=by rw [uD,hg5];exact CB.new _ _ _
  have B5:Hid (YK w3.heap.size w3 w5):=by rw [uD];exact (XT _ _).alloc (XU _) _
  have Dp:g5≠q:=by have:=KL.out.lt;omega
  have Fg:q<w5.heap.size:=(KL.out.below B5.out).lt;have R0:Hid (bW q w5.heap.size w5 p 1 (fun _=>false) L (.int .i64 0) w5):=bW.zero p 1 (fun _=>false) L (KL.out.below B5.out);rw [<- hg5];unfold maxLen at *;clear uD hg5 TS JD d0 d2 d3 d9 e0 e1 Mx;go_wp2
  go_loopw [78] (fun vi wr=>bW q w5.heap.size w5 p 1 (fun _=>false) L vi wr) (fun vi _=>n-(intOf vi).toNat)
  case' atStart=>exact R0.out
  case' round=>
   clear R0;obtain ⟨j,v,hj,rfl,hcl,hrow,hfr⟩:=hrel;have hjn:j<=n:=by have:=HN.out;omega
   rcases Nat.lt_or_ge j n with hlt | hge
   case' inl=>
    obtain ⟨x,hx⟩:∃ x,L[j]?=some x:=⟨_,XR (by have:=HN.out;omega)⟩;have hxs:=xS.out x (X9 hx);have c0:wr.cell? ⟨g5,j,none⟩=some (.string x):=(K5.out.fr hfr Dp).cell j _ (by rw [Ye,hx];rfl);have d0:=((KB.out.below B5.out).fr hfr (fun e=>by have:=HQ.out;have e1:S=q:=e;omega)).cell 0 _ rfl;have hal:=FM p 1 (fun _=>false) L j;have A1:=fun (b:Bool)=>jk q p (mP p 1 (fun _=>false) L j) v w5.heap.size wr.heap.size x 1 b wr (by omega) (by omega) (by omega) (by omega) hcl Fg hrow
    have HST:=hid (fun (b:Bool) (hb:(fun _=>false) j=b) e w' ha=>bW.step (e:=e) (w':=w') (by have:=HN.out;omega) hx hb hrow hfr ha);have HA1:=hid A1;clear hx hxs hal hcl hrow hfr A1;go_wp2_with fail
    (with_reducible refine (HA1.out false).mono ?_)
    rintro e w6 ha;have HF:=hid (HST.out false rfl _ _ ha);obtain ⟨rfl,-⟩:=ha;clear c0 d0 HA1 HST;go_wp2;go_roundw;case rel=>exact HF.out
    case measure=>simp [intOf];omega
   case' inr=>
    have nX:j=n:=by omega
    have hE:=nW.out;rw [nX] at hrow;obtain ⟨LL,j6⟩:∃ LL,LL=mP p 1 (fun _=>false) L n:=⟨_,rfl⟩;have hln:LL.length<=200001/\LL≠[]/\(∀ y∈LL,y.an=[])/\LL.length<=2*(ah.aA li).length+2*t.size+1:=by have h1:=FM p 1 (fun _=>false) L n;rw [<- j6] at h1;refine ⟨by omega,fun e=>?_,by rw [j6];exact jq _ _ _ _ _,by have:=ME.out;omega⟩;rw [e] at h1;simp at h1;omega
    rw [<- j6] at hE hrow;have HE:=hid hE;have JC:=hid hln;have RW:=hid hrow;have CL:=hid hcl;have FR:=hid hfr;clear hE j6 hln hrow hcl hfr nW xS HN hj Dp nX K5 ME;go_upto_region 40 with (fail)
    clear hjn hge hn1 hnm
 case' inr.inr.inr.inl=>
  have TS:=hid (Tryz.strings_TrimSuffix t ⟨#[10]⟩ w3 (by have:=HT.out;omega));rw [show (⟨(Lib.trimSuffix t.data.toList (ByteArray.mk #[10]).data.toList).toArray⟩:ByteArray)=ig t from rfl] at TS;have JD:=hid (qO (ig t) w3 (by have:=eG t;have:=HT.out;omega) (by have h:=Mw.out;exact h.ml.below h.b0));obtain ⟨L,hL⟩:∃ L,L=fM (ig t):=⟨_,rfl⟩;obtain ⟨n,hn⟩:∃ n,n=L.length:=⟨_,rfl⟩;have Dq:(∀ x∈L,x.size<=100000)/\1<=L.length/\L.length<=t.size+1:=by rw [hL];have h1:=eG t;have h2:=HT.out;have h3:=kH (ig t);exact ⟨fun x hx=>by have:=jg _ x hx;omega,by rw [fV];omega,by omega⟩
  rw [<- hn] at Dq;rw [<- hL,<- hn] at JD;have HN:=hid hn;have xS:=hid Dq.1;have hn1:1<=n:=Dq.2.1;have hnm:n<=100001:=by have:=HT.out;omega
  have ME:Hid (n<=t.size+1):=Dq.2.2;have nW:Hid (aj.iF W st p (.mk 4 lv i t d ti at_ li ks)=q0z st (mP p 1 (fun j=>decide (j+1<n)) L n) (cK at_ li)):=by show _=_;rw [aj.iF,<- hL];rw [hn];rfl
  clear hL hn Dq S6 Fe C1 FN xR JA;go_wp2_with fail
  (with_reducible refine TS.out.mono ?_)
  rintro e wz ⟨rfl,hwz⟩;have hwz:=hwz.symm;subst hwz;go_wp2_with fail
  (with_reducible refine JD.out.mono ?_)
  rintro e w5 ⟨rfl,uD⟩;obtain ⟨g5,hg5⟩:∃ g5,g5=w3.heap.size:=⟨_,rfl⟩;have K5:Hid (CB 9 g5 (L.map Value.string) w5):=by rw [uD,hg5];exact CB.new _ _ _
  have B5:Hid (YK w3.heap.size w3 w5):=by rw [uD];exact (XT _ _).alloc (XU _) _
  have Dp:g5≠q:=by have:=KL.out.lt;omega
  have Fg:q<w5.heap.size:=(KL.out.below B5.out).lt;have R0:Hid (bW q w5.heap.size w5 p 1 (fun j=>decide (j+1<n)) L (.int .i64 0) w5):=bW.zero p 1 (fun j=>decide (j+1<n)) L (KL.out.below B5.out);rw [<- hg5];unfold maxLen at *;clear uD hg5 TS JD d0 d2 d3 d9 e0 e1 Mx;go_wp2
  go_loopw [78] (fun vi wr=>bW q w5.heap.size w5 p 1 (fun j=>decide (j+1<n)) L vi wr) (fun vi _=>n-(intOf vi).toNat)
  case' atStart=>exact R0.out
  case' round=>
   clear R0;obtain ⟨j,v,hj,rfl,hcl,hrow,hfr⟩:=hrel;have hjn:j<=n:=by have:=HN.out;omega
   rcases Nat.lt_or_ge j n with hlt | hge
   case' inl=>
    obtain ⟨x,hx⟩:∃ x,L[j]?=some x:=⟨_,XR (by have:=HN.out;omega)⟩;have hxs:=xS.out x (X9 hx);have c0:wr.cell? ⟨g5,j,none⟩=some (.string x):=(K5.out.fr hfr Dp).cell j _ (by rw [Ye,hx];rfl);have d0:=((KB.out.below B5.out).fr hfr (fun e=>by have:=HQ.out;have e1:S=q:=e;omega)).cell 0 _ rfl;have hal:=FM p 1 (fun j=>decide (j+1<n)) L j;have A1:=fun (b:Bool)=>jk q p (mP p 1 (fun j=>decide (j+1<n)) L j) v w5.heap.size wr.heap.size x 1 b wr (by omega) (by omega) (by omega) (by omega) hcl Fg hrow
    have HST:=hid (fun (b:Bool) (hb:(fun j=>decide (j+1<n)) j=b) e w' ha=>bW.step (e:=e) (w':=w') (by have:=HN.out;omega) hx hb hrow hfr ha);have HA1:=hid A1;clear hx hxs hal hcl hrow hfr A1;have hcs:(j+1<n/\decide (j+1<n)=true)\/(¬ j+1<n/\decide (j+1<n)=false):=by rcases Nat.lt_or_ge (j+1) n with h | h;exact .inl ⟨h,by simpa using h⟩;exact .inr ⟨by omega,by simpa using h⟩
    rcases hcs with ⟨h1,hb⟩ | ⟨h1,hb⟩
    ·have HB:=hid hb;have q1:decide ((j:Int)<(n:Int)-1)=true:=by simp;omega
     clear hb;go_wp2_with fail
     (with_reducible refine (HA1.out true).mono ?_)
     rintro e w6 ha;have HF:=hid (HST.out true HB.out _ _ ha);obtain ⟨rfl,-⟩:=ha;clear c0 d0 HA1 HST;go_wp2;go_roundw;case rel=>exact HF.out
     case measure=>simp [intOf];omega
    ·have HB:=hid hb;have q1:decide ((j:Int)<(n:Int)-1)=false:=by simp;omega
     clear hb;go_wp2_with fail
     (with_reducible refine (HA1.out false).mono ?_)
     rintro e w6 ha;have HF:=hid (HST.out false HB.out _ _ ha);obtain ⟨rfl,-⟩:=ha;clear c0 d0 HA1 HST;go_wp2;go_roundw;case rel=>exact HF.out
     case measure=>simp [intOf];omega
   case' inr=>
    have nX:j=n:=by omega
    have hE:=nW.out;rw [nX] at hrow;obtain ⟨LL,j6⟩:∃ LL,LL=mP p 1 (fun j=>decide (j+1<n)) L n:=⟨_,rfl⟩;have hln:LL.length<=200001/\LL≠[]/\(∀ y∈LL,y.an=[])/\LL.length<=2*(ah.aA li).length+2*t.size+1:=by have h1:=FM p 1 (fun j=>decide (j+1<n)) L n;rw [<- j6] at h1;refine ⟨by omega,fun e=>?_,by rw [j6];exact jq _ _ _ _ _,by have:=ME.out;omega⟩;rw [e] at h1;simp at h1;omega
    rw [<- j6] at hE hrow;have HE:=hid hE;have JC:=hid hln;have RW:=hid hrow;have CL:=hid hcl;have FR:=hid hfr;clear hE j6 hln hrow hcl hfr nW xS HN hj Dp nX K5 ME;go_upto_region 40 with (fail)
    clear hjn hge hn1 hnm
 case' inr.inr.inr.inr=>
  have Hq:=aI.nil 37 6 (fun _=>False) (XU w3.heap.size);have Fg:q<w3.heap.size:=KL.out.lt;have A1:=hid (jk q p [] (.slice none 0 0) w3.heap.size w3.heap.size ⟨#[45,45,45]⟩ 1 false w3 (by omega) (by omega) (by show 3<=_;omega) (by simp) KL.out Fg Hq);have HE:Hid (aj.iF W st p (.mk 5 lv i t d ti at_ li ks)=q0z st ([]++[Bx.new (p.text ([]:List Bx).length ⟨#[45,45,45]⟩) 1 false]) (cK at_ li)):=by show _=_;rw [aj.iF];rfl
  clear S6 Fe C1 FN xR xS JA Hq;go_wp2_with fail
  (with_reducible refine A1.out.mono ?_)
  rintro e wr ⟨rfl,v,hcl,hrow,hfr⟩;obtain ⟨w5,uD⟩:∃ w5:YJ,w5=w3:=⟨_,rfl⟩;have B5:Hid (YK w3.heap.size w3 w5):=by rw [uD];exact XT _ _
  rw [<- uD] at hfr hrow Fg;have FR:Hid (aN (fun b=>b=q) w5 wr):=hfr.mono (fun b _ e=>e.elim id (fun e=>by simp [Value.ownBlock] at e));obtain ⟨LL,j6⟩:∃ LL,LL=[]++[Bx.new (p.text ([]:List Bx).length ⟨#[45,45,45]⟩) 1 false]:=⟨_,rfl⟩;rw [<- j6] at hrow HE;have JC:Hid (LL.length<=200001/\LL≠[]/\(∀ y∈LL,y.an=[])/\LL.length<=2*(ah.aA li).length+2*t.size+1):=by rw [j6];exact ⟨by simp,by simp,by intro y hy;simp at hy;rw [hy];rfl,by simp⟩
  have RW:=hid hrow;have CL:=hid hcl;clear j6 hrow hcl hfr uD A1 d0 d2 d3 d9 e0 e1 Mx;go_upto_region 40 with (fail)
 all_goals
  obtain ⟨kk,Sz⟩:∃ kk,Hid (CB 47 S [.int .i64 kk,.int .i64 lv,.string i,.string t,.string d,.string ti,.string at_.id,.slice ac nc cc,.slice ap np cp,.slice al nl cl,.slice ak nk ck] w3):=⟨_,KB⟩;clear KB;have JE:S≠q:=by have:=HQ.out;omega
  have Vp:m≠q:=by have:=HQ.out;have:=zy.out;omega
  have JF:=Mw.out.uJ;have kK:=JF.own;have hpl:∀ b,vp.ownBlock=some b->b<S:=fun b e=>Vo.out b e
  have hmk:=(JF.below B5.out).fr FR.out Vp (fun b e e'=>by have:=hpl b e;have:=HQ.out;have e1:b=q:=e';omega);have hkb:=(Sz.out.below B5.out).fr FR.out JE;obtain ⟨av,cv,hv⟩:=lu RW.out.own;obtain ⟨nv,SA⟩:∃ nv,nv=(LL.map Bx.d).length:=⟨_,rfl⟩;rw [<- SA] at hv;subst hv;have hsw:S=w.heap.size:=HS.out;have Vq:q=S+1+1:=HQ.out;have hF:aN (fun b=>b=m\/vp.ownBlock=some b) w wr:=(aN.of_below (aL B3.out B5.out) _).trans FR.out (fun b hb e=>by omega);have BX:w.heap.size<=w5.heap.size:=(aL B3.out B5.out).size;have hb0:YK w0.heap.size w0 wr:=uL.out.xO hF (fun b e=>by
   rcases e with e | e
   ·omega
   ·exact (kK.lt b e).1)
  have MF:S<w5.heap.size:=(Sz.out.below B5.out).lt;have MG:q<w5.heap.size:=(KL.out.below B5.out).lt;have AC:=hid (xL kk lv i t d ti at_ li ks (.slice ac nc cc) (.slice ap np cp) (.slice al nl cl) (.slice ak nk ck) wr.drew (HR.out.to (aL hb0 ((XT _ wr).drew))) (by have:=FP.out.f;have:=HV.out;have:=Vn.out;omega));have SF:=hid (fun (w':YJ) (hc:CB 47 S [.int .i64 kk,.int .i64 lv,.string i,.string t,.string d,.string ti,.string at_.id,.slice ac nc cc,.slice ap np cp,.slice al nl cl,.slice ak nk ck] w') (hl:CB 99 q [.string p.first,.string p.rest,.slice av nv cv] w')=>(⟨hc.cell 0 _ rfl,hc.cell 1 _ rfl,hc.cell 2 _ rfl,hc.cell 3 _ rfl,hc.cell 4 _ rfl,hc.cell 5 _ rfl,hc.cell 6 _ rfl,hc.cell 7 _ rfl,hc.cell 8 _ rfl,hc.cell 9 _ rfl,hc.cell 10 _ rfl,hl.cell 2 _ rfl⟩:w'.cell? ⟨S,0,none⟩=some (.int .i64 kk)/\w'.cell? ⟨S,1,none⟩=some (.int .i64 lv)/\w'.cell? ⟨S,2,none⟩=some (.string i)/\w'.cell? ⟨S,3,none⟩=some (.string t)/\w'.cell? ⟨S,4,none⟩=some (.string d)/\w'.cell? ⟨S,5,none⟩=some (.string ti)/\w'.cell? ⟨S,6,none⟩=some (.string at_.id)/\w'.cell? ⟨S,7,none⟩=some (.slice ac nc cc)/\w'.cell? ⟨S,8,none⟩=some (.slice ap np cp)/\w'.cell? ⟨S,9,none⟩=some (.slice al nl cl)/\w'.cell? ⟨S,10,none⟩=some (.slice ak nk ck)/\w'.cell? ⟨q,2,none⟩=some (.slice av nv cv)));have S0:=SF.out wr.drew (hkb.below (XT _ _).drew) (CL.out.below (XT _ _).drew);have vN:∀ b,(Value.slice av nv cv).ownBlock=some b->w5.heap.size<=b:=fun b e=>(RW.out.own.lt b e).1
  have vW:∀ b,(Value.slice av nv cv).ownBlock=some b->b<wr.heap.size:=fun b e=>(RW.out.own.lt b e).2
  have LF:=hid (fun (w6:YJ) (vo:YL) (b6:YK wr.heap.size wr w6) (ho:Rd (wr.heap.size<=·) w6 (dL (cK at_ li)) [vo])=>uH m W st vp w5.heap.size wr.heap.size (.slice av nv cv) vo LL (cK at_ li) (wr.heap.size<=·) w6 (hmk.below b6) JC.out.2.1 (RW.out.below b6) JC.out.2.2.1 ho (fun b hb e=>by have:=vW b e;have hb':wr.heap.size<=b:=hb;omega)
   (by have:=FP.out.g;omega) (by have:=FP.out.c;omega) (by have:=JC.out.1;omega) (by have:=FP.out.p;have:=HV.out;have:=HOWN.out;omega) (by have:=zy.out;omega) (fun b e=>by have:=hpl b e;omega))
  have Lm:=hid hkb;have HF:=hid hF;have Lp:=hid (And.intro MF (And.intro MG (And.intro vN (And.intro BX hpl))));clear hkb hF hb0 MF MG vN vW BX hpl kK JF hmk hsw Vq SA
  go_region_held3 (fun w'=>w'.cell? ⟨S,0,none⟩=some (.int .i64 kk)/\w'.cell? ⟨S,1,none⟩=some (.int .i64 lv)/\w'.cell? ⟨S,2,none⟩=some (.string i)/\w'.cell? ⟨S,3,none⟩=some (.string t)/\w'.cell? ⟨S,4,none⟩=some (.string d)/\w'.cell? ⟨S,5,none⟩=some (.string ti)/\w'.cell? ⟨S,6,none⟩=some (.string at_.id)/\w'.cell? ⟨S,7,none⟩=some (.slice ac nc cc)/\w'.cell? ⟨S,8,none⟩=some (.slice ap np cp)/\w'.cell? ⟨S,9,none⟩=some (.slice al nl cl)/\w'.cell? ⟨S,10,none⟩=some (.slice ak nk ck)/\w'.cell? ⟨q,2,none⟩=some (.slice av nv cv))
   (with_reducible assumption)
   (first
    | (go_simp;go_at_call 65;(with_reducible refine AC.out.mono ?_);rintro e w6 ⟨vo,rfl,h6,b6⟩;obtain ⟨a6,c6,rfl⟩:=lu h6;have B6:=hid (show YK wr.heap.size wr w6 from ⟨b6.os,b6.tape,b6.output,b6.size,b6.block⟩);have Vr:=SF.out w6 (Lm.out.below B6.out) (CL.out.below B6.out);have LC:=hid (LF.out w6 _ B6.out (Rd.uG (l:=cK at_ li) h6 (fun g e=>(h6.lt g e).1))))
    | (go_simp;go_at_call 64;(with_reducible refine LC.out.mono ?_);rintro e w7 hlp;have HP:=hid (bT.of hlp (HF.out.trans (aN.of_below B6.out (fun _=>False)) (fun _ _ e=>e.elim)) Lp.out.2.2.2.1);obtain ⟨Hr,SB,rfl,-,-,-,Qz⟩:=hlp;have QA:∀ b,b<w5.heap.size->b≠m->(∀ g,vp.ownBlock=some g->g≠b)->¬ (b=m\/vp.ownBlock=some b\/(Value.slice av nv cv).ownBlock=some b):=fun b h1 h2 h3 e=>e.elim h2 (fun e=>e.elim (fun e=>h3 b e rfl) (fun e=>absurd (Lp.out.2.2.1 b e) (by omega)));have S7:=SF.out w7 ((Lm.out.below B6.out).fr Qz (QA S Lp.out.1 (by have:=zy.out;omega) (fun g e=>by have:=Lp.out.2.2.2.2 g e;omega))) ((CL.out.below B6.out).fr Qz (QA q Lp.out.2.1 (by have:=zy.out;have:=HQ.out;omega) (fun g e=>by have:=Lp.out.2.2.2.2 g e;have:=HQ.out;omega)))))
  all_goals
   clear S0 Vr S7 Qz QA h6 b6 LC AC LF SF;go_wp2;go_ret;rw [HE.out];exact HP.out
open Go.RowKit
def MH (m:Nat) (W:Int) (w0:YJ):aj->Prop
 | .mk k lv i t d ti at_ li ks=>∀ (vc pY vl vk:YL),wS (·<w0.heap.size) w0 at_ li ks vc pY vl vk->∀ (st:St) (vp:YL) (p:Px) (w:YJ),lM m W w0 st vp p (aj.mk k lv i t d ti at_ li ks).mg w ->
  Calls Tryz.prog 44 #[.pointer (some ⟨m,0,none⟩),.agg #[.int .i64 k,.int .i64 lv,.string i,.string t,.string d,.string ti,.string at_.id,vc,pY,vl,vk],.agg #[.string p.first,.string p.rest]] w (bT m W w vp (aj.iF W st p (.mk k lv i t d ti at_ li ks)))
def iR (m:Nat) (W:Int) (w0:YJ) (l:List aj):Prop:=∀ (v:YL),Rd (·<w0.heap.size) w0 (aY l) [v]->∀ (st:St) (vp:YL) (p:Px) (w:YJ),lM m W w0 st vp p (aj.bg l) w ->
 Calls Tryz.prog 23 #[.pointer (some ⟨m,0,none⟩),v,.agg #[.string p.first,.string p.rest]] w (bT m W w vp (aj.gq W st p l))
structure aR (n:Nat) (st:St) (r:List Bx × St):Prop where
 wT:dO n st r.2
 len:r.1.length<=n
 err:r.2.err≠0->st.err=0->r.1=[]
def MI (W:Int) (x:aj):Prop:=∀ st p,aR x.mg st (aj.iF W st p x)
def pfx (p:Px) (k:Nat):Px:=if k=0 then p else p.next
theorem Dt (p:Px) (k:Nat):(pfx p k).next=p.next:=by unfold pfx;split<;>rfl
theorem Du (p:Px) (k:Nat):(pfx p k).rest=p.rest:=by unfold pfx;split<;>rfl
theorem jr (x:aj) (l:List aj):aj.bg (x::l)=x.mg+aj.bg l:=by rw [aj.bg]
theorem qP (l:List aj) (k:Nat) (x:aj) (h:l[k]?=some x):aj.bg (l.drop k)=x.mg+aj.bg (l.drop (k+1)):=by have hk:=(List.getElem?_eq_some_iff.1 h);obtain ⟨hk,e⟩:=hk;rw [List.drop_eq_getElem_cons hk,jr,e]
theorem qQ (r:List Bx × St) (h:r.2.err≠0->r.1=[]):ahead [] r=r:=by
 unfold ahead;split
 ·rename_i h1;exact Prod.ext (h h1).symm rfl
 ·exact Prod.ext (List.nil_append _) rfl
theorem ahead_ahead (a b:List Bx) (r:List Bx × St):ahead a (ahead b r)=ahead (a++b) r:=by
 unfold ahead;by_cases h:r.2.err≠0
 ·rw [if_pos h,if_pos h,if_pos h]
 ·rw [if_neg h,if_neg (by exact h),if_neg h,List.append_assoc]
theorem AL (a:List Bx) (s:St) (h:s.err≠0):ahead a ([],s)=([],s):=by unfold ahead;rw [if_pos h]
structure dP (m:Nat) (W:Int) (R:List Bx × St) (F:Nat->St->List Bx × St) (vr:Nat->Nat) (st:St) (vp:YL) (p:Px) (S N Kq:Nat) (KC:List YL) (w:YJ) (k:Nat) (v:YL) (wr:YJ) (st':St) (dZ:YL) (acc:List Bx) (rows:List (List YL)) (pb:Px):Prop where
 eq:R=ahead acc (F k st')
 e0:k=0/\acc=[]/\st'=st\/st'.err=0
 row:aI 37 6 (fun b=>vp.ownBlock=some b/\dZ.ownBlock≠some b) N wr.heap.size (acc.map Bx.d) rows v wr
 mO:nN m W st' dZ wr
 Dw:dZ=vp\/dZ=.slice none 0 0
 fr:aN (fun b=>b=m\/vp.ownBlock=some b) w wr
 fit:Fits (vr k) st' (pfx p k)
 len:acc.length+vr k<=1000000
 box:CB 66 S [.string pb.first,.string pb.rest] wr
 QB:pb.rest=p.rest/\(k=0->pb=p)
 SG:Kq=S\/(w.heap.size<=Kq/\Kq<N/\CB 47 Kq KC wr)
def AO (m:Nat) (W:Int) (R:List Bx × St) (F:Nat->St->List Bx × St) (vr:Nat->Nat) (st:St) (vp:YL) (p:Px) (S N Kq:Nat) (KC:List YL) (n:Nat) (w:YJ) (v vi:YL) (wr:YJ):Prop:=
 ∃ (k:Nat) (st':St) (dZ:YL) (acc:List Bx) (rows:List (List YL)) (pb:Px),vi=.int .i64 k/\k<=n/\dP m W R F vr st vp p S N Kq KC w k v wr st' dZ acc rows pb
theorem St.xU {s:St} (h:4096<s.count) (h2:s.err=0):s.lim={ s with err:=3 }:=by unfold St.lim;rw [if_pos ⟨h,h2⟩]
theorem St.FQ {s:St} (h:s.err≠0):s.lim=s:=by unfold St.lim;rw [if_neg (fun e=>h e.2)]
theorem nY {W:Int} {st:St} {p:Px} {x:aj} {l:List aj} (h:(x.iF W st p).2.lim.err≠0):aj.gq W st p (x::l)=([],(x.iF W st p).2.lim):=by rw [aj.gq];simp only [if_pos h]
theorem xV {W:Int} {st:St} {p:Px} {x:aj} {l:List aj} (h:(x.iF W st p).2.lim.err=0):aj.gq W st p (x::l)=ahead (x.iF W st p).1 (aj.gq W (x.iF W st p).2.lim p.next l):=by rw [aj.gq];simp only [if_neg (show ¬ (x.iF W st p).2.lim.err≠0 from fun e=>e h)]
theorem FU (W:Int):∀ (l:List aj) (st:St) (p:Px),(aj.gq W st p l).2.err≠0->(aj.gq W st p l).1=[]
 | [],st,p,_=>by rw [aj.gq]
 | x::l,st,p,h=>by
  by_cases h1:(x.iF W st p).2.lim.err=0
  ·rw [xV h1] at h ⊢;unfold ahead at h ⊢;split
   ·rfl
   ·rename_i h2
    rw [if_neg h2] at h;exact absurd h h2
  ·rw [nY h1]
theorem Dx {s:St} (h:s.lim.err=0):s.lim=s/\s.err=0:=by
 by_cases h1:4096<s.count/\s.err=0
 ·rw [St.xU h1.1 h1.2] at h;simp at h
 ·have h2:s.lim=s:=by unfold St.lim;rw [if_neg h1]
  exact ⟨h2,by rwa [h2] at h⟩
theorem drop_at {l:List aj} {k:Nat} {y:aj} (hy:l[k]?=some y):l.drop k=y::l.drop (k+1):=by obtain ⟨hk,hye⟩:=(List.getElem?_eq_some_iff.1 hy);rw [<- hye];exact List.drop_eq_getElem_cons hk
theorem nZ (p:Px) (k:Nat):pfx p (k+1)=(pfx p k).next:=by rw [Dt];rfl
theorem JG {W:Int} {p:Px} {l:List aj} {k:Nat} {y:aj} {s:St} (hy:l[k]?=some y) (h:(y.iF W s (pfx p k)).2.lim.err=0):aj.gq W s (pfx p k) (l.drop k)=ahead (y.iF W s (pfx p k)).1 (aj.gq W (y.iF W s (pfx p k)).2 (pfx p (k+1)) (l.drop (k+1))):=by rw [drop_at hy,xV h,(Dx h).1,nZ]
theorem uM {W:Int} {p:Px} {l:List aj} {k:Nat} {y:aj} {s:St} (hy:l[k]?=some y) (h:(y.iF W s (pfx p k)).2.lim.err≠0):aj.gq W s (pfx p k) (l.drop k)=([],(y.iF W s (pfx p k)).2.lim):=by rw [drop_at hy,nY h]
theorem mZ:∀ l:List aj,l.length<=aj.bg l
 | []=>Nat.zero_le _
 | x::l=>by
  have:=mZ l;have h:30<=x.mg:=by obtain ⟨k,lv,i,t,d,ti,a,li,ks⟩:=x;rw [aj.mg];omega
  rw [jr,List.length_cons];omega
section
variable {m S N Kq k n5:Nat} {KC:List YL} {W:Int} {R r:List Bx × St} {F:Nat->St->List Bx × St} {vr:Nat->Nat} {st st' s':St} {vp dZ lN v v5 v6:YL} {p pb:Px} {w wr wA w5 w6 w7:YJ} {acc:List Bx} {rows qR qU:List (List YL)} {e:Ending} {P:Nat->Prop}
theorem dP.frame (hr:dP m W R F vr st vp p S N Kq KC w k v wr st' dZ acc rows pb) (hN:w.heap.size<=N) (Ht:aN P wr wA) (hP:∀ b,P b->w.heap.size<=b) (FV:aN (fun b=>b=m\/dZ.ownBlock=some b) wA w5) (wU:w5.grownBy w6 v.ownBlock):aN (fun b=>b=m\/vp.ownBlock=some b) w w6:=by
 have f1:=hr.fr.trans Ht (fun b hb e=>by have:=hP b e;omega);have f2:=f1.trans FV (fun b hb e=>e.imp id (fun e=>by
  rcases hr.Dw with h | h
  ·rwa [h] at e
  ·rw [h] at e;simp [Value.ownBlock] at e))
 exact f2.trans (aN.grown wU) (fun b hb e=>by have:=(hr.row.own.lt b e).1;omega)
theorem dP.Hu (hr:dP m W R F vr st vp p S N Kq KC w k v wr st' dZ acc rows pb) (hmw:m<w.heap.size) (hpw:∀ b,vp.ownBlock=some b->b<w.heap.size) (Az:vp.ownBlock≠some m) (hN:w.heap.size<=N) (Ht:aN P wr wA) (hP:∀ b,P b->w.heap.size<=b/\b<N) (FV:aN (fun b=>b=m\/dZ.ownBlock=some b) wA w5) (hv5:r.2.err=0->lN=dZ\/lN=.slice none 0 0) : aI 37 6 (fun b=>vp.ownBlock=some b/\(r.2.err=0->lN.ownBlock≠some b)) N wr.heap.size (acc.map Bx.d) rows v w5:=by
 refine (hr.row.fr (ok':=fun b=>vp.ownBlock=some b/\dZ.ownBlock≠some b) Ht (fun _ h=>h) (fun b _ h e=>?_)).fr FV (fun b h=>⟨h.1,fun e0 e=>?_⟩) (fun b _ h e=>?_)
 ·have e1:=hP b e;rcases h with h | h
  ·have:=hpw b h.1;omega
  ·omega
 ·rcases hv5 e0 with h' | h'
  ·rw [h'] at e;exact h.2 e
  ·rw [h'] at e;simp [Value.ownBlock] at e
 ·rcases e with e | e
  ·rcases h with h | h
   ·exact Az (by rw [<- e];exact h.1)
   ·omega
  ·rcases h with h | h
   ·exact h.2 e
   ·rcases hr.Dw with h' | h'
    ·rw [h'] at e;have:=hpw b e;omega
    ·rw [h'] at e;simp [Value.ownBlock] at e
theorem dP.next (hr:dP m W R F vr st vp p S N Kq KC w k v wr st' dZ acc rows pb) (hmw:m<w.heap.size) (hpw:∀ b,vp.ownBlock=some b->b<w.heap.size) (hN:w.heap.size<=N) (Xm:w.heap.size<=S/\S<N) (Ht:aN P wr wA) (hP:∀ b,P b->w.heap.size<=b/\b<N) (Vs:Kq=S\/¬ P Kq) (hG:aR n5 st' r) (Vt:n5+vr (k+1)<=vr k) (hF:F k st'=ahead r.1 (F (k+1) r.2)) (he:r.2.err=0) (hK:CB 66 S [.string (pfx p k).first,.string (pfx p k).rest] wA) (Dc:nN m W r.2 lN w5) (hv5:r.2.err=0->lN=dZ\/lN=.slice none 0 0) (FV:aN (fun b=>b=m\/dZ.ownBlock=some b) wA w5) (wU:w5.grownBy w6 v.ownBlock) (h6:bN 37 6 (fun b=>vp.ownBlock=some b/\(r.2.err=0->lN.ownBlock≠some b)) w6.heap.size (ql N w5) (acc.map Bx.d++r.1.map Bx.d) qU v6 w6) : dP m W R F vr st vp p S N Kq KC w (k+1) v6 w6 r.2 lN (acc++r.1) qU (pfx p k):=by
 have hpn:=nZ p k;have uD:N<=w5.heap.size:=by have:=hr.row.1;have:=Ht.size;have:=FV.size;omega
 have JH:∀ b,dZ.ownBlock=some b->b<w.heap.size:=fun b e=>by
  rcases hr.Dw with h | h
  ·rw [h] at e;exact hpw b e
  ·rw [h] at e;simp [Value.ownBlock] at e
 have hkv:∀ g,lN.ownBlock=some g->v.ownBlock≠some g:=by
  have hv5:w5.ownsRow N 37 6 v (acc.map Bx.d).length rows.flatten:=fK (fK hr.row.own Ht (fun b e e'=>by have:=(hr.row.own.lt b e).1;have:=hP b e';omega)) FV (fun b e e'=>by
   have:=(hr.row.own.lt b e).1;rcases e' with e' | e'
   ·omega
   ·have:=JH b e';omega)
  exact fun g e=>mY Dc.own hv5 (by decide) g e
 refine ⟨?_,.inr he,?_,?_,?_,hr.frame hN Ht (fun b e=>(hP b e).1) FV wU,?_,?_,?_,⟨Du p k,fun h=>by omega⟩,?_⟩
 ·rw [hr.eq,hF,ahead_ahead]
 ·have:=aI.Sk h6 (FE uD);rw [List.map_append];exact this.weaken (fun b h=>⟨h.1,h.2 he⟩)
 ·exact Dc.fr (aN.grown wU) (fun e=>by have:=(hr.row.own.lt m e).1;omega) (fun g e e'=>hkv g e e')
 ·rcases hv5 he with h | h
  ·rw [h];exact hr.Dw
  ·exact .inr h
 ·have hf:=hr.fit.mono Vt;rw [hpn];exact hf.next hG.wT (by show (pfx p k).rest.size<=_;omega) (by show (pfx p k).rest.size<=_;omega)
 ·have:=hr.len;have:=hG.len;rw [List.length_append];omega
 ·refine (hK.fr FV (fun e=>?_)).fr (aN.grown wU) (fun e=>by have:=(hr.row.own.lt S e).1;omega);rcases e with e | e
  ·omega
  ·have:=JH S e;omega
 ·rcases hr.SG with h | ⟨h1,h2,h3⟩
  ·exact .inl h
  ·rcases Vs with h | h
   ·exact .inl h
   ·refine .inr ⟨h1,h2,((h3.fr Ht h).fr FV (fun e=>?_)).fr (aN.grown wU) (fun e=>by have:=(hr.row.own.lt Kq e).1;omega)⟩;rcases e with e | e
    ·omega
    ·have:=JH Kq e;omega
theorem dP.stop (hr:dP m W R F vr st vp p S N Kq KC w k v wr st' dZ acc rows pb) (iT:wr.heap.size<=wA.heap.size) (hF:F k st'=([],s')) (hl:s'.err≠0) (Pf:nN m W s' lN w7) (ho:∀ g,lN.ownBlock=some g->dZ.ownBlock=some g\/wA.heap.size<=g) (hf:aN (fun b=>b=m\/vp.ownBlock=some b) w w7):bT m W w vp R (.returned (.slice none 0 0)) w7:=by
 rw [hr.eq,hF,AL _ _ hl];refine ⟨_,[],lN,rfl,(aI.nil _ _ _ hf.size).top,Pf,fun e=>absurd e hl,fun g e=>?_,hf⟩;rcases ho g e with h | h
 ·rcases hr.Dw with h1 | h1
  ·rw [h1] at h;exact .inl h
  ·rw [h1] at h;simp [Value.ownBlock] at h
 ·exact .inr (by have:=hr.fr.size;omega)
theorem dP.done (hr:dP m W R F vr st vp p S N Kq KC w k v wr st' dZ acc rows pb) (hN:w.heap.size<=N) (hF:F k st'=([],st')):bT m W w vp R (.returned v) wr:=by
 have he:R=(acc,st'):=by
  rw [hr.eq,hF];rcases hr.e0 with ⟨h1,h2,h3⟩ | h
  ·rw [h2];unfold ahead;split<;>rfl
  ·unfold ahead;rw [if_neg (fun e=>e h),List.append_nil]
 rw [he];refine ⟨v,rows,dZ,rfl,hr.row.basis hN,hr.mO,fun _=>hr.Dw,fun g e=>?_,hr.fr⟩;rcases hr.Dw with h | h
 ·rw [h] at e;exact .inl e
 ·rw [h] at e;simp [Value.ownBlock] at e
end
open Go.RowKit
theorem iU (m:Nat) (W:Int) (w0:YJ) (l:List aj) (hB:∀ x∈l,MH m W w0 x) (hG:∀ x∈l,MI W x):iR m W w0 l:=by
 intro v hrd st vp p w hin;obtain ⟨iB,qm,CW,CX,CY⟩:=info_parts xH;obtain ⟨a,c,hv,hs⟩:=Rd.aC hrd;obtain ⟨n,hn⟩:∃ n,n=l.length:=⟨_,rfl⟩;obtain rfl:v=.slice a n c:=by rw [hn];simpa using hv
 have hcap:n<=c:=by have:=hs.le;rw [X0] at this;omega
 have hmx:=hs.max;unfold maxLen at hmx;have hn1:n<=1000000:=by have:=mZ l;have:=hin.fit.f;omega
 obtain ⟨S,hS⟩:∃ S,S=w.heap.size:=⟨_,rfl⟩;obtain ⟨w1,hw1⟩:∃ w1,w1=w.alloc (.cells #[.string p.first,.string p.rest] 66):=⟨_,rfl⟩;have kp:CB 66 S [.string p.first,.string p.rest] w1:=by rw [hw1,hS];exact CB.new _ _ _
 have b1:YK w.heap.size w w1:=by rw [hw1];exact (XT _ _).alloc (XU _) _
 have z1:w1.heap.size=S+1:=by rw [hw1,hS];simp
 have kK:=hin.uJ.own;have Ho:m<S:=by rw [hS];exact hin.uJ.cb.lt
 have R0:Hid (AO m W (aj.gq W st p l) (fun k s=>aj.gq W s (pfx p k) (l.drop k)) (fun k=>aj.bg (l.drop k)) st vp p S (S+1) S [] n w (.slice none 0 0) (.int .i64 0) w1):=⟨0,st,vp,[],[],p,rfl,Nat.zero_le _,(qQ _ (FU _ _ _ _)).symm,.inl ⟨rfl,rfl,rfl⟩,(aI.nil _ _ _ (by omega)).top,hin.uJ.below b1,.inl rfl,aN.of_below b1 _,hin.fit,by have:=hin.fit.f;simp;omega,kp,⟨rfl,fun _=>rfl⟩,.inl rfl⟩;have uL:=hid hin;have HS:=hid hS;have HN:=hid hn;have HSL:=hid hs;have QC:=hid hB;have QD:=hid hG;have zy:=hid Ho;have BU:=hid (fun (b:Nat) (e:vp.ownBlock=some b)=>(by rw [hS];exact kK.lt b e:m<=b/\b<S));have B1:=hid b1;clear hrd hv hs hn hB hG hin kp b1 kK Ho z1;go_enter Tryz.func23,Tryz.ntmps23;go_upto_region 1 with (fail)
 rw [<- hw1,<- hS];clear hw1 hS;go_wp2
 go_loopw [7,12] (fun v vi wr=>AO m W (aj.gq W st p l) (fun k s=>aj.gq W s (pfx p k) (l.drop k)) (fun k=>aj.bg (l.drop k)) st vp p S (S+1) S [] n w v vi wr) (fun _ vi _=>n-(intOf vi).toNat)
 case atStart=>exact R0.out
 case round=>
  clear R0;obtain ⟨k,st',dZ,acc,rows,pb,rfl,hkn,hr⟩:=hrel;have hb0:YK w0.heap.size w0 wr:=uL.out.xO hr.fr (fun b e=>by
   rcases e with e | e
   ·omega
   ·exact (BU.out b e).1)
  by_cases hlt:k<n
  ·obtain ⟨y,hy⟩:∃ y,l[k]?=some y:=⟨_,XR (by have:=HN.out;omega)⟩;have MJ:=QC.out y (X9 hy);have MK:=QD.out y (X9 hy) st' (pfx p k);have hvd:=qP l k y hy;obtain ⟨yk,Dy,yi,yt,yd,zA,zB,JI,xW⟩:=y;obtain ⟨ga,off,vc,pY,vl,vk,rfl,hok,hbl,hc,hR⟩:=jv HSL.out hy;obtain ⟨c0,c1,c2,c3,c4,c5,c6,c7,c8,c9,c10⟩:=hc.at2 (w':=wr) (hb0.block ga hok);obtain ⟨JJ,JK,JL,rfl⟩:=Rd.au hR.at_.cls
   obtain ⟨JM,JN,JO,rfl⟩:=Rd.au hR.at_.aS
   obtain ⟨JQ,JR,JU,rfl⟩:=Rd.au hR.line;obtain ⟨FW,wV,FX,rfl⟩:=Rd.au hR.kids;obtain ⟨q,hq⟩:∃ q,q=wr.heap.size:=⟨_,rfl⟩;obtain ⟨wq,hwq⟩:∃ wq,wq=wr.alloc (.cells #[.int .i64 yk,.int .i64 Dy,.string yi,.string yt,.string yd,.string zA,.string zB.id,.slice JJ JK JL,.slice JM JN JO,.slice JQ JR JU,.slice FW wV FX] 47):=⟨_,rfl⟩;have kq:CB 47 q [.int .i64 yk,.int .i64 Dy,.string yi,.string yt,.string yd,.string zA,.string zB.id,.slice JJ JK JL,.slice JM JN JO,.slice JQ JR JU,.slice FW wV FX] wq:=by rw [hwq,hq];exact CB.new _ _ _
   have bq:YK wr.heap.size wr wq:=by rw [hwq];exact (XT _ _).alloc (XU _) _
   have hSw:S<wr.heap.size:=hr.box.lt;have JE:S≠q:=by omega
   have kb:=hr.box.below bq;obtain ⟨av,cv,hv⟩:=lu hr.row.own;obtain ⟨na,hna⟩:∃ na,na=(acc.map Bx.d).length:=⟨_,rfl⟩;rw [<- hna] at hv;subst hv;have tq:=hid hna.symm;have HR:=hid hr;have HY:=hid hy;have QE:=hid MJ;have ML:=hid MK;have JV:=hid hvd;have QF:=hid hR;have KQ:=hid kq;have BQ:=hid bq;have KB:=hid kb;have HB0:=hid hb0;have SI:=hid (And.intro hSw JE);have Ji:na<=1000000:=by have:=hr.len;rw [hna,X0];omega
   have hpb:=hr.QB.1;clear hok hbl hc hR hy MJ MK hvd kq bq kb hb0 hr hna hSw;rcases Nat.eq_zero_or_pos k with hk0 | hk0
   case' inl=>
    have hpe:Hid (pfx p k=p):=by show _=_;unfold pfx;rw [if_pos hk0]
    have q0:decide ((0:Int)<(k:Int))=false:=by simp;omega
    have JW:decide (0<k)=false:=by simp;omega
    have FY:Hid (pb=p):=HR.out.QB.2 hk0;clear hk0 hpb;go_upto_region 7 with (fail)
    rw [<- hwq,<- hq];obtain ⟨wA,iT⟩:∃ wA:YJ,wA=wq:=⟨_,rfl⟩;have KA:Hid (CB 66 S [.string (pfx p k).first,.string (pfx p k).rest] wA):=by have h:=KB.out;rw [FY.out,<- iT] at h;rw [hpe.out];exact h
    have FA:Hid (aN (fun b=>b=S) wr wA):=by rw [iT];exact aN.of_below BQ.out _
    have zC:Hid (CB 47 q [.int .i64 yk,.int .i64 Dy,.string yi,.string yt,.string yd,.string zA,.string zB.id,.slice JJ JK JL,.slice JM JN JO,.slice JQ JR JU,.slice FW wV FX] wA):=by rw [iT];exact KQ.out
    rw [<- iT];clear hwq hq iT q0 JW c0 c1 c2 c3 c4 c5 c6 c7 c8 c9 c10
   case' inr=>
    have hpe:Hid (pfx p k=p.next):=by show _=_;unfold pfx;rw [if_neg (by omega)]
    have q0:decide ((0:Int)<(k:Int))=true:=by simp;omega
    have JW:decide (0<k)=true:=by simpa using hk0
    have e0:=KB.out.cell 0 _ rfl;have e1:=KB.out.cell 1 _ rfl;have ef:=rR KB.out;have Hw:=hid hpb;clear hk0 hpb;go_upto_region 5 with (fail)
    rw [<- hwq,<- hq];clear hwq hq;go_upto_region 7 with (fail)
    obtain ⟨wA,iT⟩:∃ wA:YJ,wA=wq.setCell ⟨S,0,none⟩ (.string pb.rest):=⟨_,rfl⟩;have KA:Hid (CB 66 S [.string (pfx p k).first,.string (pfx p k).rest] wA):=by have h:=qI KB.out 0 (.string pb.rest);rw [<- iT] at h;rw [hpe.out];show CB _ S [.string p.rest,.string p.rest] wA;rw [<- Hw.out];exact h
    have FA:Hid (aN (fun b=>b=S) wr wA):=by rw [iT];exact (aN.of_below BQ.out _).trans (aN.set wq S 0 _) (fun b _ e=>e)
    have zC:Hid (CB 47 q [.int .i64 yk,.int .i64 Dy,.string yi,.string yt,.string yd,.string zA,.string zB.id,.slice JJ JK JL,.slice JM JN JO,.slice JQ JR JU,.slice FW wV FX] wA):=by rw [iT];exact KQ.out.fr (aN.set wq S 0 _) (fun e=>JE e.symm)
    rw [<- iT];clear iT q0 JW e0 e1 Hw ef c0 c1 c2 c3 c4 c5 c6 c7 c8 c9 c10
   all_goals
    have MN:lM m W w0 st' dZ (pfx p k) (aj.mk yk Dy yi yt yd zA zB JI xW).mg wA:=⟨uL.out.m0,HB0.out.trans (FA.out.below _ HB0.out.size (fun b e=>by have:=zy.out;have:=uL.out.m0;have e1:b=S:=e;omega)),HR.out.mO.fr FA.out (fun e=>by have:=zy.out;have e1:m=S:=e;omega) (fun b e e'=>by
     have e1:b=S:=e';rcases HR.out.Dw with h | h
     ·rw [h] at e;have:=(BU.out b e).2;omega
     ·rw [h] at e;simp [Value.ownBlock] at e),uL.out.wd,HR.out.fit.mono (by have:=JV.out;omega),uL.out.tab,uL.out.ml⟩
    have BC:=hid (QE.out _ _ _ _ QF.out st' dZ (pfx p k) wA MN);have d0:=zC.out.cell 0 _ rfl;have d1:=zC.out.cell 1 _ rfl;have d2:=zC.out.cell 2 _ rfl;have d3:=zC.out.cell 3 _ rfl;have d4:=zC.out.cell 4 _ rfl;have d5:=zC.out.cell 5 _ rfl;have d6:=zC.out.cell 6 _ rfl;have d7:=zC.out.cell 7 _ rfl;have d8:=zC.out.cell 8 _ rfl;have d9:=zC.out.cell 9 _ rfl;have d10:=zC.out.cell 10 _ rfl;have p0:=KA.out.cell 0 _ rfl;have p1:=KA.out.cell 1 _ rfl;clear MN JE;go_wp2_with fail
    (with_reducible refine BC.out.mono ?_)
    rintro e w5 ⟨v5,qR,lN,rfl,dS,hmk5,rY,hown5,lQ⟩;obtain ⟨r,hrr⟩:∃ r,r=aj.iF W st' (pfx p k) (aj.mk yk Dy yi yt yd zA zB JI xW):=⟨_,rfl⟩;rw [<- hrr] at dS hmk5 rY;have HG:=ML.out;rw [<- hrr] at HG;have HRR:=hid hrr;obtain ⟨n5,uN⟩:∃ n5,n5=(r.1.map Bx.d).length:=⟨_,rfl⟩;have MO:na+n5<=1000000:=by have h1:=HG.len;have h2:=HR.out.len;have h3:=JV.out;have h4:=tq.out;rw [X0] at h4 uN;omega
    obtain ⟨a5,c5,hv5⟩:=lu dS.own;rw [<- uN] at hv5;subst hv5;have hS1:S+1<=wr.heap.size:=HR.out.row.1;have JX:wr.heap.size<=w5.heap.size:=Nat.le_trans FA.out.size lQ.size;have Az:vp.ownBlock≠some m:=bR uL.out.uJ.own uL.out.uJ.cb (by decide);have JY:∀ b,b=S->w.heap.size<=b/\b<S+1:=fun b e=>by have:=HS.out;omega
    have hpw:∀ b,vp.ownBlock=some b->b<w.heap.size:=fun b e=>by have:=(BU.out b e).2;have:=HS.out;omega
    have hmw:m<w.heap.size:=by have:=zy.out;have:=HS.out;omega
    have BX:w.heap.size<=S+1:=by have:=HS.out;omega
    have uO:=HR.out.Hu (r:=r) hmw hpw Az BX FA.out JY lQ rY;have MP:Rd (fun b=>(vp.ownBlock=some b/\(r.2.err=0->lN.ownBlock≠some b))\/wr.heap.size<=b) w5 (.sl 6 (r.1.map Bx.d)) [.slice a5 n5 c5]:=by
     have h:=dS.2.rd;rw [dS.sz] at h;refine h.weaken (fun b hb=>hb.imp (fun h=>⟨?_,fun _=>h.2⟩) (fun h=>Nat.le_trans FA.out.size h));rcases HR.out.Dw with h' | h'
     ·rw [h'] at h;exact h.1
     ·rw [h'] at h;simp [Value.ownBlock] at h
    have JZ:=hid uO;have QG:=hid MP;have J2:=hid hmk5;have HV5:=hid (And.intro rY hown5);have FZ:=hid lQ;have Vu:=hid HG;have J3:=hid uN.symm;have ng:Hid (∀ b,(vp.ownBlock=some b/\(r.2.err=0->lN.ownBlock≠some b))->b<(ql (S+1) w5).heap.size):=fun b h=>by
     rw [FE (by omega)];have:=(BU.out b h.1).2;omega
    have HW:=hid (And.intro hmw (And.intro hpw (And.intro BX (And.intro (show w.heap.size<=S/\S<S+1 by have:=HS.out;omega) JY))));clear dS hmk5 rY hown5 lQ hrr uN hS1 JX uO MP Az JY hpw hmw BX BC d0 d1 d2 d3 d4 d5 d6 d7 d8 d9 d10 p0 p1 HG;go_wp2_with (at_builtin;(refine mh (T:=37) (k:=6) rfl (.tmp 22) (.tmp 26) 22 rfl iB _ 64 Tryz.underlying22 qm CW CX CY rfl (by decide) JZ.out.2 ng.out _ QG.out (fun rs ok h=>zu r.1 rs ok w5 h) tq.out J3.out (by omega) (by decide) rfl rfl ?_))
    intro a6 c6 qU w6 uP wU;have hkv:(Value.slice av na cv).ownBlock≠some m/\∀ g,lN.ownBlock=some g->(Value.slice av na cv).ownBlock≠some g:=⟨fun e=>by have:=(JZ.out.own.lt m e).1;have:=zy.out;omega,fun g e=>mY J2.out.own JZ.out.own (by decide) g e⟩;have F4:=J2.out.fr (aN.grown wU) hkv.1 (fun g e e'=>hkv.2 g e e');have MQ:=HR.out.frame HW.out.2.2.1 FA.out (fun b e=>(HW.out.2.2.2.2 b e).1) FZ.out wU;have f3:=F4.cb.cell 3 _ rfl;have f5:=F4.cb.cell 5 _ rfl;have ff:=rR F4.cb;have J4:=hid F4;have Pg:=hid MQ;have QH:=hid uP;have QI:=hid wU;clear uP wU hkv F4 MQ;have iT:wr.heap.size<=wA.heap.size:=FA.out.size;have Ph:=hid iT;clear iT;by_cases he:r.2.err=0
    case' pos=>
     have q2:(((r.2.err:Nat):Int)==0)=true:=by rw [he];rfl
     by_cases hcc:4096<r.2.count
     case' pos=>
      have q1:decide ((4096:Int)<((r.2.count:Nat):Int))=true:=by simp;omega
      have hlim:r.2.lim.err≠0:=by rw [St.xU hcc he];simp
      have Pf:nN m W r.2.lim lN (w6.setCell ⟨m,5,none⟩ (.int .i64 3)):=by rw [St.xU hcc he];refine ⟨qI J4.out.cb 5 (.int .i64 3),fK J4.out.own (aN.set w6 m 5 _) (fun g e e'=>?_)⟩;have e1:g=m:=e';exact bR J4.out.own J4.out.cb (by decide) (by rw [<- e1];exact e)
      have HP:=hid (HR.out.stop (s':=r.2.lim) (w7:=w6.setCell ⟨m,5,none⟩ (.int .i64 3)) Ph.out (by rw [HRR.out];exact uM HY.out (by rw [<- HRR.out];exact hlim)) hlim Pf HV5.out.2 (Pg.out.trans (aN.set w6 m 5 _) (fun b _ e=>.inl e)));clear hlim Pf hcc he;go_wp2;go_ret;exact HP.out
     case' neg=>
      have q1:decide ((4096:Int)<((r.2.count:Nat):Int))=false:=by simp;omega
      have hlim:r.2.lim=r.2:=by unfold St.lim;rw [if_neg (fun e=>hcc e.1)]
      have MR:=HR.out.next (r:=r) HW.out.1 HW.out.2.1 HW.out.2.2.1 HW.out.2.2.2.1 FA.out HW.out.2.2.2.2 (.inl rfl) Vu.out (by show _+aj.bg (l.drop (k+1))<=aj.bg (l.drop k);have:=JV.out;omega) (by rw [HRR.out];exact JG HY.out (by rw [<- HRR.out,hlim];exact he)) he KA.out J2.out HV5.out.1 FZ.out QI.out QH.out
      have HF:Hid (AO m W (aj.gq W st p l) (fun k s=>aj.gq W s (pfx p k) (l.drop k)) (fun k=>aj.bg (l.drop k)) st vp p S (S+1) S [] n w (.slice a6 (na+n5) c6) (.int .i64 ((k+1:Nat):Int)) w6):=⟨k+1,_,lN,_,qU,pfx p k,rfl,by omega,MR⟩;clear hlim MR hcc he;go_wp2;go_roundw;case rel=>exact HF.out
      case measure=>simp [intOf];omega
    case' neg=>
     have q2:(((r.2.err:Nat):Int)==0)=false:=by simp;omega
     have hlim:r.2.lim=r.2:=St.FQ he;have HP:=hid (HR.out.stop (s':=r.2.lim) (w7:=w6) Ph.out (by rw [HRR.out];exact uM HY.out (by rw [<- HRR.out,hlim];exact he)) (by rw [hlim];exact he) (by rw [hlim];exact J4.out) HV5.out.2 Pg.out);clear hlim he;by_cases hcc:4096<r.2.count
     ·have q1:decide ((4096:Int)<((r.2.count:Nat):Int))=true:=by simp;omega
      clear hcc;go_wp2;go_ret;exact HP.out
     ·have q1:decide ((4096:Int)<((r.2.count:Nat):Int))=false:=by simp;omega
      clear hcc;go_wp2;go_ret;exact HP.out
  ·have hkl:k=l.length:=by have:=HN.out;omega
   have HP:=hid (hr.done (by have:=HS.out;omega) (by show aj.gq W st' (pfx p k) (l.drop k)=_;rw [hkl,List.drop_length,aj.gq]));obtain ⟨av,cv,hv⟩:=lu hr.row.own;subst hv;clear hkl hr hb0;go_wp2;go_ret;exact HP.out
end Go.Proofs.YtnmldmofggkoeaaGreatDoor

