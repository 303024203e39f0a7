/- Contracts of (*maker).block, kind by kind: what ends in a leaf. Contract of (*maker).blocks, where each block has its contract. Contract of (*maker).blocks, where each block has its contract: the walk. -/
import Derived.Test.YtnmldmofggkoeaaGreatDoorKBxP
import Derived.Test.YtnmldmofggkoeaaGreatDoorKBxA
import Derived.BigGuardPart
set_option maxHeartbeats 8000000
set_option maxRecDepth 100000
open Go.Lib (hid)
namespace Go.Proofs.YtnmldmofggkoeaaGreatDoor
open List renaming getElem?_eq_getElem->YG,length_map->YN,mem_of_getElem?->YT,getElem?_map->YZ
open Go.RowKit.Below renaming refl->YH
open Nat renaming le_refl->YI
open Go renaming World->Zu,Value->Zw
open Go.RowKit renaming Below->Zv
open Go.RowKit
set_option linter.unusedVariables false
set_option linter.unusedSimpArgs false
def mY (p:Px) (h:Int) (keep:Nat->Bool) (ts:List ByteArray) (k:Nat):List Bx:=(List.range k).map fun i=>Bx.new (p.text i (ts.getD i ⟨#[]⟩)) h (keep i)
theorem Ga (p:Px) (h:Int) (keep:Nat->Bool) (ts:List ByteArray) (k:Nat):(mY p h keep ts k).length=k:=by simp [mY]
theorem uV (p:Px) (h:Int) (keep:Nat->Bool) (ts:List ByteArray) (k:Nat) (x:ByteArray) (hx:ts[k]?=some x):mY p h keep ts (k+1)=mY p h keep ts k++[Bx.new (p.text (mY p h keep ts k).length x) h (keep k)]:=by rw [Ga];unfold mY;rw [List.range_succ,List.map_append,List.map_singleton,List.getD_eq_getElem?_getD,hx];rfl
theorem jM (p:Px) (h:Int) (keep:Nat->Bool) (ts:List ByteArray) (k:Nat):∀ y∈mY p h keep ts k,y.an=[]:=by intro y hy;obtain ⟨i,-,rfl⟩:=List.mem_map.1 hy;rfl
def bY (q N:Nat) (w5:Zu) (p:Px) (h:Int) (keep:Nat->Bool) (ts:List ByteArray) (vi:Zw) (wr:Zu):Prop:=
 ∃ (k:Nat) (v:Zw),k<=ts.length/\vi=.int .i64 k/\CB 99 q [.string p.first,.string p.rest,v] wr/\aI 37 6 (fun _=>False) N wr.heap.size ((mY p h keep ts k).map Bx.d) ((mY p h keep ts k).map bH) v wr/\aO (fun b=>b=q) w5 wr
theorem bY.zero {q:Nat} {w5:Zu} (p:Px) (h:Int) (keep:Nat->Bool) (ts:List ByteArray) (hc:CB 99 q [.string p.first,.string p.rest,.slice none 0 0] w5):bY q w5.heap.size w5 p h keep ts (.int .i64 0) w5:=
 ⟨0,_,Nat.zero_le _,rfl,hc,aI.nil _ _ _ (YI _),aO.refl _ _⟩
theorem bY.step {q:Nat} {w5 wr w':Zu} {p:Px} {h:Int} {keep:Nat->Bool} {ts:List ByteArray} {k:Nat} {x:ByteArray} {v:Zw} {e:Ending} {U:Nat} {b:Bool} (hk:k<ts.length) (hx:ts[k]?=some x) (hb:keep k=b) (hr:aI 37 6 (fun _=>False) w5.heap.size U ((mY p h keep ts k).map Bx.d) ((mY p h keep ts k).map bH) v wr) (hf:aO (fun b=>b=q) w5 wr) (ha:rY q p (mY p h keep ts k++[Bx.new (p.text (mY p h keep ts k).length x) h b]) w5.heap.size wr v e w'):bY q w5.heap.size w5 p h keep ts (.int .i64 ((k+1:Nat):Int)) w':=by
 obtain ⟨-,v',h1,h2,h3⟩:=ha;rw [<- hb,<- uV p h keep ts k x hx] at h2;refine ⟨k+1,v',hk,rfl,h1,h2,hf.trans h3 (fun b hb e=>?_)⟩;rcases e with e | e
 ·exact e
 ·have:=(hr.own.lt b e).1;omega
theorem Dl (w:Zu) (cs:List Zw) (f r:ByteArray):∃ S q w3,S=w.heap.size/\q=S+1+1/\w3=((w.alloc (.cells cs.toArray 47)).alloc (.cells #[.string f,.string r] 66)).alloc (.cells #[.string f,.string r,.slice none 0 0] 99) /\ CB 47 S cs w3/\CB 66 (S+1) [.string f,.string r] w3/\CB 99 q [.string f,.string r,.slice none 0 0] w3/\Zv w.heap.size w w3/\w3.heap.size=S+3:=by
 obtain ⟨w1,hw1⟩:∃ w1,w1=w.alloc (.cells cs.toArray 47):=⟨_,rfl⟩;obtain ⟨w2,hw2⟩:∃ w2,w2=w1.alloc (.cells #[.string f,.string r] 66):=⟨_,rfl⟩;obtain ⟨w3,hw3⟩:∃ w3,w3=w2.alloc (.cells #[.string f,.string r,.slice none 0 0] 99):=⟨_,rfl⟩;have z1:w1.heap.size=w.heap.size+1:=by rw [hw1];simp
 have z2:w2.heap.size=w.heap.size+2:=by rw [hw2];simp [z1]
 have k1:CB 47 w.heap.size cs w1:=by rw [hw1];exact CB.new _ _ _
 have k2:CB 66 (w.heap.size+1) [.string f,.string r] w2:=by rw [hw2,<- z1];exact CB.new _ _ _
 have k3:CB 99 (w.heap.size+2) [.string f,.string r,.slice none 0 0] w3:=by rw [hw3,<- z2];exact CB.new _ _ _
 have b2:Zv w1.heap.size w1 w2:=by rw [hw2];exact (YH _ _).alloc (YI _) _
 have b3:Zv w2.heap.size w2 w3:=by rw [hw3];exact (YH _ _).alloc (YI _) _
 have b1:Zv w.heap.size w w1:=by rw [hw1];exact (YH _ _).alloc (YI _) _
 refine ⟨w.heap.size,_,w3,rfl,rfl,by rw [hw3,hw2,hw1],(k1.below b2).below b3,k2.below b3,k3,aM (aM b1 b2) b3,by rw [hw3];simp [z2]⟩
structure lV (m:Nat) (W:Int) (w0:Zu) (st:St) (vp:Zw) (p:Px) (x:Nat) (w:Zu):Prop where
 m0:w0.heap.size<=m
 b0:Zv w0.heap.size w0 w
 uN:nQ m W st vp w
 wd:1<=W/\W<=1048576
 fit:Fits x st p
 tab:TabAt w0
 ml:jY w0
theorem lV.up {m:Nat} {W:Int} {w0:Zu} {st:St} {vp:Zw} {p:Px} {x:Nat} {w w1:Zu} (h:lV m W w0 st vp p x w) (hb:Zv w.heap.size w w1):lV m W w0 st vp p x w1:=⟨h.m0,aM h.b0 hb,h.uN.below hb,h.wd,h.fit,h.tab,h.ml⟩
theorem lV.xW {m:Nat} {W:Int} {w0:Zu} {st:St} {vp:Zw} {p:Px} {x:Nat} {w w1:Zu} (h:lV m W w0 st vp p x w) {P:Nat->Prop} (hf:aO P w w1) (hp:∀ b,P b->m<=b):Zv w0.heap.size w0 w1:=
 h.b0.trans (hf.below _ h.b0.size (fun b e=>Nat.le_trans h.m0 (hp b e)))
theorem xg.to {w0 w1:Zu} {a:At} {li:List ah} {ks:List aj} {vc vp vl vk:Zw} (h:xg (·<w0.heap.size) w0 a li ks vc vp vl vk) (hb:Zv w0.heap.size w0 w1):xg (·<w1.heap.size) w1 a li ks vc vp vl vk:=
 ⟨⟨h.at_.cls.up hb,h.at_.aT.up hb⟩,h.line.up hb,h.kids.up hb⟩
theorem x9 (k:Nat):∀ (s:ByteArray),((Lib.splitB CO 0 k s).map (·.size)).sum<=s.size:=by
 induction k with
 | zero=>intro s;rw [Lib.splitB];simp
 | succ k ih=>
  intro s;rw [Lib.splitB];split
  ·simp
  ·have h:=ih (s.extract ((Lib.indexB s CO).toNat+CO.size) s.size);rw [List.map_cons,List.sum_cons];rw [ByteArray.size_extract] at h ⊢;omega
theorem Dz (x:ByteArray) (wd:Int) (h:wd<=1048576):(kR x wd).length<=x.size+1:=by have h1:=(sF (q01 x) 30 wd (by decide) h).len;have h2:=Bb x;unfold kR mZ;rw [YN,List.length_range];omega
theorem oC (wd:Int) (h:wd<=1048576):∀ (l:List ByteArray),(nV wd l).length<=(l.map (·.size)).sum+l.length
 | []=>by simp [nV]
 | x::l=>by
  have h1:=Dz x wd h;have h2:=oC wd h l;unfold nV at h2 ⊢;rw [List.flatMap_cons,List.length_append,List.map_cons,List.sum_cons,List.length_cons];omega
theorem oD (s:ByteArray) (wd:Int) (h:wd<=1048576):(nV wd (eH s)).length<=2*s.size+1:=by have h1:=oC wd h (eH s);have h2:=x9 (Lib.countB s CO) s;have h3:=kQ s;unfold eH at *;omega
theorem iX (p:Px) (W:Int) (h:1<=W/\W<=1048576):1<=p.inner W/\p.inner W<=1048576:=by unfold Px.inner;omega
theorem om (li:List ah) (p:Px) (W:Int) (h:1<=W/\W<=1048576):(bV li (p.inner W)).length<=2*(ah.ay li).length+1/\bV li (p.inner W)≠[]:=by
 have h1:=oD (dL li) (p.inner W) (iX p W h).2;have h2:(dL li).size=(ah.ay li).length:=by show (ah.ay li).toArray.size=_;rw [List.size_toArray]
 unfold bV dM;split
 ·simp
 ·rename_i h3;exact ⟨by omega,h3⟩
theorem uW (li:List ah) (wd:Int) (hsh:(ah.ay li).length<=100000) (hle:eO li=0):∀ x∈bV li wd,x.size<=1000000000:=by
 intro x hx;unfold bV dM at hx;split at hx
 ·simp at hx;rw [hx];show (0:Nat)<=_;omega
 ·unfold nV at hx;obtain ⟨s,hs,hx⟩:=List.mem_flatMap.1 hx;have h1:=jE _ s hs;have h2:(dL li).size=(ah.ay li).length:=by show (ah.ay li).toArray.size=_;rw [List.size_toArray]
  have h3:=(nU (iQ _ hle s hs)).1;unfold kR mZ at hx;obtain ⟨j,-,rfl⟩:=List.mem_map.1 hx;have h4:=ru (q01 s) 100000 (fun y hy=>by have:=oG s y hy;omega) (dX (q01 s) (uw (bP (q01 s)) 30 wd) j) (iY (uw (bP (q01 s)) 30 wd) j);have h5:(q01 s).length*(1+100000)<=4096*100001:=Nat.mul_le_mul h3 (by omega);unfold iZ;omega
theorem eP (t:ByteArray):(iG t).size<=t.size:=by show (Lib.trimSuffix t.data.toList [10]).toArray.size<=_;rw [List.size_toArray];have:=Lib.trimSuffix_le t.data.toList [10];rw [Lib.size_eq];exact this
theorem rz (s:ByteArray) (w:Zu) (hs:s.size<=1000000) (hm:jY w):Calls Tryz.prog 57 #[.string s,.string ⟨#[10]⟩] w fun e w'=>e=.returned (.slice (some ⟨w.heap.size,0,none⟩) (eH s).length (eH s).length)/\w'=w.alloc (.cells ((eH s).map Value.string).toArray 9):=by obtain ⟨m,hm⟩:=hm;have h:=Tryz.strings_Split s CO m w (by omega) hm (by decide);rw [fZ];exact h
def fB (n:Nat):Nat->Bool:=fun j=>decide (1<n)&&(decide (j=0)||decide (j+2=n))
theorem DC (m:Nat) (W:Int) (w0:Zu) (st:St) (vp:Zw) (p:Px) (k lv:Int) (i t d ti:ByteArray) (at_:At) (li:List ah) (ks:List aj) (vc qo vl vk:Zw) (w:Zu) (hk:k=1\/k=2\/k=3\/k=4\/k=5) (hin:lV m W w0 st vp p (aj.mk k lv i t d ti at_ li ks).lU w) (hR:xg (·<w0.heap.size) w0 at_ li ks vc qo vl vk) (hsh:(ah.ay li).length<=100000) (hle:eO li=0) (ht:t.size<=100000) (Kk:(gK (ah.aC li)).length<=100000) : Calls Tryz.prog 44 #[.pointer (some ⟨m,0,none⟩),.agg #[.int .i64 k,.int .i64 lv,.string i,.string t,.string d,.string ti,.string at_.id,vc,qo,vl,vk],.agg #[.string p.first,.string p.rest]] w (bU m W w vp (aj.iF W st p (.mk k lv i t d ti at_ li ks))):=by
 obtain ⟨ac,nc,cc,rfl⟩:=Rd.au hR.at_.cls
 obtain ⟨ap,np,cp,rfl⟩:=Rd.au hR.at_.aT
 obtain ⟨al,nl,cl,rfl⟩:=Rd.au hR.line;obtain ⟨ak,nk,ck,rfl⟩:=Rd.au hR.kids;obtain ⟨S,q,w3,hS,hq,hw3,kb,kp,kl,b3,z3⟩:=Dl w [.int .i64 k,.int .i64 lv,.string i,.string t,.string d,.string ti,.string at_.id,.slice ac nc cc,.slice ap np cp,.slice al nl cl,.slice ak nk ck] p.first p.rest
 have hfit:=hin.fit;have hv:(aj.mk k lv i t d ti at_ li ks).lU=30+i.size+2*t.size+2*(ah.ay li).length+(gK (ah.aC li)).length+aj.bg ks:=by rw [aj.lU]
 have g1:=hfit.f;have g2:=hfit.r;have g3:=hfit.g;have g4:=hfit.c;have g5:=hfit.p;have hown:(bO at_ li).length<=(gK (ah.aC li)).length+1:=by unfold bO zq;split<;>simp
 have M9:=hid (hin.up b3);have DF:=(hin.up b3).b0;have HR:=hid hR;have KB:=hid kb;have KP:=hid kp;have KL:=hid kl;have B3:=hid b3;have HS:=hid hS;have uO:=hid hin;have V9:=hid (show (gK (ah.aC li)).length<=100000 from Kk);have Wd:=hid (fun (b:Nat) (e:vp.ownBlock=some b)=>(by rw [hS];exact (hin.uN.own.lt b e).2:b<S));have HQ:=hid hq;have Z3:=hid z3;have WD:=hid hin.wd;have Ih:m<S:=by rw [hS];exact hin.uN.cb.lt
 have zx:=hid Ih;have d0:=kb.cell 0 _ rfl;have d2:=kb.cell 2 _ rfl;have d3:=kb.cell 3 _ rfl;have d9:=kb.cell 9 _ rfl;have e0:=kp.cell 0 _ rfl;have e1:=kp.cell 1 _ rfl;have Ng:=(hin.up b3).uN.cb.cell 0 _ rfl;have C1:=hid (Aw p W w3.drew (by omega) (by omega) hin.wd ((hin.tab.below DF).below (YH _ _).drew));have Kl:=hid (iX p W hin.wd);have Gb:=hid (fun (w4:Zu) (hb:Zv w3.heap.size w3 w4)=>AJ li (.slice al nl cl) (p.inner W) w4 (hR.line.up (aM DF hb)) hsh hle (by have:=oD (dL li) (p.inner W) (iX p W hin.wd).2;have h2:(dL li).size=(ah.ay li).length:=(by show (ah.ay li).toArray.size=_;rw [List.size_toArray]);omega) (iX p W hin.wd).1 (iX p W hin.wd).2 ((hin.tab.below DF).below hb) ((hin.ml.below DF).below hb));have Fx:=hid (fun (w':Zu) (hb:Zv w3.heap.size w3 w')=>(⟨(kb.below hb).cell 9 _ rfl,(kp.below hb).cell 0 _ rfl,(kp.below hb).cell 1 _ rfl,((hin.up b3).uN.cb.below hb).cell 0 _ rfl⟩:w'.cell? ⟨S,9,none⟩=some (.slice al nl cl)/\w'.cell? ⟨S+1,0,none⟩=some (.string p.first)/\w'.cell? ⟨S+1,1,none⟩=some (.string p.rest)/\w'.cell? ⟨m,0,none⟩=some (.int .i64 W)));have S6:=Fx.out _ (YH _ _).drew;have yc:=hid (om li p W hin.wd);have yj:=hid (uW li (p.inner W) hsh hle);have Gc:=hid hfit;have HV:=hid hv;have HOWN:=hid hown;have TU:=hid hsh;have TV:=hid hle;have HT:=hid ht;clear kb kp kl b3 z3 hfit hv g3 g4 g5 hown hR hin DF hsh hle ht Ih Kk;go_enter Tryz.func44,Tryz.ntmps44;go_upto_region 2 with (fail)
 rw [<- hw3,<- hS,<- hq];clear hw3 hS hq;rcases hk with rfl | rfl | rfl | rfl | rfl
 case' inl=>
  go_upto_region 6 with (fail)
  obtain ⟨V,hV⟩:∃ V,V=p.inner W:=⟨_,rfl⟩;rw [<- hV] at C1 Gb yc yj Kl;have Nh:=hid hV;clear hV
  go_region_held3 (fun w'=>w'.cell? ⟨S,9,none⟩=some (.slice al nl cl)/\w'.cell? ⟨S+1,0,none⟩=some (.string p.first)/\w'.cell? ⟨S+1,1,none⟩=some (.string p.rest)/\w'.cell? ⟨m,0,none⟩=some (.int .i64 W))
   (with_reducible assumption)
   (first
    | (go_simp;go_at_call 55;(with_reducible refine C1.out.mono ?_);rintro e w4 ⟨rfl,b4⟩;have B4:=hid (show Zv w3.heap.size w3 w4 from (YH _ w3).drew.trans b4);have S4:=Fx.out w4 B4.out;have LC:=hid (Gb.out w4 B4.out))
    | (go_simp;go_at_call 54;(with_reducible refine LC.out.mono ?_);rintro e w5 ⟨v5,rfl,h5,b5⟩;obtain ⟨a5,c5,rfl⟩:=lI h5;have B5:=hid (aM B4.out b5);have S5:=Fx.out w5 B5.out;have H5:=hid h5))
  all_goals
   obtain ⟨L,hL⟩:∃ L,L=bV li V:=⟨_,rfl⟩;rw [<- hL] at H5 yc yj;have HL:=hid hL;obtain ⟨n,hn⟩:∃ n,n=L.length:=⟨_,rfl⟩;have hn1:1<=n:=by
    rcases Nat.eq_zero_or_pos n with h | h
    ·exact absurd (List.length_eq_zero_iff.1 (by omega)) yc.out.2
    ·exact h
   have hnm:n<=200001:=by have:=yc.out.1;have:=TU.out;omega
   rw [<- hL,<- hn];rw [<- hn] at H5;have HN:=hid hn;obtain ⟨g5,cap5,Km,hcap5⟩:=kT H5.out hn1;obtain ⟨rfl,rfl⟩:a5=some ⟨g5,0,none⟩/\c5=cap5:=by simp at Km;exact Km
   have hg5:=H5.out.lt g5 rfl;have DI:g5≠q:=fun e=>bR H5.out (KL.out.below B5.out) (by decide) (by rw [e];rfl)
   have R0:Hid (bY q w5.heap.size w5 p 1 (fB n) L (.int .i64 0) w5):=bY.zero p 1 (fB n) L (KL.out.below B5.out);have Fy:q<w5.heap.size:=(KL.out.below B5.out).lt;have oH:Hid (aj.iF W st p (.mk 1 lv i t d ti at_ li ks)=jZ st (mY p 1 (fB n) L n) (bO at_ li)):=by show _=_;rw [aj.iF];simp only [ite_true,true_or,or_true,if_neg (show ¬ eO li≠0 from fun h=>h TV.out),<- Nh.out,<- HL.out,iW,<- HN.out];rfl
   unfold maxLen at *;clear hL hn S6 S4 S5 h5 b4 b5 C1 LC Gb Fx B4 d0 d2 d3 d9 e0 e1 Ng Km;go_wp2
   go_loopw [42] (fun vi wr=>bY q w5.heap.size w5 p 1 (fB n) L vi wr) (fun vi _=>n-(intOf vi).toNat)
   case' atStart=>exact R0.out
   case' round=>
    clear R0;obtain ⟨j,v,hj,rfl,hcl,hrow,hfr⟩:=hrel;have hjn:j<=n:=by have:=HN.out;omega
    rcases Nat.lt_or_ge j n with hlt | hge
    case' inl=>
     obtain ⟨x,hx⟩:∃ x,L[j]?=some x:=⟨_,YG (by have:=HN.out;omega)⟩;have hxs:=yj.out x (YT hx);have c0:wr.cell? ⟨g5,j,none⟩=some (.string x):=by have h1:=H5.out.cellAt j (by omega);rw [YZ,hx] at h1;exact (mg (hfr.blk g5 hg5.2 DI) (o:=j)).trans h1
     have d0:=((KB.out.below B5.out).fr hfr (fun e=>by have:=HQ.out;have e1:S=q:=e;omega)).cell 0 _ rfl;have hal:=Ga p 1 (fB n) L j;have A1:=fun (b:Bool)=>jC q p (mY p 1 (fB n) L j) v w5.heap.size wr.heap.size x 1 b wr (by omega) (by omega) hxs (by omega) hcl Fy hrow
     have HST:=hid (fun (b:Bool) (hb:(fB n) j=b) e w' ha=>bY.step (e:=e) (w':=w') (by have:=HN.out;omega) hx hb hrow hfr ha);have HA1:=hid A1;clear hx hxs hal hcl hrow hfr A1;rcases (by unfold fB;rcases Nat.lt_or_ge 1 n with h1 | h1;rotate_left;exact .inl ⟨by omega,by simp;omega⟩;rcases Nat.eq_zero_or_pos j with h2 | h2;exact .inr (.inl ⟨h1,h2,by simp [h1,h2]⟩);rcases Nat.decEq (j+2) n with h3 | h3;exact .inr (.inr (.inr ⟨h1,by omega,h3,by simp [h3];omega⟩));exact .inr (.inr (.inl ⟨h1,by omega,h3,by simp [h1,h3]⟩)):(¬ 1<n/\fB n j=false)\/(1<n/\j=0/\fB n j=true)\/(1<n/\j≠0/\j+2=n/\fB n j=true)\/(1<n/\j≠0/\j+2≠n/\fB n j=false)) with ⟨h1,hb⟩ | ⟨h1,h2,hb⟩ | ⟨h1,h2,h3,hb⟩ | ⟨h1,h2,h3,hb⟩
     ·have HB:=hid hb;clear hb;have q1:decide ((1:Int)<(n:Int))=false:=by simp;omega
      clear h1;go_wp2_with fail
      (with_reducible refine (HA1.out false).mono ?_)
      rintro e w6 ha;have HF:=hid (HST.out false HB.out _ _ ha);obtain ⟨rfl,-⟩:=ha;clear c0 d0 HA1 HST;go_wp2;go_roundw;case rel=>exact HF.out
      case measure=>simp [intOf];omega
     ·have HB:=hid hb;clear hb;have q1:decide ((1:Int)<(n:Int))=true:=by simp;omega
      have q2:((j:Int)==0)=true:=by simp;omega
      clear h2;go_wp2_with fail
      (with_reducible refine (HA1.out true).mono ?_)
      rintro e w6 ha;have HF:=hid (HST.out true HB.out _ _ ha);obtain ⟨rfl,-⟩:=ha;clear c0 d0 HA1 HST;go_wp2;go_roundw;case rel=>exact HF.out
      case measure=>simp [intOf];omega
     ·have HB:=hid hb;clear hb;have q1:decide ((1:Int)<(n:Int))=true:=by simp;omega
      have q2:((j:Int)==0)=false:=by simp;omega
      have q3:((j:Int)==(n:Int)-2)=true:=by simp;omega
      have q4:(2:Int)<=(n:Int):=by omega
      clear h2 h3;go_wp2_with fail
      (with_reducible refine (HA1.out true).mono ?_)
      rintro e w6 ha;have HF:=hid (HST.out true HB.out _ _ ha);obtain ⟨rfl,-⟩:=ha;clear c0 d0 HA1 HST;go_wp2;go_roundw;case rel=>exact HF.out
      case measure=>simp [intOf];omega
     ·have HB:=hid hb;clear hb;have q1:decide ((1:Int)<(n:Int))=true:=by simp;omega
      have q2:((j:Int)==0)=false:=by simp;omega
      have q3:((j:Int)==(n:Int)-2)=false:=by simp;omega
      have q4:(2:Int)<=(n:Int):=by omega
      clear h2 h3;go_wp2_with fail
      (with_reducible refine (HA1.out false).mono ?_)
      rintro e w6 ha;have HF:=hid (HST.out false HB.out _ _ ha);obtain ⟨rfl,-⟩:=ha;clear c0 d0 HA1 HST;go_wp2;go_roundw;case rel=>exact HF.out
      case measure=>simp [intOf];omega
    case' inr=>
     have oI:j=n:=by omega
     have hE:=oH.out;rw [oI] at hrow;obtain ⟨LL,kI⟩:∃ LL,LL=mY p 1 (fB n) L n:=⟨_,rfl⟩;have hln:LL.length<=200001/\LL≠[]/\(∀ y∈LL,y.an=[])/\LL.length<=2*(ah.ay li).length+2*t.size+1:=by have h1:=Ga p 1 (fB n) L n;rw [<- kI] at h1;refine ⟨by omega,fun e=>?_,by rw [kI];exact jM _ _ _ _ _,by have:=yc.out.1;have:=HN.out;omega⟩;rw [e] at h1;simp at h1;omega
     rw [<- kI] at hE hrow;have HE:=hid hE;have Kn:=hid hln;have RW:=hid hrow;have CL:=hid hcl;have FR:=hid hfr;clear hE kI hln hrow hcl hfr oH H5 yc yj HL HN Nh hj hg5 DI hcap5 Kl oI;go_upto_region 40 with (fail)
     clear hjn hge hn1 hnm
 case' inr.inl=>
  go_upto_region 6 with (fail)
  obtain ⟨V,hV⟩:∃ V,V=p.inner W:=⟨_,rfl⟩;rw [<- hV] at C1 Gb yc yj Kl;have Nh:=hid hV;clear hV
  go_region_held3 (fun w'=>w'.cell? ⟨S,9,none⟩=some (.slice al nl cl)/\w'.cell? ⟨S+1,0,none⟩=some (.string p.first)/\w'.cell? ⟨S+1,1,none⟩=some (.string p.rest)/\w'.cell? ⟨m,0,none⟩=some (.int .i64 W))
   (with_reducible assumption)
   (first
    | (go_simp;go_at_call 55;(with_reducible refine C1.out.mono ?_);rintro e w4 ⟨rfl,b4⟩;have B4:=hid (show Zv w3.heap.size w3 w4 from (YH _ w3).drew.trans b4);have S4:=Fx.out w4 B4.out;have LC:=hid (Gb.out w4 B4.out))
    | (go_simp;go_at_call 54;(with_reducible refine LC.out.mono ?_);rintro e w5 ⟨v5,rfl,h5,b5⟩;obtain ⟨a5,c5,rfl⟩:=lI h5;have B5:=hid (aM B4.out b5);have S5:=Fx.out w5 B5.out;have H5:=hid h5))
  all_goals
   obtain ⟨L,hL⟩:∃ L,L=bV li V:=⟨_,rfl⟩;rw [<- hL] at H5 yc yj;have HL:=hid hL;obtain ⟨n,hn⟩:∃ n,n=L.length:=⟨_,rfl⟩;have hn1:1<=n:=by
    rcases Nat.eq_zero_or_pos n with h | h
    ·exact absurd (List.length_eq_zero_iff.1 (by omega)) yc.out.2
    ·exact h
   have hnm:n<=200001:=by have:=yc.out.1;have:=TU.out;omega
   rw [<- hL,<- hn];rw [<- hn] at H5;have HN:=hid hn;obtain ⟨g5,cap5,Km,hcap5⟩:=kT H5.out hn1;obtain ⟨rfl,rfl⟩:a5=some ⟨g5,0,none⟩/\c5=cap5:=by simp at Km;exact Km
   have hg5:=H5.out.lt g5 rfl;have DI:g5≠q:=fun e=>bR H5.out (KL.out.below B5.out) (by decide) (by rw [e];rfl)
   have R0:Hid (bY q w5.heap.size w5 p 2 (fun _=>true) L (.int .i64 0) w5):=bY.zero p 2 (fun _=>true) L (KL.out.below B5.out);have Fy:q<w5.heap.size:=(KL.out.below B5.out).lt;have oH:Hid (aj.iF W st p (.mk 2 lv i t d ti at_ li ks)=jZ st (mY p 2 (fun _=>true) L n) (bO at_ li)):=by show _=_;rw [aj.iF];simp only [ite_true,true_or,or_true,if_neg (show ¬ eO li≠0 from fun h=>h TV.out),<- Nh.out,<- HL.out,iW,<- HN.out];rfl
   unfold maxLen at *;clear hL hn S6 S4 S5 h5 b4 b5 C1 LC Gb Fx B4 d0 d2 d3 d9 e0 e1 Ng Km;go_wp2
   go_loopw [42] (fun vi wr=>bY q w5.heap.size w5 p 2 (fun _=>true) L vi wr) (fun vi _=>n-(intOf vi).toNat)
   case' atStart=>exact R0.out
   case' round=>
    clear R0;obtain ⟨j,v,hj,rfl,hcl,hrow,hfr⟩:=hrel;have hjn:j<=n:=by have:=HN.out;omega
    rcases Nat.lt_or_ge j n with hlt | hge
    case' inl=>
     obtain ⟨x,hx⟩:∃ x,L[j]?=some x:=⟨_,YG (by have:=HN.out;omega)⟩;have hxs:=yj.out x (YT hx);have c0:wr.cell? ⟨g5,j,none⟩=some (.string x):=by have h1:=H5.out.cellAt j (by omega);rw [YZ,hx] at h1;exact (mg (hfr.blk g5 hg5.2 DI) (o:=j)).trans h1
     have d0:=((KB.out.below B5.out).fr hfr (fun e=>by have:=HQ.out;have e1:S=q:=e;omega)).cell 0 _ rfl;have hal:=Ga p 2 (fun _=>true) L j;have A1:=fun (b:Bool)=>jC q p (mY p 2 (fun _=>true) L j) v w5.heap.size wr.heap.size x 2 b wr (by omega) (by omega) hxs (by omega) hcl Fy hrow
     have HST:=hid (fun (b:Bool) (hb:(fun _=>true) j=b) e w' ha=>bY.step (e:=e) (w':=w') (by have:=HN.out;omega) hx hb hrow hfr ha);have HA1:=hid A1;clear hx hxs hal hcl hrow hfr A1;go_wp2_with fail
     (with_reducible refine (HA1.out true).mono ?_)
     rintro e w6 ha;have HF:=hid (HST.out true rfl _ _ ha);obtain ⟨rfl,-⟩:=ha;clear c0 d0 HA1 HST;go_wp2;go_roundw;case rel=>exact HF.out
     case measure=>simp [intOf];omega
    case' inr=>
     have oI:j=n:=by omega
     have hE:=oH.out;rw [oI] at hrow;obtain ⟨LL,kI⟩:∃ LL,LL=mY p 2 (fun _=>true) L n:=⟨_,rfl⟩;have hln:LL.length<=200001/\LL≠[]/\(∀ y∈LL,y.an=[])/\LL.length<=2*(ah.ay li).length+2*t.size+1:=by have h1:=Ga p 2 (fun _=>true) L n;rw [<- kI] at h1;refine ⟨by omega,fun e=>?_,by rw [kI];exact jM _ _ _ _ _,by have:=yc.out.1;have:=HN.out;omega⟩;rw [e] at h1;simp at h1;omega
     rw [<- kI] at hE hrow;have HE:=hid hE;have Kn:=hid hln;have RW:=hid hrow;have CL:=hid hcl;have FR:=hid hfr;clear hE kI hln hrow hcl hfr oH H5 yc yj HL HN Nh hj hg5 DI hcap5 Kl oI;go_upto_region 40 with (fail)
     clear hjn hge hn1 hnm
 case' inr.inr.inl=>
  have TS:=hid (Tryz.strings_TrimSuffix t ⟨#[10]⟩ w3 (by have:=HT.out;omega));rw [show (⟨(Lib.trimSuffix t.data.toList (ByteArray.mk #[10]).data.toList).toArray⟩:ByteArray)=iG t from rfl] at TS;have Ko:=hid (rz (iG t) w3 (by have:=eP t;have:=HT.out;omega) (by have h:=M9.out;exact h.ml.below h.b0));obtain ⟨L,hL⟩:∃ L,L=eH (iG t):=⟨_,rfl⟩;obtain ⟨n,hn⟩:∃ n,n=L.length:=⟨_,rfl⟩;have DJ:(∀ x∈L,x.size<=100000)/\1<=L.length/\L.length<=t.size+1:=by rw [hL];have h1:=eP t;have h2:=HT.out;have h3:=kQ (iG t);exact ⟨fun x hx=>by have:=jE _ x hx;omega,by rw [fZ];omega,by omega⟩
  rw [<- hn] at DJ;rw [<- hL,<- hn] at Ko;have HN:=hid hn;have yj:=hid DJ.1;have hn1:1<=n:=DJ.2.1;have hnm:n<=100001:=by have:=HT.out;omega
  have Ni:Hid (n<=t.size+1):=DJ.2.2;have oH:Hid (aj.iF W st p (.mk 3 lv i t d ti at_ li ks)=jZ st (mY p 1 (fun _=>false) L n) (bO at_ li)):=by show _=_;rw [aj.iF,<- hL];rw [hn];rfl
  clear hL hn DJ S6 Fx C1 Gb yc Kl;go_wp2_with fail
  (with_reducible refine TS.out.mono ?_)
  rintro e wz ⟨rfl,hwz⟩;have hwz:=hwz.symm;subst hwz;go_wp2_with fail
  (with_reducible refine Ko.out.mono ?_)
  rintro e w5 ⟨rfl,uL⟩;obtain ⟨g5,hg5⟩:∃ g5,g5=w3.heap.size:=⟨_,rfl⟩;have K5:Hid (CB 9 g5 (L.map Value.string) w5):=by rw [uL,hg5];exact CB.new _ _ _
  have B5:Hid (Zv w3.heap.size w3 w5):=by rw [uL];exact (YH _ _).alloc (YI _) _
  have DI:g5≠q:=by have:=KL.out.lt;omega
  have Fy:q<w5.heap.size:=(KL.out.below B5.out).lt;have R0:Hid (bY q w5.heap.size w5 p 1 (fun _=>false) L (.int .i64 0) w5):=bY.zero p 1 (fun _=>false) L (KL.out.below B5.out);rw [<- hg5];unfold maxLen at *;clear uL hg5 TS Ko d0 d2 d3 d9 e0 e1 Ng;go_wp2
  go_loopw [78] (fun vi wr=>bY q w5.heap.size w5 p 1 (fun _=>false) L vi wr) (fun vi _=>n-(intOf vi).toNat)
  case' atStart=>exact R0.out
  case' round=>
   clear R0;obtain ⟨j,v,hj,rfl,hcl,hrow,hfr⟩:=hrel;have hjn:j<=n:=by have:=HN.out;omega
   rcases Nat.lt_or_ge j n with hlt | hge
   case' inl=>
    obtain ⟨x,hx⟩:∃ x,L[j]?=some x:=⟨_,YG (by have:=HN.out;omega)⟩;have hxs:=yj.out x (YT hx);have c0:wr.cell? ⟨g5,j,none⟩=some (.string x):=(K5.out.fr hfr DI).cell j _ (by rw [YZ,hx];rfl);have d0:=((KB.out.below B5.out).fr hfr (fun e=>by have:=HQ.out;have e1:S=q:=e;omega)).cell 0 _ rfl;have hal:=Ga p 1 (fun _=>false) L j;have A1:=fun (b:Bool)=>jC q p (mY p 1 (fun _=>false) L j) v w5.heap.size wr.heap.size x 1 b wr (by omega) (by omega) (by omega) (by omega) hcl Fy hrow
    have HST:=hid (fun (b:Bool) (hb:(fun _=>false) j=b) e w' ha=>bY.step (e:=e) (w':=w') (by have:=HN.out;omega) hx hb hrow hfr ha);have HA1:=hid A1;clear hx hxs hal hcl hrow hfr A1;go_wp2_with fail
    (with_reducible refine (HA1.out false).mono ?_)
    rintro e w6 ha;have HF:=hid (HST.out false rfl _ _ ha);obtain ⟨rfl,-⟩:=ha;clear c0 d0 HA1 HST;go_wp2;go_roundw;case rel=>exact HF.out
    case measure=>simp [intOf];omega
   case' inr=>
    have oI:j=n:=by omega
    have hE:=oH.out;rw [oI] at hrow;obtain ⟨LL,kI⟩:∃ LL,LL=mY p 1 (fun _=>false) L n:=⟨_,rfl⟩;have hln:LL.length<=200001/\LL≠[]/\(∀ y∈LL,y.an=[])/\LL.length<=2*(ah.ay li).length+2*t.size+1:=by have h1:=Ga p 1 (fun _=>false) L n;rw [<- kI] at h1;refine ⟨by omega,fun e=>?_,by rw [kI];exact jM _ _ _ _ _,by have:=Ni.out;omega⟩;rw [e] at h1;simp at h1;omega
    rw [<- kI] at hE hrow;have HE:=hid hE;have Kn:=hid hln;have RW:=hid hrow;have CL:=hid hcl;have FR:=hid hfr;clear hE kI hln hrow hcl hfr oH yj HN hj DI oI K5 Ni;go_upto_region 40 with (fail)
    clear hjn hge hn1 hnm
 case' inr.inr.inr.inl=>
  have TS:=hid (Tryz.strings_TrimSuffix t ⟨#[10]⟩ w3 (by have:=HT.out;omega));rw [show (⟨(Lib.trimSuffix t.data.toList (ByteArray.mk #[10]).data.toList).toArray⟩:ByteArray)=iG t from rfl] at TS;have Ko:=hid (rz (iG t) w3 (by have:=eP t;have:=HT.out;omega) (by have h:=M9.out;exact h.ml.below h.b0));obtain ⟨L,hL⟩:∃ L,L=eH (iG t):=⟨_,rfl⟩;obtain ⟨n,hn⟩:∃ n,n=L.length:=⟨_,rfl⟩;have DJ:(∀ x∈L,x.size<=100000)/\1<=L.length/\L.length<=t.size+1:=by rw [hL];have h1:=eP t;have h2:=HT.out;have h3:=kQ (iG t);exact ⟨fun x hx=>by have:=jE _ x hx;omega,by rw [fZ];omega,by omega⟩
  rw [<- hn] at DJ;rw [<- hL,<- hn] at Ko;have HN:=hid hn;have yj:=hid DJ.1;have hn1:1<=n:=DJ.2.1;have hnm:n<=100001:=by have:=HT.out;omega
  have Ni:Hid (n<=t.size+1):=DJ.2.2;have oH:Hid (aj.iF W st p (.mk 4 lv i t d ti at_ li ks)=jZ st (mY p 1 (fun j=>decide (j+1<n)) L n) (bO at_ li)):=by show _=_;rw [aj.iF,<- hL];rw [hn];rfl
  clear hL hn DJ S6 Fx C1 Gb yc Kl;go_wp2_with fail
  (with_reducible refine TS.out.mono ?_)
  rintro e wz ⟨rfl,hwz⟩;have hwz:=hwz.symm;subst hwz;go_wp2_with fail
  (with_reducible refine Ko.out.mono ?_)
  rintro e w5 ⟨rfl,uL⟩;obtain ⟨g5,hg5⟩:∃ g5,g5=w3.heap.size:=⟨_,rfl⟩;have K5:Hid (CB 9 g5 (L.map Value.string) w5):=by rw [uL,hg5];exact CB.new _ _ _
  have B5:Hid (Zv w3.heap.size w3 w5):=by rw [uL];exact (YH _ _).alloc (YI _) _
  have DI:g5≠q:=by have:=KL.out.lt;omega
  have Fy:q<w5.heap.size:=(KL.out.below B5.out).lt;have R0:Hid (bY q w5.heap.size w5 p 1 (fun j=>decide (j+1<n)) L (.int .i64 0) w5):=bY.zero p 1 (fun j=>decide (j+1<n)) L (KL.out.below B5.out);rw [<- hg5];unfold maxLen at *;clear uL hg5 TS Ko d0 d2 d3 d9 e0 e1 Ng;go_wp2
  go_loopw [78] (fun vi wr=>bY q w5.heap.size w5 p 1 (fun j=>decide (j+1<n)) L vi wr) (fun vi _=>n-(intOf vi).toNat)
  case' atStart=>exact R0.out
  case' round=>
   clear R0;obtain ⟨j,v,hj,rfl,hcl,hrow,hfr⟩:=hrel;have hjn:j<=n:=by have:=HN.out;omega
   rcases Nat.lt_or_ge j n with hlt | hge
   case' inl=>
    obtain ⟨x,hx⟩:∃ x,L[j]?=some x:=⟨_,YG (by have:=HN.out;omega)⟩;have hxs:=yj.out x (YT hx);have c0:wr.cell? ⟨g5,j,none⟩=some (.string x):=(K5.out.fr hfr DI).cell j _ (by rw [YZ,hx];rfl);have d0:=((KB.out.below B5.out).fr hfr (fun e=>by have:=HQ.out;have e1:S=q:=e;omega)).cell 0 _ rfl;have hal:=Ga p 1 (fun j=>decide (j+1<n)) L j;have A1:=fun (b:Bool)=>jC q p (mY p 1 (fun j=>decide (j+1<n)) L j) v w5.heap.size wr.heap.size x 1 b wr (by omega) (by omega) (by omega) (by omega) hcl Fy hrow
    have HST:=hid (fun (b:Bool) (hb:(fun j=>decide (j+1<n)) j=b) e w' ha=>bY.step (e:=e) (w':=w') (by have:=HN.out;omega) hx hb hrow hfr ha);have HA1:=hid A1;clear hx hxs hal hcl hrow hfr A1;have hcs:(j+1<n/\decide (j+1<n)=true)\/(¬ j+1<n/\decide (j+1<n)=false):=by rcases Nat.lt_or_ge (j+1) n with h | h;exact .inl ⟨h,by simpa using h⟩;exact .inr ⟨by omega,by simpa using h⟩
    rcases hcs with ⟨h1,hb⟩ | ⟨h1,hb⟩
    ·have HB:=hid hb;have q1:decide ((j:Int)<(n:Int)-1)=true:=by simp;omega
     clear hb;go_wp2_with fail
     (with_reducible refine (HA1.out true).mono ?_)
     rintro e w6 ha;have HF:=hid (HST.out true HB.out _ _ ha);obtain ⟨rfl,-⟩:=ha;clear c0 d0 HA1 HST;go_wp2;go_roundw;case rel=>exact HF.out
     case measure=>simp [intOf];omega
    ·have HB:=hid hb;have q1:decide ((j:Int)<(n:Int)-1)=false:=by simp;omega
     clear hb;go_wp2_with fail
     (with_reducible refine (HA1.out false).mono ?_)
     rintro e w6 ha;have HF:=hid (HST.out false HB.out _ _ ha);obtain ⟨rfl,-⟩:=ha;clear c0 d0 HA1 HST;go_wp2;go_roundw;case rel=>exact HF.out
     case measure=>simp [intOf];omega
   case' inr=>
    have oI:j=n:=by omega
    have hE:=oH.out;rw [oI] at hrow;obtain ⟨LL,kI⟩:∃ LL,LL=mY p 1 (fun j=>decide (j+1<n)) L n:=⟨_,rfl⟩;have hln:LL.length<=200001/\LL≠[]/\(∀ y∈LL,y.an=[])/\LL.length<=2*(ah.ay li).length+2*t.size+1:=by have h1:=Ga p 1 (fun j=>decide (j+1<n)) L n;rw [<- kI] at h1;refine ⟨by omega,fun e=>?_,by rw [kI];exact jM _ _ _ _ _,by have:=Ni.out;omega⟩;rw [e] at h1;simp at h1;omega
    rw [<- kI] at hE hrow;have HE:=hid hE;have Kn:=hid hln;have RW:=hid hrow;have CL:=hid hcl;have FR:=hid hfr;clear hE kI hln hrow hcl hfr oH yj HN hj DI oI K5 Ni;go_upto_region 40 with (fail)
    clear hjn hge hn1 hnm
 case' inr.inr.inr.inr=>
  have Iw:=aI.nil 37 6 (fun _=>False) (YI w3.heap.size);have Fy:q<w3.heap.size:=KL.out.lt;have A1:=hid (jC q p [] (.slice none 0 0) w3.heap.size w3.heap.size ⟨#[45,45,45]⟩ 1 false w3 (by omega) (by omega) (by show 3<=_;omega) (by simp) KL.out Fy Iw);have HE:Hid (aj.iF W st p (.mk 5 lv i t d ti at_ li ks)=jZ st ([]++[Bx.new (p.text ([]:List Bx).length ⟨#[45,45,45]⟩) 1 false]) (bO at_ li)):=by show _=_;rw [aj.iF];rfl
  clear S6 Fx C1 Gb yc yj Kl Iw;go_wp2_with fail
  (with_reducible refine A1.out.mono ?_)
  rintro e wr ⟨rfl,v,hcl,hrow,hfr⟩;obtain ⟨w5,uL⟩:∃ w5:Zu,w5=w3:=⟨_,rfl⟩;have B5:Hid (Zv w3.heap.size w3 w5):=by rw [uL];exact YH _ _
  rw [<- uL] at hfr hrow Fy;have FR:Hid (aO (fun b=>b=q) w5 wr):=hfr.mono (fun b _ e=>e.elim id (fun e=>by simp [Value.ownBlock] at e));obtain ⟨LL,kI⟩:∃ LL,LL=[]++[Bx.new (p.text ([]:List Bx).length ⟨#[45,45,45]⟩) 1 false]:=⟨_,rfl⟩;rw [<- kI] at hrow HE;have Kn:Hid (LL.length<=200001/\LL≠[]/\(∀ y∈LL,y.an=[])/\LL.length<=2*(ah.ay li).length+2*t.size+1):=by rw [kI];exact ⟨by simp,by simp,by intro y hy;simp at hy;rw [hy];rfl,by simp⟩
  have RW:=hid hrow;have CL:=hid hcl;clear kI hrow hcl hfr uL A1 d0 d2 d3 d9 e0 e1 Ng;go_upto_region 40 with (fail)
 all_goals
  obtain ⟨kk,TW⟩:∃ kk,Hid (CB 47 S [.int .i64 kk,.int .i64 lv,.string i,.string t,.string d,.string ti,.string at_.id,.slice ac nc cc,.slice ap np cp,.slice al nl cl,.slice ak nk ck] w3):=⟨_,KB⟩;clear KB;have JX:S≠q:=by have:=HQ.out;omega
  have Wh:m≠q:=by have:=HQ.out;have:=zx.out;omega
  have Kr:=M9.out.uN;have kS:=Kr.own;have hpl:∀ b,vp.ownBlock=some b->b<S:=fun b e=>Wd.out b e
  have hmk:=(Kr.below B5.out).fr FR.out Wh (fun b e e'=>by have:=hpl b e;have:=HQ.out;have e1:b=q:=e';omega);have hkb:=(TW.out.below B5.out).fr FR.out JX;obtain ⟨av,cv,hv⟩:=lI RW.out.own;obtain ⟨nv,TY⟩:∃ nv,nv=(LL.map Bx.d).length:=⟨_,rfl⟩;rw [<- TY] at hv;subst hv;have hsw:S=w.heap.size:=HS.out;have Wi:q=S+1+1:=HQ.out;have hF:aO (fun b=>b=m\/vp.ownBlock=some b) w wr:=(aO.of_below (aM B3.out B5.out) _).trans FR.out (fun b hb e=>by omega);have BZ:w.heap.size<=w5.heap.size:=(aM B3.out B5.out).size;have hb0:Zv w0.heap.size w0 wr:=uO.out.xW hF (fun b e=>by
   rcases e with e | e
   ·omega
   ·exact (kS.lt b e).1)
  have Nj:S<w5.heap.size:=(TW.out.below B5.out).lt;have Nk:q<w5.heap.size:=(KL.out.below B5.out).lt;have AC:=hid (xS kk lv i t d ti at_ li ks (.slice ac nc cc) (.slice ap np cp) (.slice al nl cl) (.slice ak nk ck) wr.drew (HR.out.to (aM hb0 ((YH _ wr).drew))) (by have:=Gc.out.f;have:=HV.out;have:=V9.out;omega));have SF:=hid (fun (w':Zu) (hc:CB 47 S [.int .i64 kk,.int .i64 lv,.string i,.string t,.string d,.string ti,.string at_.id,.slice ac nc cc,.slice ap np cp,.slice al nl cl,.slice ak nk ck] w') (hl:CB 99 q [.string p.first,.string p.rest,.slice av nv cv] w')=>(⟨hc.cell 0 _ rfl,hc.cell 1 _ rfl,hc.cell 2 _ rfl,hc.cell 3 _ rfl,hc.cell 4 _ rfl,hc.cell 5 _ rfl,hc.cell 6 _ rfl,hc.cell 7 _ rfl,hc.cell 8 _ rfl,hc.cell 9 _ rfl,hc.cell 10 _ rfl,hl.cell 2 _ rfl⟩:w'.cell? ⟨S,0,none⟩=some (.int .i64 kk)/\w'.cell? ⟨S,1,none⟩=some (.int .i64 lv)/\w'.cell? ⟨S,2,none⟩=some (.string i)/\w'.cell? ⟨S,3,none⟩=some (.string t)/\w'.cell? ⟨S,4,none⟩=some (.string d)/\w'.cell? ⟨S,5,none⟩=some (.string ti)/\w'.cell? ⟨S,6,none⟩=some (.string at_.id)/\w'.cell? ⟨S,7,none⟩=some (.slice ac nc cc)/\w'.cell? ⟨S,8,none⟩=some (.slice ap np cp)/\w'.cell? ⟨S,9,none⟩=some (.slice al nl cl)/\w'.cell? ⟨S,10,none⟩=some (.slice ak nk ck)/\w'.cell? ⟨q,2,none⟩=some (.slice av nv cv)));have S0:=SF.out wr.drew (hkb.below (YH _ _).drew) (CL.out.below (YH _ _).drew);have vN:∀ b,(Value.slice av nv cv).ownBlock=some b->w5.heap.size<=b:=fun b e=>(RW.out.own.lt b e).1
  have vW:∀ b,(Value.slice av nv cv).ownBlock=some b->b<wr.heap.size:=fun b e=>(RW.out.own.lt b e).2
  have LF:=hid (fun (w6:Zu) (vo:Zw) (b6:Zv wr.heap.size wr w6) (ho:Rd (wr.heap.size<=·) w6 (dU (bO at_ li)) [vo])=>uP m W st vp w5.heap.size wr.heap.size (.slice av nv cv) vo LL (bO at_ li) (wr.heap.size<=·) w6 (hmk.below b6) Kn.out.2.1 (RW.out.below b6) Kn.out.2.2.1 ho (fun b hb e=>by have:=vW b e;have hb':wr.heap.size<=b:=hb;omega)
   (by have:=Gc.out.g;omega) (by have:=Gc.out.c;omega) (by have:=Kn.out.1;omega) (by have:=Gc.out.p;have:=HV.out;have:=HOWN.out;omega) (by have:=zx.out;omega) (fun b e=>by have:=hpl b e;omega))
  have LW:=hid hkb;have HF:=hid hF;have LZ:=hid (And.intro Nj (And.intro Nk (And.intro vN (And.intro BZ hpl))));clear hkb hF hb0 Nj Nk vN vW BZ hpl kS Kr hmk hsw Wi TY
  go_region_held3 (fun w'=>w'.cell? ⟨S,0,none⟩=some (.int .i64 kk)/\w'.cell? ⟨S,1,none⟩=some (.int .i64 lv)/\w'.cell? ⟨S,2,none⟩=some (.string i)/\w'.cell? ⟨S,3,none⟩=some (.string t)/\w'.cell? ⟨S,4,none⟩=some (.string d)/\w'.cell? ⟨S,5,none⟩=some (.string ti)/\w'.cell? ⟨S,6,none⟩=some (.string at_.id)/\w'.cell? ⟨S,7,none⟩=some (.slice ac nc cc)/\w'.cell? ⟨S,8,none⟩=some (.slice ap np cp)/\w'.cell? ⟨S,9,none⟩=some (.slice al nl cl)/\w'.cell? ⟨S,10,none⟩=some (.slice ak nk ck)/\w'.cell? ⟨q,2,none⟩=some (.slice av nv cv))
   (with_reducible assumption)
   (first
    | (go_simp;go_at_call 65;(with_reducible refine AC.out.mono ?_);rintro e w6 ⟨vo,rfl,h6,b6⟩;obtain ⟨a6,c6,rfl⟩:=lI h6;have B6:=hid (show Zv wr.heap.size wr w6 from ⟨b6.os,b6.tape,b6.output,b6.size,b6.block⟩);have Wj:=SF.out w6 (LW.out.below B6.out) (CL.out.below B6.out);have LC:=hid (LF.out w6 _ B6.out (Rd.uU (l:=bO at_ li) h6 (fun g e=>(h6.lt g e).1))))
    | (go_simp;go_at_call 64;(with_reducible refine LC.out.mono ?_);rintro e w7 hlp;have HP:=hid (bU.of hlp (HF.out.trans (aO.of_below B6.out (fun _=>False)) (fun _ _ e=>e.elim)) LZ.out.2.2.2.1);obtain ⟨Iy,T9,rfl,-,-,-,Rs⟩:=hlp;have Rt:∀ b,b<w5.heap.size->b≠m->(∀ g,vp.ownBlock=some g->g≠b)->¬ (b=m\/vp.ownBlock=some b\/(Value.slice av nv cv).ownBlock=some b):=fun b h1 h2 h3 e=>e.elim h2 (fun e=>e.elim (fun e=>h3 b e rfl) (fun e=>absurd (LZ.out.2.2.1 b e) (by omega)));have S7:=SF.out w7 ((LW.out.below B6.out).fr Rs (Rt S LZ.out.1 (by have:=zx.out;omega) (fun g e=>by have:=LZ.out.2.2.2.2 g e;omega))) ((CL.out.below B6.out).fr Rs (Rt q LZ.out.2.1 (by have:=zx.out;have:=HQ.out;omega) (fun g e=>by have:=LZ.out.2.2.2.2 g e;have:=HQ.out;omega)))))
  all_goals
   clear S0 Wj S7 Rs Rt h6 b6 LC AC LF SF;go_wp2;go_ret;rw [HE.out];exact HP.out
open Go.RowKit
def Nl (m:Nat) (W:Int) (w0:Zu):aj->Prop
 | .mk k lv i t d ti at_ li ks=>∀ (vc qo vl vk:Zw),xg (·<w0.heap.size) w0 at_ li ks vc qo vl vk->∀ (st:St) (vp:Zw) (p:Px) (w:Zu),lV m W w0 st vp p (aj.mk k lv i t d ti at_ li ks).lU w ->
  Calls Tryz.prog 44 #[.pointer (some ⟨m,0,none⟩),.agg #[.int .i64 k,.int .i64 lv,.string i,.string t,.string d,.string ti,.string at_.id,vc,qo,vl,vk],.agg #[.string p.first,.string p.rest]] w (bU m W w vp (aj.iF W st p (.mk k lv i t d ti at_ li ks)))
def iU (m:Nat) (W:Int) (w0:Zu) (l:List aj):Prop:=∀ (v:Zw),Rd (·<w0.heap.size) w0 (aX l) [v]->∀ (st:St) (vp:Zw) (p:Px) (w:Zu),lV m W w0 st vp p (aj.bg l) w ->
 Calls Tryz.prog 23 #[.pointer (some ⟨m,0,none⟩),v,.agg #[.string p.first,.string p.rest]] w (bU m W w vp (aj.fA W st p l))
structure aS (n:Nat) (st:St) (r:List Bx × St):Prop where
 xu:dP n st r.2
 len:r.1.length<=n
 err:r.2.err≠0->st.err=0->r.1=[]
def Nn (W:Int) (x:aj):Prop:=∀ st p,aS x.lU st (aj.iF W st p x)
def pfx (p:Px) (k:Nat):Px:=if k=0 then p else p.next
theorem DK (p:Px) (k:Nat):(pfx p k).next=p.next:=by unfold pfx;split<;>rfl
theorem DL (p:Px) (k:Nat):(pfx p k).rest=p.rest:=by unfold pfx;split<;>rfl
theorem jJ (x:aj) (l:List aj):aj.bg (x::l)=x.lU+aj.bg l:=by rw [aj.bg]
theorem qW (l:List aj) (k:Nat) (x:aj) (h:l[k]?=some x):aj.bg (l.drop k)=x.lU+aj.bg (l.drop (k+1)):=by have hk:=(List.getElem?_eq_some_iff.1 h);obtain ⟨hk,e⟩:=hk;rw [List.drop_eq_getElem_cons hk,jJ,e]
theorem qV (r:List Bx × St) (h:r.2.err≠0->r.1=[]):ahead [] r=r:=by
 unfold ahead;split
 ·rename_i h1;exact Prod.ext (h h1).symm rfl
 ·exact Prod.ext (List.nil_append _) rfl
theorem ahead_ahead (a b:List Bx) (r:List Bx × St):ahead a (ahead b r)=ahead (a++b) r:=by
 unfold ahead;by_cases h:r.2.err≠0
 ·rw [if_pos h,if_pos h,if_pos h]
 ·rw [if_neg h,if_neg (by exact h),if_neg h,List.append_assoc]
theorem Bc (a:List Bx) (s:St) (h:s.err≠0):ahead a ([],s)=([],s):=by unfold ahead;rw [if_pos h]
structure dQ (m:Nat) (W:Int) (R:List Bx × St) (F:Nat->St->List Bx × St) (vr:Nat->Nat) (st:St) (vp:Zw) (p:Px) (S N Kq:Nat) (KC:List Zw) (w:Zu) (k:Nat) (v:Zw) (wr:Zu) (st':St) (eB:Zw) (acc:List Bx) (rows:List (List Zw)) (pb:Px):Prop where
 eq:R=ahead acc (F k st')
 e0:k=0/\acc=[]/\st'=st\/st'.err=0
 row:aI 37 6 (fun b=>vp.ownBlock=some b/\eB.ownBlock≠some b) N wr.heap.size (acc.map Bx.d) rows v wr
 nD:nQ m W st' eB wr
 Df:eB=vp\/eB=.slice none 0 0
 fr:aO (fun b=>b=m\/vp.ownBlock=some b) w wr
 fit:Fits (vr k) st' (pfx p k)
 len:acc.length+vr k<=1000000
 box:CB 66 S [.string pb.first,.string pb.rest] wr
 Rf:pb.rest=p.rest/\(k=0->pb=p)
 TA:Kq=S\/(w.heap.size<=Kq/\Kq<N/\CB 47 Kq KC wr)
def AY (m:Nat) (W:Int) (R:List Bx × St) (F:Nat->St->List Bx × St) (vr:Nat->Nat) (st:St) (vp:Zw) (p:Px) (S N Kq:Nat) (KC:List Zw) (n:Nat) (w:Zu) (v vi:Zw) (wr:Zu):Prop:=
 ∃ (k:Nat) (st':St) (eB:Zw) (acc:List Bx) (rows:List (List Zw)) (pb:Px),vi=.int .i64 k/\k<=n/\dQ m W R F vr st vp p S N Kq KC w k v wr st' eB acc rows pb
theorem St.yu {s:St} (h:4096<s.count) (h2:s.err=0):s.lim={ s with err:=3 }:=by unfold St.lim;rw [if_pos ⟨h,h2⟩]
theorem St.Gd {s:St} (h:s.err≠0):s.lim=s:=by unfold St.lim;rw [if_neg (fun e=>h e.2)]
theorem oq {W:Int} {st:St} {p:Px} {x:aj} {l:List aj} (h:(x.iF W st p).2.lim.err≠0):aj.fA W st p (x::l)=([],(x.iF W st p).2.lim):=by rw [aj.fA];simp only [if_pos h]
theorem xZ {W:Int} {st:St} {p:Px} {x:aj} {l:List aj} (h:(x.iF W st p).2.lim.err=0):aj.fA W st p (x::l)=ahead (x.iF W st p).1 (aj.fA W (x.iF W st p).2.lim p.next l):=by rw [aj.fA];simp only [if_neg (show ¬ (x.iF W st p).2.lim.err≠0 from fun e=>e h)]
theorem Gf (W:Int):∀ (l:List aj) (st:St) (p:Px),(aj.fA W st p l).2.err≠0->(aj.fA W st p l).1=[]
 | [],st,p,_=>by rw [aj.fA]
 | x::l,st,p,h=>by
  by_cases h1:(x.iF W st p).2.lim.err=0
  ·rw [xZ h1] at h ⊢;unfold ahead at h ⊢;split
   ·rfl
   ·rename_i h2
    rw [if_neg h2] at h;exact absurd h h2
  ·rw [oq h1]
theorem DN {s:St} (h:s.lim.err=0):s.lim=s/\s.err=0:=by
 by_cases h1:4096<s.count/\s.err=0
 ·rw [St.yu h1.1 h1.2] at h;simp at h
 ·have h2:s.lim=s:=by unfold St.lim;rw [if_neg h1]
  exact ⟨h2,by rwa [h2] at h⟩
theorem drop_at {l:List aj} {k:Nat} {y:aj} (hy:l[k]?=some y):l.drop k=y::l.drop (k+1):=by obtain ⟨hk,hye⟩:=(List.getElem?_eq_some_iff.1 hy);rw [<- hye];exact List.drop_eq_getElem_cons hk
theorem og (p:Px) (k:Nat):pfx p (k+1)=(pfx p k).next:=by rw [DK];rfl
theorem Kt {W:Int} {p:Px} {l:List aj} {k:Nat} {y:aj} {s:St} (hy:l[k]?=some y) (h:(y.iF W s (pfx p k)).2.lim.err=0):aj.fA W s (pfx p k) (l.drop k)=ahead (y.iF W s (pfx p k)).1 (aj.fA W (y.iF W s (pfx p k)).2 (pfx p (k+1)) (l.drop (k+1))):=by rw [drop_at hy,xZ h,(DN h).1,og]
theorem uX {W:Int} {p:Px} {l:List aj} {k:Nat} {y:aj} {s:St} (hy:l[k]?=some y) (h:(y.iF W s (pfx p k)).2.lim.err≠0):aj.fA W s (pfx p k) (l.drop k)=([],(y.iF W s (pfx p k)).2.lim):=by rw [drop_at hy,oq h]
theorem nG:∀ l:List aj,l.length<=aj.bg l
 | []=>Nat.zero_le _
 | x::l=>by
  have:=nG l;have h:30<=x.lU:=by obtain ⟨k,lv,i,t,d,ti,a,li,ks⟩:=x;rw [aj.lU];omega
  rw [jJ,List.length_cons];omega
section
variable {m S N Kq k n5:Nat} {KC:List Zw} {W:Int} {R r:List Bx × St} {F:Nat->St->List Bx × St} {vr:Nat->Nat} {st st' s':St} {vp eB lW v v5 v6:Zw} {p pb:Px} {w wr wA w5 w6 w7:Zu} {acc:List Bx} {rows qX qY:List (List Zw)} {e:Ending} {P:Nat->Prop}
theorem dQ.frame (hr:dQ m W R F vr st vp p S N Kq KC w k v wr st' eB acc rows pb) (hN:w.heap.size<=N) (Iz:aO P wr wA) (hP:∀ b,P b->w.heap.size<=b) (Gg:aO (fun b=>b=m\/eB.ownBlock=some b) wA w5) (xq:w5.grownBy w6 v.ownBlock):aO (fun b=>b=m\/vp.ownBlock=some b) w w6:=by
 have f1:=hr.fr.trans Iz (fun b hb e=>by have:=hP b e;omega);have f2:=f1.trans Gg (fun b hb e=>e.imp id (fun e=>by
  rcases hr.Df with h | h
  ·rwa [h] at e
  ·rw [h] at e;simp [Value.ownBlock] at e))
 exact f2.trans (aO.grown xq) (fun b hb e=>by have:=(hr.row.own.lt b e).1;omega)
theorem dQ.Il (hr:dQ m W R F vr st vp p S N Kq KC w k v wr st' eB acc rows pb) (hmw:m<w.heap.size) (hpw:∀ b,vp.ownBlock=some b->b<w.heap.size) (AZ:vp.ownBlock≠some m) (hN:w.heap.size<=N) (Iz:aO P wr wA) (hP:∀ b,P b->w.heap.size<=b/\b<N) (Gg:aO (fun b=>b=m\/eB.ownBlock=some b) wA w5) (hv5:r.2.err=0->lW=eB\/lW=.slice none 0 0) : aI 37 6 (fun b=>vp.ownBlock=some b/\(r.2.err=0->lW.ownBlock≠some b)) N wr.heap.size (acc.map Bx.d) rows v w5:=by
 refine (hr.row.fr (ok':=fun b=>vp.ownBlock=some b/\eB.ownBlock≠some b) Iz (fun _ h=>h) (fun b _ h e=>?_)).fr Gg (fun b h=>⟨h.1,fun e0 e=>?_⟩) (fun b _ h e=>?_)
 ·have e1:=hP b e;rcases h with h | h
  ·have:=hpw b h.1;omega
  ·omega
 ·rcases hv5 e0 with h' | h'
  ·rw [h'] at e;exact h.2 e
  ·rw [h'] at e;simp [Value.ownBlock] at e
 ·rcases e with e | e
  ·rcases h with h | h
   ·exact AZ (by rw [<- e];exact h.1)
   ·omega
  ·rcases h with h | h
   ·exact h.2 e
   ·rcases hr.Df with h' | h'
    ·rw [h'] at e;have:=hpw b e;omega
    ·rw [h'] at e;simp [Value.ownBlock] at e
theorem dQ.next (hr:dQ m W R F vr st vp p S N Kq KC w k v wr st' eB acc rows pb) (hmw:m<w.heap.size) (hpw:∀ b,vp.ownBlock=some b->b<w.heap.size) (hN:w.heap.size<=N) (Yd:w.heap.size<=S/\S<N) (Iz:aO P wr wA) (hP:∀ b,P b->w.heap.size<=b/\b<N) (Wm:Kq=S\/¬ P Kq) (hG:aS n5 st' r) (Wn:n5+vr (k+1)<=vr k) (hF:F k st'=ahead r.1 (F (k+1) r.2)) (he:r.2.err=0) (hK:CB 66 S [.string (pfx p k).first,.string (pfx p k).rest] wA) (Dw:nQ m W r.2 lW w5) (hv5:r.2.err=0->lW=eB\/lW=.slice none 0 0) (Gg:aO (fun b=>b=m\/eB.ownBlock=some b) wA w5) (xq:w5.grownBy w6 v.ownBlock) (h6:bN 37 6 (fun b=>vp.ownBlock=some b/\(r.2.err=0->lW.ownBlock≠some b)) w6.heap.size (qB N w5) (acc.map Bx.d++r.1.map Bx.d) qY v6 w6) : dQ m W R F vr st vp p S N Kq KC w (k+1) v6 w6 r.2 lW (acc++r.1) qY (pfx p k):=by
 have hpn:=og p k;have uL:N<=w5.heap.size:=by have:=hr.row.1;have:=Iz.size;have:=Gg.size;omega
 have Ku:∀ b,eB.ownBlock=some b->b<w.heap.size:=fun b e=>by
  rcases hr.Df with h | h
  ·rw [h] at e;exact hpw b e
  ·rw [h] at e;simp [Value.ownBlock] at e
 have hkv:∀ g,lW.ownBlock=some g->v.ownBlock≠some g:=by
  have hv5:w5.ownsRow N 37 6 v (acc.map Bx.d).length rows.flatten:=fO (fO hr.row.own Iz (fun b e e'=>by have:=(hr.row.own.lt b e).1;have:=hP b e';omega)) Gg (fun b e e'=>by
   have:=(hr.row.own.lt b e).1;rcases e' with e' | e'
   ·omega
   ·have:=Ku b e';omega)
  exact fun g e=>nE Dw.own hv5 (by decide) g e
 refine ⟨?_,.inr he,?_,?_,?_,hr.frame hN Iz (fun b e=>(hP b e).1) Gg xq,?_,?_,?_,⟨DL p k,fun h=>by omega⟩,?_⟩
 ·rw [hr.eq,hF,ahead_ahead]
 ·have:=aI.Tq h6 (FP uL);rw [List.map_append];exact this.weaken (fun b h=>⟨h.1,h.2 he⟩)
 ·exact Dw.fr (aO.grown xq) (fun e=>by have:=(hr.row.own.lt m e).1;omega) (fun g e e'=>hkv g e e')
 ·rcases hv5 he with h | h
  ·rw [h];exact hr.Df
  ·exact .inr h
 ·have hf:=hr.fit.mono Wn;rw [hpn];exact hf.next hG.xu (by show (pfx p k).rest.size<=_;omega) (by show (pfx p k).rest.size<=_;omega)
 ·have:=hr.len;have:=hG.len;rw [List.length_append];omega
 ·refine (hK.fr Gg (fun e=>?_)).fr (aO.grown xq) (fun e=>by have:=(hr.row.own.lt S e).1;omega);rcases e with e | e
  ·omega
  ·have:=Ku S e;omega
 ·rcases hr.TA with h | ⟨h1,h2,h3⟩
  ·exact .inl h
  ·rcases Wm with h | h
   ·exact .inl h
   ·refine .inr ⟨h1,h2,((h3.fr Iz h).fr Gg (fun e=>?_)).fr (aO.grown xq) (fun e=>by have:=(hr.row.own.lt Kq e).1;omega)⟩;rcases e with e | e
    ·omega
    ·have:=Ku Kq e;omega
theorem dQ.stop (hr:dQ m W R F vr st vp p S N Kq KC w k v wr st' eB acc rows pb) (iV:wr.heap.size<=wA.heap.size) (hF:F k st'=([],s')) (hl:s'.err≠0) (PZ:nQ m W s' lW w7) (ho:∀ g,lW.ownBlock=some g->eB.ownBlock=some g\/wA.heap.size<=g) (hf:aO (fun b=>b=m\/vp.ownBlock=some b) w w7):bU m W w vp R (.returned (.slice none 0 0)) w7:=by
 rw [hr.eq,hF,Bc _ _ hl];refine ⟨_,[],lW,rfl,(aI.nil _ _ _ hf.size).top,PZ,fun e=>absurd e hl,fun g e=>?_,hf⟩;rcases ho g e with h | h
 ·rcases hr.Df with h1 | h1
  ·rw [h1] at h;exact .inl h
  ·rw [h1] at h;simp [Value.ownBlock] at h
 ·exact .inr (by have:=hr.fr.size;omega)
theorem dQ.done (hr:dQ m W R F vr st vp p S N Kq KC w k v wr st' eB acc rows pb) (hN:w.heap.size<=N) (hF:F k st'=([],st')):bU m W w vp R (.returned v) wr:=by
 have he:R=(acc,st'):=by
  rw [hr.eq,hF];rcases hr.e0 with ⟨h1,h2,h3⟩ | h
  ·rw [h2];unfold ahead;split<;>rfl
  ·unfold ahead;rw [if_neg (fun e=>e h),List.append_nil]
 rw [he];refine ⟨v,rows,eB,rfl,hr.row.basis hN,hr.nD,fun _=>hr.Df,fun g e=>?_,hr.fr⟩;rcases hr.Df with h | h
 ·rw [h] at e;exact .inl e
 ·rw [h] at e;simp [Value.ownBlock] at e
end
open Go.RowKit
theorem gB (m:Nat) (W:Int) (w0:Zu) (l:List aj) (hB:∀ x∈l,Nl m W w0 x) (hG:∀ x∈l,Nn W x):iU m W w0 l:=by
 intro v hrd st vp p w hin;obtain ⟨iB,qA,Cx,Cy,Cz⟩:=info_parts xM;obtain ⟨a,c,hv,hs⟩:=Rd.aD hrd;obtain ⟨n,hn⟩:∃ n,n=l.length:=⟨_,rfl⟩;obtain rfl:v=.slice a n c:=by rw [hn];simpa using hv
 have hcap:n<=c:=by have:=hs.le;rw [YN] at this;omega
 have hmx:=hs.max;unfold maxLen at hmx;have hn1:n<=1000000:=by have:=nG l;have:=hin.fit.f;omega
 obtain ⟨S,hS⟩:∃ S,S=w.heap.size:=⟨_,rfl⟩;obtain ⟨w1,hw1⟩:∃ w1,w1=w.alloc (.cells #[.string p.first,.string p.rest] 66):=⟨_,rfl⟩;have kp:CB 66 S [.string p.first,.string p.rest] w1:=by rw [hw1,hS];exact CB.new _ _ _
 have b1:Zv w.heap.size w w1:=by rw [hw1];exact (YH _ _).alloc (YI _) _
 have z1:w1.heap.size=S+1:=by rw [hw1,hS];simp
 have kS:=hin.uN.own;have Ih:m<S:=by rw [hS];exact hin.uN.cb.lt
 have R0:Hid (AY m W (aj.fA W st p l) (fun k s=>aj.fA W s (pfx p k) (l.drop k)) (fun k=>aj.bg (l.drop k)) st vp p S (S+1) S [] n w (.slice none 0 0) (.int .i64 0) w1):=⟨0,st,vp,[],[],p,rfl,Nat.zero_le _,(qV _ (Gf _ _ _ _)).symm,.inl ⟨rfl,rfl,rfl⟩,(aI.nil _ _ _ (by omega)).top,hin.uN.below b1,.inl rfl,aO.of_below b1 _,hin.fit,by have:=hin.fit.f;simp;omega,kp,⟨rfl,fun _=>rfl⟩,.inl rfl⟩;have uO:=hid hin;have HS:=hid hS;have HN:=hid hn;have HSL:=hid hs;have Q9:=hid hB;have Ra:=hid hG;have zx:=hid Ih;have Ca:=hid (fun (b:Nat) (e:vp.ownBlock=some b)=>(by rw [hS];exact kS.lt b e:m<=b/\b<S));have B1:=hid b1;clear hrd hv hs hn hB hG hin kp b1 kS Ih z1;go_enter Tryz.func23,Tryz.ntmps23;go_upto_region 1 with (fail)
 rw [<- hw1,<- hS];clear hw1 hS;go_wp2
 go_loopw [7,12] (fun v vi wr=>AY m W (aj.fA W st p l) (fun k s=>aj.fA W s (pfx p k) (l.drop k)) (fun k=>aj.bg (l.drop k)) st vp p S (S+1) S [] n w v vi wr) (fun _ vi _=>n-(intOf vi).toNat)
 case atStart=>exact R0.out
 case round=>
  clear R0;obtain ⟨k,st',eB,acc,rows,pb,rfl,hkn,hr⟩:=hrel;have hb0:Zv w0.heap.size w0 wr:=uO.out.xW hr.fr (fun b e=>by
   rcases e with e | e
   ·omega
   ·exact (Ca.out b e).1)
  by_cases hlt:k<n
  ·obtain ⟨y,hy⟩:∃ y,l[k]?=some y:=⟨_,YG (by have:=HN.out;omega)⟩;have MU:=Q9.out y (YT hy);have MV:=Ra.out y (YT hy) st' (pfx p k);have hvd:=qW l k y hy;obtain ⟨yk,Dc,yi,yt,yd,zy,zB,JJ,xX⟩:=y;obtain ⟨ga,off,vc,qo,vl,vk,rfl,hok,hbl,hc,hR⟩:=jG HSL.out hy;obtain ⟨c0,c1,c2,c3,c4,c5,c6,c7,c8,c9,c10⟩:=hc.at2 (w':=wr) (hb0.block ga hok);obtain ⟨JK,JL,JM,rfl⟩:=Rd.au hR.at_.cls
   obtain ⟨JN,JO,JQ,rfl⟩:=Rd.au hR.at_.aT
   obtain ⟨JR,JU,JV,rfl⟩:=Rd.au hR.line;obtain ⟨FY,xk,FZ,rfl⟩:=Rd.au hR.kids;obtain ⟨q,hq⟩:∃ q,q=wr.heap.size:=⟨_,rfl⟩;obtain ⟨wq,hwq⟩:∃ wq,wq=wr.alloc (.cells #[.int .i64 yk,.int .i64 Dc,.string yi,.string yt,.string yd,.string zy,.string zB.id,.slice JK JL JM,.slice JN JO JQ,.slice JR JU JV,.slice FY xk FZ] 47):=⟨_,rfl⟩;have kq:CB 47 q [.int .i64 yk,.int .i64 Dc,.string yi,.string yt,.string yd,.string zy,.string zB.id,.slice JK JL JM,.slice JN JO JQ,.slice JR JU JV,.slice FY xk FZ] wq:=by rw [hwq,hq];exact CB.new _ _ _
   have bq:Zv wr.heap.size wr wq:=by rw [hwq];exact (YH _ _).alloc (YI _) _
   have hSw:S<wr.heap.size:=hr.box.lt;have JX:S≠q:=by omega
   have kb:=hr.box.below bq;obtain ⟨av,cv,hv⟩:=lI hr.row.own;obtain ⟨na,hna⟩:∃ na,na=(acc.map Bx.d).length:=⟨_,rfl⟩;rw [<- hna] at hv;subst hv;have Fw:=hid hna.symm;have HR:=hid hr;have HY:=hid hy;have Rb:=hid MU;have MW:=hid MV;have JY:=hid hvd;have Rc:=hid hR;have KQ:=hid kq;have BQ:=hid bq;have KB:=hid kb;have HB0:=hid hb0;have TF:=hid (And.intro hSw JX);have MN:na<=1000000:=by have:=hr.len;rw [hna,YN];omega
   have hpb:=hr.Rf.1;clear hok hbl hc hR hy MU MV hvd kq bq kb hb0 hr hna hSw;rcases Nat.eq_zero_or_pos k with hk0 | hk0
   case' inl=>
    have hpe:Hid (pfx p k=p):=by show _=_;unfold pfx;rw [if_pos hk0]
    have q0:decide ((0:Int)<(k:Int))=false:=by simp;omega
    have J2:decide (0<k)=false:=by simp;omega
    have F4:Hid (pb=p):=HR.out.Rf.2 hk0;clear hk0 hpb;go_upto_region 7 with (fail)
    rw [<- hwq,<- hq];obtain ⟨wA,iV⟩:∃ wA:Zu,wA=wq:=⟨_,rfl⟩;have KA:Hid (CB 66 S [.string (pfx p k).first,.string (pfx p k).rest] wA):=by have h:=KB.out;rw [F4.out,<- iV] at h;rw [hpe.out];exact h
    have FA:Hid (aO (fun b=>b=S) wr wA):=by rw [iV];exact aO.of_below BQ.out _
    have zC:Hid (CB 47 q [.int .i64 yk,.int .i64 Dc,.string yi,.string yt,.string yd,.string zy,.string zB.id,.slice JK JL JM,.slice JN JO JQ,.slice JR JU JV,.slice FY xk FZ] wA):=by rw [iV];exact KQ.out
    rw [<- iV];clear hwq hq iV q0 J2 c0 c1 c2 c3 c4 c5 c6 c7 c8 c9 c10
   case' inr=>
    have hpe:Hid (pfx p k=p.next):=by show _=_;unfold pfx;rw [if_neg (by omega)]
    have q0:decide ((0:Int)<(k:Int))=true:=by simp;omega
    have J2:decide (0<k)=true:=by simpa using hk0
    have e0:=KB.out.cell 0 _ rfl;have e1:=KB.out.cell 1 _ rfl;have ef:=rX KB.out;have Ii:=hid hpb;clear hk0 hpb;go_upto_region 5 with (fail)
    rw [<- hwq,<- hq];clear hwq hq;go_upto_region 7 with (fail)
    obtain ⟨wA,iV⟩:∃ wA:Zu,wA=wq.setCell ⟨S,0,none⟩ (.string pb.rest):=⟨_,rfl⟩;have KA:Hid (CB 66 S [.string (pfx p k).first,.string (pfx p k).rest] wA):=by have h:=qN KB.out 0 (.string pb.rest);rw [<- iV] at h;rw [hpe.out];show CB _ S [.string p.rest,.string p.rest] wA;rw [<- Ii.out];exact h
    have FA:Hid (aO (fun b=>b=S) wr wA):=by rw [iV];exact (aO.of_below BQ.out _).trans (aO.set wq S 0 _) (fun b _ e=>e)
    have zC:Hid (CB 47 q [.int .i64 yk,.int .i64 Dc,.string yi,.string yt,.string yd,.string zy,.string zB.id,.slice JK JL JM,.slice JN JO JQ,.slice JR JU JV,.slice FY xk FZ] wA):=by rw [iV];exact KQ.out.fr (aO.set wq S 0 _) (fun e=>JX e.symm)
    rw [<- iV];clear iV q0 J2 e0 e1 Ii ef c0 c1 c2 c3 c4 c5 c6 c7 c8 c9 c10
   all_goals
    have Np:lV m W w0 st' eB (pfx p k) (aj.mk yk Dc yi yt yd zy zB JJ xX).lU wA:=⟨uO.out.m0,HB0.out.trans (FA.out.below _ HB0.out.size (fun b e=>by have:=zx.out;have:=uO.out.m0;have e1:b=S:=e;omega)),HR.out.nD.fr FA.out (fun e=>by have:=zx.out;have e1:m=S:=e;omega) (fun b e e'=>by
     have e1:b=S:=e';rcases HR.out.Df with h | h
     ·rw [h] at e;have:=(Ca.out b e).2;omega
     ·rw [h] at e;simp [Value.ownBlock] at e),uO.out.wd,HR.out.fit.mono (by have:=JY.out;omega),uO.out.tab,uO.out.ml⟩
    have BC:=hid (Rb.out _ _ _ _ Rc.out st' eB (pfx p k) wA Np);have d0:=zC.out.cell 0 _ rfl;have d1:=zC.out.cell 1 _ rfl;have d2:=zC.out.cell 2 _ rfl;have d3:=zC.out.cell 3 _ rfl;have d4:=zC.out.cell 4 _ rfl;have d5:=zC.out.cell 5 _ rfl;have d6:=zC.out.cell 6 _ rfl;have d7:=zC.out.cell 7 _ rfl;have d8:=zC.out.cell 8 _ rfl;have d9:=zC.out.cell 9 _ rfl;have d10:=zC.out.cell 10 _ rfl;have p0:=KA.out.cell 0 _ rfl;have p1:=KA.out.cell 1 _ rfl;clear Np JX;go_wp2_with fail
    (with_reducible refine BC.out.mono ?_)
    rintro e w5 ⟨v5,qX,lW,rfl,dW,hmk5,sw,hown5,lX⟩;obtain ⟨r,hrr⟩:∃ r,r=aj.iF W st' (pfx p k) (aj.mk yk Dc yi yt yd zy zB JJ xX):=⟨_,rfl⟩;rw [<- hrr] at dW hmk5 sw;have HG:=MW.out;rw [<- hrr] at HG;have HRR:=hid hrr;obtain ⟨n5,uQ⟩:∃ n5,n5=(r.1.map Bx.d).length:=⟨_,rfl⟩;have M4:na+n5<=1000000:=by have h1:=HG.len;have h2:=HR.out.len;have h3:=JY.out;have h4:=Fw.out;rw [YN] at h4 uQ;omega
    obtain ⟨a5,c5,hv5⟩:=lI dW.own;rw [<- uQ] at hv5;subst hv5;have hS1:S+1<=wr.heap.size:=HR.out.row.1;have J4:wr.heap.size<=w5.heap.size:=Nat.le_trans FA.out.size lX.size;have AZ:vp.ownBlock≠some m:=bR uO.out.uN.own uO.out.uN.cb (by decide);have J5:∀ b,b=S->w.heap.size<=b/\b<S+1:=fun b e=>by have:=HS.out;omega
    have hpw:∀ b,vp.ownBlock=some b->b<w.heap.size:=fun b e=>by have:=(Ca.out b e).2;have:=HS.out;omega
    have hmw:m<w.heap.size:=by have:=zx.out;have:=HS.out;omega
    have BZ:w.heap.size<=S+1:=by have:=HS.out;omega
    have uR:=HR.out.Il (r:=r) hmw hpw AZ BZ FA.out J5 lX sw;have M5:Rd (fun b=>(vp.ownBlock=some b/\(r.2.err=0->lW.ownBlock≠some b))\/wr.heap.size<=b) w5 (.sl 6 (r.1.map Bx.d)) [.slice a5 n5 c5]:=by
     have h:=dW.2.rd;rw [dW.sz] at h;refine h.weaken (fun b hb=>hb.imp (fun h=>⟨?_,fun _=>h.2⟩) (fun h=>Nat.le_trans FA.out.size h));rcases HR.out.Df with h' | h'
     ·rw [h'] at h;exact h.1
     ·rw [h'] at h;simp [Value.ownBlock] at h
    have J6:=hid uR;have Ri:=hid M5;have J7:=hid hmk5;have HV5:=hid (And.intro sw hown5);have F5:=hid lX;have Wo:=hid HG;have J8:=hid uQ.symm;have zF:Hid (∀ b,(vp.ownBlock=some b/\(r.2.err=0->lW.ownBlock≠some b))->b<(qB (S+1) w5).heap.size):=fun b h=>by
     rw [FP (by omega)];have:=(Ca.out b h.1).2;omega
    have HW:=hid (And.intro hmw (And.intro hpw (And.intro BZ (And.intro (show w.heap.size<=S/\S<S+1 by have:=HS.out;omega) J5))));clear dW hmk5 sw hown5 lX hrr uQ hS1 J4 uR M5 AZ J5 hpw hmw BZ BC d0 d1 d2 d3 d4 d5 d6 d7 d8 d9 d10 p0 p1 HG;go_wp2_with (at_builtin;(refine mG (T:=37) (k:=6) rfl (.tmp 22) (.tmp 26) 22 rfl iB _ 64 Tryz.underlying22 qA Cx Cy Cz rfl (by decide) J6.out.2 zF.out _ Ri.out (fun rs ok h=>zo r.1 rs ok w5 h) Fw.out J8.out (by omega) (by decide) rfl rfl ?_))
    intro a6 c6 qY w6 uS xq;have hkv:(Value.slice av na cv).ownBlock≠some m/\∀ g,lW.ownBlock=some g->(Value.slice av na cv).ownBlock≠some g:=⟨fun e=>by have:=(J6.out.own.lt m e).1;have:=zx.out;omega,fun g e=>nE J7.out.own J6.out.own (by decide) g e⟩;have F6:=J7.out.fr (aO.grown xq) hkv.1 (fun g e e'=>hkv.2 g e e');have M6:=HR.out.frame HW.out.2.2.1 FA.out (fun b e=>(HW.out.2.2.2.2 b e).1) F5.out xq;have f3:=F6.cb.cell 3 _ rfl;have f5:=F6.cb.cell 5 _ rfl;have ff:=rX F6.cb;have J9:=hid F6;have PW:=hid M6;have Rj:=hid uS;have Rk:=hid xq;clear uS xq hkv F6 M6;have iV:wr.heap.size<=wA.heap.size:=FA.out.size;have PX:=hid iV;clear iV;by_cases he:r.2.err=0
    case' pos=>
     have q2:(((r.2.err:Nat):Int)==0)=true:=by rw [he];rfl
     by_cases hcc:4096<r.2.count
     case' pos=>
      have q1:decide ((4096:Int)<((r.2.count:Nat):Int))=true:=by simp;omega
      have hlim:r.2.lim.err≠0:=by rw [St.yu hcc he];simp
      have PZ:nQ m W r.2.lim lW (w6.setCell ⟨m,5,none⟩ (.int .i64 3)):=by rw [St.yu hcc he];refine ⟨qN J9.out.cb 5 (.int .i64 3),fO J9.out.own (aO.set w6 m 5 _) (fun g e e'=>?_)⟩;have e1:g=m:=e';exact bR J9.out.own J9.out.cb (by decide) (by rw [<- e1];exact e)
      have HP:=hid (HR.out.stop (s':=r.2.lim) (w7:=w6.setCell ⟨m,5,none⟩ (.int .i64 3)) PX.out (by rw [HRR.out];exact uX HY.out (by rw [<- HRR.out];exact hlim)) hlim PZ HV5.out.2 (PW.out.trans (aO.set w6 m 5 _) (fun b _ e=>.inl e)));clear hlim PZ hcc he;go_wp2;go_ret;exact HP.out
     case' neg=>
      have q1:decide ((4096:Int)<((r.2.count:Nat):Int))=false:=by simp;omega
      have hlim:r.2.lim=r.2:=by unfold St.lim;rw [if_neg (fun e=>hcc e.1)]
      have M7:=HR.out.next (r:=r) HW.out.1 HW.out.2.1 HW.out.2.2.1 HW.out.2.2.2.1 FA.out HW.out.2.2.2.2 (.inl rfl) Wo.out (by show _+aj.bg (l.drop (k+1))<=aj.bg (l.drop k);have:=JY.out;omega) (by rw [HRR.out];exact Kt HY.out (by rw [<- HRR.out,hlim];exact he)) he KA.out J7.out HV5.out.1 F5.out Rk.out Rj.out
      have HF:Hid (AY m W (aj.fA W st p l) (fun k s=>aj.fA W s (pfx p k) (l.drop k)) (fun k=>aj.bg (l.drop k)) st vp p S (S+1) S [] n w (.slice a6 (na+n5) c6) (.int .i64 ((k+1:Nat):Int)) w6):=⟨k+1,_,lW,_,qY,pfx p k,rfl,by omega,M7⟩;clear hlim M7 hcc he;go_wp2;go_roundw;case rel=>exact HF.out
      case measure=>simp [intOf];omega
    case' neg=>
     have q2:(((r.2.err:Nat):Int)==0)=false:=by simp;omega
     have hlim:r.2.lim=r.2:=St.Gd he;have HP:=hid (HR.out.stop (s':=r.2.lim) (w7:=w6) PX.out (by rw [HRR.out];exact uX HY.out (by rw [<- HRR.out,hlim];exact he)) (by rw [hlim];exact he) (by rw [hlim];exact J9.out) HV5.out.2 PW.out);clear hlim he;by_cases hcc:4096<r.2.count
     ·have q1:decide ((4096:Int)<((r.2.count:Nat):Int))=true:=by simp;omega
      clear hcc;go_wp2;go_ret;exact HP.out
     ·have q1:decide ((4096:Int)<((r.2.count:Nat):Int))=false:=by simp;omega
      clear hcc;go_wp2;go_ret;exact HP.out
  ·have hkl:k=l.length:=by have:=HN.out;omega
   have HP:=hid (hr.done (by have:=HS.out;omega) (by show aj.fA W st' (pfx p k) (l.drop k)=_;rw [hkl,List.drop_length,aj.fA]));obtain ⟨av,cv,hv⟩:=lI hr.row.own;subst hv;clear hkl hr hb0;go_wp2;go_ret;exact HP.out
end Go.Proofs.YtnmldmofggkoeaaGreatDoor

