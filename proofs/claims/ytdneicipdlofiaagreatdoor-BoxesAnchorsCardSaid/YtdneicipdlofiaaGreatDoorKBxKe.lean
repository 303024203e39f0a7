/- Contracts of (*maker).block, kind by kind: what ends in a leaf. Contract of (*maker).blocks, where each block has its contract. Contract of (*maker).blocks, where each block has its contract: the walk. Contract of (*maker).items, where the blocks of each item have their contract. Contracts of (*maker).block, kind by kind: quotes, lists, notes, and what has no boxes. Contracts of (*maker).block, kind by kind: notes. Contracts of (*maker).block: lines with an error. -/
import Derived.Test.YtdneicipdlofiaaGreatDoorKBxP
import Derived.Test.YtdneicipdlofiaaGreatDoorKBxA
import Derived.BigGuardPart
set_option maxHeartbeats 8000000
set_option maxRecDepth 100000
open Go.Lib (hid)
namespace Go.Proofs.YtdneicipdlofiaaGreatDoor
open List renaming setIfInBounds_toArray->jo9,set_cons_zero->joj,set_cons_succ->jok,getElem?_eq_getElem->joq,length_map->jp5,mem_of_getElem?->jpk,getElem?_map->jq1
open Go.RowKit.Below renaming refl->jox
open Nat renaming le_refl->joz,le_trans->jp0
open Go renaming World->js1,Value->js3
open Go.RowKit renaming Below->js2
open Go.RowKit
set_option linter.unusedVariables false
set_option linter.unusedSimpArgs false
def q0z (p:Px) (h:Int) (keep:Nat->Bool) (ts:List ByteArray) (k:Nat):List Bx:=(List.range k).map fun i=>Bx.new (p.text i (ts.getD i ⟨#[]⟩)) h (keep i)
theorem N9 (p:Px) (h:Int) (keep:Nat->Bool) (ts:List ByteArray) (k:Nat):(q0z p h keep ts k).length=k:=by simp [q0z]
theorem Et (p:Px) (h:Int) (keep:Nat->Bool) (ts:List ByteArray) (k:Nat) (x:ByteArray) (hx:ts[k]?=some x):q0z p h keep ts (k+1)=q0z p h keep ts k++[Bx.new (p.text (q0z p h keep ts k).length x) h (keep k)]:=by rw [N9];unfold q0z;rw [List.range_succ,List.map_append,List.map_singleton,List.getD_eq_getElem?_getD,hx];rfl
theorem kI (p:Px) (h:Int) (keep:Nat->Bool) (ts:List ByteArray) (k:Nat):∀ y∈q0z p h keep ts k,y.an=[]:=by intro y hy;obtain ⟨i,-,rfl⟩:=List.mem_map.1 hy;rfl
def dw (q N:Nat) (w5:js1) (p:Px) (h:Int) (keep:Nat->Bool) (ts:List ByteArray) (vi:js3) (wr:js1):Prop:=
 ∃ (k:Nat) (v:js3),k<=ts.length/\vi=.int .i64 k/\CB 153 q [.string p.first,.string p.rest,v] wr/\aO 54 6 (fun _=>False) N wr.heap.size ((q0z p h keep ts k).map Bx.d) ((q0z p h keep ts k).map bG) v wr/\aM (fun b=>b=q) w5 wr
theorem dw.zero {q:Nat} {w5:js1} (p:Px) (h:Int) (keep:Nat->Bool) (ts:List ByteArray) (hc:CB 153 q [.string p.first,.string p.rest,.slice none 0 0] w5):dw q w5.heap.size w5 p h keep ts (.int .i64 0) w5:=
 ⟨0,_,Nat.zero_le _,rfl,hc,aO.nil _ _ _ (joz _),aM.refl _ _⟩
theorem dw.step {q:Nat} {w5 wr w':js1} {p:Px} {h:Int} {keep:Nat->Bool} {ts:List ByteArray} {k:Nat} {x:ByteArray} {v:js3} {e:Ending} {U:Nat} {b:Bool} (hk:k<ts.length) (hx:ts[k]?=some x) (hb:keep k=b) (hr:aO 54 6 (fun _=>False) w5.heap.size U ((q0z p h keep ts k).map Bx.d) ((q0z p h keep ts k).map bG) v wr) (hf:aM (fun b=>b=q) w5 wr) (ha:Cg q p (q0z p h keep ts k++[Bx.new (p.text (q0z p h keep ts k).length x) h b]) w5.heap.size wr v e w'):dw q w5.heap.size w5 p h keep ts (.int .i64 ((k+1:Nat):Int)) w':=by
 obtain ⟨-,v',h1,h2,h3⟩:=ha;rw [<- hb,<- Et p h keep ts k x hx] at h2;refine ⟨k+1,v',hk,rfl,h1,h2,hf.trans h3 (fun b hb e=>?_)⟩;rcases e with e | e
 ·exact e
 ·have:=(hr.own.lt b e).1;omega
theorem qK (w:js1) (cs:List js3) (f r:ByteArray):∃ S q w3,S=w.heap.size/\q=S+1+1/\w3=((w.alloc (.cells cs.toArray 40)).alloc (.cells #[.string f,.string r] 87)).alloc (.cells #[.string f,.string r,.slice none 0 0] 153) /\ CB 40 S cs w3/\CB 87 (S+1) [.string f,.string r] w3/\CB 153 q [.string f,.string r,.slice none 0 0] w3/\js2 w.heap.size w w3/\w3.heap.size=S+3:=by
 obtain ⟨w1,hw1⟩:∃ w1,w1=w.alloc (.cells cs.toArray 40):=⟨_,rfl⟩;obtain ⟨w2,hw2⟩:∃ w2,w2=w1.alloc (.cells #[.string f,.string r] 87):=⟨_,rfl⟩;obtain ⟨w3,hw3⟩:∃ w3,w3=w2.alloc (.cells #[.string f,.string r,.slice none 0 0] 153):=⟨_,rfl⟩;have z1:w1.heap.size=w.heap.size+1:=by rw [hw1];simp
 have z2:w2.heap.size=w.heap.size+2:=by rw [hw2];simp [z1]
 have k1:CB 40 w.heap.size cs w1:=by rw [hw1];exact CB.new _ _ _
 have k2:CB 87 (w.heap.size+1) [.string f,.string r] w2:=by rw [hw2,<- z1];exact CB.new _ _ _
 have k3:CB 153 (w.heap.size+2) [.string f,.string r,.slice none 0 0] w3:=by rw [hw3,<- z2];exact CB.new _ _ _
 have b2:js2 w1.heap.size w1 w2:=by rw [hw2];exact (jox _ _).alloc (joz _) _
 have b3:js2 w2.heap.size w2 w3:=by rw [hw3];exact (jox _ _).alloc (joz _) _
 have b1:js2 w.heap.size w w1:=by rw [hw1];exact (jox _ _).alloc (joz _) _
 refine ⟨w.heap.size,_,w3,rfl,rfl,by rw [hw3,hw2,hw1],(k1.below b2).below b3,k2.below b3,k3,aP (aP b1 b2) b3,by rw [hw3];simp [z2]⟩
structure jH (m:Nat) (W:Int) (w0:js1) (st:St) (vp:js3) (p:Px) (x:Nat) (w:js1):Prop where
 m0:w0.heap.size<=m
 b0:js2 w0.heap.size w0 w
 l8:mo m W st vp w
 wd:1<=W/\W<=1048576
 fit:Fits x st p
 tab:TabAt w0
 ml:oh w0
theorem jH.up {m:Nat} {W:Int} {w0:js1} {st:St} {vp:js3} {p:Px} {x:Nat} {w w1:js1} (h:jH m W w0 st vp p x w) (hb:js2 w.heap.size w w1):jH m W w0 st vp p x w1:=⟨h.m0,aP h.b0 hb,h.l8.below hb,h.wd,h.fit,h.tab,h.ml⟩
theorem jH.lH {m:Nat} {W:Int} {w0:js1} {st:St} {vp:js3} {p:Px} {x:Nat} {w w1:js1} (h:jH m W w0 st vp p x w) {P:Nat->Prop} (hf:aM P w w1) (hp:∀ b,P b->m<=b):js2 w0.heap.size w0 w1:=
 h.b0.trans (hf.below _ h.b0.size (fun b e=>jp0 h.m0 (hp b e)))
theorem rQ.to {w0 w1:js1} {a:At} {li:List aj} {ks:List ah} {vc vp vl vk:js3} (h:rQ (·<w0.heap.size) w0 a li ks vc vp vl vk) (hb:js2 w0.heap.size w0 w1):rQ (·<w1.heap.size) w1 a li ks vc vp vl vk:=
 ⟨⟨h.at_.cls.up hb,h.at_.aJ.up hb⟩,h.line.up hb,h.kids.up hb⟩
theorem Ht (k:Nat):∀ (s:ByteArray),((Lib.splitB Dz 0 k s).map (·.size)).sum<=s.size:=by
 induction k with
 | zero=>intro s;rw [Lib.splitB];simp
 | succ k ih=>
  intro s;rw [Lib.splitB];split
  ·simp
  ·have h:=ih (s.extract ((Lib.indexB s Dz).toNat+Dz.size) s.size);rw [List.map_cons,List.sum_cons];rw [ByteArray.size_extract] at h ⊢;omega
theorem Oh (x:ByteArray) (wd:Int) (h:wd<=1048576):(og x wd).length<=x.size+1:=by have h1:=(Oi (fJ x) 30 wd (by decide) h).len;have h2:=Lm x;unfold og BH;rw [jp5,List.length_range];omega
theorem wu (wd:Int) (h:wd<=1048576):∀ (l:List ByteArray),(qj wd l).length<=(l.map (·.size)).sum+l.length
 | []=>by simp [qj]
 | x::l=>by
  have h1:=Oh x wd h;have h2:=wu wd h l;unfold qj at h2 ⊢;rw [List.flatMap_cons,List.length_append,List.map_cons,List.sum_cons,List.length_cons];omega
theorem o9 (s:ByteArray) (wd:Int) (h:wd<=1048576):(qj wd (fT s)).length<=2*s.size+1:=by have h1:=wu wd h (fT s);have h2:=Ht (Lib.countB s Dz) s;have h3:=jM s;unfold fT at *;omega
theorem fC (p:Px) (W:Int) (h:1<=W/\W<=1048576):1<=p.inner W/\p.inner W<=1048576:=by unfold Px.inner;omega
theorem jr (li:List aj) (p:Px) (W:Int) (h:1<=W/\W<=1048576):(dB li (p.inner W)).length<=2*(aj.ay li).length+1/\dB li (p.inner W)≠[]:=by
 have h1:=o9 (fq li) (p.inner W) (fC p W h).2;have h2:(fq li).size=(aj.ay li).length:=by show (aj.ay li).toArray.size=_;rw [List.size_toArray]
 unfold dB mI;split
 ·simp
 ·rename_i h3;exact ⟨by omega,h3⟩
theorem Eu (li:List aj) (wd:Int) (hsh:(aj.ay li).length<=100000) (hle:fU li=0):∀ x∈dB li wd,x.size<=1000000000:=by
 intro x hx;unfold dB mI at hx;split at hx
 ·simp at hx;rw [hx];show (0:Nat)<=_;omega
 ·unfold qj at hx;obtain ⟨s,hs,hx⟩:=List.mem_flatMap.1 hx;have h1:=fZ _ s hs;have h2:(fq li).size=(aj.ay li).length:=by show (aj.ay li).toArray.size=_;rw [List.size_toArray]
  have h3:=(oM (mK _ hle s hs)).1;unfold og BH at hx;obtain ⟨j,-,rfl⟩:=List.mem_map.1 hx;have h4:=Ap (fJ s) 100000 (fun y hy=>by have:=oO s y hy;omega) (wE (fJ s) (Bz (dF (fJ s)) 30 wd) j) (wH (Bz (dF (fJ s)) 30 wd) j);have h5:(fJ s).length*(1+100000)<=4096*100001:=Nat.mul_le_mul h3 (by omega);unfold lF;omega
theorem eG (t:ByteArray):(gT t).size<=t.size:=by show (Lib.trimSuffix t.data.toList [10]).toArray.size<=_;rw [List.size_toArray];have:=Lib.trimSuffix_le t.data.toList [10];rw [Lib.size_eq];exact this
theorem Aq (s:ByteArray) (w:js1) (hs:s.size<=1000000) (hm:oh w):Calls Tryz.prog 135 #[.string s,.string ⟨#[10]⟩] w fun e w'=>e=.returned (.slice (some ⟨w.heap.size,0,none⟩) (fT s).length (fT s).length)/\w'=w.alloc (.cells ((fT s).map Value.string).toArray 9):=by obtain ⟨m,hm⟩:=hm;have h:=Tryz.strings_Split s Dz m w (by omega) hm (by decide);rw [fA];exact h
def jO (n:Nat):Nat->Bool:=fun j=>decide (1<n)&&(decide (j=0)||decide (j+2=n))
theorem kK (m:Nat) (W:Int) (w0:js1) (st:St) (vp:js3) (p:Px) (k lv:Int) (i t d ti:ByteArray) (at_:At) (li:List aj) (ks:List ah) (vc dO vl vk:js3) (w:js1) (hk:k=1\/k=2\/k=3\/k=4\/k=5) (hin:jH m W w0 st vp p (ah.mk k lv i t d ti at_ li ks).bM w) (hR:rQ (·<w0.heap.size) w0 at_ li ks vc dO vl vk) (hsh:(aj.ay li).length<=100000) (hle:fU li=0) (ht:t.size<=100000) (DF:(bJ (aj.aA li)).length<=100000) : Calls Tryz.prog 99 #[.pointer (some ⟨m,0,none⟩),.agg #[.int .i64 k,.int .i64 lv,.string i,.string t,.string d,.string ti,.string at_.id,vc,dO,vl,vk],.agg #[.string p.first,.string p.rest]] w (aI m W w vp (ah.dG W st p (.mk k lv i t d ti at_ li ks))):=by
 obtain ⟨ac,nc,cc,rfl⟩:=Rd.au hR.at_.cls
 obtain ⟨ap,np,cp,rfl⟩:=Rd.au hR.at_.aJ
 obtain ⟨al,nl,cl,rfl⟩:=Rd.au hR.line;obtain ⟨ak,nk,ck,rfl⟩:=Rd.au hR.kids;obtain ⟨S,q,w3,hS,hq,hw3,kb,kp,kl,b3,z3⟩:=qK w [.int .i64 k,.int .i64 lv,.string i,.string t,.string d,.string ti,.string at_.id,.slice ac nc cc,.slice ap np cp,.slice al nl cl,.slice ak nk ck] p.first p.rest
 have hfit:=hin.fit;have hv:(ah.mk k lv i t d ti at_ li ks).bM=30+i.size+2*t.size+2*(aj.ay li).length+(bJ (aj.aA li)).length+ah.aK ks:=by rw [ah.bM]
 have g1:=hfit.f;have g2:=hfit.r;have g3:=hfit.g;have g4:=hfit.c;have g5:=hfit.p;have hown:(aW at_ li).length<=(bJ (aj.aA li)).length+1:=by unfold aW ig;split<;>simp
 have Lj:=hid (hin.up b3);have wI:=(hin.up b3).b0;have HR:=hid hR;have KB:=hid kb;have KP:=hid kp;have KL:=hid kl;have B3:=hid b3;have HS:=hid hS;have qE:=hid hin;have HUS:=hid (show (bJ (aj.aA li)).length<=100000 from DF);have VPL:=hid (fun (b:Nat) (e:vp.ownBlock=some b)=>(by rw [hS];exact (hin.l8.own.lt b e).2:b<S));have HQ:=hid hq;have Z3:=hid z3;have WD:=hid hin.wd;have vV:m<S:=by rw [hS];exact hin.l8.cb.lt
 have j6:=hid vV;have d0:=kb.cell 0 _ rfl;have d2:=kb.cell 2 _ rfl;have d3:=kb.cell 3 _ rfl;have d9:=kb.cell 9 _ rfl;have e0:=kp.cell 0 _ rfl;have e1:=kp.cell 1 _ rfl;have YL:=(hin.up b3).l8.cb.cell 0 _ rfl;have C1:=hid (zS p W w3.drew (by omega) (by omega) hin.wd ((hin.tab.below wI).below (jox _ _).drew));have RZ:=hid (fC p W hin.wd);have M7:=hid (fun (w4:js1) (hb:js2 w3.heap.size w3 w4)=>KR li (.slice al nl cl) (p.inner W) w4 (hR.line.up (aP wI hb)) hsh hle (by have:=o9 (fq li) (p.inner W) (fC p W hin.wd).2;have h2:(fq li).size=(aj.ay li).length:=(by show (aj.ay li).toArray.size=_;rw [List.size_toArray]);omega) (fC p W hin.wd).1 (fC p W hin.wd).2 ((hin.tab.below wI).below hb) ((hin.ml.below wI).below hb));have JF:=hid (fun (w':js1) (hb:js2 w3.heap.size w3 w')=>(⟨(kb.below hb).cell 9 _ rfl,(kp.below hb).cell 0 _ rfl,(kp.below hb).cell 1 _ rfl,((hin.up b3).l8.cb.below hb).cell 0 _ rfl⟩:w'.cell? ⟨S,9,none⟩=some (.slice al nl cl)/\w'.cell? ⟨S+1,0,none⟩=some (.string p.first)/\w'.cell? ⟨S+1,1,none⟩=some (.string p.rest)/\w'.cell? ⟨m,0,none⟩=some (.int .i64 W)));have S6:=JF.out _ (jox _ _).drew;have Ev:=hid (jr li p W hin.wd);have Hu:=hid (Eu li (p.inner W) hsh hle);have Oj:=hid hfit;have HV:=hid hv;have HOWN:=hid hown;have R6:=hid hsh;have HLE:=hid hle;have HT:=hid ht;clear kb kp kl b3 z3 hfit hv g3 g4 g5 hown hR hin wI hsh hle ht vV DF;go_enter Tryz.func99,Tryz.ntmps99;go_upto_region 2 with (fail)
 rw [<- hw3,<- hS,<- hq];clear hw3 hS hq;rcases hk with rfl | rfl | rfl | rfl | rfl
 case' inl=>
  go_upto_region 6 with (fail)
  obtain ⟨V,hV⟩:∃ V,V=p.inner W:=⟨_,rfl⟩;rw [<- hV] at C1 M7 Ev Hu RZ;have YM:=hid hV;clear hV
  go_region_held3 (fun w'=>w'.cell? ⟨S,9,none⟩=some (.slice al nl cl)/\w'.cell? ⟨S+1,0,none⟩=some (.string p.first)/\w'.cell? ⟨S+1,1,none⟩=some (.string p.rest)/\w'.cell? ⟨m,0,none⟩=some (.int .i64 W))
   (with_reducible assumption)
   (first
    | (go_simp;go_at_call 133;(with_reducible refine C1.out.mono ?_);rintro e w4 ⟨rfl,b4⟩;have B4:=hid (show js2 w3.heap.size w3 w4 from (jox _ w3).drew.trans b4);have S4:=JF.out w4 B4.out;have LC:=hid (M7.out w4 B4.out))
    | (go_simp;go_at_call 132;(with_reducible refine LC.out.mono ?_);rintro e w5 ⟨v5,rfl,h5,b5⟩;obtain ⟨a5,c5,rfl⟩:=q01 h5;have B5:=hid (aP B4.out b5);have S5:=JF.out w5 B5.out;have H5:=hid h5))
  all_goals
   obtain ⟨L,hL⟩:∃ L,L=dB li V:=⟨_,rfl⟩;rw [<- hL] at H5 Ev Hu;have HL:=hid hL;obtain ⟨n,hn⟩:∃ n,n=L.length:=⟨_,rfl⟩;have hn1:1<=n:=by
    rcases Nat.eq_zero_or_pos n with h | h
    ·exact absurd (List.length_eq_zero_iff.1 (by omega)) Ev.out.2
    ·exact h
   have hnm:n<=200001:=by have:=Ev.out.1;have:=R6.out;omega
   rw [<- hL,<- hn];rw [<- hn] at H5;have HN:=hid hn;obtain ⟨g5,cap5,M8,hcap5⟩:=eB H5.out hn1;obtain ⟨rfl,rfl⟩:a5=some ⟨g5,0,none⟩/\c5=cap5:=by simp at M8;exact M8
   have hg5:=H5.out.lt g5 rfl;have Ol:g5≠q:=fun e=>oz H5.out (KL.out.below B5.out) (by decide) (by rw [e];rfl)
   have R0:Hid (dw q w5.heap.size w5 p 1 (jO n) L (.int .i64 0) w5):=dw.zero p 1 (jO n) L (KL.out.below B5.out);have QX:q<w5.heap.size:=(KL.out.below B5.out).lt;have gy:Hid (ah.dG W st p (.mk 1 lv i t d ti at_ li ks)=bO st (q0z p 1 (jO n) L n) (aW at_ li)):=by show _=_;rw [ah.dG];simp only [ite_true,true_or,or_true,if_neg (show ¬ fU li≠0 from fun h=>h HLE.out),<- YM.out,<- HL.out,bK,<- HN.out];rfl
   unfold maxLen at *;clear hL hn S6 S4 S5 h5 b4 b5 C1 LC M7 JF B4 d0 d2 d3 d9 e0 e1 YL M8;go_wp2
   go_loopw [42] (fun vi wr=>dw q w5.heap.size w5 p 1 (jO n) L vi wr) (fun vi _=>n-(intOf vi).toNat)
   case' atStart=>exact R0.out
   case' round=>
    clear R0;obtain ⟨j,v,hj,rfl,hcl,hrow,hfr⟩:=hrel;have hjn:j<=n:=by have:=HN.out;omega
    rcases Nat.lt_or_ge j n with hlt | hge
    case' inl=>
     obtain ⟨x,hx⟩:∃ x,L[j]?=some x:=⟨_,joq (by have:=HN.out;omega)⟩;have hxs:=Hu.out x (jpk hx);have c0:wr.cell? ⟨g5,j,none⟩=some (.string x):=by have h1:=H5.out.cellAt j (by omega);rw [jq1,hx] at h1;exact (iZ (hfr.blk g5 hg5.2 Ol) (o:=j)).trans h1
     have d0:=((KB.out.below B5.out).fr hfr (fun e=>by have:=HQ.out;have e1:S=q:=e;omega)).cell 0 _ rfl;have hal:=N9 p 1 (jO n) L j;have A1:=fun (b:Bool)=>iT q p (q0z p 1 (jO n) L j) v w5.heap.size wr.heap.size x 1 b wr (by omega) (by omega) hxs (by omega) hcl QX hrow
     have HST:=hid (fun (b:Bool) (hb:(jO n) j=b) e w' ha=>dw.step (e:=e) (w':=w') (by have:=HN.out;omega) hx hb hrow hfr ha);have HA1:=hid A1;clear hx hxs hal hcl hrow hfr A1;rcases (by unfold jO;rcases Nat.lt_or_ge 1 n with h1 | h1;rotate_left;exact .inl ⟨by omega,by simp;omega⟩;rcases Nat.eq_zero_or_pos j with h2 | h2;exact .inr (.inl ⟨h1,h2,by simp [h1,h2]⟩);rcases Nat.decEq (j+2) n with h3 | h3;exact .inr (.inr (.inr ⟨h1,by omega,h3,by simp [h3];omega⟩));exact .inr (.inr (.inl ⟨h1,by omega,h3,by simp [h1,h3]⟩)):(¬ 1<n/\jO n j=false)\/(1<n/\j=0/\jO n j=true)\/(1<n/\j≠0/\j+2=n/\jO n j=true)\/(1<n/\j≠0/\j+2≠n/\jO n j=false)) with ⟨h1,hb⟩ | ⟨h1,h2,hb⟩ | ⟨h1,h2,h3,hb⟩ | ⟨h1,h2,h3,hb⟩
     ·have HB:=hid hb;clear hb;have q1:decide ((1:Int)<(n:Int))=false:=by simp;omega
      clear h1;go_wp2_with fail
      (with_reducible refine (HA1.out false).mono ?_)
      rintro e w6 ha;have HF:=hid (HST.out false HB.out _ _ ha);obtain ⟨rfl,-⟩:=ha;clear c0 d0 HA1 HST;go_wp2;go_roundw;case rel=>exact HF.out
      case measure=>simp [intOf];omega
     ·have HB:=hid hb;clear hb;have q1:decide ((1:Int)<(n:Int))=true:=by simp;omega
      have q2:((j:Int)==0)=true:=by simp;omega
      clear h2;go_wp2_with fail
      (with_reducible refine (HA1.out true).mono ?_)
      rintro e w6 ha;have HF:=hid (HST.out true HB.out _ _ ha);obtain ⟨rfl,-⟩:=ha;clear c0 d0 HA1 HST;go_wp2;go_roundw;case rel=>exact HF.out
      case measure=>simp [intOf];omega
     ·have HB:=hid hb;clear hb;have q1:decide ((1:Int)<(n:Int))=true:=by simp;omega
      have q2:((j:Int)==0)=false:=by simp;omega
      have q3:((j:Int)==(n:Int)-2)=true:=by simp;omega
      have q4:(2:Int)<=(n:Int):=by omega
      clear h2 h3;go_wp2_with fail
      (with_reducible refine (HA1.out true).mono ?_)
      rintro e w6 ha;have HF:=hid (HST.out true HB.out _ _ ha);obtain ⟨rfl,-⟩:=ha;clear c0 d0 HA1 HST;go_wp2;go_roundw;case rel=>exact HF.out
      case measure=>simp [intOf];omega
     ·have HB:=hid hb;clear hb;have q1:decide ((1:Int)<(n:Int))=true:=by simp;omega
      have q2:((j:Int)==0)=false:=by simp;omega
      have q3:((j:Int)==(n:Int)-2)=false:=by simp;omega
      have q4:(2:Int)<=(n:Int):=by omega
      clear h2 h3;go_wp2_with fail
      (with_reducible refine (HA1.out false).mono ?_)
      rintro e w6 ha;have HF:=hid (HST.out false HB.out _ _ ha);obtain ⟨rfl,-⟩:=ha;clear c0 d0 HA1 HST;go_wp2;go_roundw;case rel=>exact HF.out
      case measure=>simp [intOf];omega
    case' inr=>
     have wJ:j=n:=by omega
     have hE:=gy.out;rw [wJ] at hrow;obtain ⟨LL,iq⟩:∃ LL,LL=q0z p 1 (jO n) L n:=⟨_,rfl⟩;have hln:LL.length<=200001/\LL≠[]/\(∀ y∈LL,y.an=[])/\LL.length<=2*(aj.ay li).length+2*t.size+1:=by have h1:=N9 p 1 (jO n) L n;rw [<- iq] at h1;refine ⟨by omega,fun e=>?_,by rw [iq];exact kI _ _ _ _ _,by have:=Ev.out.1;have:=HN.out;omega⟩;rw [e] at h1;simp at h1;omega
     rw [<- iq] at hE hrow;have HE:=hid hE;have QW:=hid hln;have RW:=hid hrow;have CL:=hid hcl;have FR:=hid hfr;clear hE iq hln hrow hcl hfr gy H5 Ev Hu HL HN YM hj hg5 Ol hcap5 RZ wJ;go_upto_region 40 with (fail)
     clear hjn hge hn1 hnm
 case' inr.inl=>
  go_upto_region 6 with (fail)
  obtain ⟨V,hV⟩:∃ V,V=p.inner W:=⟨_,rfl⟩;rw [<- hV] at C1 M7 Ev Hu RZ;have YM:=hid hV;clear hV
  go_region_held3 (fun w'=>w'.cell? ⟨S,9,none⟩=some (.slice al nl cl)/\w'.cell? ⟨S+1,0,none⟩=some (.string p.first)/\w'.cell? ⟨S+1,1,none⟩=some (.string p.rest)/\w'.cell? ⟨m,0,none⟩=some (.int .i64 W))
   (with_reducible assumption)
   (first
    | (go_simp;go_at_call 133;(with_reducible refine C1.out.mono ?_);rintro e w4 ⟨rfl,b4⟩;have B4:=hid (show js2 w3.heap.size w3 w4 from (jox _ w3).drew.trans b4);have S4:=JF.out w4 B4.out;have LC:=hid (M7.out w4 B4.out))
    | (go_simp;go_at_call 132;(with_reducible refine LC.out.mono ?_);rintro e w5 ⟨v5,rfl,h5,b5⟩;obtain ⟨a5,c5,rfl⟩:=q01 h5;have B5:=hid (aP B4.out b5);have S5:=JF.out w5 B5.out;have H5:=hid h5))
  all_goals
   obtain ⟨L,hL⟩:∃ L,L=dB li V:=⟨_,rfl⟩;rw [<- hL] at H5 Ev Hu;have HL:=hid hL;obtain ⟨n,hn⟩:∃ n,n=L.length:=⟨_,rfl⟩;have hn1:1<=n:=by
    rcases Nat.eq_zero_or_pos n with h | h
    ·exact absurd (List.length_eq_zero_iff.1 (by omega)) Ev.out.2
    ·exact h
   have hnm:n<=200001:=by have:=Ev.out.1;have:=R6.out;omega
   rw [<- hL,<- hn];rw [<- hn] at H5;have HN:=hid hn;obtain ⟨g5,cap5,M8,hcap5⟩:=eB H5.out hn1;obtain ⟨rfl,rfl⟩:a5=some ⟨g5,0,none⟩/\c5=cap5:=by simp at M8;exact M8
   have hg5:=H5.out.lt g5 rfl;have Ol:g5≠q:=fun e=>oz H5.out (KL.out.below B5.out) (by decide) (by rw [e];rfl)
   have R0:Hid (dw q w5.heap.size w5 p 2 (fun _=>true) L (.int .i64 0) w5):=dw.zero p 2 (fun _=>true) L (KL.out.below B5.out);have QX:q<w5.heap.size:=(KL.out.below B5.out).lt;have gy:Hid (ah.dG W st p (.mk 2 lv i t d ti at_ li ks)=bO st (q0z p 2 (fun _=>true) L n) (aW at_ li)):=by show _=_;rw [ah.dG];simp only [ite_true,true_or,or_true,if_neg (show ¬ fU li≠0 from fun h=>h HLE.out),<- YM.out,<- HL.out,bK,<- HN.out];rfl
   unfold maxLen at *;clear hL hn S6 S4 S5 h5 b4 b5 C1 LC M7 JF B4 d0 d2 d3 d9 e0 e1 YL M8;go_wp2
   go_loopw [42] (fun vi wr=>dw q w5.heap.size w5 p 2 (fun _=>true) L vi wr) (fun vi _=>n-(intOf vi).toNat)
   case' atStart=>exact R0.out
   case' round=>
    clear R0;obtain ⟨j,v,hj,rfl,hcl,hrow,hfr⟩:=hrel;have hjn:j<=n:=by have:=HN.out;omega
    rcases Nat.lt_or_ge j n with hlt | hge
    case' inl=>
     obtain ⟨x,hx⟩:∃ x,L[j]?=some x:=⟨_,joq (by have:=HN.out;omega)⟩;have hxs:=Hu.out x (jpk hx);have c0:wr.cell? ⟨g5,j,none⟩=some (.string x):=by have h1:=H5.out.cellAt j (by omega);rw [jq1,hx] at h1;exact (iZ (hfr.blk g5 hg5.2 Ol) (o:=j)).trans h1
     have d0:=((KB.out.below B5.out).fr hfr (fun e=>by have:=HQ.out;have e1:S=q:=e;omega)).cell 0 _ rfl;have hal:=N9 p 2 (fun _=>true) L j;have A1:=fun (b:Bool)=>iT q p (q0z p 2 (fun _=>true) L j) v w5.heap.size wr.heap.size x 2 b wr (by omega) (by omega) hxs (by omega) hcl QX hrow
     have HST:=hid (fun (b:Bool) (hb:(fun _=>true) j=b) e w' ha=>dw.step (e:=e) (w':=w') (by have:=HN.out;omega) hx hb hrow hfr ha);have HA1:=hid A1;clear hx hxs hal hcl hrow hfr A1;go_wp2_with fail
     (with_reducible refine (HA1.out true).mono ?_)
     rintro e w6 ha;have HF:=hid (HST.out true rfl _ _ ha);obtain ⟨rfl,-⟩:=ha;clear c0 d0 HA1 HST;go_wp2;go_roundw;case rel=>exact HF.out
     case measure=>simp [intOf];omega
    case' inr=>
     have wJ:j=n:=by omega
     have hE:=gy.out;rw [wJ] at hrow;obtain ⟨LL,iq⟩:∃ LL,LL=q0z p 2 (fun _=>true) L n:=⟨_,rfl⟩;have hln:LL.length<=200001/\LL≠[]/\(∀ y∈LL,y.an=[])/\LL.length<=2*(aj.ay li).length+2*t.size+1:=by have h1:=N9 p 2 (fun _=>true) L n;rw [<- iq] at h1;refine ⟨by omega,fun e=>?_,by rw [iq];exact kI _ _ _ _ _,by have:=Ev.out.1;have:=HN.out;omega⟩;rw [e] at h1;simp at h1;omega
     rw [<- iq] at hE hrow;have HE:=hid hE;have QW:=hid hln;have RW:=hid hrow;have CL:=hid hcl;have FR:=hid hfr;clear hE iq hln hrow hcl hfr gy H5 Ev Hu HL HN YM hj hg5 Ol hcap5 RZ wJ;go_upto_region 40 with (fail)
     clear hjn hge hn1 hnm
 case' inr.inr.inl=>
  have TS:=hid (Tryz.strings_TrimSuffix t ⟨#[10]⟩ w3 (by have:=HT.out;omega));rw [show (⟨(Lib.trimSuffix t.data.toList (ByteArray.mk #[10]).data.toList).toArray⟩:ByteArray)=gT t from rfl] at TS;have WW:=hid (Aq (gT t) w3 (by have:=eG t;have:=HT.out;omega) (by have h:=Lj.out;exact h.ml.below h.b0));obtain ⟨L,hL⟩:∃ L,L=fT (gT t):=⟨_,rfl⟩;obtain ⟨n,hn⟩:∃ n,n=L.length:=⟨_,rfl⟩;have Om:(∀ x∈L,x.size<=100000)/\1<=L.length/\L.length<=t.size+1:=by rw [hL];have h1:=eG t;have h2:=HT.out;have h3:=jM (gT t);exact ⟨fun x hx=>by have:=fZ _ x hx;omega,by rw [fA];omega,by omega⟩
  rw [<- hn] at Om;rw [<- hL,<- hn] at WW;have HN:=hid hn;have Hu:=hid Om.1;have hn1:1<=n:=Om.2.1;have hnm:n<=100001:=by have:=HT.out;omega
  have HNT:Hid (n<=t.size+1):=Om.2.2;have gy:Hid (ah.dG W st p (.mk 3 lv i t d ti at_ li ks)=bO st (q0z p 1 (fun _=>false) L n) (aW at_ li)):=by show _=_;rw [ah.dG,<- hL];rw [hn];rfl
  clear hL hn Om S6 JF C1 M7 Ev RZ;go_wp2_with fail
  (with_reducible refine TS.out.mono ?_)
  rintro e wz ⟨rfl,hwz⟩;have hwz:=hwz.symm;subst hwz;go_wp2_with fail
  (with_reducible refine WW.out.mono ?_)
  rintro e w5 ⟨rfl,vR⟩;obtain ⟨g5,hg5⟩:∃ g5,g5=w3.heap.size:=⟨_,rfl⟩;have K5:Hid (CB 9 g5 (L.map Value.string) w5):=by rw [vR,hg5];exact CB.new _ _ _
  have B5:Hid (js2 w3.heap.size w3 w5):=by rw [vR];exact (jox _ _).alloc (joz _) _
  have Ol:g5≠q:=by have:=KL.out.lt;omega
  have QX:q<w5.heap.size:=(KL.out.below B5.out).lt;have R0:Hid (dw q w5.heap.size w5 p 1 (fun _=>false) L (.int .i64 0) w5):=dw.zero p 1 (fun _=>false) L (KL.out.below B5.out);rw [<- hg5];unfold maxLen at *;clear vR hg5 TS WW d0 d2 d3 d9 e0 e1 YL;go_wp2
  go_loopw [78] (fun vi wr=>dw q w5.heap.size w5 p 1 (fun _=>false) L vi wr) (fun vi _=>n-(intOf vi).toNat)
  case' atStart=>exact R0.out
  case' round=>
   clear R0;obtain ⟨j,v,hj,rfl,hcl,hrow,hfr⟩:=hrel;have hjn:j<=n:=by have:=HN.out;omega
   rcases Nat.lt_or_ge j n with hlt | hge
   case' inl=>
    obtain ⟨x,hx⟩:∃ x,L[j]?=some x:=⟨_,joq (by have:=HN.out;omega)⟩;have hxs:=Hu.out x (jpk hx);have c0:wr.cell? ⟨g5,j,none⟩=some (.string x):=(K5.out.fr hfr Ol).cell j _ (by rw [jq1,hx];rfl);have d0:=((KB.out.below B5.out).fr hfr (fun e=>by have:=HQ.out;have e1:S=q:=e;omega)).cell 0 _ rfl;have hal:=N9 p 1 (fun _=>false) L j;have A1:=fun (b:Bool)=>iT q p (q0z p 1 (fun _=>false) L j) v w5.heap.size wr.heap.size x 1 b wr (by omega) (by omega) (by omega) (by omega) hcl QX hrow
    have HST:=hid (fun (b:Bool) (hb:(fun _=>false) j=b) e w' ha=>dw.step (e:=e) (w':=w') (by have:=HN.out;omega) hx hb hrow hfr ha);have HA1:=hid A1;clear hx hxs hal hcl hrow hfr A1;go_wp2_with fail
    (with_reducible refine (HA1.out false).mono ?_)
    rintro e w6 ha;have HF:=hid (HST.out false rfl _ _ ha);obtain ⟨rfl,-⟩:=ha;clear c0 d0 HA1 HST;go_wp2;go_roundw;case rel=>exact HF.out
    case measure=>simp [intOf];omega
   case' inr=>
    have wJ:j=n:=by omega
    have hE:=gy.out;rw [wJ] at hrow;obtain ⟨LL,iq⟩:∃ LL,LL=q0z p 1 (fun _=>false) L n:=⟨_,rfl⟩;have hln:LL.length<=200001/\LL≠[]/\(∀ y∈LL,y.an=[])/\LL.length<=2*(aj.ay li).length+2*t.size+1:=by have h1:=N9 p 1 (fun _=>false) L n;rw [<- iq] at h1;refine ⟨by omega,fun e=>?_,by rw [iq];exact kI _ _ _ _ _,by have:=HNT.out;omega⟩;rw [e] at h1;simp at h1;omega
    rw [<- iq] at hE hrow;have HE:=hid hE;have QW:=hid hln;have RW:=hid hrow;have CL:=hid hcl;have FR:=hid hfr;clear hE iq hln hrow hcl hfr gy Hu HN hj Ol wJ K5 HNT;go_upto_region 40 with (fail)
    clear hjn hge hn1 hnm
 case' inr.inr.inr.inl=>
  have TS:=hid (Tryz.strings_TrimSuffix t ⟨#[10]⟩ w3 (by have:=HT.out;omega));rw [show (⟨(Lib.trimSuffix t.data.toList (ByteArray.mk #[10]).data.toList).toArray⟩:ByteArray)=gT t from rfl] at TS;have WW:=hid (Aq (gT t) w3 (by have:=eG t;have:=HT.out;omega) (by have h:=Lj.out;exact h.ml.below h.b0));obtain ⟨L,hL⟩:∃ L,L=fT (gT t):=⟨_,rfl⟩;obtain ⟨n,hn⟩:∃ n,n=L.length:=⟨_,rfl⟩;have Om:(∀ x∈L,x.size<=100000)/\1<=L.length/\L.length<=t.size+1:=by rw [hL];have h1:=eG t;have h2:=HT.out;have h3:=jM (gT t);exact ⟨fun x hx=>by have:=fZ _ x hx;omega,by rw [fA];omega,by omega⟩
  rw [<- hn] at Om;rw [<- hL,<- hn] at WW;have HN:=hid hn;have Hu:=hid Om.1;have hn1:1<=n:=Om.2.1;have hnm:n<=100001:=by have:=HT.out;omega
  have HNT:Hid (n<=t.size+1):=Om.2.2;have gy:Hid (ah.dG W st p (.mk 4 lv i t d ti at_ li ks)=bO st (q0z p 1 (fun j=>decide (j+1<n)) L n) (aW at_ li)):=by show _=_;rw [ah.dG,<- hL];rw [hn];rfl
  clear hL hn Om S6 JF C1 M7 Ev RZ;go_wp2_with fail
  (with_reducible refine TS.out.mono ?_)
  rintro e wz ⟨rfl,hwz⟩;have hwz:=hwz.symm;subst hwz;go_wp2_with fail
  (with_reducible refine WW.out.mono ?_)
  rintro e w5 ⟨rfl,vR⟩;obtain ⟨g5,hg5⟩:∃ g5,g5=w3.heap.size:=⟨_,rfl⟩;have K5:Hid (CB 9 g5 (L.map Value.string) w5):=by rw [vR,hg5];exact CB.new _ _ _
  have B5:Hid (js2 w3.heap.size w3 w5):=by rw [vR];exact (jox _ _).alloc (joz _) _
  have Ol:g5≠q:=by have:=KL.out.lt;omega
  have QX:q<w5.heap.size:=(KL.out.below B5.out).lt;have R0:Hid (dw q w5.heap.size w5 p 1 (fun j=>decide (j+1<n)) L (.int .i64 0) w5):=dw.zero p 1 (fun j=>decide (j+1<n)) L (KL.out.below B5.out);rw [<- hg5];unfold maxLen at *;clear vR hg5 TS WW d0 d2 d3 d9 e0 e1 YL;go_wp2
  go_loopw [78] (fun vi wr=>dw q w5.heap.size w5 p 1 (fun j=>decide (j+1<n)) L vi wr) (fun vi _=>n-(intOf vi).toNat)
  case' atStart=>exact R0.out
  case' round=>
   clear R0;obtain ⟨j,v,hj,rfl,hcl,hrow,hfr⟩:=hrel;have hjn:j<=n:=by have:=HN.out;omega
   rcases Nat.lt_or_ge j n with hlt | hge
   case' inl=>
    obtain ⟨x,hx⟩:∃ x,L[j]?=some x:=⟨_,joq (by have:=HN.out;omega)⟩;have hxs:=Hu.out x (jpk hx);have c0:wr.cell? ⟨g5,j,none⟩=some (.string x):=(K5.out.fr hfr Ol).cell j _ (by rw [jq1,hx];rfl);have d0:=((KB.out.below B5.out).fr hfr (fun e=>by have:=HQ.out;have e1:S=q:=e;omega)).cell 0 _ rfl;have hal:=N9 p 1 (fun j=>decide (j+1<n)) L j;have A1:=fun (b:Bool)=>iT q p (q0z p 1 (fun j=>decide (j+1<n)) L j) v w5.heap.size wr.heap.size x 1 b wr (by omega) (by omega) (by omega) (by omega) hcl QX hrow
    have HST:=hid (fun (b:Bool) (hb:(fun j=>decide (j+1<n)) j=b) e w' ha=>dw.step (e:=e) (w':=w') (by have:=HN.out;omega) hx hb hrow hfr ha);have HA1:=hid A1;clear hx hxs hal hcl hrow hfr A1;have hcs:(j+1<n/\decide (j+1<n)=true)\/(¬ j+1<n/\decide (j+1<n)=false):=by rcases Nat.lt_or_ge (j+1) n with h | h;exact .inl ⟨h,by simpa using h⟩;exact .inr ⟨by omega,by simpa using h⟩
    rcases hcs with ⟨h1,hb⟩ | ⟨h1,hb⟩
    ·have HB:=hid hb;have q1:decide ((j:Int)<(n:Int)-1)=true:=by simp;omega
     clear hb;go_wp2_with fail
     (with_reducible refine (HA1.out true).mono ?_)
     rintro e w6 ha;have HF:=hid (HST.out true HB.out _ _ ha);obtain ⟨rfl,-⟩:=ha;clear c0 d0 HA1 HST;go_wp2;go_roundw;case rel=>exact HF.out
     case measure=>simp [intOf];omega
    ·have HB:=hid hb;have q1:decide ((j:Int)<(n:Int)-1)=false:=by simp;omega
     clear hb;go_wp2_with fail
     (with_reducible refine (HA1.out false).mono ?_)
     rintro e w6 ha;have HF:=hid (HST.out false HB.out _ _ ha);obtain ⟨rfl,-⟩:=ha;clear c0 d0 HA1 HST;go_wp2;go_roundw;case rel=>exact HF.out
     case measure=>simp [intOf];omega
   case' inr=>
    have wJ:j=n:=by omega
    have hE:=gy.out;rw [wJ] at hrow;obtain ⟨LL,iq⟩:∃ LL,LL=q0z p 1 (fun j=>decide (j+1<n)) L n:=⟨_,rfl⟩;have hln:LL.length<=200001/\LL≠[]/\(∀ y∈LL,y.an=[])/\LL.length<=2*(aj.ay li).length+2*t.size+1:=by have h1:=N9 p 1 (fun j=>decide (j+1<n)) L n;rw [<- iq] at h1;refine ⟨by omega,fun e=>?_,by rw [iq];exact kI _ _ _ _ _,by have:=HNT.out;omega⟩;rw [e] at h1;simp at h1;omega
    rw [<- iq] at hE hrow;have HE:=hid hE;have QW:=hid hln;have RW:=hid hrow;have CL:=hid hcl;have FR:=hid hfr;clear hE iq hln hrow hcl hfr gy Hu HN hj Ol wJ K5 HNT;go_upto_region 40 with (fail)
    clear hjn hge hn1 hnm
 case' inr.inr.inr.inr=>
  have UZ:=aO.nil 54 6 (fun _=>False) (joz w3.heap.size);have QX:q<w3.heap.size:=KL.out.lt;have A1:=hid (iT q p [] (.slice none 0 0) w3.heap.size w3.heap.size ⟨#[45,45,45]⟩ 1 false w3 (by omega) (by omega) (by show 3<=_;omega) (by simp) KL.out QX UZ);have HE:Hid (ah.dG W st p (.mk 5 lv i t d ti at_ li ks)=bO st ([]++[Bx.new (p.text ([]:List Bx).length ⟨#[45,45,45]⟩) 1 false]) (aW at_ li)):=by show _=_;rw [ah.dG];rfl
  clear S6 JF C1 M7 Ev Hu RZ UZ;go_wp2_with fail
  (with_reducible refine A1.out.mono ?_)
  rintro e wr ⟨rfl,v,hcl,hrow,hfr⟩;obtain ⟨w5,vR⟩:∃ w5:js1,w5=w3:=⟨_,rfl⟩;have B5:Hid (js2 w3.heap.size w3 w5):=by rw [vR];exact jox _ _
  rw [<- vR] at hfr hrow QX;have FR:Hid (aM (fun b=>b=q) w5 wr):=hfr.mono (fun b _ e=>e.elim id (fun e=>by simp [Value.ownBlock] at e));obtain ⟨LL,iq⟩:∃ LL,LL=[]++[Bx.new (p.text ([]:List Bx).length ⟨#[45,45,45]⟩) 1 false]:=⟨_,rfl⟩;rw [<- iq] at hrow HE;have QW:Hid (LL.length<=200001/\LL≠[]/\(∀ y∈LL,y.an=[])/\LL.length<=2*(aj.ay li).length+2*t.size+1):=by rw [iq];exact ⟨by simp,by simp,by intro y hy;simp at hy;rw [hy];rfl,by simp⟩
  have RW:=hid hrow;have CL:=hid hcl;clear iq hrow hcl hfr vR A1 d0 d2 d3 d9 e0 e1 YL;go_upto_region 40 with (fail)
 all_goals
  obtain ⟨kk,KBk⟩:∃ kk,Hid (CB 40 S [.int .i64 kk,.int .i64 lv,.string i,.string t,.string d,.string ti,.string at_.id,.slice ac nc cc,.slice ap np cp,.slice al nl cl,.slice ak nk ck] w3):=⟨_,KB⟩;clear KB;have WY:S≠q:=by have:=HQ.out;omega
  have hmq:m≠q:=by have:=HQ.out;have:=j6.out;omega
  have WZ:=Lj.out.l8;have qM:=WZ.own;have hpl:∀ b,vp.ownBlock=some b->b<S:=fun b e=>VPL.out b e
  have hmk:=(WZ.below B5.out).fr FR.out hmq (fun b e e'=>by have:=hpl b e;have:=HQ.out;have e1:b=q:=e';omega);have hkb:=(KBk.out.below B5.out).fr FR.out WY;obtain ⟨av,cv,hv⟩:=q01 RW.out.own;obtain ⟨nv,hnv⟩:∃ nv,nv=(LL.map Bx.d).length:=⟨_,rfl⟩;rw [<- hnv] at hv;subst hv;have hsw:S=w.heap.size:=HS.out;have hqs:q=S+1+1:=HQ.out;have hF:aM (fun b=>b=m\/vp.ownBlock=some b) w wr:=(aM.of_below (aP B3.out B5.out) _).trans FR.out (fun b hb e=>by omega);have M9:w.heap.size<=w5.heap.size:=(aP B3.out B5.out).size;have hb0:js2 w0.heap.size w0 wr:=qE.out.lH hF (fun b e=>by
   rcases e with e | e
   ·omega
   ·exact (qM.lt b e).1)
  have ja6:S<w5.heap.size:=(KBk.out.below B5.out).lt;have ja7:q<w5.heap.size:=(KL.out.below B5.out).lt;have AC:=hid (oN kk lv i t d ti at_ li ks (.slice ac nc cc) (.slice ap np cp) (.slice al nl cl) (.slice ak nk ck) wr.drew (HR.out.to (aP hb0 ((jox _ wr).drew))) (by have:=Oj.out.f;have:=HV.out;have:=HUS.out;omega));have SF:=hid (fun (w':js1) (hc:CB 40 S [.int .i64 kk,.int .i64 lv,.string i,.string t,.string d,.string ti,.string at_.id,.slice ac nc cc,.slice ap np cp,.slice al nl cl,.slice ak nk ck] w') (hl:CB 153 q [.string p.first,.string p.rest,.slice av nv cv] w')=>(⟨hc.cell 0 _ rfl,hc.cell 1 _ rfl,hc.cell 2 _ rfl,hc.cell 3 _ rfl,hc.cell 4 _ rfl,hc.cell 5 _ rfl,hc.cell 6 _ rfl,hc.cell 7 _ rfl,hc.cell 8 _ rfl,hc.cell 9 _ rfl,hc.cell 10 _ rfl,hl.cell 2 _ rfl⟩:w'.cell? ⟨S,0,none⟩=some (.int .i64 kk)/\w'.cell? ⟨S,1,none⟩=some (.int .i64 lv)/\w'.cell? ⟨S,2,none⟩=some (.string i)/\w'.cell? ⟨S,3,none⟩=some (.string t)/\w'.cell? ⟨S,4,none⟩=some (.string d)/\w'.cell? ⟨S,5,none⟩=some (.string ti)/\w'.cell? ⟨S,6,none⟩=some (.string at_.id)/\w'.cell? ⟨S,7,none⟩=some (.slice ac nc cc)/\w'.cell? ⟨S,8,none⟩=some (.slice ap np cp)/\w'.cell? ⟨S,9,none⟩=some (.slice al nl cl)/\w'.cell? ⟨S,10,none⟩=some (.slice ak nk ck)/\w'.cell? ⟨q,2,none⟩=some (.slice av nv cv)));have S0:=SF.out wr.drew (hkb.below (jox _ _).drew) (CL.out.below (jox _ _).drew);have vN:∀ b,(Value.slice av nv cv).ownBlock=some b->w5.heap.size<=b:=fun b e=>(RW.out.own.lt b e).1
  have vW:∀ b,(Value.slice av nv cv).ownBlock=some b->b<wr.heap.size:=fun b e=>(RW.out.own.lt b e).2
  have LF:=hid (fun (w6:js1) (vo:js3) (b6:js2 wr.heap.size wr w6) (ho:Rd (wr.heap.size<=·) w6 (dZ (aW at_ li)) [vo])=>kG m W st vp w5.heap.size wr.heap.size (.slice av nv cv) vo LL (aW at_ li) (wr.heap.size<=·) w6 (hmk.below b6) QW.out.2.1 (RW.out.below b6) QW.out.2.2.1 ho (fun b hb e=>by have:=vW b e;have hb':wr.heap.size<=b:=hb;omega)
   (by have:=Oj.out.g;omega) (by have:=Oj.out.c;omega) (by have:=QW.out.1;omega) (by have:=Oj.out.p;have:=HV.out;have:=HOWN.out;omega) (by have:=j6.out;omega) (fun b e=>by have:=hpl b e;omega))
  have YN:=hid hkb;have HF:=hid hF;have YO:=hid (And.intro ja6 (And.intro ja7 (And.intro vN (And.intro M9 hpl))));clear hkb hF hb0 ja6 ja7 vN vW M9 hpl qM WZ hmk hsw hqs hnv
  go_region_held3 (fun w'=>w'.cell? ⟨S,0,none⟩=some (.int .i64 kk)/\w'.cell? ⟨S,1,none⟩=some (.int .i64 lv)/\w'.cell? ⟨S,2,none⟩=some (.string i)/\w'.cell? ⟨S,3,none⟩=some (.string t)/\w'.cell? ⟨S,4,none⟩=some (.string d)/\w'.cell? ⟨S,5,none⟩=some (.string ti)/\w'.cell? ⟨S,6,none⟩=some (.string at_.id)/\w'.cell? ⟨S,7,none⟩=some (.slice ac nc cc)/\w'.cell? ⟨S,8,none⟩=some (.slice ap np cp)/\w'.cell? ⟨S,9,none⟩=some (.slice al nl cl)/\w'.cell? ⟨S,10,none⟩=some (.slice ak nk ck)/\w'.cell? ⟨q,2,none⟩=some (.slice av nv cv))
   (with_reducible assumption)
   (first
    | (go_simp;go_at_call 142;(with_reducible refine AC.out.mono ?_);rintro e w6 ⟨vo,rfl,h6,b6⟩;obtain ⟨a6,c6,rfl⟩:=q01 h6;have B6:=hid (show js2 wr.heap.size wr w6 from ⟨b6.os,b6.tape,b6.output,b6.size,b6.block⟩);have S6':=SF.out w6 (YN.out.below B6.out) (CL.out.below B6.out);have LC:=hid (LF.out w6 _ B6.out (Rd.qH (l:=aW at_ li) h6 (fun g e=>(h6.lt g e).1))))
    | (go_simp;go_at_call 141;(with_reducible refine LC.out.mono ?_);rintro e w7 hlp;have HP:=hid (aI.of hlp (HF.out.trans (aM.of_below B6.out (fun _=>False)) (fun _ _ e=>e.elim)) YO.out.2.2.2.1);obtain ⟨Aj,YH,rfl,-,-,-,hF7⟩:=hlp;have hS7:∀ b,b<w5.heap.size->b≠m->(∀ g,vp.ownBlock=some g->g≠b)->¬ (b=m\/vp.ownBlock=some b\/(Value.slice av nv cv).ownBlock=some b):=fun b h1 h2 h3 e=>e.elim h2 (fun e=>e.elim (fun e=>h3 b e rfl) (fun e=>absurd (YO.out.2.2.1 b e) (by omega)));have S7:=SF.out w7 ((YN.out.below B6.out).fr hF7 (hS7 S YO.out.1 (by have:=j6.out;omega) (fun g e=>by have:=YO.out.2.2.2.2 g e;omega))) ((CL.out.below B6.out).fr hF7 (hS7 q YO.out.2.1 (by have:=j6.out;have:=HQ.out;omega) (fun g e=>by have:=YO.out.2.2.2.2 g e;have:=HQ.out;omega)))))
  all_goals
   clear S0 S6' S7 hF7 hS7 h6 b6 LC AC LF SF;go_wp2;go_ret;rw [HE.out];exact HP.out
open Go.RowKit
def R7 (m:Nat) (W:Int) (w0:js1):ah->Prop
 | .mk k lv i t d ti at_ li ks=>∀ (vc dO vl vk:js3),rQ (·<w0.heap.size) w0 at_ li ks vc dO vl vk->∀ (st:St) (vp:js3) (p:Px) (w:js1),jH m W w0 st vp p (ah.mk k lv i t d ti at_ li ks).bM w ->
  Calls Tryz.prog 99 #[.pointer (some ⟨m,0,none⟩),.agg #[.int .i64 k,.int .i64 lv,.string i,.string t,.string d,.string ti,.string at_.id,vc,dO,vl,vk],.agg #[.string p.first,.string p.rest]] w (aI m W w vp (ah.dG W st p (.mk k lv i t d ti at_ li ks)))
def gV (m:Nat) (W:Int) (w0:js1) (l:List ah):Prop:=∀ (v:js3),Rd (·<w0.heap.size) w0 (om l) [v]->∀ (st:St) (vp:js3) (p:Px) (w:js1),jH m W w0 st vp p (ah.aK l) w ->
 Calls Tryz.prog 50 #[.pointer (some ⟨m,0,none⟩),v,.agg #[.string p.first,.string p.rest]] w (aI m W w vp (ah.bX W st p l))
structure bH (n:Nat) (st:St) (r:List Bx × St):Prop where
 rR:iE n st r.2
 len:r.1.length<=n
 err:r.2.err≠0->st.err=0->r.1=[]
def ja8 (W:Int) (x:ah):Prop:=∀ st p,bH x.bM st (ah.dG W st p x)
def pfx (p:Px) (k:Nat):Px:=if k=0 then p else p.next
theorem Oo (p:Px) (k:Nat):(pfx p k).next=p.next:=by unfold pfx;split<;>rfl
theorem Oq (p:Px) (k:Nat):(pfx p k).rest=p.rest:=by unfold pfx;split<;>rfl
theorem JA (x:ah) (l:List ah):ah.aK (x::l)=x.bM+ah.aK l:=by rw [ah.aK]
theorem Ar (l:List ah) (k:Nat) (x:ah) (h:l[k]?=some x):ah.aK (l.drop k)=x.bM+ah.aK (l.drop (k+1)):=by have hk:=(List.getElem?_eq_some_iff.1 h);obtain ⟨hk,e⟩:=hk;rw [List.drop_eq_getElem_cons hk,JA,e]
theorem Au (r:List Bx × St) (h:r.2.err≠0->r.1=[]):ahead [] r=r:=by
 unfold ahead;split
 ·rename_i h1;exact Prod.ext (h h1).symm rfl
 ·exact Prod.ext (List.nil_append _) rfl
theorem ahead_ahead (a b:List Bx) (r:List Bx × St):ahead a (ahead b r)=ahead (a++b) r:=by
 unfold ahead;by_cases h:r.2.err≠0
 ·rw [if_pos h,if_pos h,if_pos h]
 ·rw [if_neg h,if_neg (by exact h),if_neg h,List.append_assoc]
theorem Lp (a:List Bx) (s:St) (h:s.err≠0):ahead a ([],s)=([],s):=by unfold ahead;rw [if_pos h]
structure iF (m:Nat) (W:Int) (R:List Bx × St) (F:Nat->St->List Bx × St) (vr:Nat->Nat) (st:St) (vp:js3) (p:Px) (S N Kq:Nat) (KC:List js3) (w:js1) (k:Nat) (v:js3) (wr:js1) (st':St) (bS:js3) (acc:List Bx) (rows:List (List js3)) (pb:Px):Prop where
 eq:R=ahead acc (F k st')
 e0:k=0/\acc=[]/\st'=st\/st'.err=0
 row:aO 54 6 (fun b=>vp.ownBlock=some b/\bS.ownBlock≠some b) N wr.heap.size (acc.map Bx.d) rows v wr
 l6:mo m W st' bS wr
 Ot:bS=vp\/bS=.slice none 0 0
 fr:aM (fun b=>b=m\/vp.ownBlock=some b) w wr
 fit:Fits (vr k) st' (pfx p k)
 len:acc.length+vr k<=1000000
 box:CB 87 S [.string pb.first,.string pb.rest] wr
 pbx:pb.rest=p.rest/\(k=0->pb=p)
 kbx:Kq=S\/(w.heap.size<=Kq/\Kq<N/\CB 40 Kq KC wr)
def Lr (m:Nat) (W:Int) (R:List Bx × St) (F:Nat->St->List Bx × St) (vr:Nat->Nat) (st:St) (vp:js3) (p:Px) (S N Kq:Nat) (KC:List js3) (n:Nat) (w:js1) (v vi:js3) (wr:js1):Prop:=
 ∃ (k:Nat) (st':St) (bS:js3) (acc:List Bx) (rows:List (List js3)) (pb:Px),vi=.int .i64 k/\k<=n/\iF m W R F vr st vp p S N Kq KC w k v wr st' bS acc rows pb
theorem St.Hw {s:St} (h:4096<s.count) (h2:s.err=0):s.lim={ s with err:=3 }:=by unfold St.lim;rw [if_pos ⟨h,h2⟩]
theorem St.R8 {s:St} (h:s.err≠0):s.lim=s:=by unfold St.lim;rw [if_neg (fun e=>h e.2)]
theorem kL {W:Int} {st:St} {p:Px} {x:ah} {l:List ah} (h:(x.dG W st p).2.lim.err≠0):ah.bX W st p (x::l)=([],(x.dG W st p).2.lim):=by rw [ah.bX];simp only [if_pos h]
theorem sI {W:Int} {st:St} {p:Px} {x:ah} {l:List ah} (h:(x.dG W st p).2.lim.err=0):ah.bX W st p (x::l)=ahead (x.dG W st p).1 (ah.bX W (x.dG W st p).2.lim p.next l):=by rw [ah.bX];simp only [if_neg (show ¬ (x.dG W st p).2.lim.err≠0 from fun e=>e h)]
theorem R9 (W:Int):∀ (l:List ah) (st:St) (p:Px),(ah.bX W st p l).2.err≠0->(ah.bX W st p l).1=[]
 | [],st,p,_=>by rw [ah.bX]
 | x::l,st,p,h=>by
  by_cases h1:(x.dG W st p).2.lim.err=0
  ·rw [sI h1] at h ⊢;unfold ahead at h ⊢;split
   ·rfl
   ·rename_i h2
    rw [if_neg h2] at h;exact absurd h h2
  ·rw [kL h1]
theorem wK {s:St} (h:s.lim.err=0):s.lim=s/\s.err=0:=by
 by_cases h1:4096<s.count/\s.err=0
 ·rw [St.Hw h1.1 h1.2] at h;simp at h
 ·have h2:s.lim=s:=by unfold St.lim;rw [if_neg h1]
  exact ⟨h2,by rwa [h2] at h⟩
theorem drop_at {l:List ah} {k:Nat} {y:ah} (hy:l[k]?=some y):l.drop k=y::l.drop (k+1):=by obtain ⟨hk,hye⟩:=(List.getElem?_eq_some_iff.1 hy);rw [<- hye];exact List.drop_eq_getElem_cons hk
theorem wM (p:Px) (k:Nat):pfx p (k+1)=(pfx p k).next:=by rw [Oo];rfl
theorem W9 {W:Int} {p:Px} {l:List ah} {k:Nat} {y:ah} {s:St} (hy:l[k]?=some y) (h:(y.dG W s (pfx p k)).2.lim.err=0):ah.bX W s (pfx p k) (l.drop k)=ahead (y.dG W s (pfx p k)).1 (ah.bX W (y.dG W s (pfx p k)).2 (pfx p (k+1)) (l.drop (k+1))):=by rw [drop_at hy,sI h,(wK h).1,wM]
theorem Ew {W:Int} {p:Px} {l:List ah} {k:Nat} {y:ah} {s:St} (hy:l[k]?=some y) (h:(y.dG W s (pfx p k)).2.lim.err≠0):ah.bX W s (pfx p k) (l.drop k)=([],(y.dG W s (pfx p k)).2.lim):=by rw [drop_at hy,kL h]
theorem iR:∀ l:List ah,l.length<=ah.aK l
 | []=>Nat.zero_le _
 | x::l=>by
  have:=iR l;have h:30<=x.bM:=by obtain ⟨k,lv,i,t,d,ti,a,li,ks⟩:=x;rw [ah.bM];omega
  rw [JA,List.length_cons];omega
section
variable {m S N Kq k n5:Nat} {KC:List js3} {W:Int} {R r:List Bx × St} {F:Nat->St->List Bx × St} {vr:Nat->Nat} {st st' s':St} {vp bS gJ v v5 v6:js3} {p pb:Px} {w wr wA w5 w6 w7:js1} {acc:List Bx} {rows kJ Av:List (List js3)} {e:Ending} {P:Nat->Prop}
theorem iF.frame (hr:iF m W R F vr st vp p S N Kq KC w k v wr st' bS acc rows pb) (hN:w.heap.size<=N) (U0:aM P wr wA) (hP:∀ b,P b->w.heap.size<=b) (yO:aM (fun b=>b=m\/bS.ownBlock=some b) wA w5) (Gv:w5.grownBy w6 v.ownBlock):aM (fun b=>b=m\/vp.ownBlock=some b) w w6:=by
 have f1:=hr.fr.trans U0 (fun b hb e=>by have:=hP b e;omega);have f2:=f1.trans yO (fun b hb e=>e.imp id (fun e=>by
  rcases hr.Ot with h | h
  ·rwa [h] at e
  ·rw [h] at e;simp [Value.ownBlock] at e))
 exact f2.trans (aM.grown Gv) (fun b hb e=>by have:=(hr.row.own.lt b e).1;omega)
theorem iF.U1 (hr:iF m W R F vr st vp p S N Kq KC w k v wr st' bS acc rows pb) (hmw:m<w.heap.size) (hpw:∀ b,vp.ownBlock=some b->b<w.heap.size) (sw:vp.ownBlock≠some m) (hN:w.heap.size<=N) (U0:aM P wr wA) (hP:∀ b,P b->w.heap.size<=b/\b<N) (yO:aM (fun b=>b=m\/bS.ownBlock=some b) wA w5) (hv5:r.2.err=0->gJ=bS\/gJ=.slice none 0 0) : aO 54 6 (fun b=>vp.ownBlock=some b/\(r.2.err=0->gJ.ownBlock≠some b)) N wr.heap.size (acc.map Bx.d) rows v w5:=by
 refine (hr.row.fr (ok':=fun b=>vp.ownBlock=some b/\bS.ownBlock≠some b) U0 (fun _ h=>h) (fun b _ h e=>?_)).fr yO (fun b h=>⟨h.1,fun e0 e=>?_⟩) (fun b _ h e=>?_)
 ·have e1:=hP b e;rcases h with h | h
  ·have:=hpw b h.1;omega
  ·omega
 ·rcases hv5 e0 with h' | h'
  ·rw [h'] at e;exact h.2 e
  ·rw [h'] at e;simp [Value.ownBlock] at e
 ·rcases e with e | e
  ·rcases h with h | h
   ·exact sw (by rw [<- e];exact h.1)
   ·omega
  ·rcases h with h | h
   ·exact h.2 e
   ·rcases hr.Ot with h' | h'
    ·rw [h'] at e;have:=hpw b e;omega
    ·rw [h'] at e;simp [Value.ownBlock] at e
theorem iF.next (hr:iF m W R F vr st vp p S N Kq KC w k v wr st' bS acc rows pb) (hmw:m<w.heap.size) (hpw:∀ b,vp.ownBlock=some b->b<w.heap.size) (hN:w.heap.size<=N) (hSN:w.heap.size<=S/\S<N) (U0:aM P wr wA) (hP:∀ b,P b->w.heap.size<=b/\b<N) (hPK:Kq=S\/¬ P Kq) (hG:bH n5 st' r) (hvr:n5+vr (k+1)<=vr k) (hF:F k st'=ahead r.1 (F (k+1) r.2)) (he:r.2.err=0) (hK:CB 87 S [.string (pfx p k).first,.string (pfx p k).rest] wA) (uV:mo m W r.2 gJ w5) (hv5:r.2.err=0->gJ=bS\/gJ=.slice none 0 0) (yO:aM (fun b=>b=m\/bS.ownBlock=some b) wA w5) (Gv:w5.grownBy w6 v.ownBlock) (h6:eu 54 6 (fun b=>vp.ownBlock=some b/\(r.2.err=0->gJ.ownBlock≠some b)) w6.heap.size (zf N w5) (acc.map Bx.d++r.1.map Bx.d) Av v6 w6) : iF m W R F vr st vp p S N Kq KC w (k+1) v6 w6 r.2 gJ (acc++r.1) Av (pfx p k):=by
 have hpn:=wM p k;have vR:N<=w5.heap.size:=by have:=hr.row.1;have:=U0.size;have:=yO.size;omega
 have Xa:∀ b,bS.ownBlock=some b->b<w.heap.size:=fun b e=>by
  rcases hr.Ot with h | h
  ·rw [h] at e;exact hpw b e
  ·rw [h] at e;simp [Value.ownBlock] at e
 have hkv:∀ g,gJ.ownBlock=some g->v.ownBlock≠some g:=by
  have hv5:w5.ownsRow N 54 6 v (acc.map Bx.d).length rows.flatten:=dh (dh hr.row.own U0 (fun b e e'=>by have:=(hr.row.own.lt b e).1;have:=hP b e';omega)) yO (fun b e e'=>by
   have:=(hr.row.own.lt b e).1;rcases e' with e' | e'
   ·omega
   ·have:=Xa b e';omega)
  exact fun g e=>iM uV.own hv5 (by decide) g e
 refine ⟨?_,.inr he,?_,?_,?_,hr.frame hN U0 (fun b e=>(hP b e).1) yO Gv,?_,?_,?_,⟨Oq p k,fun h=>by omega⟩,?_⟩
 ·rw [hr.eq,hF,ahead_ahead]
 ·have:=aO.ofU h6 (Rp vR);rw [List.map_append];exact this.weaken (fun b h=>⟨h.1,h.2 he⟩)
 ·exact uV.fr (aM.grown Gv) (fun e=>by have:=(hr.row.own.lt m e).1;omega) (fun g e e'=>hkv g e e')
 ·rcases hv5 he with h | h
  ·rw [h];exact hr.Ot
  ·exact .inr h
 ·have hf:=hr.fit.mono hvr;rw [hpn];exact hf.next hG.rR (by show (pfx p k).rest.size<=_;omega) (by show (pfx p k).rest.size<=_;omega)
 ·have:=hr.len;have:=hG.len;rw [List.length_append];omega
 ·refine (hK.fr yO (fun e=>?_)).fr (aM.grown Gv) (fun e=>by have:=(hr.row.own.lt S e).1;omega);rcases e with e | e
  ·omega
  ·have:=Xa S e;omega
 ·rcases hr.kbx with h | ⟨h1,h2,h3⟩
  ·exact .inl h
  ·rcases hPK with h | h
   ·exact .inl h
   ·refine .inr ⟨h1,h2,((h3.fr U0 h).fr yO (fun e=>?_)).fr (aM.grown Gv) (fun e=>by have:=(hr.row.own.lt Kq e).1;omega)⟩;rcases e with e | e
    ·omega
    ·have:=Xa Kq e;omega
theorem iF.stop (hr:iF m W R F vr st vp p S N Kq KC w k v wr st' bS acc rows pb) (dX:wr.heap.size<=wA.heap.size) (hF:F k st'=([],s')) (hl:s'.err≠0) (UU:mo m W s' gJ w7) (ho:∀ g,gJ.ownBlock=some g->bS.ownBlock=some g\/wA.heap.size<=g) (hf:aM (fun b=>b=m\/vp.ownBlock=some b) w w7):aI m W w vp R (.returned (.slice none 0 0)) w7:=by
 rw [hr.eq,hF,Lp _ _ hl];refine ⟨_,[],gJ,rfl,(aO.nil _ _ _ hf.size).top,UU,fun e=>absurd e hl,fun g e=>?_,hf⟩;rcases ho g e with h | h
 ·rcases hr.Ot with h1 | h1
  ·rw [h1] at h;exact .inl h
  ·rw [h1] at h;simp [Value.ownBlock] at h
 ·exact .inr (by have:=hr.fr.size;omega)
theorem iF.done (hr:iF m W R F vr st vp p S N Kq KC w k v wr st' bS acc rows pb) (hN:w.heap.size<=N) (hF:F k st'=([],st')):aI m W w vp R (.returned v) wr:=by
 have he:R=(acc,st'):=by
  rw [hr.eq,hF];rcases hr.e0 with ⟨h1,h2,h3⟩ | h
  ·rw [h2];unfold ahead;split<;>rfl
  ·unfold ahead;rw [if_neg (fun e=>e h),List.append_nil]
 rw [he];refine ⟨v,rows,bS,rfl,hr.row.basis hN,hr.l6,fun _=>hr.Ot,fun g e=>?_,hr.fr⟩;rcases hr.Ot with h | h
 ·rw [h] at e;exact .inl e
 ·rw [h] at e;simp [Value.ownBlock] at e
end
open Go.RowKit
theorem q1z (m:Nat) (W:Int) (w0:js1) (l:List ah) (hB:∀ x∈l,R7 m W w0 x) (hG:∀ x∈l,ja8 W x):gV m W w0 l:=by
 intro v hrd st vp p w hin;obtain ⟨iB,zo,Ou,Ov,Ow⟩:=info_parts GV;obtain ⟨a,c,hv,hs⟩:=Rd.aC hrd;obtain ⟨n,hn⟩:∃ n,n=l.length:=⟨_,rfl⟩;obtain rfl:v=.slice a n c:=by rw [hn];simpa using hv
 have hcap:n<=c:=by have:=hs.le;rw [jp5] at this;omega
 have hmx:=hs.max;unfold maxLen at hmx;have hn1:n<=1000000:=by have:=iR l;have:=hin.fit.f;omega
 obtain ⟨S,hS⟩:∃ S,S=w.heap.size:=⟨_,rfl⟩;obtain ⟨w1,hw1⟩:∃ w1,w1=w.alloc (.cells #[.string p.first,.string p.rest] 87):=⟨_,rfl⟩;have kp:CB 87 S [.string p.first,.string p.rest] w1:=by rw [hw1,hS];exact CB.new _ _ _
 have b1:js2 w.heap.size w w1:=by rw [hw1];exact (jox _ _).alloc (joz _) _
 have z1:w1.heap.size=S+1:=by rw [hw1,hS];simp
 have qM:=hin.l8.own;have vV:m<S:=by rw [hS];exact hin.l8.cb.lt
 have R0:Hid (Lr m W (ah.bX W st p l) (fun k s=>ah.bX W s (pfx p k) (l.drop k)) (fun k=>ah.aK (l.drop k)) st vp p S (S+1) S [] n w (.slice none 0 0) (.int .i64 0) w1):=⟨0,st,vp,[],[],p,rfl,Nat.zero_le _,(Au _ (R9 _ _ _ _)).symm,.inl ⟨rfl,rfl,rfl⟩,(aO.nil _ _ _ (by omega)).top,hin.l8.below b1,.inl rfl,aM.of_below b1 _,hin.fit,by have:=hin.fit.f;simp;omega,kp,⟨rfl,fun _=>rfl⟩,.inl rfl⟩;have qE:=hid hin;have HS:=hid hS;have HN:=hid hn;have HSL:=hid hs;have UQ:=hid hB;have HGC:=hid hG;have j6:=hid vV;have MS:=hid (fun (b:Nat) (e:vp.ownBlock=some b)=>(by rw [hS];exact qM.lt b e:m<=b/\b<S));have B1:=hid b1;clear hrd hv hs hn hB hG hin kp b1 qM vV z1;go_enter Tryz.func50,Tryz.ntmps50;go_upto_region 1 with (fail)
 rw [<- hw1,<- hS];clear hw1 hS;go_wp2
 go_loopw [7,12] (fun v vi wr=>Lr m W (ah.bX W st p l) (fun k s=>ah.bX W s (pfx p k) (l.drop k)) (fun k=>ah.aK (l.drop k)) st vp p S (S+1) S [] n w v vi wr) (fun _ vi _=>n-(intOf vi).toNat)
 case atStart=>exact R0.out
 case round=>
  clear R0;obtain ⟨k,st',bS,acc,rows,pb,rfl,hkn,hr⟩:=hrel;have hb0:js2 w0.heap.size w0 wr:=qE.out.lH hr.fr (fun b e=>by
   rcases e with e | e
   ·omega
   ·exact (MS.out b e).1)
  by_cases hlt:k<n
  ·obtain ⟨y,hy⟩:∃ y,l[k]?=some y:=⟨_,joq (by have:=HN.out;omega)⟩;have hyB:=UQ.out y (jpk hy);have hyG:=HGC.out y (jpk hy) st' (pfx p k);have hvd:=Ar l k y hy;obtain ⟨yk,yM,yi,yt,yd,uI,uJ,JB,iC⟩:=y;obtain ⟨ga,off,vc,dO,vl,vk,rfl,hok,hbl,hc,hR⟩:=dH HSL.out hy;obtain ⟨c0,c1,c2,c3,c4,c5,c6,c7,c8,c9,c10⟩:=hc.at2 (w':=wr) (hb0.block ga hok);obtain ⟨KZ,K7,K8,rfl⟩:=Rd.au hR.at_.cls
   obtain ⟨La,Lb,Lc,rfl⟩:=Rd.au hR.at_.aJ
   obtain ⟨Ld,Le,Lf,rfl⟩:=Rd.au hR.line;obtain ⟨Er,Gw,Ca,rfl⟩:=Rd.au hR.kids;obtain ⟨q,hq⟩:∃ q,q=wr.heap.size:=⟨_,rfl⟩;obtain ⟨wq,hwq⟩:∃ wq,wq=wr.alloc (.cells #[.int .i64 yk,.int .i64 yM,.string yi,.string yt,.string yd,.string uI,.string uJ.id,.slice KZ K7 K8,.slice La Lb Lc,.slice Ld Le Lf,.slice Er Gw Ca] 40):=⟨_,rfl⟩;have kq:CB 40 q [.int .i64 yk,.int .i64 yM,.string yi,.string yt,.string yd,.string uI,.string uJ.id,.slice KZ K7 K8,.slice La Lb Lc,.slice Ld Le Lf,.slice Er Gw Ca] wq:=by rw [hwq,hq];exact CB.new _ _ _
   have bq:js2 wr.heap.size wr wq:=by rw [hwq];exact (jox _ _).alloc (joz _) _
   have hSw:S<wr.heap.size:=hr.box.lt;have WY:S≠q:=by omega
   have kb:=hr.box.below bq;obtain ⟨av,cv,hv⟩:=q01 hr.row.own;obtain ⟨na,hna⟩:∃ na,na=(acc.map Bx.d).length:=⟨_,rfl⟩;rw [<- hna] at hv;subst hv;have MU:=hid hna.symm;have HR:=hid hr;have HY:=hid hy;have HYB:=hid hyB;have HYG:=hid hyG;have Xb:=hid hvd;have ZP:=hid hR;have KQ:=hid kq;have BQ:=hid bq;have KB:=hid kb;have HB0:=hid hb0;have HSQ:=hid (And.intro hSw WY);have Zy:na<=1000000:=by have:=hr.len;rw [hna,jp5];omega
   have hpb:=hr.pbx.1;clear hok hbl hc hR hy hyB hyG hvd kq bq kb hb0 hr hna hSw;rcases Nat.eq_zero_or_pos k with hk0 | hk0
   case' inl=>
    have hpe:Hid (pfx p k=p):=by show _=_;unfold pfx;rw [if_pos hk0]
    have q0:decide ((0:Int)<(k:Int))=false:=by simp;omega
    have Xc:decide (0<k)=false:=by simp;omega
    have Sb:Hid (pb=p):=HR.out.pbx.2 hk0;clear hk0 hpb;go_upto_region 7 with (fail)
    rw [<- hwq,<- hq];obtain ⟨wA,dX⟩:∃ wA:js1,wA=wq:=⟨_,rfl⟩;have KA:Hid (CB 87 S [.string (pfx p k).first,.string (pfx p k).rest] wA):=by have h:=KB.out;rw [Sb.out,<- dX] at h;rw [hpe.out];exact h
    have FA:Hid (aM (fun b=>b=S) wr wA):=by rw [dX];exact aM.of_below BQ.out _
    have JG:Hid (CB 40 q [.int .i64 yk,.int .i64 yM,.string yi,.string yt,.string yd,.string uI,.string uJ.id,.slice KZ K7 K8,.slice La Lb Lc,.slice Ld Le Lf,.slice Er Gw Ca] wA):=by rw [dX];exact KQ.out
    rw [<- dX];clear hwq hq dX q0 Xc c0 c1 c2 c3 c4 c5 c6 c7 c8 c9 c10
   case' inr=>
    have hpe:Hid (pfx p k=p.next):=by show _=_;unfold pfx;rw [if_neg (by omega)]
    have q0:decide ((0:Int)<(k:Int))=true:=by simp;omega
    have Xc:decide (0<k)=true:=by simpa using hk0
    have e0:=KB.out.cell 0 _ rfl;have e1:=KB.out.cell 1 _ rfl;have ef:=tN KB.out;have Ox:=hid hpb;clear hk0 hpb;go_upto_region 5 with (fail)
    rw [<- hwq,<- hq];clear hwq hq;go_upto_region 7 with (fail)
    obtain ⟨wA,dX⟩:∃ wA:js1,wA=wq.setCell ⟨S,0,none⟩ (.string pb.rest):=⟨_,rfl⟩;have KA:Hid (CB 87 S [.string (pfx p k).first,.string (pfx p k).rest] wA):=by have h:=rY KB.out 0 (.string pb.rest);rw [<- dX] at h;rw [hpe.out];show CB _ S [.string p.rest,.string p.rest] wA;rw [<- Ox.out];exact h
    have FA:Hid (aM (fun b=>b=S) wr wA):=by rw [dX];exact (aM.of_below BQ.out _).trans (aM.set wq S 0 _) (fun b _ e=>e)
    have JG:Hid (CB 40 q [.int .i64 yk,.int .i64 yM,.string yi,.string yt,.string yd,.string uI,.string uJ.id,.slice KZ K7 K8,.slice La Lb Lc,.slice Ld Le Lf,.slice Er Gw Ca] wA):=by rw [dX];exact KQ.out.fr (aM.set wq S 0 _) (fun e=>WY e.symm)
    rw [<- dX];clear dX q0 Xc e0 e1 Ox ef c0 c1 c2 c3 c4 c5 c6 c7 c8 c9 c10
   all_goals
    have ja9:jH m W w0 st' bS (pfx p k) (ah.mk yk yM yi yt yd uI uJ JB iC).bM wA:=⟨qE.out.m0,HB0.out.trans (FA.out.below _ HB0.out.size (fun b e=>by have:=j6.out;have:=qE.out.m0;have e1:b=S:=e;omega)),HR.out.l6.fr FA.out (fun e=>by have:=j6.out;have e1:m=S:=e;omega) (fun b e e'=>by
     have e1:b=S:=e';rcases HR.out.Ot with h | h
     ·rw [h] at e;have:=(MS.out b e).2;omega
     ·rw [h] at e;simp [Value.ownBlock] at e),qE.out.wd,HR.out.fit.mono (by have:=Xb.out;omega),qE.out.tab,qE.out.ml⟩
    have BC:=hid (HYB.out _ _ _ _ ZP.out st' bS (pfx p k) wA ja9);have d0:=JG.out.cell 0 _ rfl;have d1:=JG.out.cell 1 _ rfl;have d2:=JG.out.cell 2 _ rfl;have d3:=JG.out.cell 3 _ rfl;have d4:=JG.out.cell 4 _ rfl;have d5:=JG.out.cell 5 _ rfl;have d6:=JG.out.cell 6 _ rfl;have d7:=JG.out.cell 7 _ rfl;have d8:=JG.out.cell 8 _ rfl;have d9:=JG.out.cell 9 _ rfl;have d10:=JG.out.cell 10 _ rfl;have p0:=KA.out.cell 0 _ rfl;have p1:=KA.out.cell 1 _ rfl;clear ja9 WY;go_wp2_with fail
    (with_reducible refine BC.out.mono ?_)
    rintro e w5 ⟨v5,kJ,gJ,rfl,iJ,hmk5,iU,hown5,sJ⟩;obtain ⟨r,hrr⟩:∃ r,r=ah.dG W st' (pfx p k) (ah.mk yk yM yi yt yd uI uJ JB iC):=⟨_,rfl⟩;rw [<- hrr] at iJ hmk5 iU;have HG:=HYG.out;rw [<- hrr] at HG;have HRR:=hid hrr;obtain ⟨n5,qN⟩:∃ n5,n5=(r.1.map Bx.d).length:=⟨_,rfl⟩;have jaj:na+n5<=1000000:=by have h1:=HG.len;have h2:=HR.out.len;have h3:=Xb.out;have h4:=MU.out;rw [jp5] at h4 qN;omega
    obtain ⟨a5,c5,hv5⟩:=q01 iJ.own;rw [<- qN] at hv5;subst hv5;have hS1:S+1<=wr.heap.size:=HR.out.row.1;have Xd:wr.heap.size<=w5.heap.size:=jp0 FA.out.size sJ.size;have sw:vp.ownBlock≠some m:=oz qE.out.l8.own qE.out.l8.cb (by decide);have Xe:∀ b,b=S->w.heap.size<=b/\b<S+1:=fun b e=>by have:=HS.out;omega
    have hpw:∀ b,vp.ownBlock=some b->b<w.heap.size:=fun b e=>by have:=(MS.out b e).2;have:=HS.out;omega
    have hmw:m<w.heap.size:=by have:=j6.out;have:=HS.out;omega
    have M9:w.heap.size<=S+1:=by have:=HS.out;omega
    have Ey:=HR.out.U1 (r:=r) hmw hpw sw M9 FA.out Xe sJ iU;have hxr:Rd (fun b=>(vp.ownBlock=some b/\(r.2.err=0->gJ.ownBlock≠some b))\/wr.heap.size<=b) w5 (.sl 6 (r.1.map Bx.d)) [.slice a5 n5 c5]:=by
     have h:=iJ.2.rd;rw [iJ.sz] at h;refine h.weaken (fun b hb=>hb.imp (fun h=>⟨?_,fun _=>h.2⟩) (fun h=>jp0 FA.out.size h));rcases HR.out.Ot with h' | h'
     ·rw [h'] at h;exact h.1
     ·rw [h'] at h;simp [Value.ownBlock] at h
    have Xf:=hid Ey;have HXR:=hid hxr;have zi:=hid hmk5;have HV5:=hid (And.intro iU hown5);have yL:=hid sJ;have HGG:=hid HG;have JH:=hid qN.symm;have JI:Hid (∀ b,(vp.ownBlock=some b/\(r.2.err=0->gJ.ownBlock≠some b))->b<(zf (S+1) w5).heap.size):=fun b h=>by
     rw [Rp (by omega)];have:=(MS.out b h.1).2;omega
    have HW:=hid (And.intro hmw (And.intro hpw (And.intro M9 (And.intro (show w.heap.size<=S/\S<S+1 by have:=HS.out;omega) Xe))));clear iJ hmk5 iU hown5 sJ hrr qN hS1 Xd Ey hxr sw Xe hpw hmw M9 BC d0 d1 d2 d3 d4 d5 d6 d7 d8 d9 d10 p0 p1 HG;go_wp2_with (at_builtin;(refine tY (T:=54) (k:=6) rfl (.tmp 22) (.tmp 26) 50 rfl iB _ 64 Tryz.underlying50 zo Ou Ov Ow rfl (by decide) Xf.out.2 JI.out _ HXR.out (fun rs ok h=>Jq r.1 rs ok w5 h) MU.out JH.out (by omega) (by decide) rfl rfl ?_))
    intro a6 c6 Av w6 Ez Gv;have hkv:(Value.slice av na cv).ownBlock≠some m/\∀ g,gJ.ownBlock=some g->(Value.slice av na cv).ownBlock≠some g:=⟨fun e=>by have:=(Xf.out.own.lt m e).1;have:=j6.out;omega,fun g e=>iM zi.out.own Xf.out.own (by decide) g e⟩;have Sc:=zi.out.fr (aM.grown Gv) hkv.1 (fun g e e'=>hkv.2 g e e');have hF6:=HR.out.frame HW.out.2.2.1 FA.out (fun b e=>(HW.out.2.2.2.2 b e).1) yL.out Gv;have f3:=Sc.cb.cell 3 _ rfl;have f5:=Sc.cb.cell 5 _ rfl;have ff:=tN Sc.cb;have Xg:=hid Sc;have HF6:=hid hF6;have HR6:=hid Ez;have HG6:=hid Gv;clear Ez Gv hkv Sc hF6;have dX:wr.heap.size<=wA.heap.size:=FA.out.size;have HWA:=hid dX;clear dX;by_cases he:r.2.err=0
    case' pos=>
     have q2:(((r.2.err:Nat):Int)==0)=true:=by rw [he];rfl
     by_cases hcc:4096<r.2.count
     case' pos=>
      have q1:decide ((4096:Int)<((r.2.count:Nat):Int))=true:=by simp;omega
      have hlim:r.2.lim.err≠0:=by rw [St.Hw hcc he];simp
      have UU:mo m W r.2.lim gJ (w6.setCell ⟨m,5,none⟩ (.int .i64 3)):=by rw [St.Hw hcc he];refine ⟨rY Xg.out.cb 5 (.int .i64 3),dh Xg.out.own (aM.set w6 m 5 _) (fun g e e'=>?_)⟩;have e1:g=m:=e';exact oz Xg.out.own Xg.out.cb (by decide) (by rw [<- e1];exact e)
      have HP:=hid (HR.out.stop (s':=r.2.lim) (w7:=w6.setCell ⟨m,5,none⟩ (.int .i64 3)) HWA.out (by rw [HRR.out];exact Ew HY.out (by rw [<- HRR.out];exact hlim)) hlim UU HV5.out.2 (HF6.out.trans (aM.set w6 m 5 _) (fun b _ e=>.inl e)));clear hlim UU hcc he;go_wp2;go_ret;exact HP.out
     case' neg=>
      have q1:decide ((4096:Int)<((r.2.count:Nat):Int))=false:=by simp;omega
      have hlim:r.2.lim=r.2:=by unfold St.lim;rw [if_neg (fun e=>hcc e.1)]
      have NC:=HR.out.next (r:=r) HW.out.1 HW.out.2.1 HW.out.2.2.1 HW.out.2.2.2.1 FA.out HW.out.2.2.2.2 (.inl rfl) HGG.out (by show _+ah.aK (l.drop (k+1))<=ah.aK (l.drop k);have:=Xb.out;omega) (by rw [HRR.out];exact W9 HY.out (by rw [<- HRR.out,hlim];exact he)) he KA.out zi.out HV5.out.1 yL.out HG6.out HR6.out
      have HF:Hid (Lr m W (ah.bX W st p l) (fun k s=>ah.bX W s (pfx p k) (l.drop k)) (fun k=>ah.aK (l.drop k)) st vp p S (S+1) S [] n w (.slice a6 (na+n5) c6) (.int .i64 ((k+1:Nat):Int)) w6):=⟨k+1,_,gJ,_,Av,pfx p k,rfl,by omega,NC⟩;clear hlim NC hcc he;go_wp2;go_roundw;case rel=>exact HF.out
      case measure=>simp [intOf];omega
    case' neg=>
     have q2:(((r.2.err:Nat):Int)==0)=false:=by simp;omega
     have hlim:r.2.lim=r.2:=St.R8 he;have HP:=hid (HR.out.stop (s':=r.2.lim) (w7:=w6) HWA.out (by rw [HRR.out];exact Ew HY.out (by rw [<- HRR.out,hlim];exact he)) (by rw [hlim];exact he) (by rw [hlim];exact Xg.out) HV5.out.2 HF6.out);clear hlim he;by_cases hcc:4096<r.2.count
     ·have q1:decide ((4096:Int)<((r.2.count:Nat):Int))=true:=by simp;omega
      clear hcc;go_wp2;go_ret;exact HP.out
     ·have q1:decide ((4096:Int)<((r.2.count:Nat):Int))=false:=by simp;omega
      clear hcc;go_wp2;go_ret;exact HP.out
  ·have hkl:k=l.length:=by have:=HN.out;omega
   have HP:=hid (hr.done (by have:=HS.out;omega) (by show ah.bX W st' (pfx p k) (l.drop k)=_;rw [hkl,List.drop_length,ah.bX]));obtain ⟨av,cv,hv⟩:=q01 hr.row.own;subst hv;clear hkl hr hb0;go_wp2;go_ret;exact HP.out
open Go.RowKit
theorem Oy (n m:Nat) (h:n<10 ^ (m+1)):(Lib.decDigits n).length<=m+1:=by
 induction m generalizing n with
 | zero=>
  rw [Lib.decDigits,dif_pos (by simpa using h)];simp
 | succ m ih=>
  rw [Lib.decDigits];split
  ·simp
  ·rw [List.length_append,List.length_singleton];have:=ih (n/10) (by rw [Nat.pow_succ] at h;omega);omega
theorem jak (n:Nat) (w:js1) (hn:n<=2000000000) (ht:PT w) : Calls Tryz.prog 178 #[.int .i64 (n:Int)] w fun e w'=>e=.returned (.string (Nr (n:Int)))/\js2 w.heap.size w w':=by
 refine (Tryz.strconv_Itoa (n:Int) (by omega) (by omega) w ht.2).mono ?_;rintro e w' ⟨rfl,k,os,rfl⟩;refine ⟨?_,Lib.below_grow _ w (joz _) k os⟩;have:Lib.itoa (n:Int)=Lib.decDigits n:=by unfold Lib.itoa;rw [if_neg (by omega)];simp
 rw [this];rfl
theorem Aw (n:Nat) (hn:n<=2000000000):(Nr (n:Int)).size<=20:=by have h:=Oy n 9 (by omega);show (Lib.decDigits (n:Int).toNat).toArray.size<=20;rw [List.size_toArray,Int.toNat_natCast];omega
theorem wN (k lv:Int) (j:Nat) (hlv:k=8->0<=lv/\lv<=999999999) (hj:j<=1000000):(dn k lv j).size<=22:=by
 unfold dn;split
 ·rename_i h
  obtain ⟨n,hn⟩:∃ n:Nat,lv+(j:Int)=(n:Int):=⟨(lv+j).toNat,by have:=hlv h;omega⟩;rw [hn];have:=Aw n (by have:=hlv h;omega);rw [ByteArray.size_append];show _+2<=22;omega
 ·show (2:Nat)<=22;omega
def U2 (W:Int) (x:ah):Prop:=∀ st q,bH x.bM st (ah.tJ W st q x)
theorem kM {W:Int} {st:St} {p:Px} {k lv:Int} {i:Nat} {x:ah} {l:List ah} (h:(x.tJ W st (p.mark (dn k lv i))).2.err≠0):ah.oK W st p k lv i (x::l)=([],(x.tJ W st (p.mark (dn k lv i))).2):=by rw [ah.oK];simp only [if_pos h]
theorem sK {W:Int} {st:St} {p:Px} {k lv:Int} {i:Nat} {x:ah} {l:List ah} (h:(x.tJ W st (p.mark (dn k lv i))).2.err=0):ah.oK W st p k lv i (x::l)=ahead (x.tJ W st (p.mark (dn k lv i))).1 (ah.oK W (x.tJ W st (p.mark (dn k lv i))).2 p.next k lv (i+1) l):=by rw [ah.oK];simp only [if_neg (show ¬ (x.tJ W st (p.mark (dn k lv i))).2.err≠0 from fun e=>e h)]
theorem Sd (W:Int) (k lv:Int):∀ (l:List ah) (i:Nat) (st:St) (p:Px),(ah.oK W st p k lv i l).2.err≠0->(ah.oK W st p k lv i l).1=[]
 | [],i,st,p,_=>by rw [ah.oK]
 | x::l,i,st,p,h=>by
  by_cases h1:(x.tJ W st (p.mark (dn k lv i))).2.err=0
  ·rw [sK h1] at h ⊢;unfold ahead at h ⊢;split
   ·rfl
   ·rename_i h2
    rw [if_neg h2] at h;exact absurd h h2
  ·rw [kM h1]
theorem Xh {W:Int} {p:Px} {k lv:Int} {l:List ah} {j:Nat} {y:ah} {s:St} {r:List Bx × St} (hy:l[j]?=some y) (hr:r=y.tJ W s ((pfx p j).mark (dn k lv j))) (h:r.2.err=0):ah.oK W s (pfx p j) k lv j (l.drop j)=ahead r.1 (ah.oK W r.2 (pfx p (j+1)) k lv (j+1) (l.drop (j+1))):=by rw [drop_at hy,sK (by rw [<- hr];exact h),wM,hr]
theorem Oz {W:Int} {p:Px} {k lv:Int} {l:List ah} {j:Nat} {y:ah} {s:St} {r:List Bx × St} (hy:l[j]?=some y) (hr:r=y.tJ W s ((pfx p j).mark (dn k lv j))) (h:r.2.err≠0):ah.oK W s (pfx p j) k lv j (l.drop j)=([],r.2):=by rw [drop_at hy,kM (by rw [<- hr];exact h),hr]
theorem Ls (p:Px) (k:Nat) (m:ByteArray):((pfx p k).mark m).first.size<=(pfx p k).first.size+m.size/\((pfx p k).mark m).rest.size<=(pfx p k).rest.size+m.size:=by
 constructor
 ·show ((pfx p k).first++m).size<=_;rw [ByteArray.size_append];omega
 ·show ((pfx p k).rest++rW m.size).size<=_;rw [ByteArray.size_append,mV];omega
theorem Lu (m:Nat) (W:Int) (w0:js1) (kd lv:Int) (i t d ti:ByteArray) (at_:At) (li:List aj) (ks:List ah) (vc dO vl vk:js3) (hkd:kd=7\/kd=8) (hlv:kd=8->0<=lv/\lv<=999999999) (hR:rQ (·<w0.heap.size) w0 at_ li ks vc dO vl vk) (hB:∀ x∈ks,gV m W w0 (ze x)) (hG:∀ x∈ks,U2 W x) (Ch:kd=8->PT w0) (st:St) (vp:js3) (p:Px) (w:js1) (hin:jH m W w0 st vp p (ah.aK ks) w) : Calls Tryz.prog 137 #[.pointer (some ⟨m,0,none⟩),.agg #[.int .i64 kd,.int .i64 lv,.string i,.string t,.string d,.string ti,.string at_.id,vc,dO,vl,vk],.agg #[.string p.first,.string p.rest]] w (aI m W w vp (ah.oK W st p kd lv 0 ks)):=by
 obtain ⟨iB,zo,Ou,Ov,Ow⟩:=info_parts GV;obtain ⟨ac,nc,cc,rfl⟩:=Rd.au hR.at_.cls
 obtain ⟨ap,np,cp,rfl⟩:=Rd.au hR.at_.aJ
 obtain ⟨al,nl,cl,rfl⟩:=Rd.au hR.line;obtain ⟨ak,ck,hvk,hs⟩:=Rd.aC hR.kids;obtain ⟨nk,hnk⟩:∃ nk,nk=ks.length:=⟨_,rfl⟩;obtain rfl:vk=.slice ak nk ck:=by rw [hnk];simpa using hvk
 have hcap:nk<=ck:=by have:=hs.le;rw [jp5] at this;omega
 have hmx:=hs.max;unfold maxLen at hmx;have hn1:nk<=1000000:=by have:=iR ks;have:=hin.fit.f;omega
 obtain ⟨S,hS⟩:∃ S,S=w.heap.size:=⟨_,rfl⟩;obtain ⟨wa,zq⟩:∃ wa,wa=w.alloc (.cells #[.int .i64 kd,.int .i64 lv,.string i,.string t,.string d,.string ti,.string at_.id,.slice ac nc cc,.slice ap np cp,.slice al nl cl,.slice ak nk ck] 40):=⟨_,rfl⟩;obtain ⟨w1,hw1⟩:∃ w1,w1=wa.alloc (.cells #[.string p.first,.string p.rest] 87):=⟨_,rfl⟩;have za:wa.heap.size=S+1:=by rw [zq,hS];simp
 have kb:CB 40 S [.int .i64 kd,.int .i64 lv,.string i,.string t,.string d,.string ti,.string at_.id,.slice ac nc cc,.slice ap np cp,.slice al nl cl,.slice ak nk ck] w1:=by rw [hw1];refine CB.below ?_ ((jox _ _).alloc (joz _) _);rw [zq,hS];exact CB.new _ _ _
 have kp:CB 87 (S+1) [.string p.first,.string p.rest] w1:=by rw [hw1,<- za];exact CB.new _ _ _
 have b1:js2 w.heap.size w w1:=by rw [hw1,zq];exact ((jox _ _).alloc (joz _) _).alloc (by simp) _
 have z1:w1.heap.size=S+2:=by rw [hw1];simp [za]
 have qM:=hin.l8.own;have vV:m<S:=by rw [hS];exact hin.l8.cb.lt
 have R0:Hid (Lr m W (ah.oK W st p kd lv 0 ks) (fun j s=>ah.oK W s (pfx p j) kd lv j (ks.drop j)) (fun j=>ah.aK (ks.drop j)) st vp p (S+1) (S+2) S [.int .i64 kd,.int .i64 lv,.string i,.string t,.string d,.string ti,.string at_.id,.slice ac nc cc,.slice ap np cp,.slice al nl cl,.slice ak nk ck] nk w (.slice none 0 0) (.int .i64 0) w1):=⟨0,st,vp,[],[],p,rfl,Nat.zero_le _,(Au _ (Sd _ _ _ _ _ _ _)).symm,.inl ⟨rfl,rfl,rfl⟩,(aO.nil _ _ _ (by omega)).top,hin.l8.below b1,.inl rfl,aM.of_below b1 _,hin.fit,by have:=hin.fit.f;simp;omega,kp,⟨rfl,fun _=>rfl⟩,.inr ⟨by omega,by omega,kb⟩⟩;have qE:=hid hin;have HS:=hid hS;have HN:=hid hnk;have HSL:=hid hs;have UQ:=hid hB;have HGC:=hid hG;have j6:=hid vV;have MS:=hid (fun (b:Nat) (e:vp.ownBlock=some b)=>(by rw [hS];exact qM.lt b e:m<=b/\b<S));have sw:vp.ownBlock≠some m:=oz qM hin.l8.cb (by decide);have YF:=hid sw;have KB1:=hid kb;have B1:=hid b1;have HLV:=hid (And.intro hlv Ch);have d0:=kb.cell 0 _ rfl;have d10:=kb.cell 10 _ rfl;clear hR hvk hs hnk hB hG hin b1 qM vV z1 sw kb kp hlv Ch;go_enter Tryz.func137,Tryz.ntmps137;go_upto_region 1 with (fail)
 rw [<- zq,<- hS];try rw [za]
 rw [<- hw1];clear zq hw1 hS za;go_wp2
 go_loopw [7,16] (fun v vi wr=>Lr m W (ah.oK W st p kd lv 0 ks) (fun j s=>ah.oK W s (pfx p j) kd lv j (ks.drop j)) (fun j=>ah.aK (ks.drop j)) st vp p (S+1) (S+2) S [.int .i64 kd,.int .i64 lv,.string i,.string t,.string d,.string ti,.string at_.id,.slice ac nc cc,.slice ap np cp,.slice al nl cl,.slice ak nk ck] nk w v vi wr) (fun _ vi _=>nk-(intOf vi).toNat)
 case atStart=>exact R0.out
 case round=>
  clear R0 d0 d10;obtain ⟨j,st',bS,acc,rows,pb,rfl,hkn,hr⟩:=hrel;have hb0:js2 w0.heap.size w0 wr:=qE.out.lH hr.fr (fun b e=>by
   rcases e with e | e
   ·omega
   ·exact (MS.out b e).1)
  by_cases hlt:j<nk
  ·obtain ⟨y,hy⟩:∃ y,ks[j]?=some y:=⟨_,joq (by have:=HN.out;omega)⟩;have hyB:=UQ.out y (jpk hy);have hyG:=HGC.out y (jpk hy) st' ((pfx p j).mark (dn kd lv j));have hvd:=Ar ks j y hy;obtain ⟨yk,yM,yi,yt,yd,uI,uJ,JB,iC⟩:=y;obtain ⟨ga,off,vc,dO,vl,vk,rfl,hok,hbl,hc,hR⟩:=dH HSL.out hy;obtain ⟨c0,c1,c2,c3,c4,c5,c6,c7,c8,c9,c10⟩:=hc.at2 (w':=wr) (hb0.block ga hok);obtain ⟨KZ,K7,K8,rfl⟩:=Rd.au hR.at_.cls
   obtain ⟨La,Lb,Lc,rfl⟩:=Rd.au hR.at_.aJ
   obtain ⟨Ld,Le,Lf,rfl⟩:=Rd.au hR.line;obtain ⟨Er,Ca,hyk,-⟩:=Rd.aC hR.kids;obtain ⟨Gw,Xi⟩:∃ Gw,Gw=iC.length:=⟨_,rfl⟩;obtain rfl:vk=.slice Er Gw Ca:=by rw [Xi];simpa using hyk
   obtain ⟨q,hq⟩:∃ q,q=wr.heap.size:=⟨_,rfl⟩;obtain ⟨wq,hwq⟩:∃ wq,wq=wr.alloc (.cells #[.int .i64 yk,.int .i64 yM,.string yi,.string yt,.string yd,.string uI,.string uJ.id,.slice KZ K7 K8,.slice La Lb Lc,.slice Ld Le Lf,.slice Er Gw Ca] 40):=⟨_,rfl⟩;have kq:CB 40 q [.int .i64 yk,.int .i64 yM,.string yi,.string yt,.string yd,.string uI,.string uJ.id,.slice KZ K7 K8,.slice La Lb Lc,.slice Ld Le Lf,.slice Er Gw Ca] wq:=by rw [hwq,hq];exact CB.new _ _ _
   have bq:js2 wr.heap.size wr wq:=by rw [hwq];exact (jox _ _).alloc (joz _) _
   have hSw:S+1<wr.heap.size:=hr.box.lt;have WY:S+1≠q:=by omega
   have kb:=hr.box.below bq;have kB:=(hr.kbx.resolve_left (by omega)).2.2.below bq;obtain ⟨av,cv,hv⟩:=q01 hr.row.own;obtain ⟨na,hna⟩:∃ na,na=(acc.map Bx.d).length:=⟨_,rfl⟩;rw [<- hna] at hv;subst hv;have MU:=hid hna.symm;have HR:=hid hr;have HY:=hid hy;have HYB:=hid hyB;have HYG:=hid hyG;have Xb:=hid hvd;have ZP:=hid hR;have KQ:=hid kq;have BQ:=hid bq;have KB:=hid kb;have HB0:=hid hb0;have JD:=hid Xi;have Zy:na<=1000000:=by have:=hr.len;rw [hna,jp5];omega
   have Ox:=hid hr.pbx;have YN:=hid kB;have HSQ:=hid (And.intro hSw WY);have Xj:=hid (wN kd lv j HLV.out.1 (by omega));obtain ⟨mk,hmk⟩:∃ mk,mk=dn kd lv j:=⟨_,rfl⟩;rw [<- hmk] at Xj HYG;have OB:=hid hmk;have b0:=kB.cell 0 _ rfl;have b1':=kB.cell 1 _ rfl;have bqw:Hid (js2 w0.heap.size w0 wq):=aP hb0 bq;clear hok hbl hc hR hy hyB hyG hvd kq bq kb hb0 hr hna hSw kB hyk Xi hmk;rcases hkd with rfl | rfl
   case' inl=>
    have Cb:Hid (mk=⟨#[45,32]⟩):=by have h:=OB.out;show mk=_;rw [h];rfl
    go_upto_region 5 with (fail)
    rw [<- hwq,<- hq];clear hwq hq c0 c1 c2 c3 c4 c5 c6 c7 c8 c9 c10;go_upto_region 8 with (fail)
    rw [<- Cb.out];obtain ⟨wm,JJ⟩:∃ wm:js1,wm=wq:=⟨_,rfl⟩;have BM:Hid (js2 wq.heap.size wq wm):=by rw [JJ];exact jox _ _
    rw [<- JJ];clear JJ Cb b0 b1'
   case' inr=>
    have hl8:=HLV.out.1 rfl;obtain ⟨hl0,hl1⟩:=hl8;obtain ⟨ds,hds⟩:∃ ds,ds=Nr (lv+(j:Int)):=⟨_,rfl⟩;have hdz:ds.size<=20:=by rw [hds,show lv+(j:Int)=(((lv+j).toNat:Nat):Int) from by omega];exact Aw _ (by omega)
    have IT:=jak (lv+j).toNat wq (by omega) ((HLV.out.2 rfl).below bqw.out);rw [show (((lv+j).toNat:Nat):Int)=lv+(j:Int) from by omega,<- hds] at IT;have ITH:=hid IT;have jaq:Hid (mk=ds++⟨#[46,32]⟩):=by have h:=OB.out;show mk=_;rw [h,hds];rfl
    clear IT hds;go_upto_region 5 with (fail)
    rw [<- hwq,<- hq];clear hwq hq c0 c1 c2 c3 c4 c5 c6 c7 c8 c9 c10;go_wp2_with fail
    (with_reducible refine ITH.out.mono ?_)
    rintro e wm ⟨rfl,bm⟩;have BM:=hid bm;clear bm ITH;go_upto_region 8 with (fail)
    rw [<- jaq.out];clear jaq hdz b0 b1' hl0 hl1
   all_goals
    have kq:=KQ.out.below BM.out;have kp:=KB.out.below BM.out;rcases Nat.eq_zero_or_pos j with hj0 | hj0
    case' inl=>
     have hpe:Hid (pfx p j=p):=by show _=_;unfold pfx;rw [if_pos hj0]
     have q0:decide ((0:Int)<(j:Int))=false:=by simp;omega
     have Xc:decide (0<j)=false:=by simp;omega
     have Sb:Hid (pb=p):=Ox.out.2 hj0;clear hj0;go_upto_region 10 with (fail)
     obtain ⟨ws,hws⟩:∃ ws:js1,ws=wm:=⟨_,rfl⟩;have KA:Hid (CB 87 (S+1) [.string (pfx p j).first,.string (pfx p j).rest] ws):=by have h:=kp;rw [Sb.out,<- hws] at h;rw [hpe.out];exact h
     have FS:Hid (aM (fun b=>b=S+1) wm ws):=by rw [hws];exact aM.refl _ _
     rw [<- hws];clear hws q0 Xc Sb hpe
    case' inr=>
     have hpe:Hid (pfx p j=p.next):=by show _=_;unfold pfx;rw [if_neg (by omega)]
     have q0:decide ((0:Int)<(j:Int))=true:=by simp;omega
     have Xc:decide (0<j)=true:=by simpa using hj0
     have e0:=kp.cell 0 _ rfl;have e1:=kp.cell 1 _ rfl;have ef:=tN kp;clear hj0;go_upto_region 10 with (fail)
     obtain ⟨ws,hws⟩:∃ ws:js1,ws=wm.setCell ⟨S+1,0,none⟩ (.string pb.rest):=⟨_,rfl⟩;have KA:Hid (CB 87 (S+1) [.string (pfx p j).first,.string (pfx p j).rest] ws):=by have h:=rY kp 0 (.string pb.rest);rw [<- hws] at h;rw [hpe.out];show CB _ (S+1) [.string p.rest,.string p.rest] ws;rw [<- Ox.out.1];exact h
     have FS:Hid (aM (fun b=>b=S+1) wm ws):=by rw [hws];exact aM.set wm (S+1) 0 _
     rw [<- hws];clear hws q0 Xc hpe e0 e1 ef
    all_goals
     have kqs:=kq.fr FS.out (fun e=>HSQ.out.2 e.symm);have p0:=KA.out.cell 0 _ rfl;have p1:=KA.out.cell 1 _ rfl;have Zk:=HR.out.fit;have hf1:=Zk.f;have hf2:=Zk.r;have MC:=hid (wP (pfx p j) mk ws (by omega) (by omega) (by have:=Xj.out;omega));have hmn:=Ls p j mk;obtain ⟨Q,hQ⟩:∃ Q,Q=(pfx p j).mark mk:=⟨_,rfl⟩;rw [<- hQ] at MC HYG hmn;have HQ:=hid hQ;have Sg:(ah.mk yk yM yi yt yd uI uJ JB iC).bM=30+yi.size+2*yt.size+2*(aj.ay JB).length+(bJ (aj.aA JB)).length+ah.aK iC:=by rw [ah.bM]
     have U3:Fits (ah.aK iC) st' Q:=by have h1:=Zk.mono (n':=30+ah.aK iC) (by show _<=ah.aK (ks.drop j);have:=Xb.out;omega);obtain ⟨x1,x2,x3,x4,x5⟩:=h1;have:=Xj.out;exact ⟨by omega,by omega,by omega,by omega,by omega⟩
     have YP:=hid U3;clear hQ Zk hf1 hf2 hmn Sg U3 kq kp;go_wp2_with fail
     (with_reducible refine MC.out.mono ?_)
     rintro e w4 ⟨rfl,b4⟩;obtain ⟨q2,hq2⟩:∃ q2,q2=w4.heap.size:=⟨_,rfl⟩;obtain ⟨wA,dX⟩:∃ wA,wA=w4.alloc (.cells #[.string Q.first,.string Q.rest] 87):=⟨_,rfl⟩;have bA:js2 w4.heap.size w4 wA:=by rw [dX];exact (jox _ _).alloc (joz _) _
     have KQ2:Hid (CB 87 q2 [.string Q.first,.string Q.rest] wA):=by rw [dX,hq2];exact CB.new _ _ _
     have JG:=hid ((kqs.below b4).below bA);have KAA:=hid ((KA.out.below b4).below bA);have FA:Hid (aM (fun b=>b=S+1) wr wA):=(((aM.of_below (aP BQ.out BM.out) (fun b=>b=S+1)).trans FS.out (fun b _ e=>e)).trans (aM.of_below (aP b4 bA) (fun _=>False)) (fun _ _ e=>e.elim));clear bA b4 MC kqs p0 p1 KA FS;go_upto_region 11 with (fail)
     rw [<- dX,<- hq2];have e10:=JG.out.cell 10 _ rfl;have g0:=KQ2.out.cell 0 _ rfl;have g1:=KQ2.out.cell 1 _ rfl;clear dX hq2;obtain ⟨r,hrr⟩:∃ r,r=ah.tJ W st' Q (ah.mk yk yM yi yt yd uI uJ JB iC):=⟨_,rfl⟩;have HG:=hid (HYG.out);rw [<- hrr] at HG;have HRR:=hid hrr;clear hrr;have ji5:Hid (js2 w0.heap.size w0 wA):=HB0.out.trans (FA.out.below _ HB0.out.size (fun b e=>by have:=j6.out;have:=qE.out.m0;have e1:b=S+1:=e;omega));have Lv:Hid (mo m W st' bS wA):=HR.out.l6.fr FA.out (fun e=>by have:=j6.out;have e1:m=S+1:=e;omega) (fun b e e'=>by
      have e1:b=S+1:=e';rcases HR.out.Ot with h | h
      ·rw [h] at e;have:=(MS.out b e).2;omega
      ·rw [h] at e;simp [Value.ownBlock] at e)
     rcases Nat.eq_zero_or_pos Gw with hkz | hkz
     case' inl=>
      have q1:decide ((0:Int)<(Gw:Int))=false:=by simp;omega
      have q1':decide (0<Gw)=false:=by simp;omega
      have o8:iC=[]:=List.length_eq_zero_iff.1 (by have:=JD.out;omega);have DI:Hid (r=bO st' ([]++[Bx.new (Q.text ([]:List Bx).length ⟨#[]⟩) 1 false]) []):=by have h:=HRR.out;rw [o8,ah.tJ,if_pos rfl] at h;show r=_;rw [h];rfl
      obtain ⟨q3,hq3⟩:∃ q3,q3=wA.heap.size:=⟨_,rfl⟩;obtain ⟨wL,hwL⟩:∃ wL,wL=wA.alloc (.cells #[.string Q.first,.string Q.rest,.slice none 0 0] 153):=⟨_,rfl⟩;have bL:js2 wA.heap.size wA wL:=by rw [hwL];exact (jox _ _).alloc (joz _) _
      have kl:CB 153 q3 [.string Q.first,.string Q.rest,.slice none 0 0] wL:=by rw [hwL,hq3];exact CB.new _ _ _
      have A1:=hid (iT q3 Q [] (.slice none 0 0) wL.heap.size wL.heap.size ⟨#[]⟩ 1 false wL (by have:=YP.out.f;omega) (by have:=YP.out.r;omega) (by show (0:Nat)<=_;omega) (by simp) kl kl.lt (aO.nil _ _ _ (joz _)));have BL:=hid bL;have OD:=hid hq3;clear hkz o8 bL kl;go_upto_region 14 with (fail)
      rw [<- hwL,<- hq3];clear hwL hq3 q1 q1';go_wp2_with fail
      (with_reducible refine A1.out.mono ?_)
      rintro e wB ⟨rfl,vB,EA,jP,wQ⟩;obtain ⟨LL,iq⟩:∃ LL,LL=[]++[Bx.new (Q.text ([]:List Bx).length ⟨#[]⟩) 1 false]:=⟨_,rfl⟩;rw [<- iq] at jP DI;have U4:mo m W st' bS wB:=(Lv.out.below BL.out).fr wQ (fun e=>by
       rcases e with e | e
       ·have:=Lv.out.cb.lt;have:=OD.out;omega
       ·simp [Value.ownBlock] at e) (fun g e e'=>by
       rcases e' with e' | e'
       ·have:=(Lv.out.own.lt g e).2;have:=OD.out;omega
       ·simp [Value.ownBlock] at e')
      have FB:aM (fun b=>b=m\/bS.ownBlock=some b) wA wB:=(aM.of_below BL.out _).trans wQ (fun b hb e=>by
       rcases e with e | e
       ·have:=OD.out;omega
       ·simp [Value.ownBlock] at e)
      have LF:=hid (kG m W st' bS wL.heap.size wB.heap.size vB (.slice none 0 0) LL [] (fun _=>False) wB U4 (by rw [iq];simp) jP (by rw [iq];intro y hy;simp at hy;rw [hy];rfl) (Rd.aR _ _ _) (fun _ h=>h.elim) (by have:=YP.out.g;omega) (by have:=YP.out.c;omega) (by rw [iq];simp) (by have:=YP.out.p;simp;omega) (by have:=Lv.out.cb.lt;have:=BL.out.size;omega) (fun b e=>by have:=(Lv.out.own.lt b e).2;have:=BL.out.size;omega));have b2:=EA.cell 2 _ rfl;obtain ⟨aB,cB,hvB⟩:=q01 jP.own;have hlB:(LL.map Bx.d).length=1:=by rw [iq];rfl
      rw [hlB] at hvB;subst hvB;have YQ:=hid FB;have BLS:=hid BL.out.size;clear iq U4 FB jP wQ EA A1 BL hlB;go_wp2_with fail
      (with_reducible refine LF.out.mono ?_)
      rintro e w5 hlp;have QY:=aI.of hlp YQ.out BLS.out;rw [<- DI.out] at QY;obtain ⟨v5,kJ,gJ,rfl,iJ,hmk5,iU,hown5,sJ⟩:=QY;clear hlp LF DI YQ BLS b2
     case' inr=>
      have q1:decide ((0:Int)<(Gw:Int))=true:=by simp;omega
      have q1':decide (0<Gw)=true:=by simpa using hkz
      have o8:iC≠[]:=fun e=>by have:=JD.out;rw [e] at this;simp at this;omega
      have DI:Hid (r=ah.bX W st' Q iC):=by have h:=HRR.out;rw [ah.tJ,if_neg o8] at h;exact h
      have BC:=hid (HYB.out (.slice Er Gw Ca) ZP.out.kids st' bS Q wA ⟨qE.out.m0,ji5.out,Lv.out,qE.out.wd,YP.out,qE.out.tab,qE.out.ml⟩);unfold ze at BC;rw [<- DI.out] at BC;clear hkz o8 DI;go_wp2_with fail
      (with_reducible refine BC.out.mono ?_)
      rintro e w5 ⟨v5,kJ,gJ,rfl,iJ,hmk5,iU,hown5,sJ⟩;clear BC q1 q1'
     all_goals
      obtain ⟨n5,qN⟩:∃ n5,n5=(r.1.map Bx.d).length:=⟨_,rfl⟩;have jaj:na+n5<=1000000:=by have h1:=HG.out.len;have h2:=HR.out.len;have h3:=Xb.out;have h4:=MU.out;rw [jp5] at h4 qN;omega
      obtain ⟨a5,c5,hv5⟩:=q01 iJ.own;rw [<- qN] at hv5;have Xd:wr.heap.size<=w5.heap.size:=jp0 FA.out.size sJ.size;have Xe:∀ b,b=S+1->w.heap.size<=b/\b<S+2:=fun b e=>by have:=HS.out;omega
      have hpw:∀ b,vp.ownBlock=some b->b<w.heap.size:=fun b e=>by have:=(MS.out b e).2;have:=HS.out;omega
      have hmw:m<w.heap.size:=by have:=j6.out;have:=HS.out;omega
      have M9:w.heap.size<=S+2:=by have:=HS.out;omega
      have Ey:=HR.out.U1 (r:=r) hmw hpw YF.out M9 FA.out Xe sJ iU;have hxr:Rd (fun b=>(vp.ownBlock=some b/\(r.2.err=0->gJ.ownBlock≠some b))\/wr.heap.size<=b) w5 (.sl 6 (r.1.map Bx.d)) [v5]:=by
       have h:=iJ.2.rd;rw [iJ.sz] at h;refine h.weaken (fun b hb=>hb.imp (fun h=>⟨?_,fun _=>h.2⟩) (fun h=>jp0 FA.out.size h));rcases HR.out.Ot with h' | h'
       ·rw [h'] at h;exact h.1
       ·rw [h'] at h;simp [Value.ownBlock] at h
      have Xf:=hid Ey;have HXR:=hid hxr;have zi:=hid hmk5;have HV5:=hid (And.intro iU hown5);have yL:=hid sJ;have JH:=hid qN.symm;have JI:Hid (∀ b,(vp.ownBlock=some b/\(r.2.err=0->gJ.ownBlock≠some b))->b<(zf (S+2) w5).heap.size):=fun b h=>by
       rw [Rp (by have:=HR.out.row.1;omega)];have:=(MS.out b h.1).2;omega
      have HW:=hid (And.intro hmw (And.intro hpw (And.intro M9 (And.intro (show w.heap.size<=S+1/\S+1<S+2 by have:=HS.out;omega) Xe))));clear iJ hmk5 iU hown5 sJ qN Xd Ey hxr Xe hpw hmw M9 e10 g0 g1;subst hv5;go_wp2_with (at_builtin;refine tY (T:=54) (k:=6) rfl _ _ 50 rfl iB _ 64 Tryz.underlying50 zo Ou Ov Ow rfl (by decide) Xf.out.2 JI.out _ HXR.out (fun rs ok h=>Jq r.1 rs ok w5 h) MU.out JH.out (by omega) (by decide) rfl rfl ?_)
      intro a6 c6 Av w6 Ez Gv;have hkv:(Value.slice av na cv).ownBlock≠some m/\∀ g,gJ.ownBlock=some g->(Value.slice av na cv).ownBlock≠some g:=⟨fun e=>by have:=(Xf.out.own.lt m e).1;have:=j6.out;omega,fun g e=>iM zi.out.own Xf.out.own (by decide) g e⟩;have Sc:=zi.out.fr (aM.grown Gv) hkv.1 (fun g e e'=>hkv.2 g e e');have hF6:=HR.out.frame HW.out.2.2.1 FA.out (fun b e=>(HW.out.2.2.2.2 b e).1) yL.out Gv;have f5:=Sc.cb.cell 5 _ rfl;have Xg:=hid Sc;have HF6:=hid hF6;have HR6:=hid Ez;have HG6:=hid Gv;have HWA:=hid FA.out.size;clear Ez Gv hkv Sc hF6;by_cases he:r.2.err=0
      case' pos=>
       have q2:(((r.2.err:Nat):Int)==0)=true:=by rw [he];rfl
       have NC:=HR.out.next (r:=r) HW.out.1 HW.out.2.1 HW.out.2.2.1 HW.out.2.2.2.1 FA.out HW.out.2.2.2.2 (.inr (by omega)) HG.out (by show _+ah.aK (ks.drop (j+1))<=ah.aK (ks.drop j);have:=Xb.out;omega) (Xh HY.out (by rw [HRR.out,HQ.out,OB.out]) he) he KAA.out zi.out HV5.out.1 yL.out HG6.out HR6.out
       have HF:=hid (show Lr m W (ah.oK W st p _ lv 0 ks) (fun j s=>ah.oK W s (pfx p j) _ lv j (ks.drop j)) (fun j=>ah.aK (ks.drop j)) st vp p (S+1) (S+2) S _ nk w (.slice a6 (na+n5) c6) (.int .i64 ((j+1:Nat):Int)) w6 from ⟨j+1,_,gJ,_,Av,pfx p j,rfl,by omega,NC⟩);clear NC he;go_wp2;go_roundw;case rel=>exact HF.out
       case measure=>simp [intOf];omega
      case' neg=>
       have q2:(((r.2.err:Nat):Int)==0)=false:=by simp;omega
       have HP:=hid (HR.out.stop (s':=r.2) (w7:=w6) HWA.out (Oz HY.out (by rw [HRR.out,HQ.out,OB.out]) he) he Xg.out HV5.out.2 HF6.out);clear he;go_wp2;go_ret;exact HP.out
  ·have hkl:j=ks.length:=by have:=HN.out;omega
   have HP:=hid (hr.done (by have:=HS.out;omega) (by show ah.oK W st' (pfx p j) kd lv j (ks.drop j)=_;rw [hkl,List.drop_length,ah.oK]));obtain ⟨av,cv,hv⟩:=q01 hr.row.own;subst hv;clear hkl hr hb0;go_wp2;go_ret;exact HP.out
open Go.RowKit
theorem Ay (m:Nat) (W:Int) (w0:js1) (st:St) (vp:js3) (p:Px) (lv:Int) (i t d ti:ByteArray) (at_:At) (li:List aj) (ks:List ah) (vc dO vl vk:js3) (w:js1) (hin:jH m W w0 st vp p (ah.mk 6 lv i t d ti at_ li ks).bM w) (hR:rQ (·<w0.heap.size) w0 at_ li ks vc dO vl vk) (hB:gV m W w0 ks) : Calls Tryz.prog 99 #[.pointer (some ⟨m,0,none⟩),.agg #[.int .i64 6,.int .i64 lv,.string i,.string t,.string d,.string ti,.string at_.id,vc,dO,vl,vk],.agg #[.string p.first,.string p.rest]] w (aI m W w vp (ah.dG W st p (.mk 6 lv i t d ti at_ li ks))):=by
 obtain ⟨ac,nc,cc,rfl⟩:=Rd.au hR.at_.cls
 obtain ⟨ap,np,cp,rfl⟩:=Rd.au hR.at_.aJ
 obtain ⟨al,nl,cl,rfl⟩:=Rd.au hR.line;obtain ⟨ak,nk,ck,rfl⟩:=Rd.au hR.kids;obtain ⟨S,q,w3,hS,hq,hw3,kb,kp,kl,b3,z3⟩:=qK w [.int .i64 6,.int .i64 lv,.string i,.string t,.string d,.string ti,.string at_.id,.slice ac nc cc,.slice ap np cp,.slice al nl cl,.slice ak nk ck] p.first p.rest
 have hv:(ah.mk 6 lv i t d ti at_ li ks).bM=30+i.size+2*t.size+2*(aj.ay li).length+(bJ (aj.aA li)).length+ah.aK ks:=by rw [ah.bM]
 have hfit:=hin.fit;rw [hv] at hfit;obtain ⟨g1,g2,g3,g4,g5⟩:=hfit;have Lj:=hid (hin.up b3);have HR:=hid hR;have KB:=hid kb;have KP:=hid kp;have B3:=hid b3;have HS:=hid hS;have d0:=kb.cell 0 _ rfl;have e0:=kp.cell 0 _ rfl;have e1:=kp.cell 1 _ rfl;have d10:=kb.cell 10 _ rfl;have HE:Hid (ah.dG W st p (.mk 6 lv i t d ti at_ li ks)=ah.bX W st ⟨p.first++⟨#[62,32]⟩,p.rest++⟨#[62,32]⟩⟩ ks):=by show _=_;rw [ah.dG];rfl
 have s2:(ByteArray.mk #[62,32]).size=2:=rfl;have BC:=hid (hB (.slice ak nk ck) hR.kids st vp ⟨p.first++⟨#[62,32]⟩,p.rest++⟨#[62,32]⟩⟩ w3 ⟨hin.m0,(hin.up b3).b0,(hin.up b3).l8,hin.wd,⟨by show (p.first++_).size+_<=_;rw [ByteArray.size_append];omega,by show (p.rest++_).size+_<=_;rw [ByteArray.size_append];omega,by omega,by omega,by omega⟩,hin.tab,hin.ml⟩);clear hB s2;clear kb kp kl b3 z3 hv g3 g4 g5 hR hin;go_enter Tryz.func99,Tryz.ntmps99;go_upto_region 2 with (fail)
 rw [<- hw3,<- hS,<- hq];clear hw3 hS hq;go_wp2_with fail
 (with_reducible refine BC.out.mono ?_)
 rintro e w5 h5;have HP:=hid (h5.from_ B3.out);obtain ⟨v5,kJ,gJ,rfl,qL,-⟩:=h5;obtain ⟨a5,n5,c5,hv5⟩:∃ a n c,v5=.slice a n c:=by obtain ⟨a,c,e⟩:=q01 qL.own;exact ⟨a,_,c,e⟩
 subst hv5;clear qL;go_wp2;go_ret;rw [HE.out];exact HP.out
theorem wR (m:Nat) (W:Int) (w0:js1) (st:St) (vp:js3) (p:Px) (k lv:Int) (i t d ti:ByteArray) (at_:At) (li:List aj) (ks:List ah) (vc dO vl vk:js3) (w:js1) (hin:jH m W w0 st vp p (ah.mk k lv i t d ti at_ li ks).bM w) (hR:rQ (·<w0.heap.size) w0 at_ li ks vc dO vl vk) (hk:k=7\/k=8) (hlv:k=8->0<=lv/\lv<=999999999) (hB:∀ x∈ks,gV m W w0 (ze x)) (hG:∀ x∈ks,U2 W x) (Ch:k=8->PT w0) : Calls Tryz.prog 99 #[.pointer (some ⟨m,0,none⟩),.agg #[.int .i64 k,.int .i64 lv,.string i,.string t,.string d,.string ti,.string at_.id,vc,dO,vl,vk],.agg #[.string p.first,.string p.rest]] w (aI m W w vp (ah.dG W st p (.mk k lv i t d ti at_ li ks))):=by
 obtain ⟨ac,nc,cc,rfl⟩:=Rd.au hR.at_.cls
 obtain ⟨ap,np,cp,rfl⟩:=Rd.au hR.at_.aJ
 obtain ⟨al,nl,cl,rfl⟩:=Rd.au hR.line;obtain ⟨ak,nk,ck,rfl⟩:=Rd.au hR.kids;obtain ⟨S,q,w3,hS,hq,hw3,kb,kp,kl,b3,z3⟩:=qK w [.int .i64 k,.int .i64 lv,.string i,.string t,.string d,.string ti,.string at_.id,.slice ac nc cc,.slice ap np cp,.slice al nl cl,.slice ak nk ck] p.first p.rest
 have hv:(ah.mk k lv i t d ti at_ li ks).bM=30+i.size+2*t.size+2*(aj.ay li).length+(bJ (aj.aA li)).length+ah.aK ks:=by rw [ah.bM]
 have hfit:=hin.fit;rw [hv] at hfit;obtain ⟨g1,g2,g3,g4,g5⟩:=hfit;have Lj:=hid (hin.up b3);have HR:=hid hR;have KB:=hid kb;have KP:=hid kp;have B3:=hid b3;have HS:=hid hS;have d0:=kb.cell 0 _ rfl;have e0:=kp.cell 0 _ rfl;have e1:=kp.cell 1 _ rfl;have HE:Hid (ah.dG W st p (.mk k lv i t d ti at_ li ks)=ah.oK W st p k lv 0 ks):=by show _=_;rw [ah.dG];rcases hk with rfl | rfl<;>rfl
 have IC:=hid (Lu m W w0 k lv i t d ti at_ li ks (.slice ac nc cc) (.slice ap np cp) (.slice al nl cl) (.slice ak nk ck) hk hlv hR hB hG Ch st vp p w3 ⟨hin.m0,(hin.up b3).b0,(hin.up b3).l8,hin.wd,⟨by omega,by omega,by omega,by omega,by omega⟩,hin.tab,hin.ml⟩);have d1:=kb.cell 1 _ rfl;have d2:=kb.cell 2 _ rfl;have d3:=kb.cell 3 _ rfl;have d4:=kb.cell 4 _ rfl;have d5:=kb.cell 5 _ rfl;have d6:=kb.cell 6 _ rfl;have d7:=kb.cell 7 _ rfl;have d8:=kb.cell 8 _ rfl;have d9:=kb.cell 9 _ rfl;have d10:=kb.cell 10 _ rfl;clear hB hG Ch hlv;clear kb kp kl b3 z3 hv g3 g4 g5 hR hin;go_enter Tryz.func99,Tryz.ntmps99;go_upto_region 2 with (fail)
 rw [<- hw3,<- hS,<- hq];clear hw3 hS hq;rcases hk with rfl | rfl
 all_goals
  go_wp2_with fail
  (with_reducible refine IC.out.mono ?_)
  rintro e w5 h5;have HP:=hid (h5.from_ B3.out);obtain ⟨v5,kJ,gJ,rfl,qL,-⟩:=h5;obtain ⟨a5,n5,c5,hv5⟩:∃ a n c,v5=.slice a n c:=by obtain ⟨a,c,e⟩:=q01 qL.own;exact ⟨a,_,c,e⟩
  subst hv5;clear qL;go_wp2;go_ret;rw [HE.out];exact HP.out
open Go.RowKit
theorem OE (m:Nat) (W:Int) (w0:js1) (st:St) (vp:js3) (p:Px) (lv:Int) (i t d ti:ByteArray) (at_:At) (li:List aj) (ks:List ah) (vc dO vl vk:js3) (w:js1) (hin:jH m W w0 st vp p (ah.mk 14 lv i t d ti at_ li ks).bM w) (hR:rQ (·<w0.heap.size) w0 at_ li ks vc dO vl vk) (hB:gV m W w0 ks) : Calls Tryz.prog 99 #[.pointer (some ⟨m,0,none⟩),.agg #[.int .i64 14,.int .i64 lv,.string i,.string t,.string d,.string ti,.string at_.id,vc,dO,vl,vk],.agg #[.string p.first,.string p.rest]] w (aI m W w vp (ah.dG W st p (.mk 14 lv i t d ti at_ li ks))):=by
 obtain ⟨ac,nc,cc,rfl⟩:=Rd.au hR.at_.cls
 obtain ⟨ap,np,cp,rfl⟩:=Rd.au hR.at_.aJ
 obtain ⟨al,nl,cl,rfl⟩:=Rd.au hR.line;obtain ⟨ak,nk,ck,rfl⟩:=Rd.au hR.kids;obtain ⟨S,q,w3,hS,hq,hw3,kb,kp,kl,b3,z3⟩:=qK w [.int .i64 14,.int .i64 lv,.string i,.string t,.string d,.string ti,.string at_.id,.slice ac nc cc,.slice ap np cp,.slice al nl cl,.slice ak nk ck] p.first p.rest
 have hv:(ah.mk 14 lv i t d ti at_ li ks).bM=30+i.size+2*t.size+2*(aj.ay li).length+(bJ (aj.aA li)).length+ah.aK ks:=by rw [ah.bM]
 have hfit:=hin.fit;rw [hv] at hfit;obtain ⟨g1,g2,g3,g4,g5⟩:=hfit;have Lj:=hid (hin.up b3);have HR:=hid hR;have KB:=hid kb;have KP:=hid kp;have B3:=hid b3;have HS:=hid hS;have d0:=kb.cell 0 _ rfl;have e0:=kp.cell 0 _ rfl;have e1:=kp.cell 1 _ rfl;have d2:=kb.cell 2 _ rfl;have d10:=kb.cell 10 _ rfl;obtain ⟨mk,hmk⟩:∃ mk:ByteArray,mk=⟨#[91]⟩++i++⟨#[93,32]⟩:=⟨_,rfl⟩;have hms:mk.size=1+i.size+2:=by rw [hmk,ByteArray.size_append,ByteArray.size_append];rfl
 obtain ⟨Q,hQ⟩:∃ Q,Q=p.mark mk:=⟨_,rfl⟩;have hQ1:Q.first.size<=p.first.size+mk.size:=by rw [hQ];show (p.first++mk).size<=_;rw [ByteArray.size_append];omega
 have hQ2:Q.rest.size<=p.rest.size+mk.size:=by rw [hQ];show (p.rest++rW mk.size).size<=_;rw [ByteArray.size_append,mV];omega
 have HE:Hid (ah.dG W st p (.mk 14 lv i t d ti at_ li ks)=ah.bX W st Q ks):=by show _=_;rw [ah.dG,hQ,hmk];rfl
 have MC:=hid (wP p mk w3.drew (by omega) (by omega) (by omega));rw [<- hQ] at MC;have UQ:=hid (fun (w4:js1) (hb:js2 w3.heap.size w3 w4)=>hB (.slice ak nk ck) hR.kids st vp Q w4 ⟨hin.m0,((hin.up b3).up hb).b0,((hin.up b3).up hb).l8,hin.wd,⟨by omega,by omega,by omega,by omega,by omega⟩,hin.tab,hin.ml⟩);have SF:=hid (fun (w':js1) (hb:CB 40 S [.int .i64 14,.int .i64 lv,.string i,.string t,.string d,.string ti,.string at_.id,.slice ac nc cc,.slice ap np cp,.slice al nl cl,.slice ak nk ck] w') (hp:CB 87 (S+1) [.string p.first,.string p.rest] w')=>(⟨hb.cell 2 _ rfl,hb.cell 10 _ rfl,hp.cell 0 _ rfl,hp.cell 1 _ rfl⟩:w'.cell? ⟨S,2,none⟩=some (.string i)/\w'.cell? ⟨S,10,none⟩=some (.slice ak nk ck)/\w'.cell? ⟨S+1,0,none⟩=some (.string p.first)/\w'.cell? ⟨S+1,1,none⟩=some (.string p.rest)));have S0:=SF.out w3.drew (kb.below (jox _ _).drew) (kp.below (jox _ _).drew);have OB:Hid (⟨#[91]⟩++i++⟨#[93,32]⟩=mk):=hmk.symm;have vV:m<S:=by rw [hS];exact hin.l8.cb.lt
 have NQ:∀ b,vp.ownBlock=some b->b<S:=fun b e=>by rw [hS];exact (hin.l8.own.lt b e).2
 have j6:=hid (And.intro vV NQ);have a1:=hid (show ¬ 9223372036854775807<1+i.size by omega);have a2:=hid (show ¬ 9223372036854775807<1+i.size+2 by omega);clear hB hms hQ1 hQ2 hQ hmk vV NQ;clear kb kp kl b3 z3 hv g3 g4 g5 hR hin;go_enter Tryz.func99,Tryz.ntmps99;go_upto_region 2 with (fail)
 rw [<- hw3,<- hS,<- hq];clear hw3 hS hq;go_upto_region 39 with (fail)
 refine gW 10 (fun w'=>w'.cell? ⟨S,2,none⟩=some (.string i)/\w'.cell? ⟨S,10,none⟩=some (.slice ak nk ck)/\w'.cell? ⟨S+1,0,none⟩=some (.string p.first)/\w'.cell? ⟨S+1,1,none⟩=some (.string p.rest)) (by kernel_rfl) S0 ?_;intro hH;refine gI 0 rfl (by kernel_rfl) hH (by rfl) (by intro wv hSw;(obtain ⟨d2,d10,e0,e1⟩:=hSw);go_simp;try with_reducible rfl) ?_;refine gI 1 rfl (by kernel_rfl) hH (by rfl) (by intro wv hSw;(obtain ⟨d2,d10,e0,e1⟩:=hSw);go_simp;try with_reducible rfl) ?_;refine gI 2 rfl (by kernel_rfl) hH (by rfl) (by intro wv hSw;(obtain ⟨d2,d10,e0,e1⟩:=hSw);go_simp;try with_reducible rfl) ?_;refine gI 3 rfl (by kernel_rfl) hH (by rfl) (by intro wv hSw;(obtain ⟨d2,d10,e0,e1⟩:=hSw);go_simp;try with_reducible rfl) ?_;refine gI 4 rfl (by kernel_rfl) hH (by rfl) (by intro wv hSw;(obtain ⟨d2,d10,e0,e1⟩:=hSw);go_simp;try with_reducible rfl) ?_;refine gI 5 rfl (by kernel_rfl) hH (by rfl) (by intro wv hSw;(obtain ⟨d2,d10,e0,e1⟩:=hSw);go_simp;try with_reducible rfl) ?_;refine gI 6 rfl (by kernel_rfl) hH (by rfl) (by intro wv hSw;(obtain ⟨d2,d10,e0,e1⟩:=hSw);go_simp;(rw [if_neg a1.out]);try with_reducible rfl) ?_;refine gI 7 rfl (by kernel_rfl) hH (by rfl) (by intro wv hSw;(obtain ⟨d2,d10,e0,e1⟩:=hSw);go_simp;(rw [if_neg a2.out]);try with_reducible rfl) ?_;try simp only [Act.put,jo9,joj,jok]
 refine Gu (i:=8) rfl (by kernel_rfl) (fun KQ hK=>?_);go_simp;rw [OB.out];go_at_call 140
 (with_reducible refine MC.out.mono ?_)
 rintro e w4 ⟨rfl,b4⟩;have B4:=hid ((jox _ w3).drew.trans b4);have KB4:=hid (KB.out.below B4.out);have KP4:=hid (KP.out.below B4.out);have S4:=SF.out w4 KB4.out KP4.out;have BC:=hid (UQ.out w4 B4.out);clear b4 MC;refine hK.out _ _ (fun _ _=>S4) (fun hH2=>?_);clear hK KQ hH;have hH:=hH2 (by decide) (by kernel_rfl);clear hH2;try simp only [Act.put,jo9,joj,jok]
 try simp only [Act.put,jo9,joj,jok]
 refine Gu (i:=9) rfl (by kernel_rfl) (fun KQ hK=>?_);go_simp;go_at_call 50
 (with_reducible refine BC.out.mono ?_)
 rintro e w5 h5;have HP:=hid (h5.from_ (aP B3.out B4.out));obtain ⟨v5,kJ,gJ,rfl,qL,-,-,-,yO⟩:=h5;have Rw:=KB4.out.fr yO (fun e=>by have:=j6.out;rcases e with e | e;omega;exact absurd (this.2 _ e) (by omega));have KP5:=KP4.out.fr yO (fun e=>by have:=j6.out;rcases e with e | e;omega;exact absurd (this.2 _ e) (by omega));have S5:=SF.out w5 Rw KP5;obtain ⟨a5,n5,c5,hv5⟩:∃ a n c,v5=.slice a n c:=by obtain ⟨a,c,e⟩:=q01 qL.own;exact ⟨a,_,c,e⟩
 subst hv5;clear qL yO Rw KP5 BC;refine hK.out _ _ (fun _ _=>S5) (fun hH2=>?_);clear hK KQ hH;have hH:=hH2 (by decide) (by kernel_rfl);clear hH2;try simp only [Act.put,jo9,joj,jok]
 try simp only [Act.put,jo9,joj,jok]
 refine Gu (i:=10) rfl (by kernel_rfl) (fun KQ hK=>?_);go_simp;refine hK.out _ _ (fun h _=>absurd rfl h) (fun _=>?_);clear hK KQ;refine gX (by kernel_rfl) ?_ _;go_wp2;go_ret;rw [HE.out];exact HP.out
theorem OG (m:Nat) (W:Int) (w0:js1) (st:St) (vp:js3) (p:Px) (lv:Int) (i t d ti:ByteArray) (at_:At) (li:List aj) (ks:List ah) (vc dO vl vk:js3) (w:js1) (hin:jH m W w0 st vp p (ah.mk 15 lv i t d ti at_ li ks).bM w) (hR:rQ (·<w0.heap.size) w0 at_ li ks vc dO vl vk) : Calls Tryz.prog 99 #[.pointer (some ⟨m,0,none⟩),.agg #[.int .i64 15,.int .i64 lv,.string i,.string t,.string d,.string ti,.string at_.id,vc,dO,vl,vk],.agg #[.string p.first,.string p.rest]] w (aI m W w vp (ah.dG W st p (.mk 15 lv i t d ti at_ li ks))):=by
 obtain ⟨ac,nc,cc,rfl⟩:=Rd.au hR.at_.cls
 obtain ⟨ap,np,cp,rfl⟩:=Rd.au hR.at_.aJ
 obtain ⟨al,nl,cl,rfl⟩:=Rd.au hR.line;obtain ⟨ak,nk,ck,rfl⟩:=Rd.au hR.kids;obtain ⟨S,q,w3,hS,hq,hw3,kb,kp,kl,b3,z3⟩:=qK w [.int .i64 15,.int .i64 lv,.string i,.string t,.string d,.string ti,.string at_.id,.slice ac nc cc,.slice ap np cp,.slice al nl cl,.slice ak nk ck] p.first p.rest
 have hv:(ah.mk 15 lv i t d ti at_ li ks).bM=30+i.size+2*t.size+2*(aj.ay li).length+(bJ (aj.aA li)).length+ah.aK ks:=by rw [ah.bM]
 have hfit:=hin.fit;rw [hv] at hfit;obtain ⟨g1,g2,g3,g4,g5⟩:=hfit;have Lj:=hid (hin.up b3);have HR:=hid hR;have KB:=hid kb;have KP:=hid kp;have B3:=hid b3;have HS:=hid hS;have d0:=kb.cell 0 _ rfl;have e0:=kp.cell 0 _ rfl;have e1:=kp.cell 1 _ rfl;have HE:Hid (ah.dG W st p (.mk 15 lv i t d ti at_ li ks)=([],st)):=by show _=_;rw [ah.dG];rfl
 have HP:Hid (aI m W w vp ([],st) (.returned (.slice none 0 0)) w3):=aI.err Lj.out.l8 (aM.of_below b3 _);clear kb kp kl b3 z3 hv g3 g4 g5 hR hin;go_enter Tryz.func99,Tryz.ntmps99;go_upto_region 2 with (fail)
 rw [<- hw3,<- hS,<- hq];clear hw3 hS hq;go_wp2;go_ret;rw [HE.out];exact HP.out
open Go.RowKit
theorem ED (m:Nat) (W:Int) (w0:js1) (st:St) (vp:js3) (p:Px) (k lv:Int) (i t d ti:ByteArray) (at_:At) (li:List aj) (ks:List ah) (vc dO vl vk:js3) (w:js1) (hk:k=1\/k=2) (hin:jH m W w0 st vp p (ah.mk k lv i t d ti at_ li ks).bM w) (hR:rQ (·<w0.heap.size) w0 at_ li ks vc dO vl vk) (hsh:(aj.ay li).length<=100000) (hle:fU li≠0) (ht:t.size<=100000) (DF:(bJ (aj.aA li)).length<=100000) : Calls Tryz.prog 99 #[.pointer (some ⟨m,0,none⟩),.agg #[.int .i64 k,.int .i64 lv,.string i,.string t,.string d,.string ti,.string at_.id,vc,dO,vl,vk],.agg #[.string p.first,.string p.rest]] w (aI m W w vp (ah.dG W st p (.mk k lv i t d ti at_ li ks))):=by
 obtain ⟨ac,nc,cc,rfl⟩:=Rd.au hR.at_.cls
 obtain ⟨ap,np,cp,rfl⟩:=Rd.au hR.at_.aJ
 obtain ⟨al,nl,cl,rfl⟩:=Rd.au hR.line;obtain ⟨ak,nk,ck,rfl⟩:=Rd.au hR.kids;obtain ⟨S,q,w3,hS,hq,hw3,kb,kp,kl,b3,z3⟩:=qK w [.int .i64 k,.int .i64 lv,.string i,.string t,.string d,.string ti,.string at_.id,.slice ac nc cc,.slice ap np cp,.slice al nl cl,.slice ak nk ck] p.first p.rest
 have hfit:=hin.fit;have hv:(ah.mk k lv i t d ti at_ li ks).bM=30+i.size+2*t.size+2*(aj.ay li).length+(bJ (aj.aA li)).length+ah.aK ks:=by rw [ah.bM]
 have g1:=hfit.f;have g2:=hfit.r;have g3:=hfit.g;have g4:=hfit.c;have g5:=hfit.p;have hown:(aW at_ li).length<=(bJ (aj.aA li)).length+1:=by unfold aW ig;split<;>simp
 have Lj:=hid (hin.up b3);have wI:=(hin.up b3).b0;have HR:=hid hR;have KB:=hid kb;have KP:=hid kp;have KL:=hid kl;have B3:=hid b3;have HS:=hid hS;have qE:=hid hin;have HUS:=hid (show (bJ (aj.aA li)).length<=100000 from DF);have VPL:=hid (fun (b:Nat) (e:vp.ownBlock=some b)=>(by rw [hS];exact (hin.l8.own.lt b e).2:b<S));have HQ:=hid hq;have Z3:=hid z3;have WD:=hid hin.wd;have vV:m<S:=by rw [hS];exact hin.l8.cb.lt
 have j6:=hid vV;have d0:=kb.cell 0 _ rfl;have d2:=kb.cell 2 _ rfl;have d3:=kb.cell 3 _ rfl;have d9:=kb.cell 9 _ rfl;have e0:=kp.cell 0 _ rfl;have e1:=kp.cell 1 _ rfl;have YL:=(hin.up b3).l8.cb.cell 0 _ rfl;have C1:=hid (zS p W w3.drew (by omega) (by omega) hin.wd ((hin.tab.below wI).below (jox _ _).drew));have RZ:=hid (fC p W hin.wd);have M7:=hid (fun (w4:js1) (hb:js2 w3.heap.size w3 w4)=>KT li (.slice al nl cl) (p.inner W) w4 (hR.line.up (aP wI hb)) hsh hle (by have:=o9 (fq li) (p.inner W) (fC p W hin.wd).2;have h2:(fq li).size=(aj.ay li).length:=(by show (aj.ay li).toArray.size=_;rw [List.size_toArray]);omega) (fC p W hin.wd).1 (fC p W hin.wd).2 ((hin.tab.below wI).below hb) ((hin.ml.below wI).below hb));have JF:=hid (fun (w':js1) (hb:js2 w3.heap.size w3 w')=>(⟨(kb.below hb).cell 9 _ rfl,(kp.below hb).cell 0 _ rfl,(kp.below hb).cell 1 _ rfl,((hin.up b3).l8.cb.below hb).cell 0 _ rfl⟩:w'.cell? ⟨S,9,none⟩=some (.slice al nl cl)/\w'.cell? ⟨S+1,0,none⟩=some (.string p.first)/\w'.cell? ⟨S+1,1,none⟩=some (.string p.rest)/\w'.cell? ⟨m,0,none⟩=some (.int .i64 W)));have S6:=JF.out _ (jox _ _).drew;have Ev:=hid (jr li p W hin.wd);have Oj:=hid hfit;have HV:=hid hv;have HOWN:=hid hown;have R6:=hid hsh;have HLE:=hid hle;have HT:=hid ht;clear kb kp kl b3 z3 hfit hv g3 g4 g5 hown hR hin wI hsh hle ht vV DF;go_enter Tryz.func99,Tryz.ntmps99;go_upto_region 2 with (fail)
 rw [<- hw3,<- hS,<- hq];clear hw3 hS hq;have gy:Hid (ah.dG W st p (.mk k lv i t d ti at_ li ks)=([],{ st with err:=3 })):=by show _=_;rw [ah.dG,if_pos hk,if_pos HLE.out];have:=Ad _ HLE.out;show _=(([]:List Bx),({ st with err:=3 }:St));rw [show fU li=3 from this]
 rcases hk with rfl | rfl
 all_goals
  go_upto_region 6 with (fail)
  obtain ⟨V,hV⟩:∃ V,V=p.inner W:=⟨_,rfl⟩;rw [<- hV] at C1 M7 Ev RZ;have YM:=hid hV;clear hV
  go_region_held3 (fun w'=>w'.cell? ⟨S,9,none⟩=some (.slice al nl cl)/\w'.cell? ⟨S+1,0,none⟩=some (.string p.first)/\w'.cell? ⟨S+1,1,none⟩=some (.string p.rest)/\w'.cell? ⟨m,0,none⟩=some (.int .i64 W))
   (with_reducible assumption)
   (first
    | (go_simp;go_at_call 133;(with_reducible refine C1.out.mono ?_);rintro e w4 ⟨rfl,b4⟩;have B4:=hid (show js2 w3.heap.size w3 w4 from (jox _ w3).drew.trans b4);have S4:=JF.out w4 B4.out;have LC:=hid (M7.out w4 B4.out))
    | (go_simp;go_at_call 132;(with_reducible refine LC.out.mono ?_);rintro e w5 ⟨rfl,b5⟩;have B5:=hid (aP B4.out b5);have S5:=JF.out w5 B5.out))
  all_goals
   have hmk:=Lj.out.l8.below B5.out;have x5:=hmk.cb.cell 5 _ rfl;have f5:=tN hmk.cb 5;have OB:=hid hmk;clear hmk;go_wp2;go_ret;rw [gy.out];have sw:vp.ownBlock≠some m:=oz OB.out.own OB.out.cb (by decide);refine aI.err ⟨rY OB.out.cb 5 _,dh OB.out.own (aM.set w5 m 5 _) (fun g e e'=>sw (by rw [<- e'];exact e))⟩ ((aM.of_below (aP B3.out B5.out) _).trans (aM.set w5 m 5 _) (fun _ _ e=>.inl e))
end Go.Proofs.YtdneicipdlofiaaGreatDoor

