/- Contract of slides.Of. Contracts of publisherref43.begins, Same. What the reference's slides look like while it collects them. Contract of publisherref43.Of. -/
import Derived.Test.YtkfnkeflalcphaaGreatDoorKHtR
import Derived.Test.YtkfnkeflalcphaaGreatDoorKSameBl
set_option maxHeartbeats 8000000
set_option maxRecDepth 100000
open Go.Lib (hid)
namespace Go.Proofs.YtkfnkeflalcphaaGreatDoor
open List renaming setIfInBounds_toArray->jlk,set_cons_zero->jlq,set_cons_succ->jlx,length_map->jm6,length_take->joq
open Nat renaming le_refl->jm1
open Go.RowKit
set_option linter.unusedVariables false
set_option linter.unusedSimpArgs false
def Sl.d (s:Sl):D:=.st [aX s.ti,fC s.bl]
theorem Sl.eH {ok:Nat->Prop} {w:World} (s:Sl) {v u:Value} (h:Rd ok w (aX s.ti) [v]) (h2:Rd ok w (fC s.bl) [u]):Rd ok w s.d [v,u]:=by have:=Rd.sS (ok:=ok) (w:=w) (aH.cons h (aH.one h2));simpa [Sl.d] using this
theorem gq {ok:Nat->Prop} {w:World} {k:Nat} {l:List D} {cs:List Value} (h:Rd ok w (.sl k l) cs):∃ a c,cs=[.slice a l.length c]:=by obtain ⟨a,c,e,-⟩:=Rd.aB h;exact ⟨a,c,e⟩
theorem Sl.open_ {ok:Nat->Prop} {w:World} {s:Sl} {cs:List Value} (h:Rd ok w s.d cs):∃ v u,cs=[v,u]/\Rd ok w (aX s.ti) [v]/\Rd ok w (fC s.bl) [u]:=by obtain ⟨rows,h1,rfl⟩:=Rd.jQ h;obtain ⟨r1,rs,rfl,h2,h3⟩:=h1.aC;obtain ⟨r2,rs2,rfl,h4,h5⟩:=h3.aC;obtain rfl:=h5.bZ;obtain ⟨a,c,e⟩:=gq (h2:Rd ok w (.sl 10 _) r1);obtain ⟨a2,c2,e2⟩:=gq (h4:Rd ok w (.sl 11 _) r2);subst e e2;exact ⟨_,_,by simp,h2,h4⟩
theorem PI:(Tryz.prog.info? 50).map (fun i=>(i.zero,i.size,i.bytes))=some (some (.agg #[.slice none 0 0,.slice none 0 0]),2,48):=by kernel_rfl
theorem PK (l:List ah):∀ p∈dZ l,Ov p:=GV (l6 l) (Jt l ql ps0)
def Cx (w:World) (L:List Sl) (e:Ending) (w':World):Prop:=∃ v,e=.returned v/\Rd (·<w'.heap.size) w' (.sl 2 (L.map Sl.d)) [v]/\Below w.heap.size w w'
def Im (w1:World) (P:List Pt) (v vi:Value) (wr:World):Prop:=∃ (k:Nat) (rows:List (List Value)),k<=P.length/\vi=.int .i64 k/\ay 50 2 (·<w1.heap.size) wr.heap.size w1 (((P.take k).map kg).map Sl.d) rows v wr
theorem SY (l:List ah) (s:tQ) (x:ah) (hx:x∈l) (h:(∀ p∈s.all,∀ b∈p.bl,b∈l)/\∀ b∈s.op.bl,b∈l):(∀ p∈(q0z s x).all,∀ b∈p.bl,b∈l)/\∀ b∈(q0z s x).op.bl,b∈l:=by
 obtain ⟨h1,h2⟩:=h;have h3:∀ p∈(dR s).all,∀ b∈p.bl,b∈l:=by
  unfold dR;split
  ·intro p hp;rcases List.mem_append.1 hp with hp | hp
   ·exact h1 p hp
   ·obtain rfl:=List.mem_singleton.1 hp;exact h2
  ·exact h1
 unfold q0z;split
 ·split
  ·exact ⟨h3,fun b hb=>by obtain rfl:=List.mem_singleton.1 hb;exact hx⟩
  ·exact ⟨h3,fun b hb=>by cases hb⟩
 ·refine ⟨h1,fun b hb=>?_⟩;rcases List.mem_append.1 hb with hb | hb
  ·exact h2 b hb
  ·obtain rfl:=List.mem_singleton.1 hb;exact hx
theorem JQ (l:List ah):∀ (m:List ah) (s:tQ),(∀ x∈m,x∈l)->((∀ p∈s.all,∀ b∈p.bl,b∈l)/\∀ b∈s.op.bl,b∈l)->(∀ p∈(m.foldl q0z s).all,∀ b∈p.bl,b∈l)/\∀ b∈(m.foldl q0z s).op.bl,b∈l
 | [],_,_,h=>h
 | x::m,s,hm,h=>by
  rw [List.foldl_cons];exact JQ l m _ (fun y hy=>hm y (List.mem_cons_of_mem _ hy)) (SY l s x (hm x (List.mem_cons_self ..)) h)
theorem Fp (l:List ah):∀ p∈dZ l,∀ b∈p.bl,b∈l:=by
 have h:=JQ l l ql (fun _ h=>h) ⟨(fun p hp=>by cases hp),(fun b hb=>by cases hb)⟩;unfold dZ l6 dR;split
 ·intro p hp;rcases List.mem_append.1 hp with hp | hp
  ·exact h.1 p hp
  ·obtain rfl:=List.mem_singleton.1 hp;exact h.2
 ·exact h.1
theorem Au (l:List ah):(dZ l).length<=l.length+1:=by
 have h:=(vQ l ql).1;have h0:ql.all.length=0:=rfl;unfold dZ dR;show (if (l6 l).some_=true then (l6 l).all++[(l6 l).op] else (l6 l).all).length<=_;have h2:(l6 l).all.length<=l.length:=by unfold l6;omega
 split
 ·rw [List.length_append,List.length_singleton];omega
 ·omega
theorem JR:∀ (l m:List ah),ah.aR (l++m)=ah.aR l+ah.aR m
 | [],m=>by rw [ah.aR];simp
 | x::l,m=>by rw [List.cons_append,ah.aR,ah.aR,JR l m];omega
theorem Fx:∀ (L:List (List ah)) (s:List ah),s∈L->ah.aR s<=ah.aR L.flatten
 | [],_,h=>by cases h
 | x::L,s,h=>by
  rw [List.flatten_cons,JR];rcases List.mem_cons.1 h with rfl | h
  ·omega
  ·have:=Fx L s h;omega
theorem Fq (l:List ah):∀ p∈dZ l,ah.aR p.bl<=ah.aR l:=by
 intro p hp;rw [qB] at hp;obtain ⟨s,hs,rfl⟩:=List.mem_map.1 hp;have h1:=Fx _ s hs;rw [rT l.length l (jm1 _)] at h1;rw [uy];refine Nat.le_trans ?_ h1;unfold ko;split
 ·split
  ·rw [ah.aR];omega
  ·exact jm1 _
 ·exact jm1 _
theorem jW:∀ (l:List ah),ah.jS l↔∀ b∈l,b.bd
 | []=>by rw [ah.jS];simp
 | x::l=>by rw [ah.jS,jW l];simp
theorem Fu (l:List ah) (h:ah.jS l):∀ p∈dZ l,ah.jS p.bl:=fun p hp=>(jW _).2 fun b hb=>(jW _).1 h b (Fp l p hp b hb)
theorem Aw (k:Nat):∀ (rows:List (List Value)),(∀ r∈rows,r.length=k)->∀ i,(rows.drop i).flatten=rows.flatten.drop (i*k)
 | [],_,i=>by simp
 | r::rs,h,0=>by simp
 | r::rs,h,i+1=>by
  have hr:=h r (by simp);rw [List.drop_succ_cons,List.flatten_cons,Aw k rs (fun x hx=>h x (by simp [hx])) i,Nat.succ_mul,Nat.add_comm,<- List.drop_drop];congr 1;rw [<- hr,List.drop_left]
theorem aH.Vb {ok:Nat->Prop} {w:World}:∀ {l:List D} {rows:List (List Value)} (i:Nat),aH ok w l rows->aH ok w (l.drop i) (rows.drop i)
 | l,rows,0,h=>by simpa using h
 | [],_,i+1,h=>by rw [h.bZ];simpa using aH.none
 | d::ds,_,i+1,h=>by
  obtain ⟨r,rs,rfl,h1,h2⟩:=h.aC;simpa using aH.Vb i h2
theorem aH.takeN {ok:Nat->Prop} {w:World}:∀ {l:List D} {rows:List (List Value)} (i:Nat),aH ok w l rows->aH ok w (l.take i) (rows.take i)
 | l,rows,0,h=>by simpa using aH.none
 | [],_,i+1,h=>by rw [h.bZ];simpa using aH.none
 | d::ds,_,i+1,h=>by
  obtain ⟨r,rs,rfl,h1,h2⟩:=h.aC;simpa using aH.cons h1 (aH.takeN i h2)
theorem Rd.cut {ok:Nat->Prop} {w:World} {k b off n cap:Nat} {l:List D} (h:Rd ok w (.sl k l) [.slice (some ⟨b,off,none⟩) n cap]) (i j:Nat) (h1:i<=j) (h2:j<=n):Rd ok w (.sl k ((l.take j).drop i)) [.slice (some ⟨b,off+i*k,none⟩) (j-i) (cap-i)]:=by
 unfold Rd at h ⊢;obtain ⟨a,cap',rows,e,h3,h4,h5,h6,h7⟩:=h;simp only [List.cons.injEq,Value.slice.injEq,and_true] at e;obtain ⟨rfl,hn,rfl⟩:=e;refine ⟨some ⟨b,off+i*k,none⟩,cap-i,(rows.take j).drop i,?_,?_,by omega,aH.Vb i (aH.takeN j h5),fun r hr=>h6 r (List.mem_of_mem_take (List.mem_of_mem_drop hr)),?_⟩
 ·congr 2;rw [List.length_drop,joq];omega
 ·rw [List.length_drop,joq];omega
 ·rcases h7 with h7 | ⟨b',off',e,h8,hb,h9⟩
  ·left;rw [List.length_drop,joq];omega
  ·right;simp only [Option.some.injEq,Addr.mk.injEq,and_true] at e;obtain ⟨rfl,rfl⟩:=e;refine ⟨b,off+i*k,rfl,h8,hb,fun q u hu=>?_⟩;rw [Aw k _ (fun r hr=>h6 r (List.mem_of_mem_take hr)),List.getElem?_drop] at hu;have hpre:(rows.take j).flatten <+: rows.flatten:=by
    have:rows=rows.take j++rows.drop j:=(List.take_append_drop j rows).symm
    conv=>rhs;rw [this]
    rw [List.flatten_append];exact List.prefix_append _ _
   have hu':rows.flatten[i*k+q]?=some u:=by obtain ⟨t,ht⟩:=hpre;rw [<- ht,List.getElem?_append_left (List.getElem?_eq_some_iff.1 hu).1];exact hu
   have:=h9 (i*k+q) u hu';rw [<- Nat.add_assoc] at this;exact this
theorem uH (vm:Value) (l:List ah) (vb:Value) (w:World) (Wu:∃ a n c,vm=.slice a n c) (h:Rd (·<w.heap.size) w (fC l) [vb]) (hsz:ah.aR l<=900000) (hbd:ah.jS l) : Calls Tryz.prog 21 #[.agg #[vm,vb]] w (Cx w (slP l)):=by
 obtain ⟨am,nm,cm,rfl⟩:=Wu;obtain ⟨ab,nb,cb,rfl⟩:=Rd.au h;obtain ⟨iS,Yd,Kl,Km,Kn⟩:=info_parts PI;obtain ⟨S,hS⟩:∃ S,S=w.heap.size:=⟨_,rfl⟩;obtain ⟨w0,hw0⟩:∃ w0,w0=w.alloc (.cells #[.slice am nm cm,.slice ab nb cb] 26):=⟨_,rfl⟩;have k0:CB 26 S [.slice am nm cm,.slice ab nb cb] w0:=by rw [hw0,hS];exact CB.new _ _ w
 have b0:Below w.heap.size w w0:=by rw [hw0];exact (Below.refl _ _).alloc (jm1 _) _
 have e1:=k0.cell 1 _ rfl;have PC:=hid (zK l _ w0 (h.up b0) (by have:=ah.cZ l;omega));have hP1:=PK l;have hP2:=Fq l;have hP3:=Fu l hbd;have TP:=Au l;have hll:=ah.cZ l;obtain ⟨P,hP⟩:∃ P,P=dZ l:=⟨_,rfl⟩;rw [<- hP] at PC hP1 hP2 hP3 TP;have Tj:Hid (slP l=P.map kg):=by show _=_;unfold slP;rw [hP]
 rw [Tj.out];have Sy:=hid hP1;have L9:=hid hP2;have FJ:=hid hP3;have P9:Hid (P.length<=900001):=by show _<=_;omega
 have CO:=hid hsz;have B0:=hid b0;clear h hsz hbd k0 b0 hP hP1 hP2 hP3 TP Tj hll;go_enter Tryz.func21,Tryz.ntmps21;go_upto_region 2 with (fail)
 rw [<- hw0,<- hS];clear hw0 hS;go_wp2_with fail
 (with_reducible refine PC.out.mono ?_)
 rintro e w1 ⟨v1,rfl,h1,b1⟩;obtain ⟨a1,c1,hv1,hs1⟩:=Rd.aB h1;obtain ⟨nP,Pw⟩:∃ nP,nP=P.length:=⟨_,rfl⟩;obtain rfl:v1=.slice a1 nP c1:=by rw [Pw];simpa using hv1
 have hc1:nP<=c1:=by rw [Pw];simpa using hs1.le
 have hm1:=hs1.max;unfold maxLen at hm1;have hnp:nP<=900001:=by rw [Pw];exact P9.out
 have Px:=hid Pw;have YW:=hid hs1;have B1:=hid (aP B0.out b1);have R0:Hid (Im w1 P (.slice none 0 0) (.int .i64 0) w1):=⟨0,[],Nat.zero_le _,rfl,ay.nil _ _ _ _⟩;clear hv1 h1 hs1 b1 Pw PC e1;go_wp2
 go_loopw [3,12] (fun v vi wr=>Im w1 P v vi wr) (fun _ i _=>nP-(intOf i).toNat)
 case atStart=>exact R0.out
 case round=>
  clear R0;obtain ⟨k,rows,hk,rfl,hR⟩:=hrel;obtain ⟨nv,yG⟩:∃ nv,nv=(((P.take k).map kg).map Sl.d).length:=⟨_,rfl⟩;obtain ⟨av,cv,rfl,hcv,hcm⟩:=hR.cap yG.symm;unfold maxLen at hcm;have ji9:nv<=900001:=by have:=Px.out;rw [yG,jm6,jm6,joq];omega
  have HNV:=hid yG.symm;have hbel:=hR.aI;have HRW:=hid hR;clear hR yG;by_cases hlt:k<nP
  ·obtain ⟨x,hx⟩:∃ x,P[k]?=some x:=⟨_,List.getElem?_eq_getElem (by have:=Px.out;omega)⟩;have hxm:x∈P:=List.mem_of_getElem? hx;have hx1:=Sy.out x hxm;have hx2:=L9.out x hxm;have hx3:=FJ.out x hxm;obtain ⟨b,off,ha,hok,hb,hcx⟩:=YW.out.at_ (by rw [jm6];have:=Px.out;omega)
   subst ha;obtain ⟨r,hr,hrl,hcell⟩:=hcx k x.d (by rw [List.getElem?_map,hx];rfl);obtain ⟨vbl,rfl,hbl⟩:=Pt.open_ hr;obtain ⟨al,nl,cl,rfl⟩:=Rd.au hbl;have c0:wr.cell? ⟨b,off+k*2,none⟩=some (.bool x.ti):=(hbel.cell (p:=⟨_,_,none⟩) hb).trans (hcell 0 _ rfl);have c1':wr.cell? ⟨b,off+k*2+1,none⟩=some (.slice al nl cl):=(hbel.cell (p:=⟨_,_,none⟩) hb).trans (hcell 1 _ rfl);obtain ⟨q,hq⟩:∃ q,q=wr.heap.size:=⟨_,rfl⟩;obtain ⟨tb,htb⟩:∃ tb,tb=x.ti:=⟨_,rfl⟩;rw [<- htb] at c0;obtain ⟨w2,hw2⟩:∃ w2,w2=(wr.alloc (.cells #[.bool tb,.slice al nl cl] 96)).alloc (.cells #[.slice none 0 0,.slice none 0 0] 50):=⟨_,rfl⟩;have z1:(wr.alloc (.cells #[.bool tb,.slice al nl cl] 96)).heap.size=q+1:=by rw [World.size_alloc,hq]
   have k1:CB 96 q [.bool tb,.slice al nl cl] w2:=by rw [hw2];have h:=CB.new 96 [.bool tb,.slice al nl cl] wr;rw [<- hq] at h;exact h.below ((Below.refl _ _).alloc (jm1 _) _)
   have k2:CB 50 (q+1) [.slice none 0 0,.slice none 0 0] w2:=by rw [hw2];have h:=CB.new 50 [.slice none 0 0,.slice none 0 0] (wr.alloc (.cells #[.bool tb,.slice al nl cl] 96));rw [z1] at h;exact h
   have b2:Below wr.heap.size wr w2:=by rw [hw2];exact ((Below.refl _ _).alloc (jm1 _) _).alloc (by omega) _
   have z2:w2.heap.size=q+2:=by rw [hw2,World.size_alloc,z1]
   have B12:=aP hbel b2;have J2:=hbl.aY B12;have HQ:=hid hq;have HWQ:Hid (w1.heap.size<=q):=by show _<=_;rw [hq];exact hbel.size
   have HZ2:=hid z2;have jd6:=hid B12;have XJ:=hid J2;have HK2:=hid k2;have HX:=hid hx;have Q8:=hid hx1;have HX2:=hid hx2;have HX3:=hid hx3;have Tz:=hid htb;have HB2:=hid b2;have e0:=k1.cell 0 _ rfl;have e1:=k1.cell 1 _ rfl;clear hr hcell hrl hbl hok hb hx hxm hx1 hx2 hx3 hq htb z1 k1 k2 b2 z2 B12 J2 hcx;go_upto_region 6 with (fail)
   rw [<- hw2];simp only [<- HQ.out];clear hw2 c0 c1';cases tb
   case' false=>
    go_upto_region 10 with (fail)
    obtain ⟨W,hW⟩:∃ W,W=w2:=⟨_,rfl⟩;obtain ⟨ow,how⟩:∃ ow,ow=Value.slice al nl cl:=⟨_,rfl⟩;obtain ⟨st,sb,hst⟩:∃ st sb,kg x=⟨st,sb⟩:=⟨_,_,rfl⟩;have hsl:kg x=⟨[],x.bl⟩:=by unfold kg;rw [if_neg (by rw [<- Tz.out];simp)]
    obtain ⟨rfl,rfl⟩:st=[]/\sb=x.bl:=by rw [hsl] at hst;simpa using hst.symm
    obtain ⟨at3,LU,LV,hvt⟩:∃ a n c,Value.slice a n c=.slice none 0 0:=⟨_,_,_,rfl⟩;have HKW:Hid (CB 50 (q+1) [.slice at3 LU LV,.slice none 0 0] W):=by show CB _ _ _ _;rw [hW,hvt];exact HK2.out
    have HTW:Hid (Rd (fun b=>b<w1.heap.size\/q+2<=b) W (aX []) [.slice at3 LU LV]):=by show Rd _ _ _ _;rw [hvt];exact Rd.aD _ _ _
    have YC:Hid (Rd (·<w1.heap.size) W (fC x.bl) [ow]):=by show Rd _ _ _ _;rw [hW,how];exact XJ.out
    have C9:Hid (Below wr.heap.size wr W):=by show Below _ _ _;rw [hW];exact HB2.out
    have YF:Hid (q+2<=W.heap.size):=by show _<=_;rw [hW,HZ2.out];exact jm1 _
    have Qo:Hid (ah.aR x.bl<=900000/\ah.jS x.bl):=⟨by have:=HX2.out;have:=CO.out;omega,HX3.out⟩;have HST:=hid hst;rw [<- hW];have jj6:=hvt;clear hst hsl hvt hW;generalize x.bl=sb at *;generalize ([]:List aj)=st at HST HTW;simp only [<- how];clear how jj6 e0 e1
   case' true=>
    obtain ⟨b0,t0,hb0,jj7⟩:=Q8.out Tz.out.symm;obtain ⟨a3,c3,hv3,hs3⟩:=Rd.aB XJ.out;obtain ⟨rfl,rfl,rfl⟩:al=a3/\nl=(x.bl.map ah.d).length/\cl=c3:=by simp at hv3;simpa using hv3
    obtain ⟨kd,lv,i,t,d,ti,at_,li,ks⟩:=b0;obtain ⟨g,o,vc,vp,vl,vk,rfl,-,hgw,hc,hRR⟩:=I7 hs3 (k:=0) (by rw [hb0];rfl);obtain ⟨al',nl',cl',rfl⟩:=Rd.au hRR.line;obtain ⟨nL,zL⟩:∃ nL,nL=(x.bl.map ah.d).length:=⟨_,rfl⟩;rw [<- zL] at e1 ⊢;have XM:1<=nL:=by rw [zL,hb0];simp
    have hcap:=hs3.le;rw [<- zL] at hcap;have XO:=hs3.max;unfold maxLen at XO;have c9:w2.cell? ⟨g,o+9,none⟩=some (.slice al' nl' cl'):=by have:=hc.c9;rw [Nat.zero_mul,Nat.add_zero] at this;exact this
    have XP:aj.jS li/\aj.aR li<=1000000:=by have h:=HX3.out;rw [hb0,ah.jS,ah.bd] at h;exact ⟨h.1.2.2.1,h.1.2.2.2.1⟩
    have LC:=hid (Aq _ li (·<w1.heap.size) _ w2 (jm1 _) XP.2 hRR.line (fun b (hb:b<w1.heap.size)=>by have:=jd6.out.size;omega) XP.1);have hsl:kg x=⟨li,t0⟩:=by unfold kg;rw [if_pos Tz.out.symm,hb0];rfl
    have HSL:=hid hsl;have hbt:x.bl.tail=t0:=by rw [hb0];rfl
    have HTL:Hid (nL≠1->Rd (·<w1.heap.size) w2 (fC t0) [.slice (some ⟨g,o+11,none⟩) (nL-1) (cl-1)]):=fun hne=>by
     have h:=Rd.cut XJ.out 1 nL XM (by rw [zL];exact jm1 _);rw [Nat.one_mul,<- List.map_take,<- List.map_drop,hb0] at h;have e:((ah.mk kd lv i t d ti at_ li ks::t0).take nL).drop 1=t0:=by rw [zL,hb0,jm6,List.take_length];rfl
     rw [e] at h;exact h
    have Md:Hid (ah.aR t0<=900000/\ah.jS t0):=by have h1:=HX2.out;have h2:=HX3.out;rw [hb0,ah.aR] at h1;rw [hb0,ah.jS] at h2;exact ⟨by have:=CO.out;omega,h2.2⟩
    have HT0:Hid (nL=1->t0=[]):=fun e=>by
     rw [zL,hb0] at e;simpa using e
    clear hs3 hv3 hc hRR hgw XP hsl hb0 jj7 zL hbt;go_wp2_with fail
    (with_reducible refine LC.out.mono ?_)
    rintro e w3 ⟨v3,dM,rfl,hr3⟩;obtain ⟨at3,LU,LV,rfl⟩:=hr3.TN;have b3:=hr3.aI;have k3:=HK2.out.below b3;have d0:=k3.cell 0 _ rfl;have df:=mg k3;have hT3:Rd (fun b=>b<w1.heap.size\/q+2<=b) w3 (aX li) [.slice at3 LU LV]:=hr3.rd.weaken (fun b hb=>hb.imp id (fun h=>by have:=HZ2.out;omega));have hz3:=b3.size;have hT4:Rd (fun b=>b<w1.heap.size\/q+2<=b) (w3.setCell ⟨q+1,0,none⟩ (.slice at3 LU LV)) (aX li) [.slice at3 LU LV]:=Rd.keep (ok:=fun b=>b<w1.heap.size\/w2.heap.size<=b) (fun b hb hlt=>⟨hb.imp id (fun h=>by have:=HZ2.out;omega),Below.heap_setCell w3 ⟨q+1,0,none⟩ _ b (by show b≠q+1;have:=HZ2.out;have:=HWQ.out;omega)⟩) _ _ hr3.rd;obtain ⟨w4,hw4⟩:∃ w4,w4=w3.setCell ⟨q+1,0,none⟩ (.slice at3 LU LV):=⟨_,rfl⟩;clear hr3 LC c9;go_upto_region 9 with (fail)
    rw [<- hw4];have hK4:CB 50 (q+1) [.slice at3 LU LV,.slice none 0 0] w4:=by rw [hw4];exact dx k3 0 _
    have k4:∀ b,b≠q+1->w4.heap[b]?=w3.heap[b]?:=fun b hb=>by rw [hw4];exact Below.heap_setCell w3 ⟨q+1,0,none⟩ _ b hb
    have z4:w4.heap.size=w3.heap.size:=by rw [hw4];simp [World.setCell]
    have HTW:Hid (Rd (fun b=>b<w1.heap.size\/q+2<=b) w4 (aX li) [.slice at3 LU LV]):=by show Rd _ _ _ _;rw [hw4];exact hT4
    have HKW:=hid hK4;have C9:Hid (Below wr.heap.size wr w4):=by have h:=HB2.out.trans (b3.mono HB2.out.size);show Below _ _ _;rw [hw4];exact h.setCell (p:=⟨q+1,0,none⟩) (by show wr.heap.size<=q+1;have:=HQ.out;omega) _
    have YF:Hid (q+2<=w4.heap.size):=by show _<=_;have:=HZ2.out;omega
    have HR4:Hid (nL≠1->Rd (·<w1.heap.size) w4 (fC t0) [.slice (some ⟨g,o+11,none⟩) (nL-1) (cl-1)]):=fun hne=>Rd.keep (fun b (hb:b<w1.heap.size) hlt=>⟨hb,(k4 b (by have:=HQ.out;have:=jd6.out.size;have:=HZ2.out;have:=HWQ.out;omega)).trans (b3.block b hlt)⟩) _ _ (HTL.out hne)
    obtain ⟨W,hW⟩:∃ W,W=w4:=⟨_,rfl⟩;rw [<- hW] at HTW HKW C9 YF HR4 ⊢;have HST:Hid (kg x=⟨li,t0⟩):=HSL;have Qo:Hid (ah.aR t0<=900000/\ah.jS t0):=Md;have QJ:Hid (nL=1->t0=[]):=HT0;clear hK4 hT3 hT4 k3 b3 hw4 k4 z4 d0 df HSL Md HT0 hW;by_cases hcl:cl=1
    case' pos=>
     go_upto_region 10 with (fail)
     have hn1:nL=1:=by omega
     have PN:Hid (Rd (·<w1.heap.size) W (fC t0) [.slice (some ⟨g,o,none⟩) (nL-1) 0]):=by show Rd _ _ _ _;rw [QJ.out hn1,hn1];unfold fC Rd;exact ⟨_,0,[],rfl,by simp,Nat.zero_le _,aH.none,by simp,.inl rfl⟩
     generalize Value.slice (some ⟨g,o,none⟩) (nL-1) 0=ow at *;have YC:=PN;clear hcl hn1 PN HR4 QJ HTL;generalize t0=sb at *;generalize li=st at *;clear e0 e1 hcap XO XM
    case' neg=>
     have PN:Hid (Rd (·<w1.heap.size) W (fC t0) [.slice (some ⟨g,o+11,none⟩) (nL-1) (cl-1)]):=by
      show Rd _ _ _ _;by_cases hn1:nL=1
      ·rw [QJ.out hn1,hn1];unfold fC Rd;exact ⟨_,cl-1,[],rfl,by simp,by unfold maxLen;omega,aH.none,by simp,.inl rfl⟩
      ·exact HR4.out hn1
     go_upto_region 10 with (fail)
     generalize Value.slice (some ⟨g,o+11,none⟩) (nL-1) (cl-1)=ow at *;have YC:=PN;clear hcl PN HR4 QJ HTL;generalize t0=sb at *;generalize li=st at *;clear e0 e1 hcap XO XM
   all_goals
    have BC:=hid (LJ _ sb (·<w1.heap.size) ow W (jm1 _) (by have:=Qo.out.1;omega) YC.out (fun b (hb:b<w1.heap.size)=>by have:=HWQ.out;have:=YF.out;omega) Qo.out.2);go_wp2_with fail
    (with_reducible refine BC.out.mono ?_)
    rintro e w5 ⟨v5,vY,rfl,SQ⟩;obtain ⟨a5,n5,c5,rfl⟩:=SQ.TN;have b5:=SQ.aI;have k5:=HKW.out.below b5;have d0:=k5.cell 0 _ rfl;have d1:=k5.cell 1 _ rfl;have df:=mg k5;obtain ⟨w6,jH⟩:∃ w6,w6=w5.setCell ⟨q+1,1,none⟩ (.slice a5 n5 c5):=⟨_,rfl⟩;have k6:CB 50 (q+1) [.slice at3 LU LV,.slice a5 n5 c5] w6:=by rw [jH];exact dx k5 1 _
    have VO:w6.heap.size=w5.heap.size:=by rw [jH];simp [World.setCell]
    have hb6:∀ b,b≠q+1->w6.heap[b]?=w5.heap[b]?:=fun b hb=>by rw [jH];exact Below.heap_setCell w5 ⟨q+1,1,none⟩ _ b hb
    have Y9:Below wr.heap.size wr w6:=by rw [jH];exact (C9.out.trans (b5.mono C9.out.size)).setCell (p:=⟨q+1,1,none⟩) (by show wr.heap.size<=q+1;have:=HQ.out;omega) _
    have hS6:Rd (fun b=>b<w1.heap.size\/wr.heap.size<=b) w6 (kg x).d [.slice at3 LU LV,.slice a5 n5 c5]:=by
     rw [HST.out];refine Sl.eH ⟨st,sb⟩ ?_ ?_
     ·exact Rd.keep (ok:=fun b=>b<w1.heap.size\/q+2<=b) (fun b hb hlt=>⟨hb.imp id (fun h=>by have:=HQ.out;omega),(hb6 b (by have:=HWQ.out;omega)).trans (b5.block b hlt)⟩) _ _ HTW.out
     ·exact Rd.keep (ok:=fun b=>b<w1.heap.size\/W.heap.size<=b) (fun b hb hlt=>⟨hb.imp id (fun h=>by have:=YF.out;have:=HQ.out;omega),hb6 b (by have:=YF.out;have:=HWQ.out;omega)⟩) _ _ SQ.rd
    have HS6:=hid hS6;have HK6:=hid k6;have hR6:=HRW.out.below Y9;have HR6:=hid hR6;have g0:=k6.cell 0 _ rfl;have g1:=k6.cell 1 _ rfl;clear SQ b5 k5 k6 VO hb6 Y9 hS6 hR6 BC HKW HTW YC C9 YF Qo;go_upto_region 11 with (fail)
    rw [<- jH];clear jH d0 d1 df;go_wp2_with (at_builtin;refine eX (n:=nv) rfl _ _ 41 rfl iS _ 48 Tryz.underlying41 Yd Kl Km Kn rfl (by decide) HR6.out (fun b hb=>hb) (kg x).d [.slice at3 LU LV,.slice a5 n5 c5] HS6.out rfl (by intro u hu;simp at hu;rcases hu with rfl | rfl<;>rfl) HNV.out (by omega) (by decide) rfl rfl ?_)
    intro a7 c7 w7 vO QA;have hf:Im w1 P (.slice a7 (nv+1) c7) (.int .i64 ((k+1:Nat):Int)) w7:=by
     refine ⟨k+1,rows++[[.slice at3 LU LV,.slice a5 n5 c5]],by have:=Px.out;omega,rfl,?_⟩;have e:((P.take (k+1)).map kg).map Sl.d=List.take k (List.map (Sl.d ∘ kg) P)++[(kg x).d]:=by rw [List.take_add_one,HX.out];simp
     rw [e];exact vO
    have HF:=hid hf;clear vO QA hf g0 g1;go_wp2;go_roundw;case rel=>exact HF.out
    case measure=>simp [intOf];omega
  ·have hkl:k=P.length:=by have:=Px.out;omega
   have hrd:Rd (·<wr.heap.size) wr (.sl 2 ((P.map kg).map Sl.d)) [.slice av nv cv]:=by have h:=HRW.out.rd;rw [hkl,List.take_length] at h;exact Rd.keep (fun b _ hlt=>⟨hlt,rfl⟩) _ _ h
   have FI:=hid hrd;have HBF:=hid (aP B1.out hbel);clear hkl hrd hbel;go_wp2;go_ret;exact ⟨_,rfl,FI.out,HBF.out⟩
open Go.RowKit
def PO (n:Nat) (w:World) (vi:Value) (wr:World):Prop:=∃ k:Nat,k<=n/\vi=.int .i64 k/\Below w.heap.size w wr
theorem Fy (P:List Sl) (v1 v2:Value) (w:World) (h1:Rd (·<w.heap.size) w (.sl 2 (P.map Sl.d)) [v1]) (h2:Rd (·<w.heap.size) w (.sl 2 (P.map Sl.d)) [v2]) (hP:P.length<=1000000) : Calls Tryz.prog 20 #[v1,v2] w (dN (.bool true) w):=by
 obtain ⟨a1,c1,hv1,hs1⟩:=Rd.aB h1;obtain ⟨a2,c2,hv2,hs2⟩:=Rd.aB h2;obtain ⟨n,hn⟩:∃ n,n=P.length:=⟨_,rfl⟩;obtain rfl:v1=.slice a1 n c1:=by rw [hn];simpa using hv1
 obtain rfl:v2=.slice a2 n c2:=by rw [hn];simpa using hv2
 have hc1:n<=c1:=by rw [hn];simpa using hs1.le
 have hm1:=hs1.max;have hc2:n<=c2:=by rw [hn];simpa using hs2.le
 have hm2:=hs2.max;unfold maxLen at hm1 hm2;have hn1:n<=1000000:=by omega
 have HN:=hid hn;have YW:=hid hs1;have HS2:=hid hs2;have R0:Hid (PO n w (.int .i64 0) w):=⟨0,Nat.zero_le _,rfl,Below.refl _ _⟩;clear h1 h2 hP hv1 hv2 hs1 hs2 hn;go_enter Tryz.func20,Tryz.ntmps20;go_wp2
 go_loopw [5] (fun vi wr=>PO n w vi wr) (fun i _=>n-(intOf i).toNat)
 case atStart=>exact R0.out
 case round=>
  clear R0;obtain ⟨k,hk,rfl,hbel⟩:=hrel;have HB:=hid hbel;by_cases hlt:k<n
  ·obtain ⟨x,hx⟩:∃ x,P[k]?=some x:=⟨_,List.getElem?_eq_getElem (by have:=HN.out;omega)⟩;obtain ⟨g1,o1,rfl,-,hb1,jd7⟩:=(YW.out.aY hbel).at_ (by rw [jm6];have:=HN.out;omega)
   obtain ⟨g2,o2,rfl,-,hb2,jd8⟩:=(HS2.out.aY hbel).at_ (by rw [jm6];have:=HN.out;omega)
   obtain ⟨r1,hr1,-,hc1'⟩:=jd7 k x.d (by rw [List.getElem?_map,hx];rfl);obtain ⟨r2,hr2,-,hc2'⟩:=jd8 k x.d (by rw [List.getElem?_map,hx];rfl);obtain ⟨t1,u1,rfl,ht1,hu1⟩:=Sl.open_ hr1;obtain ⟨t2,u2,rfl,ht2,hu2⟩:=Sl.open_ hr2;obtain ⟨at1,nt1,ct1,rfl⟩:=Rd.au ht1;obtain ⟨at2,nt2,ct2,rfl⟩:=Rd.au ht2;obtain ⟨au1,nu1,cu1,rfl⟩:=Rd.au hu1;obtain ⟨au2,nu2,cu2,rfl⟩:=Rd.au hu2;have XF:Hid (∀ y,Below wr.heap.size wr y->y.cell? ⟨g1,o1+k*2,none⟩=some (.slice at1 nt1 ct1)/\y.cell? ⟨g1,o1+k*2+1,none⟩=some (.slice au1 nu1 cu1)/\y.cell? ⟨g2,o2+k*2,none⟩=some (.slice at2 nt2 ct2)/\y.cell? ⟨g2,o2+k*2+1,none⟩=some (.slice au2 nu2 cu2)):=fun y hy=>
    ⟨(hy.cell (p:=⟨_,_,none⟩) hb1).trans (hc1' 0 _ rfl),(hy.cell (p:=⟨_,_,none⟩) hb1).trans (hc1' 1 _ rfl),(hy.cell (p:=⟨_,_,none⟩) hb2).trans (hc2' 0 _ rfl),(hy.cell (p:=⟨_,_,none⟩) hb2).trans (hc2' 1 _ rfl)⟩
   have low:∀ {y:World} {d:D} {vs:List Value},Below wr.heap.size wr y->Rd (·<w.heap.size) wr d vs->Rd (·<y.heap.size) y d vs:=fun hy h=>Rd.keep (fun b _ hlt=>⟨by have:=hy.size;omega,hy.block b hlt⟩) _ _ h
   have SL:Hid (∀ y,Below wr.heap.size wr y->Calls Tryz.prog 57 #[.slice at1 nt1 ct1,.slice at2 nt2 ct2] y (Cr x.ti x.ti y)):=fun y hy=>qJ _ x.ti x.ti _ _ y (jm1 _) (low hy ht1) (low hy ht2)
   have SK:Hid (∀ y,Below wr.heap.size wr y->Calls Tryz.prog 25 #[.slice au1 nu1 cu1,.slice au2 nu2 cu2] y (Cr x.bl x.bl y)):=fun y hy=>xK _ x.bl x.bl _ _ y (jm1 _) (low hy hu1) (low hy hu2)
   clear hx jd7 jd8 hr1 hr2 hc1' hc2' ht1 ht2 hu1 hu2 low hbel hb1 hb2;go_upto_region 6 with (fail)
   refine QX 25 (fun w'=>Below wr.heap.size wr w') (by kernel_rfl) (Below.refl _ _).drew ?_;intro hH;obtain ⟨y0,hy0⟩:∃ y0,y0=wr.drew:=⟨_,rfl⟩;rw [<- hy0] at hH;rw [<- hy0];clear hy0;refine ig 0 (v:=?_) rfl (by kernel_rfl) hH (by rfl) ?_ ?_;rotate_left
   ·(intro wv hSw;obtain ⟨d0,d1,d2,d3⟩:=XF.out wv hSw;go_simp;try with_reducible rfl)
   try simp only [Act.put,jlk,jlq,jlx]
   refine ig 1 (v:=?_) rfl (by kernel_rfl) hH (by rfl) ?_ ?_;rotate_left
   ·(intro wv hSw;obtain ⟨d0,d1,d2,d3⟩:=XF.out wv hSw;go_simp;try with_reducible rfl)
   try simp only [Act.put,jlk,jlq,jlx]
   refine ig 2 (v:=?_) rfl (by kernel_rfl) hH (by rfl) ?_ ?_;rotate_left
   ·(intro wv hSw;obtain ⟨d0,d1,d2,d3⟩:=XF.out wv hSw;go_simp;try with_reducible rfl)
   try simp only [Act.put,jlk,jlq,jlx]
   refine ig 3 (v:=?_) rfl (by kernel_rfl) hH (by rfl) ?_ ?_;rotate_left
   ·(intro wv hSw;obtain ⟨d0,d1,d2,d3⟩:=XF.out wv hSw;go_simp;try with_reducible rfl)
   try simp only [Act.put,jlk,jlq,jlx]
   refine ig 4 (v:=?_) rfl (by kernel_rfl) hH (by rfl) ?_ ?_;rotate_left
   ·(intro wv hSw;obtain ⟨d0,d1,d2,d3⟩:=XF.out wv hSw;go_simp;try with_reducible rfl)
   try simp only [Act.put,jlk,jlq,jlx]
   refine ig 5 (v:=?_) rfl (by kernel_rfl) hH (by rfl) ?_ ?_;rotate_left
   ·(intro wv hSw;obtain ⟨d0,d1,d2,d3⟩:=XF.out wv hSw;go_simp;try with_reducible rfl)
   try simp only [Act.put,jlk,jlq,jlx]
   refine ig 6 (v:=?_) rfl (by kernel_rfl) hH (by rfl) ?_ ?_;rotate_left
   ·(intro wv hSw;obtain ⟨d0,d1,d2,d3⟩:=XF.out wv hSw;go_simp;try with_reducible rfl)
   try simp only [Act.put,jlk,jlq,jlx]
   refine ig 7 (v:=?_) rfl (by kernel_rfl) hH (by rfl) ?_ ?_;rotate_left
   ·(intro wv hSw;obtain ⟨d0,d1,d2,d3⟩:=XF.out wv hSw;go_simp;try with_reducible rfl)
   try simp only [Act.put,jlk,jlq,jlx]
   refine ig 8 (v:=?_) rfl (by kernel_rfl) hH (by rfl) ?_ ?_;rotate_left
   ·(intro wv hSw;obtain ⟨d0,d1,d2,d3⟩:=XF.out wv hSw;go_simp;try with_reducible rfl)
   try simp only [Act.put,jlk,jlq,jlx]
   refine ig 9 (v:=?_) rfl (by kernel_rfl) hH (by rfl) ?_ ?_;rotate_left
   ·(intro wv hSw;obtain ⟨d0,d1,d2,d3⟩:=XF.out wv hSw;go_simp;try with_reducible rfl)
   try simp only [Act.put,jlk,jlq,jlx]
   refine q01 (i:=10) rfl (by kernel_rfl) (fun KQ hK=>?_);go_simp;go_at_call 57
   (with_reducible refine (SL.out _ hH).mono ?_)
   rintro e yy ⟨bb,rfl,hbb,bY⟩;obtain rfl:bb=true:=hbb.2 rfl;have hY:=aP hH bY;refine hK.out _ _ (fun _ _=>hY) (fun hH2=>?_);clear hK KQ hH hH2 hbb bY;have hH:=hY;clear hY;try simp only [Act.put,jlk,jlq,jlx]
   refine q01 (i:=11) rfl (by kernel_rfl) (fun KQ hK=>?_);go_simp;refine hK.out _ _ (fun _ _=>hH) (fun hH2=>?_);clear hK KQ hH2;try simp only [Act.put,jlk,jlq,jlx]
   refine q01 (i:=12) rfl (by kernel_rfl) (fun KQ hK=>?_);go_simp;refine hK.out _ _ (fun _ _=>hH) (fun hH2=>?_);clear hK KQ hH2;try simp only [Act.put,jlk,jlq,jlx]
   refine ig 13 (v:=?_) rfl (by kernel_rfl) hH (by rfl) ?_ ?_;rotate_left
   ·(intro wv hSw;obtain ⟨d0,d1,d2,d3⟩:=XF.out wv hSw;go_simp;try with_reducible rfl)
   try simp only [Act.put,jlk,jlq,jlx]
   refine ig 14 (v:=?_) rfl (by kernel_rfl) hH (by rfl) ?_ ?_;rotate_left
   ·(intro wv hSw;obtain ⟨d0,d1,d2,d3⟩:=XF.out wv hSw;go_simp;try with_reducible rfl)
   try simp only [Act.put,jlk,jlq,jlx]
   refine ig 15 (v:=?_) rfl (by kernel_rfl) hH (by rfl) ?_ ?_;rotate_left
   ·(intro wv hSw;obtain ⟨d0,d1,d2,d3⟩:=XF.out wv hSw;go_simp;try with_reducible rfl)
   try simp only [Act.put,jlk,jlq,jlx]
   refine ig 16 (v:=?_) rfl (by kernel_rfl) hH (by rfl) ?_ ?_;rotate_left
   ·(intro wv hSw;obtain ⟨d0,d1,d2,d3⟩:=XF.out wv hSw;go_simp;try with_reducible rfl)
   try simp only [Act.put,jlk,jlq,jlx]
   refine ig 17 (v:=?_) rfl (by kernel_rfl) hH (by rfl) ?_ ?_;rotate_left
   ·(intro wv hSw;obtain ⟨d0,d1,d2,d3⟩:=XF.out wv hSw;go_simp;try with_reducible rfl)
   try simp only [Act.put,jlk,jlq,jlx]
   refine ig 18 (v:=?_) rfl (by kernel_rfl) hH (by rfl) ?_ ?_;rotate_left
   ·(intro wv hSw;obtain ⟨d0,d1,d2,d3⟩:=XF.out wv hSw;go_simp;try with_reducible rfl)
   try simp only [Act.put,jlk,jlq,jlx]
   refine ig 19 (v:=?_) rfl (by kernel_rfl) hH (by rfl) ?_ ?_;rotate_left
   ·(intro wv hSw;obtain ⟨d0,d1,d2,d3⟩:=XF.out wv hSw;go_simp;try with_reducible rfl)
   try simp only [Act.put,jlk,jlq,jlx]
   refine ig 20 (v:=?_) rfl (by kernel_rfl) hH (by rfl) ?_ ?_;rotate_left
   ·(intro wv hSw;obtain ⟨d0,d1,d2,d3⟩:=XF.out wv hSw;go_simp;try with_reducible rfl)
   try simp only [Act.put,jlk,jlq,jlx]
   refine ig 21 (v:=?_) rfl (by kernel_rfl) hH (by rfl) ?_ ?_;rotate_left
   ·(intro wv hSw;obtain ⟨d0,d1,d2,d3⟩:=XF.out wv hSw;go_simp;try with_reducible rfl)
   try simp only [Act.put,jlk,jlq,jlx]
   refine ig 22 (v:=?_) rfl (by kernel_rfl) hH (by rfl) ?_ ?_;rotate_left
   ·(intro wv hSw;obtain ⟨d0,d1,d2,d3⟩:=XF.out wv hSw;go_simp;try with_reducible rfl)
   try simp only [Act.put,jlk,jlq,jlx]
   refine q01 (i:=23) rfl (by kernel_rfl) (fun KQ hK=>?_);go_simp;go_at_call 25
   (with_reducible refine (SK.out _ hH).mono ?_)
   rintro e yy ⟨bb,rfl,hbb,bY⟩;obtain rfl:bb=true:=hbb.2 rfl;have hY:=aP hH bY;refine hK.out _ _ (fun _ _=>hY) (fun hH2=>?_);clear hK KQ hH hH2 hbb bY;have hH:=hY;clear hY;try simp only [Act.put,jlk,jlq,jlx]
   refine q01 (i:=24) rfl (by kernel_rfl) (fun KQ hK=>?_);go_simp;refine hK.out _ _ (fun _ _=>hH) (fun hH2=>?_);clear hK KQ hH2;try simp only [Act.put,jlk,jlq,jlx]
   refine q01 (i:=25) rfl (by kernel_rfl) (fun KQ hK=>?_);go_simp;refine hK.out _ _ (fun h=>absurd rfl h) (fun _=>?_);clear hK KQ;try simp only [Act.put,jlk,jlq,jlx]
   refine Gp (by kernel_rfl) ?_ _;have HR:Hid (PO n w (.int .i64 ((k+1:Nat):Int)) yy):=⟨k+1,by omega,rfl,aP HB.out hH⟩;clear hH;go_wp2;go_roundw;case rel=>exact HR.out
   case measure=>simp [intOf];omega
  ·clear hbel;go_wp2;go_ret;exact ⟨rfl,HB.out⟩
open Go.RowKit
section
variable {w0:World} {init:List Sl} {ti:List aj} {bl:List ah} {g c U1:Nat} {vt vb:Value} {rows rO:List (List Value)} {wO w:World}
end
open Go.RowKit
theorem JU:∀ (l:List ah),(Lc l).length<=l.length+1:=fun l=>by
 have h:=WY l;have:yO l<=l.length:=List.length_filter_le ..;omega
end Go.Proofs.YtkfnkeflalcphaaGreatDoor

