/- Contract of slides.Of. Contracts of publisherref43.begins, Same. What the reference's slides look like while it collects them. Contract of publisherref43.Of. -/
import Derived.Test.YtkfnkeflalcphaaGreatDoorKSpB
import Derived.Test.YtkfnkeflalcphaaGreatDoorKSameBl
set_option maxHeartbeats 8000000
set_option maxRecDepth 100000
open Go.Lib (hid)
namespace Go.Proofs.YtkfnkeflalcphaaGreatDoor
open List renaming setIfInBounds_toArray->jk2,set_cons_zero->jk3,set_cons_succ->jk4,getElem?_eq_getElem->jk5,length_append->jkk,length_map->jkq,flatten_append->jm7,length_take->jn3
open Go.RowKit.Below renaming refl->jk6,heap_setCell->jl0
open Nat renaming le_refl->jk7
open Go.World renaming cell?->jlz,setCell->jm0
open Go renaming World->jn8,Value->jnj
open Go.RowKit renaming Below->jn9
open Go.RowKit
set_option linter.unusedVariables false
set_option linter.unusedSimpArgs false
def Sl.d (s:Sl):D:=.st [aV s.ti,iU s.bl]
theorem Sl.dS {ok:Nat->Prop} {w:jn8} (s:Sl) {v u:jnj} (h:Rd ok w (aV s.ti) [v]) (h2:Rd ok w (iU s.bl) [u]):Rd ok w s.d [v,u]:=by have:=Rd.sI (ok:=ok) (w:=w) (aH.cons h (aH.one h2));simpa [Sl.d] using this
theorem gU {ok:Nat->Prop} {w:jn8} {k:Nat} {l:List D} {cs:List jnj} (h:Rd ok w (.sl k l) cs):∃ a c,cs=[.slice a l.length c]:=by obtain ⟨a,c,e,-⟩:=Rd.ay h;exact ⟨a,c,e⟩
theorem Sl.open_ {ok:Nat->Prop} {w:jn8} {s:Sl} {cs:List jnj} (h:Rd ok w s.d cs):∃ v u,cs=[v,u]/\Rd ok w (aV s.ti) [v]/\Rd ok w (iU s.bl) [u]:=by obtain ⟨rows,h1,rfl⟩:=Rd.jJ h;obtain ⟨r1,rs,rfl,h2,h3⟩:=h1.aD;obtain ⟨r2,rs2,rfl,h4,h5⟩:=h3.aD;obtain rfl:=h5.bZ;obtain ⟨a,c,e⟩:=gU (h2:Rd ok w (.sl 10 _) r1);obtain ⟨a2,c2,e2⟩:=gU (h4:Rd ok w (.sl 11 _) r2);subst e e2;exact ⟨_,_,by simp,h2,h4⟩
theorem O5:(Tryz.prog.info? 50).map (fun i=>(i.zero,i.size,i.bytes))=some (some (.agg #[.slice none 0 0,.slice none 0 0]),2,48):=by kernel_rfl
theorem O6 (l:List ah):∀ p∈dX l,N8 p:=Gz (l7 l) (Jf l qd ps0)
def uE (w:jn8) (L:List Sl) (e:Ending) (w':jn8):Prop:=∃ v,e=.returned v/\Rd (·<w'.heap.size) w' (.sl 2 (L.map Sl.d)) [v]/\jn9 w.heap.size w w'
def Ib (w1:jn8) (P:List Pt) (v vi:jnj) (wr:jn8):Prop:=∃ (k:Nat) (rows:List (List jnj)),k<=P.length/\vi=.int .i64 k/\aB 50 2 (·<w1.heap.size) wr.heap.size w1 (((P.take k).map jU).map Sl.d) rows v wr
theorem Sk (l:List ah) (s:tN) (x:ah) (hx:x∈l) (h:(∀ p∈s.all,∀ b∈p.bl,b∈l)/\∀ b∈s.op.bl,b∈l):(∀ p∈(kP s x).all,∀ b∈p.bl,b∈l)/\∀ b∈(kP s x).op.bl,b∈l:=by
 obtain ⟨h1,h2⟩:=h;have h3:∀ p∈(dN s).all,∀ b∈p.bl,b∈l:=by
  unfold dN;split
  ·intro p hp;rcases List.mem_append.1 hp with hp | hp
   ·exact h1 p hp
   ·obtain rfl:=List.mem_singleton.1 hp;exact h2
  ·exact h1
 unfold kP;split
 ·split
  ·exact ⟨h3,fun b hb=>by obtain rfl:=List.mem_singleton.1 hb;exact hx⟩
  ·exact ⟨h3,fun b hb=>by cases hb⟩
 ·refine ⟨h1,fun b hb=>?_⟩;rcases List.mem_append.1 hb with hb | hb
  ·exact h2 b hb
  ·obtain rfl:=List.mem_singleton.1 hb;exact hx
theorem JA (l:List ah):∀ (m:List ah) (s:tN),(∀ x∈m,x∈l)->((∀ p∈s.all,∀ b∈p.bl,b∈l)/\∀ b∈s.op.bl,b∈l)->(∀ p∈(m.foldl kP s).all,∀ b∈p.bl,b∈l)/\∀ b∈(m.foldl kP s).op.bl,b∈l
 | [],_,_,h=>h
 | x::m,s,hm,h=>by
  rw [List.foldl_cons];exact JA l m _ (fun y hy=>hm y (List.mem_cons_of_mem _ hy)) (Sk l s x (hm x (List.mem_cons_self ..)) h)
theorem E9 (l:List ah):∀ p∈dX l,∀ b∈p.bl,b∈l:=by
 have h:=JA l l qd (fun _ h=>h) ⟨(fun p hp=>by cases hp),(fun b hb=>by cases hb)⟩;unfold dX l7 dN;split
 ·intro p hp;rcases List.mem_append.1 hp with hp | hp
  ·exact h.1 p hp
  ·obtain rfl:=List.mem_singleton.1 hp;exact h.2
 ·exact h.1
theorem Ak (l:List ah):(dX l).length<=l.length+1:=by
 have h:=(xG l qd).1;have h0:qd.all.length=0:=rfl;unfold dX dN;show (if (l7 l).some_=true then (l7 l).all++[(l7 l).op] else (l7 l).all).length<=_;have h2:(l7 l).all.length<=l.length:=by unfold l7;omega
 split
 ·rw [jkk,List.length_singleton];omega
 ·omega
theorem JB:∀ (l m:List ah),ah.aU (l++m)=ah.aU l+ah.aU m
 | [],m=>by rw [ah.aU];simp
 | x::l,m=>by rw [List.cons_append,ah.aU,ah.aU,JB l m];omega
theorem Fa:∀ (L:List (List ah)) (s:List ah),s∈L->ah.aU s<=ah.aU L.flatten
 | [],_,h=>by cases h
 | x::L,s,h=>by
  rw [List.flatten_cons,JB];rcases List.mem_cons.1 h with rfl | h
  ·omega
  ·have:=Fa L s h;omega
theorem Fb (l:List ah):∀ p∈dX l,ah.aU p.bl<=ah.aU l:=by
 intro p hp;rw [qj] at hp;obtain ⟨s,hs,rfl⟩:=List.mem_map.1 hp;have h1:=Fa _ s hs;rw [ru l.length l (jk7 _)] at h1;rw [um];refine Nat.le_trans ?_ h1;unfold jV;split
 ·split
  ·rw [ah.aU];omega
  ·exact jk7 _
 ·exact jk7 _
theorem Cm:∀ (l:List ah),ah.kV l↔∀ b∈l,b.bd
 | []=>by rw [ah.kV];simp
 | x::l=>by rw [ah.kV,Cm l];simp
theorem Fe (l:List ah) (h:ah.kV l):∀ p∈dX l,ah.kV p.bl:=fun p hp=>(Cm _).2 fun b hb=>(Cm _).1 h b (E9 l p hp b hb)
theorem Al (k:Nat):∀ (rows:List (List jnj)),(∀ r∈rows,r.length=k)->∀ i,(rows.drop i).flatten=rows.flatten.drop (i*k)
 | [],_,i=>by simp
 | r::rs,h,0=>by simp
 | r::rs,h,i+1=>by
  have hr:=h r (by simp);rw [List.drop_succ_cons,List.flatten_cons,Al k rs (fun x hx=>h x (by simp [hx])) i,Nat.succ_mul,Nat.add_comm,<- List.drop_drop];congr 1;rw [<- hr,List.drop_left]
theorem aH.Us {ok:Nat->Prop} {w:jn8}:∀ {l:List D} {rows:List (List jnj)} (i:Nat),aH ok w l rows->aH ok w (l.drop i) (rows.drop i)
 | l,rows,0,h=>by simpa using h
 | [],_,i+1,h=>by rw [h.bZ];simpa using aH.none
 | d::ds,_,i+1,h=>by
  obtain ⟨r,rs,rfl,h1,h2⟩:=h.aD;simpa using aH.Us i h2
theorem aH.takeN {ok:Nat->Prop} {w:jn8}:∀ {l:List D} {rows:List (List jnj)} (i:Nat),aH ok w l rows->aH ok w (l.take i) (rows.take i)
 | l,rows,0,h=>by simpa using aH.none
 | [],_,i+1,h=>by rw [h.bZ];simpa using aH.none
 | d::ds,_,i+1,h=>by
  obtain ⟨r,rs,rfl,h1,h2⟩:=h.aD;simpa using aH.cons h1 (aH.takeN i h2)
theorem Rd.cut {ok:Nat->Prop} {w:jn8} {k b off n cap:Nat} {l:List D} (h:Rd ok w (.sl k l) [.slice (some ⟨b,off,none⟩) n cap]) (i j:Nat) (h1:i<=j) (h2:j<=n):Rd ok w (.sl k ((l.take j).drop i)) [.slice (some ⟨b,off+i*k,none⟩) (j-i) (cap-i)]:=by
 unfold Rd at h ⊢;obtain ⟨a,cap',rows,e,h3,h4,h5,h6,h7⟩:=h;simp only [List.cons.injEq,Value.slice.injEq,and_true] at e;obtain ⟨rfl,hn,rfl⟩:=e;refine ⟨some ⟨b,off+i*k,none⟩,cap-i,(rows.take j).drop i,?_,?_,by omega,aH.Us i (aH.takeN j h5),fun r hr=>h6 r (List.mem_of_mem_take (List.mem_of_mem_drop hr)),?_⟩
 ·congr 2;rw [List.length_drop,jn3];omega
 ·rw [List.length_drop,jn3];omega
 ·rcases h7 with h7 | ⟨b',off',e,h8,hb,h9⟩
  ·left;rw [List.length_drop,jn3];omega
  ·right;simp only [Option.some.injEq,Addr.mk.injEq,and_true] at e;obtain ⟨rfl,rfl⟩:=e;refine ⟨b,off+i*k,rfl,h8,hb,fun q u hu=>?_⟩;rw [Al k _ (fun r hr=>h6 r (List.mem_of_mem_take hr)),List.getElem?_drop] at hu;have hpre:(rows.take j).flatten <+: rows.flatten:=by
    have:rows=rows.take j++rows.drop j:=(List.take_append_drop j rows).symm
    conv=>rhs;rw [this]
    rw [jm7];exact List.prefix_append _ _
   have hu':rows.flatten[i*k+q]?=some u:=by obtain ⟨t,ht⟩:=hpre;rw [<- ht,List.getElem?_append_left (List.getElem?_eq_some_iff.1 hu).1];exact hu
   have:=h9 (i*k+q) u hu';rw [<- Nat.add_assoc] at this;exact this
theorem JC (vm:jnj) (l:List ah) (vb:jnj) (w:jn8) (QS:∃ a n c,vm=.slice a n c) (h:Rd (·<w.heap.size) w (iU l) [vb]) (hsz:ah.aU l<=900000) (hbd:ah.kV l) : Calls Tryz.prog 21 #[.agg #[vm,vb]] w (uE w (slP l)):=by
 obtain ⟨am,nm,cm,rfl⟩:=QS;obtain ⟨ab,nb,cb,rfl⟩:=Rd.au h;obtain ⟨iS,XR,J8,J9,Ka⟩:=info_parts O5;obtain ⟨S,hS⟩:∃ S,S=w.heap.size:=⟨_,rfl⟩;obtain ⟨w0,hw0⟩:∃ w0,w0=w.alloc (.cells #[.slice am nm cm,.slice ab nb cb] 26):=⟨_,rfl⟩;have k0:CB 26 S [.slice am nm cm,.slice ab nb cb] w0:=by rw [hw0,hS];exact CB.new _ _ w
 have b0:jn9 w.heap.size w w0:=by rw [hw0];exact (jk6 _ _).alloc (jk7 _) _
 have e1:=k0.cell 1 _ rfl;have PC:=hid (Aj l _ w0 (h.up b0) (by have:=ah.dn l;omega));have hP1:=O6 l;have hP2:=Fb l;have hP3:=Fe l hbd;have Ur:=Ak l;have hll:=ah.dn l;obtain ⟨P,hP⟩:∃ P,P=dX l:=⟨_,rfl⟩;rw [<- hP] at PC hP1 hP2 hP3 Ur;have Sz:Hid (slP l=P.map jU):=by show _=_;unfold slP;rw [hP]
 rw [Sz.out];have RH:=hid hP1;have LJ:=hid hP2;have Fx:=hid hP3;have LD:Hid (P.length<=900001):=by show _<=_;omega
 have Iy:=hid hsz;have B0:=hid b0;clear h hsz hbd k0 b0 hP hP1 hP2 hP3 Ur Sz hll;go_enter Tryz.func21,Tryz.ntmps21;go_upto_region 2 with (fail)
 rw [<- hw0,<- hS];clear hw0 hS;go_wp2_with fail
 (with_reducible refine PC.out.mono ?_)
 rintro e w1 ⟨v1,rfl,h1,b1⟩;obtain ⟨a1,c1,hv1,hs1⟩:=Rd.ay h1;obtain ⟨nP,JD⟩:∃ nP,nP=P.length:=⟨_,rfl⟩;obtain rfl:v1=.slice a1 nP c1:=by rw [JD];simpa using hv1
 have hc1:nP<=c1:=by rw [JD];simpa using hs1.le
 have hm1:=hs1.max;unfold maxLen at hm1;have hnp:nP<=900001:=by rw [JD];exact LD.out
 have JE:=hid JD;have YK:=hid hs1;have B1:=hid (aQ B0.out b1);have R0:Hid (Ib w1 P (.slice none 0 0) (.int .i64 0) w1):=⟨0,[],Nat.zero_le _,rfl,aB.nil _ _ _ _⟩;clear hv1 h1 hs1 b1 JD PC e1;go_wp2
 go_loopw [3,12] (fun v vi wr=>Ib w1 P v vi wr) (fun _ i _=>nP-(intOf i).toNat)
 case atStart=>exact R0.out
 case round=>
  clear R0;obtain ⟨k,rows,hk,rfl,hR⟩:=hrel;obtain ⟨nv,sH⟩:∃ nv,nv=(((P.take k).map jU).map Sl.d).length:=⟨_,rfl⟩;obtain ⟨av,cv,rfl,hcv,hcm⟩:=hR.cap sH.symm;unfold maxLen at hcm;have Xl:nv<=900001:=by have:=JE.out;rw [sH,jkq,jkq,jn3];omega
  have ND:=hid sH.symm;have hbel:=hR.aO;have HRW:=hid hR;clear hR sH;by_cases hlt:k<nP
  ·obtain ⟨x,hx⟩:∃ x,P[k]?=some x:=⟨_,jk5 (by have:=JE.out;omega)⟩;have hxm:x∈P:=List.mem_of_getElem? hx;have hx1:=RH.out x hxm;have hx2:=LJ.out x hxm;have hx3:=Fx.out x hxm;obtain ⟨b,off,ha,hok,hb,hcx⟩:=YK.out.at_ (by rw [jkq];have:=JE.out;omega)
   subst ha;obtain ⟨r,hr,hrl,hcell⟩:=hcx k x.d (by rw [List.getElem?_map,hx];rfl);obtain ⟨vbl,rfl,hbl⟩:=Pt.open_ hr;obtain ⟨al,nl,cl,rfl⟩:=Rd.au hbl;have c0:wr.cell? ⟨b,off+k*2,none⟩=some (.bool x.ti):=(hbel.cell (p:=⟨_,_,none⟩) hb).trans (hcell 0 _ rfl);have c1':wr.cell? ⟨b,off+k*2+1,none⟩=some (.slice al nl cl):=(hbel.cell (p:=⟨_,_,none⟩) hb).trans (hcell 1 _ rfl);obtain ⟨q,hq⟩:∃ q,q=wr.heap.size:=⟨_,rfl⟩;obtain ⟨tb,htb⟩:∃ tb,tb=x.ti:=⟨_,rfl⟩;rw [<- htb] at c0;obtain ⟨w2,hw2⟩:∃ w2,w2=(wr.alloc (.cells #[.bool tb,.slice al nl cl] 96)).alloc (.cells #[.slice none 0 0,.slice none 0 0] 50):=⟨_,rfl⟩;have z1:(wr.alloc (.cells #[.bool tb,.slice al nl cl] 96)).heap.size=q+1:=by rw [World.size_alloc,hq]
   have k1:CB 96 q [.bool tb,.slice al nl cl] w2:=by rw [hw2];have h:=CB.new 96 [.bool tb,.slice al nl cl] wr;rw [<- hq] at h;exact h.below ((jk6 _ _).alloc (jk7 _) _)
   have k2:CB 50 (q+1) [.slice none 0 0,.slice none 0 0] w2:=by rw [hw2];have h:=CB.new 50 [.slice none 0 0,.slice none 0 0] (wr.alloc (.cells #[.bool tb,.slice al nl cl] 96));rw [z1] at h;exact h
   have b2:jn9 wr.heap.size wr w2:=by rw [hw2];exact ((jk6 _ _).alloc (jk7 _) _).alloc (by omega) _
   have z2:w2.heap.size=q+2:=by rw [hw2,World.size_alloc,z1]
   have B12:=aQ hbel b2;have KD:=hbl.aY B12;have HQ:=hid hq;have HWQ:Hid (w1.heap.size<=q):=by show _<=_;rw [hq];exact hbel.size
   have HZ2:=hid z2;have jbx:=hid B12;have Xm:=hid KD;have HK2:=hid k2;have HX:=hid hx;have RX:=hid hx1;have HX2:=hid hx2;have HX3:=hid hx3;have S9:=hid htb;have HB2:=hid b2;have e0:=k1.cell 0 _ rfl;have e1:=k1.cell 1 _ rfl;clear hr hcell hrl hbl hok hb hx hxm hx1 hx2 hx3 hq htb z1 k1 k2 b2 z2 B12 KD hcx;go_upto_region 6 with (fail)
   rw [<- hw2];simp only [<- HQ.out];clear hw2 c0 c1';cases tb
   case' false=>
    go_upto_region 10 with (fail)
    obtain ⟨W,hW⟩:∃ W,W=w2:=⟨_,rfl⟩;obtain ⟨ow,how⟩:∃ ow,ow=Value.slice al nl cl:=⟨_,rfl⟩;obtain ⟨st,sb,hst⟩:∃ st sb,jU x=⟨st,sb⟩:=⟨_,_,rfl⟩;have hsl:jU x=⟨[],x.bl⟩:=by unfold jU;rw [if_neg (by rw [<- S9.out];simp)]
    obtain ⟨rfl,rfl⟩:st=[]/\sb=x.bl:=by rw [hsl] at hst;simpa using hst.symm
    obtain ⟨at3,Lm,Lp,hvt⟩:∃ a n c,Value.slice a n c=.slice none 0 0:=⟨_,_,_,rfl⟩;have Ut:Hid (CB 50 (q+1) [.slice at3 Lm Lp,.slice none 0 0] W):=by show CB _ _ _ _;rw [hW,hvt];exact HK2.out
    have HTW:Hid (Rd (fun b=>b<w1.heap.size\/q+2<=b) W (aV []) [.slice at3 Lm Lp]):=by show Rd _ _ _ _;rw [hvt];exact Rd.aC _ _ _
    have Yv:Hid (Rd (·<w1.heap.size) W (iU x.bl) [ow]):=by show Rd _ _ _ _;rw [hW,how];exact Xm.out
    have CU:Hid (jn9 wr.heap.size wr W):=by show jn9 _ _ _;rw [hW];exact HB2.out
    have Yw:Hid (q+2<=W.heap.size):=by show _<=_;rw [hW,HZ2.out];exact jk7 _
    have HSB:Hid (ah.aU x.bl<=900000/\ah.kV x.bl):=⟨by have:=HX2.out;have:=Iy.out;omega,HX3.out⟩;have HST:=hid hst;rw [<- hW];have jh5:=hvt;clear hst hsl hvt hW;generalize x.bl=sb at *;generalize ([]:List aj)=st at HST HTW;simp only [<- how];clear how jh5 e0 e1
   case' true=>
    obtain ⟨b0,t0,hb0,jh6⟩:=RX.out S9.out.symm;obtain ⟨a3,c3,hv3,hs3⟩:=Rd.ay Xm.out;obtain ⟨rfl,rfl,rfl⟩:al=a3/\nl=(x.bl.map ah.d).length/\cl=c3:=by simp at hv3;simpa using hv3
    obtain ⟨kd,lv,i,t,d,ti,at_,li,ks⟩:=b0;obtain ⟨g,o,vc,vp,vl,vk,rfl,-,hgw,hc,hRR⟩:=F6 hs3 (k:=0) (by rw [hb0];rfl);obtain ⟨al',nl',cl',rfl⟩:=Rd.au hRR.line;obtain ⟨nL,Ah⟩:∃ nL,nL=(x.bl.map ah.d).length:=⟨_,rfl⟩;rw [<- Ah] at e1 ⊢;have Xn:1<=nL:=by rw [Ah,hb0];simp
    have hcap:=hs3.le;rw [<- Ah] at hcap;have Xo:=hs3.max;unfold maxLen at Xo;have c9:w2.cell? ⟨g,o+9,none⟩=some (.slice al' nl' cl'):=by have:=hc.c9;rw [Nat.zero_mul,Nat.add_zero] at this;exact this
    have Xp:aj.kV li/\aj.aU li<=1000000:=by have h:=HX3.out;rw [hb0,ah.kV,ah.bd] at h;exact ⟨h.1.2.2.1,h.1.2.2.2.1⟩
    have LC:=hid (Ag _ li (·<w1.heap.size) _ w2 (jk7 _) Xp.2 hRR.line (fun b (hb:b<w1.heap.size)=>by have:=jbx.out.size;omega) Xp.1);have hsl:jU x=⟨li,t0⟩:=by unfold jU;rw [if_pos S9.out.symm,hb0];rfl
    have HSL:=hid hsl;have hbt:x.bl.tail=t0:=by rw [hb0];rfl
    have HTL:Hid (nL≠1->Rd (·<w1.heap.size) w2 (iU t0) [.slice (some ⟨g,o+11,none⟩) (nL-1) (cl-1)]):=fun hne=>by
     have h:=Rd.cut Xm.out 1 nL Xn (by rw [Ah];exact jk7 _);rw [Nat.one_mul,<- List.map_take,<- List.map_drop,hb0] at h;have e:((ah.mk kd lv i t d ti at_ li ks::t0).take nL).drop 1=t0:=by rw [Ah,hb0,jkq,List.take_length];rfl
     rw [e] at h;exact h
    have LV:Hid (ah.aU t0<=900000/\ah.kV t0):=by have h1:=HX2.out;have h2:=HX3.out;rw [hb0,ah.aU] at h1;rw [hb0,ah.kV] at h2;exact ⟨by have:=Iy.out;omega,h2.2⟩
    have HT0:Hid (nL=1->t0=[]):=fun e=>by
     rw [Ah,hb0] at e;simpa using e
    clear hs3 hv3 hc hRR hgw Xp hsl hb0 jh6 Ah hbt;go_wp2_with fail
    (with_reducible refine LC.out.mono ?_)
    rintro e w3 ⟨v3,gu,rfl,hr3⟩;obtain ⟨at3,Lm,Lp,rfl⟩:=hr3.Tk;have b3:=hr3.aO;have k3:=HK2.out.below b3;have d0:=k3.cell 0 _ rfl;have df:=nO k3;have hT3:Rd (fun b=>b<w1.heap.size\/q+2<=b) w3 (aV li) [.slice at3 Lm Lp]:=hr3.rd.weaken (fun b hb=>hb.imp id (fun h=>by have:=HZ2.out;omega));have hz3:=b3.size;have hT4:Rd (fun b=>b<w1.heap.size\/q+2<=b) (w3.setCell ⟨q+1,0,none⟩ (.slice at3 Lm Lp)) (aV li) [.slice at3 Lm Lp]:=Rd.keep (ok:=fun b=>b<w1.heap.size\/w2.heap.size<=b) (fun b hb hlt=>⟨hb.imp id (fun h=>by have:=HZ2.out;omega),jl0 w3 ⟨q+1,0,none⟩ _ b (by show b≠q+1;have:=HZ2.out;have:=HWQ.out;omega)⟩) _ _ hr3.rd;obtain ⟨w4,hw4⟩:∃ w4,w4=w3.setCell ⟨q+1,0,none⟩ (.slice at3 Lm Lp):=⟨_,rfl⟩;clear hr3 LC c9;go_upto_region 9 with (fail)
    rw [<- hw4];have hK4:CB 50 (q+1) [.slice at3 Lm Lp,.slice none 0 0] w4:=by rw [hw4];exact dF k3 0 _
    have k4:∀ b,b≠q+1->w4.heap[b]?=w3.heap[b]?:=fun b hb=>by rw [hw4];exact jl0 w3 ⟨q+1,0,none⟩ _ b hb
    have z4:w4.heap.size=w3.heap.size:=by rw [hw4];simp [jm0]
    have HTW:Hid (Rd (fun b=>b<w1.heap.size\/q+2<=b) w4 (aV li) [.slice at3 Lm Lp]):=by show Rd _ _ _ _;rw [hw4];exact hT4
    have Ut:=hid hK4;have CU:Hid (jn9 wr.heap.size wr w4):=by have h:=HB2.out.trans (b3.mono HB2.out.size);show jn9 _ _ _;rw [hw4];exact h.setCell (p:=⟨q+1,0,none⟩) (by show wr.heap.size<=q+1;have:=HQ.out;omega) _
    have Yw:Hid (q+2<=w4.heap.size):=by show _<=_;have:=HZ2.out;omega
    have HR4:Hid (nL≠1->Rd (·<w1.heap.size) w4 (iU t0) [.slice (some ⟨g,o+11,none⟩) (nL-1) (cl-1)]):=fun hne=>Rd.keep (fun b (hb:b<w1.heap.size) hlt=>⟨hb,(k4 b (by have:=HQ.out;have:=jbx.out.size;have:=HZ2.out;have:=HWQ.out;omega)).trans (b3.block b hlt)⟩) _ _ (HTL.out hne)
    obtain ⟨W,hW⟩:∃ W,W=w4:=⟨_,rfl⟩;rw [<- hW] at HTW Ut CU Yw HR4 ⊢;have HST:Hid (jU x=⟨li,t0⟩):=HSL;have HSB:Hid (ah.aU t0<=900000/\ah.kV t0):=LV;have Qo:Hid (nL=1->t0=[]):=HT0;clear hK4 hT3 hT4 k3 b3 hw4 k4 z4 d0 df HSL LV HT0 hW;by_cases hcl:cl=1
    case' pos=>
     go_upto_region 10 with (fail)
     have hn1:nL=1:=by omega
     have O7:Hid (Rd (·<w1.heap.size) W (iU t0) [.slice (some ⟨g,o,none⟩) (nL-1) 0]):=by show Rd _ _ _ _;rw [Qo.out hn1,hn1];unfold iU Rd;exact ⟨_,0,[],rfl,by simp,Nat.zero_le _,aH.none,by simp,.inl rfl⟩
     generalize Value.slice (some ⟨g,o,none⟩) (nL-1) 0=ow at *;have Yv:=O7;clear hcl hn1 O7 HR4 Qo HTL;generalize t0=sb at *;generalize li=st at *;clear e0 e1 hcap Xo Xn
    case' neg=>
     have O7:Hid (Rd (·<w1.heap.size) W (iU t0) [.slice (some ⟨g,o+11,none⟩) (nL-1) (cl-1)]):=by
      show Rd _ _ _ _;by_cases hn1:nL=1
      ·rw [Qo.out hn1,hn1];unfold iU Rd;exact ⟨_,cl-1,[],rfl,by simp,by unfold maxLen;omega,aH.none,by simp,.inl rfl⟩
      ·exact HR4.out hn1
     go_upto_region 10 with (fail)
     generalize Value.slice (some ⟨g,o+11,none⟩) (nL-1) (cl-1)=ow at *;have Yv:=O7;clear hcl O7 HR4 Qo HTL;generalize t0=sb at *;generalize li=st at *;clear e0 e1 hcap Xo Xn
   all_goals
    have BC:=hid (Lg _ sb (·<w1.heap.size) ow W (jk7 _) (by have:=HSB.out.1;omega) Yv.out (fun b (hb:b<w1.heap.size)=>by have:=HWQ.out;have:=Yw.out;omega) HSB.out.2);go_wp2_with fail
    (with_reducible refine BC.out.mono ?_)
    rintro e w5 ⟨v5,vO,rfl,Sd⟩;obtain ⟨a5,n5,c5,rfl⟩:=Sd.Tk;have b5:=Sd.aO;have k5:=Ut.out.below b5;have d0:=k5.cell 0 _ rfl;have d1:=k5.cell 1 _ rfl;have df:=nO k5;obtain ⟨w6,iH⟩:∃ w6,w6=w5.setCell ⟨q+1,1,none⟩ (.slice a5 n5 c5):=⟨_,rfl⟩;have k6:CB 50 (q+1) [.slice at3 Lm Lp,.slice a5 n5 c5] w6:=by rw [iH];exact dF k5 1 _
    have Vq:w6.heap.size=w5.heap.size:=by rw [iH];simp [jm0]
    have hb6:∀ b,b≠q+1->w6.heap[b]?=w5.heap[b]?:=fun b hb=>by rw [iH];exact jl0 w5 ⟨q+1,1,none⟩ _ b hb
    have YX:jn9 wr.heap.size wr w6:=by rw [iH];exact (CU.out.trans (b5.mono CU.out.size)).setCell (p:=⟨q+1,1,none⟩) (by show wr.heap.size<=q+1;have:=HQ.out;omega) _
    have hS6:Rd (fun b=>b<w1.heap.size\/wr.heap.size<=b) w6 (jU x).d [.slice at3 Lm Lp,.slice a5 n5 c5]:=by
     rw [HST.out];refine Sl.dS ⟨st,sb⟩ ?_ ?_
     ·exact Rd.keep (ok:=fun b=>b<w1.heap.size\/q+2<=b) (fun b hb hlt=>⟨hb.imp id (fun h=>by have:=HQ.out;omega),(hb6 b (by have:=HWQ.out;omega)).trans (b5.block b hlt)⟩) _ _ HTW.out
     ·exact Rd.keep (ok:=fun b=>b<w1.heap.size\/W.heap.size<=b) (fun b hb hlt=>⟨hb.imp id (fun h=>by have:=Yw.out;have:=HQ.out;omega),hb6 b (by have:=Yw.out;have:=HWQ.out;omega)⟩) _ _ Sd.rd
    have HS6:=hid hS6;have HK6:=hid k6;have hR6:=HRW.out.below YX;have HR6:=hid hR6;have g0:=k6.cell 0 _ rfl;have g1:=k6.cell 1 _ rfl;clear Sd b5 k5 k6 Vq hb6 YX hS6 hR6 BC Ut HTW Yv CU Yw HSB;go_upto_region 11 with (fail)
    rw [<- iH];clear iH d0 d1 df;go_wp2_with (at_builtin;refine SV (n:=nv) rfl _ _ 41 rfl iS _ 48 Tryz.underlying41 XR J8 J9 Ka rfl (by decide) HR6.out (fun b hb=>hb) (jU x).d [.slice at3 Lm Lp,.slice a5 n5 c5] HS6.out rfl (by intro u hu;simp at hu;rcases hu with rfl | rfl<;>rfl) ND.out (by omega) (by decide) rfl rfl ?_)
    intro a7 c7 w7 jh PG;have hf:Ib w1 P (.slice a7 (nv+1) c7) (.int .i64 ((k+1:Nat):Int)) w7:=by
     refine ⟨k+1,rows++[[.slice at3 Lm Lp,.slice a5 n5 c5]],by have:=JE.out;omega,rfl,?_⟩;have e:((P.take (k+1)).map jU).map Sl.d=List.take k (List.map (Sl.d ∘ jU) P)++[(jU x).d]:=by rw [List.take_add_one,HX.out];simp
     rw [e];exact jh
    have HF:=hid hf;clear jh PG hf g0 g1;go_wp2;go_roundw;case rel=>exact HF.out
    case measure=>simp [intOf];omega
  ·have hkl:k=P.length:=by have:=JE.out;omega
   have hrd:Rd (·<wr.heap.size) wr (.sl 2 ((P.map jU).map Sl.d)) [.slice av nv cv]:=by have h:=HRW.out.rd;rw [hkl,List.take_length] at h;exact Rd.keep (fun b _ hlt=>⟨hlt,rfl⟩) _ _ h
   have CJ:=hid hrd;have HBF:=hid (aQ B1.out hbel);clear hkl hrd hbel;go_wp2;go_ret;exact ⟨_,rfl,CJ.out,HBF.out⟩
open Go.RowKit
theorem O8 (kd lv:Int):(((kd==5)=true\/((kd==5)=false/\(kd==2)=true/\(lv==1)=true)\/((kd==5)=false/\(kd==2)=true/\(lv==1)=false/\(lv==2)=true))/\bB kd lv=true)\/((((kd==5)=false/\(kd==2)=true/\(lv==1)=false/\(lv==2)=false)\/((kd==5)=false/\(kd==2)=false))/\bB kd lv=false):=by
 unfold bB tB;by_cases h5:kd=5
 ·simp [h5]
 ·by_cases h2:kd=2
  ·by_cases h1:lv=1
   ·simp [h2,h1]
   ·by_cases h22:lv=2
    ·simp [h2,h22]
    ·simp [h2,h1,h22]
  ·simp [h5,h2]
theorem O9 (kd lv:Int) (i t d ti id:ByteArray) (ac ap al ak:Option Addr) (nc cc np cp nl cl nk ck:Nat) (w:jn8) : Calls Tryz.prog 61 #[.agg #[.int .i64 kd,.int .i64 lv,.string i,.string t,.string d,.string ti,.string id,.slice ac nc cc,.slice ap np cp,.slice al nl cl,.slice ak nk ck]] w (dH (.bool (bB kd lv)) w):=by
 obtain ⟨S,hS⟩:∃ S,S=w.heap.size:=⟨_,rfl⟩;obtain ⟨w0,hw0⟩:∃ w0,w0=w.alloc (.cells #[.int .i64 kd,.int .i64 lv,.string i,.string t,.string d,.string ti,.string id,.slice ac nc cc,.slice ap np cp,.slice al nl cl,.slice ak nk ck] 48):=⟨_,rfl⟩;have k0:CB 48 S [.int .i64 kd,.int .i64 lv,.string i,.string t,.string d,.string ti,.string id,.slice ac nc cc,.slice ap np cp,.slice al nl cl,.slice ak nk ck] w0:=by rw [hw0,hS];exact CB.new _ _ w
 have B0:Hid (jn9 w.heap.size w w0):=by show jn9 _ _ _;rw [hw0];exact (jk6 _ _).alloc (jk7 _) _
 have e0:=k0.cell 0 _ rfl;have e1:=k0.cell 1 _ rfl;have hcs:=O8 kd lv;clear k0;go_enter Tryz.func61,Tryz.ntmps61;go_upto_region 1 with (fail)
 rw [<- hw0,<- hS];clear hw0 hS;rcases hcs with ⟨q5 | ⟨q5,q2,q1⟩ | ⟨q5,q2,q1,q22⟩,hb⟩ | ⟨⟨q5,q2,q1,q22⟩ | ⟨q5,q2⟩,hb⟩
 all_goals
  have HB:=hid hb;clear hb;go_wp2;go_ret;exact ⟨by rw [HB.out];rfl,B0.out⟩
def Pb (n:Nat) (w:jn8) (vi:jnj) (wr:jn8):Prop:=∃ k:Nat,k<=n/\vi=.int .i64 k/\jn9 w.heap.size w wr
theorem Fg (P:List Sl) (v1 v2:jnj) (w:jn8) (h1:Rd (·<w.heap.size) w (.sl 2 (P.map Sl.d)) [v1]) (h2:Rd (·<w.heap.size) w (.sl 2 (P.map Sl.d)) [v2]) (hP:P.length<=1000000) : Calls Tryz.prog 20 #[v1,v2] w (dH (.bool true) w):=by
 obtain ⟨a1,c1,hv1,hs1⟩:=Rd.ay h1;obtain ⟨a2,c2,hv2,hs2⟩:=Rd.ay h2;obtain ⟨n,hn⟩:∃ n,n=P.length:=⟨_,rfl⟩;obtain rfl:v1=.slice a1 n c1:=by rw [hn];simpa using hv1
 obtain rfl:v2=.slice a2 n c2:=by rw [hn];simpa using hv2
 have hc1:n<=c1:=by rw [hn];simpa using hs1.le
 have hm1:=hs1.max;have hc2:n<=c2:=by rw [hn];simpa using hs2.le
 have hm2:=hs2.max;unfold maxLen at hm1 hm2;have hn1:n<=1000000:=by omega
 have HN:=hid hn;have YK:=hid hs1;have HS2:=hid hs2;have R0:Hid (Pb n w (.int .i64 0) w):=⟨0,Nat.zero_le _,rfl,jk6 _ _⟩;clear h1 h2 hP hv1 hv2 hs1 hs2 hn;go_enter Tryz.func20,Tryz.ntmps20;go_wp2
 go_loopw [5] (fun vi wr=>Pb n w vi wr) (fun i _=>n-(intOf i).toNat)
 case atStart=>exact R0.out
 case round=>
  clear R0;obtain ⟨k,hk,rfl,hbel⟩:=hrel;have HB:=hid hbel;by_cases hlt:k<n
  ·obtain ⟨x,hx⟩:∃ x,P[k]?=some x:=⟨_,jk5 (by have:=HN.out;omega)⟩;obtain ⟨g1,o1,rfl,-,hb1,jbz⟩:=(YK.out.aY hbel).at_ (by rw [jkq];have:=HN.out;omega)
   obtain ⟨g2,o2,rfl,-,hb2,jc0⟩:=(HS2.out.aY hbel).at_ (by rw [jkq];have:=HN.out;omega)
   obtain ⟨r1,hr1,-,hc1'⟩:=jbz k x.d (by rw [List.getElem?_map,hx];rfl);obtain ⟨r2,hr2,-,hc2'⟩:=jc0 k x.d (by rw [List.getElem?_map,hx];rfl);obtain ⟨t1,u1,rfl,ht1,hu1⟩:=Sl.open_ hr1;obtain ⟨t2,u2,rfl,ht2,hu2⟩:=Sl.open_ hr2;obtain ⟨at1,nt1,ct1,rfl⟩:=Rd.au ht1;obtain ⟨at2,nt2,ct2,rfl⟩:=Rd.au ht2;obtain ⟨au1,nu1,cu1,rfl⟩:=Rd.au hu1;obtain ⟨au2,nu2,cu2,rfl⟩:=Rd.au hu2;have XF:Hid (∀ y,jn9 wr.heap.size wr y->y.cell? ⟨g1,o1+k*2,none⟩=some (.slice at1 nt1 ct1)/\y.cell? ⟨g1,o1+k*2+1,none⟩=some (.slice au1 nu1 cu1)/\y.cell? ⟨g2,o2+k*2,none⟩=some (.slice at2 nt2 ct2)/\y.cell? ⟨g2,o2+k*2+1,none⟩=some (.slice au2 nu2 cu2)):=fun y hy=>
    ⟨(hy.cell (p:=⟨_,_,none⟩) hb1).trans (hc1' 0 _ rfl),(hy.cell (p:=⟨_,_,none⟩) hb1).trans (hc1' 1 _ rfl),(hy.cell (p:=⟨_,_,none⟩) hb2).trans (hc2' 0 _ rfl),(hy.cell (p:=⟨_,_,none⟩) hb2).trans (hc2' 1 _ rfl)⟩
   have low:∀ {y:jn8} {d:D} {vs:List jnj},jn9 wr.heap.size wr y->Rd (·<w.heap.size) wr d vs->Rd (·<y.heap.size) y d vs:=fun hy h=>Rd.keep (fun b _ hlt=>⟨by have:=hy.size;omega,hy.block b hlt⟩) _ _ h
   have SL:Hid (∀ y,jn9 wr.heap.size wr y->Calls Tryz.prog 57 #[.slice at1 nt1 ct1,.slice at2 nt2 ct2] y (Cj x.ti x.ti y)):=fun y hy=>qA _ x.ti x.ti _ _ y (jk7 _) (low hy ht1) (low hy ht2)
   have SK:Hid (∀ y,jn9 wr.heap.size wr y->Calls Tryz.prog 25 #[.slice au1 nu1 cu1,.slice au2 nu2 cu2] y (Cj x.bl x.bl y)):=fun y hy=>xD _ x.bl x.bl _ _ y (jk7 _) (low hy hu1) (low hy hu2)
   clear hx jbz jc0 hr1 hr2 hc1' hc2' ht1 ht2 hu1 hu2 low hbel hb1 hb2;go_upto_region 6 with (fail)
   refine Qy 25 (fun w'=>jn9 wr.heap.size wr w') (by kernel_rfl) (jk6 _ _).drew ?_;intro hH;obtain ⟨y0,hy0⟩:∃ y0,y0=wr.drew:=⟨_,rfl⟩;rw [<- hy0] at hH;rw [<- hy0];clear hy0;refine fK 0 (v:=?_) rfl (by kernel_rfl) hH (by rfl) ?_ ?_;rotate_left
   ·(intro wv hSw;obtain ⟨d0,d1,d2,d3⟩:=XF.out wv hSw;go_simp;try with_reducible rfl)
   try simp only [Act.put,jk2,jk3,jk4]
   refine fK 1 (v:=?_) rfl (by kernel_rfl) hH (by rfl) ?_ ?_;rotate_left
   ·(intro wv hSw;obtain ⟨d0,d1,d2,d3⟩:=XF.out wv hSw;go_simp;try with_reducible rfl)
   try simp only [Act.put,jk2,jk3,jk4]
   refine fK 2 (v:=?_) rfl (by kernel_rfl) hH (by rfl) ?_ ?_;rotate_left
   ·(intro wv hSw;obtain ⟨d0,d1,d2,d3⟩:=XF.out wv hSw;go_simp;try with_reducible rfl)
   try simp only [Act.put,jk2,jk3,jk4]
   refine fK 3 (v:=?_) rfl (by kernel_rfl) hH (by rfl) ?_ ?_;rotate_left
   ·(intro wv hSw;obtain ⟨d0,d1,d2,d3⟩:=XF.out wv hSw;go_simp;try with_reducible rfl)
   try simp only [Act.put,jk2,jk3,jk4]
   refine fK 4 (v:=?_) rfl (by kernel_rfl) hH (by rfl) ?_ ?_;rotate_left
   ·(intro wv hSw;obtain ⟨d0,d1,d2,d3⟩:=XF.out wv hSw;go_simp;try with_reducible rfl)
   try simp only [Act.put,jk2,jk3,jk4]
   refine fK 5 (v:=?_) rfl (by kernel_rfl) hH (by rfl) ?_ ?_;rotate_left
   ·(intro wv hSw;obtain ⟨d0,d1,d2,d3⟩:=XF.out wv hSw;go_simp;try with_reducible rfl)
   try simp only [Act.put,jk2,jk3,jk4]
   refine fK 6 (v:=?_) rfl (by kernel_rfl) hH (by rfl) ?_ ?_;rotate_left
   ·(intro wv hSw;obtain ⟨d0,d1,d2,d3⟩:=XF.out wv hSw;go_simp;try with_reducible rfl)
   try simp only [Act.put,jk2,jk3,jk4]
   refine fK 7 (v:=?_) rfl (by kernel_rfl) hH (by rfl) ?_ ?_;rotate_left
   ·(intro wv hSw;obtain ⟨d0,d1,d2,d3⟩:=XF.out wv hSw;go_simp;try with_reducible rfl)
   try simp only [Act.put,jk2,jk3,jk4]
   refine fK 8 (v:=?_) rfl (by kernel_rfl) hH (by rfl) ?_ ?_;rotate_left
   ·(intro wv hSw;obtain ⟨d0,d1,d2,d3⟩:=XF.out wv hSw;go_simp;try with_reducible rfl)
   try simp only [Act.put,jk2,jk3,jk4]
   refine fK 9 (v:=?_) rfl (by kernel_rfl) hH (by rfl) ?_ ?_;rotate_left
   ·(intro wv hSw;obtain ⟨d0,d1,d2,d3⟩:=XF.out wv hSw;go_simp;try with_reducible rfl)
   try simp only [Act.put,jk2,jk3,jk4]
   refine q01 (i:=10) rfl (by kernel_rfl) (fun KQ hK=>?_);go_simp;go_at_call 57
   (with_reducible refine (SL.out _ hH).mono ?_)
   rintro e yy ⟨bb,rfl,hbb,bY⟩;obtain rfl:bb=true:=hbb.2 rfl;have hY:=aQ hH bY;refine hK.out _ _ (fun _ _=>hY) (fun hH2=>?_);clear hK KQ hH hH2 hbb bY;have hH:=hY;clear hY;try simp only [Act.put,jk2,jk3,jk4]
   refine q01 (i:=11) rfl (by kernel_rfl) (fun KQ hK=>?_);go_simp;refine hK.out _ _ (fun _ _=>hH) (fun hH2=>?_);clear hK KQ hH2;try simp only [Act.put,jk2,jk3,jk4]
   refine q01 (i:=12) rfl (by kernel_rfl) (fun KQ hK=>?_);go_simp;refine hK.out _ _ (fun _ _=>hH) (fun hH2=>?_);clear hK KQ hH2;try simp only [Act.put,jk2,jk3,jk4]
   refine fK 13 (v:=?_) rfl (by kernel_rfl) hH (by rfl) ?_ ?_;rotate_left
   ·(intro wv hSw;obtain ⟨d0,d1,d2,d3⟩:=XF.out wv hSw;go_simp;try with_reducible rfl)
   try simp only [Act.put,jk2,jk3,jk4]
   refine fK 14 (v:=?_) rfl (by kernel_rfl) hH (by rfl) ?_ ?_;rotate_left
   ·(intro wv hSw;obtain ⟨d0,d1,d2,d3⟩:=XF.out wv hSw;go_simp;try with_reducible rfl)
   try simp only [Act.put,jk2,jk3,jk4]
   refine fK 15 (v:=?_) rfl (by kernel_rfl) hH (by rfl) ?_ ?_;rotate_left
   ·(intro wv hSw;obtain ⟨d0,d1,d2,d3⟩:=XF.out wv hSw;go_simp;try with_reducible rfl)
   try simp only [Act.put,jk2,jk3,jk4]
   refine fK 16 (v:=?_) rfl (by kernel_rfl) hH (by rfl) ?_ ?_;rotate_left
   ·(intro wv hSw;obtain ⟨d0,d1,d2,d3⟩:=XF.out wv hSw;go_simp;try with_reducible rfl)
   try simp only [Act.put,jk2,jk3,jk4]
   refine fK 17 (v:=?_) rfl (by kernel_rfl) hH (by rfl) ?_ ?_;rotate_left
   ·(intro wv hSw;obtain ⟨d0,d1,d2,d3⟩:=XF.out wv hSw;go_simp;try with_reducible rfl)
   try simp only [Act.put,jk2,jk3,jk4]
   refine fK 18 (v:=?_) rfl (by kernel_rfl) hH (by rfl) ?_ ?_;rotate_left
   ·(intro wv hSw;obtain ⟨d0,d1,d2,d3⟩:=XF.out wv hSw;go_simp;try with_reducible rfl)
   try simp only [Act.put,jk2,jk3,jk4]
   refine fK 19 (v:=?_) rfl (by kernel_rfl) hH (by rfl) ?_ ?_;rotate_left
   ·(intro wv hSw;obtain ⟨d0,d1,d2,d3⟩:=XF.out wv hSw;go_simp;try with_reducible rfl)
   try simp only [Act.put,jk2,jk3,jk4]
   refine fK 20 (v:=?_) rfl (by kernel_rfl) hH (by rfl) ?_ ?_;rotate_left
   ·(intro wv hSw;obtain ⟨d0,d1,d2,d3⟩:=XF.out wv hSw;go_simp;try with_reducible rfl)
   try simp only [Act.put,jk2,jk3,jk4]
   refine fK 21 (v:=?_) rfl (by kernel_rfl) hH (by rfl) ?_ ?_;rotate_left
   ·(intro wv hSw;obtain ⟨d0,d1,d2,d3⟩:=XF.out wv hSw;go_simp;try with_reducible rfl)
   try simp only [Act.put,jk2,jk3,jk4]
   refine fK 22 (v:=?_) rfl (by kernel_rfl) hH (by rfl) ?_ ?_;rotate_left
   ·(intro wv hSw;obtain ⟨d0,d1,d2,d3⟩:=XF.out wv hSw;go_simp;try with_reducible rfl)
   try simp only [Act.put,jk2,jk3,jk4]
   refine q01 (i:=23) rfl (by kernel_rfl) (fun KQ hK=>?_);go_simp;go_at_call 25
   (with_reducible refine (SK.out _ hH).mono ?_)
   rintro e yy ⟨bb,rfl,hbb,bY⟩;obtain rfl:bb=true:=hbb.2 rfl;have hY:=aQ hH bY;refine hK.out _ _ (fun _ _=>hY) (fun hH2=>?_);clear hK KQ hH hH2 hbb bY;have hH:=hY;clear hY;try simp only [Act.put,jk2,jk3,jk4]
   refine q01 (i:=24) rfl (by kernel_rfl) (fun KQ hK=>?_);go_simp;refine hK.out _ _ (fun _ _=>hH) (fun hH2=>?_);clear hK KQ hH2;try simp only [Act.put,jk2,jk3,jk4]
   refine q01 (i:=25) rfl (by kernel_rfl) (fun KQ hK=>?_);go_simp;refine hK.out _ _ (fun h=>absurd rfl h) (fun _=>?_);clear hK KQ;try simp only [Act.put,jk2,jk3,jk4]
   refine D6 (by kernel_rfl) ?_ _;have HR:Hid (Pb n w (.int .i64 ((k+1:Nat):Int)) yy):=⟨k+1,by omega,rfl,aQ HB.out hH⟩;clear hH;go_wp2;go_roundw;case rel=>exact HR.out
   case measure=>simp [intOf];omega
  ·clear hbel;go_wp2;go_ret;exact ⟨rfl,HB.out⟩
open Go.RowKit
structure uF (w0:jn8) (init:List Sl) (ti:List aj) (bl:List ah) (g c U1:Nat) (vt vb:jnj) (rows rO:List (List jnj)) (wO w:jn8):Prop where
 own:w.ownsRow w0.heap.size 50 2 (.slice (some ⟨g,0,none⟩) (init.length+1) c) (init.length+1) (rows.flatten++[vt,vb])
 len:∀ r∈rows,r.length=2
 red:aH (fun b=>b≠g/\b<U1) w (init.map Sl.d) rows
 tit:Rd (·<w0.heap.size) w (aV ti) [vt]
 blk:aB 48 11 (·<w0.heap.size) w.heap.size wO (bl.map ah.d) rO vb w
 u1:U1<=wO.heap.size
 g0:w0.heap.size<=g
 g1:g<wO.heap.size
 aO:jn9 w0.heap.size w0 w
section
variable {w0:jn8} {init:List Sl} {ti:List aj} {bl:List ah} {g c U1:Nat} {vt vb:jnj} {rows rO:List (List jnj)} {wO w:jn8}
theorem uF.Xq (h:uF w0 init ti bl g c U1 vt vb rows rO wO w):rows.flatten.length=init.length*2:=by rw [gY 2 rows h.len,h.red.len,jkq]
theorem uF.row (h:uF w0 init ti bl g c U1 vt vb rows rO wO w):aB 50 2 (·<w0.heap.size) w.heap.size w0 ((init++[(⟨ti,bl⟩:Sl)]).map Sl.d) (rows++[[vt,vb]]) (.slice (some ⟨g,0,none⟩) (init.length+1) c) w:=by
 have hg:=h.g0;have hg1:=h.g1;refine ⟨?_,?_,?_,h.aO,fun b hb=>?_,h.aO.size,jk7 _⟩
 ·have:=h.own;rw [jkq,jkk,jm7];simpa using this
 ·rw [List.map_append];refine aH.app (aH.keep (fun b hb hlt=>⟨⟨(by show b<w0.heap.size\/w0.heap.size<=b;omega),fun e=>hb.1 (Option.some.inj e).symm,hlt⟩,rfl⟩) _ _ h.red) (aH.one (Sl.dS ⟨ti,bl⟩ ?_ ?_))
  ·exact Rd.keep (fun b (hb:b<w0.heap.size) hlt=>⟨⟨.inl hb,fun e=>by have:=Option.some.inj e;simp at this;omega,hlt⟩,rfl⟩) _ _ h.tit
  ·have hO:=h.blk.lX;exact Rd.keep (fun b (hb:b<w0.heap.size\/wO.heap.size<=b) hlt=>⟨⟨by omega,fun e=>by have:=Option.some.inj e;simp at this;omega,hlt⟩,rfl⟩) _ _ h.blk.rd
 ·intro r hr;rcases List.mem_append.1 hr with hr | hr
  ·exact h.len r hr
  ·obtain rfl:=List.mem_singleton.1 hr;rfl
 ·exact (h.own.lt b hb).2
theorem uF.new {l:List Sl} {t:List aj} {n:Nat} (h:aB 50 2 (·<w0.heap.size) w.heap.size w0 (l.map Sl.d++[(⟨t,[]⟩:Sl).d]) (rows++[[vt,.slice none 0 0]]) (.slice (some ⟨g,0,none⟩) n c) w) (hn:n=l.length+1) (ht:Rd (·<w0.heap.size) w (aV t) [vt]) : uF w0 l t [] g c w.heap.size vt (.slice none 0 0) rows [] w w:=by
 subst hn;have hg:=h.own.lt g rfl;have hl:rows.length=(l.map Sl.d).length:=by have:=h.red.len;simp at this ⊢;omega
 refine ⟨?_,fun r hr=>h.len r (by simp [hr]),aH.keep (fun b hb hlt=>⟨⟨fun e=>hb.2.1 (by rw [e];rfl),hlt⟩,rfl⟩) _ _ (aH.OB _ _ _ _ h.red hl),ht,aB.nil _ _ _ _,jk7 _,hg.1,hg.2,h.aO⟩;have:=h.own;rw [jkk,jkq,jm7] at this;simpa using this
theorem uF.set0 (h:uF w0 init ti bl g c U1 vt vb rows rO wO w):∃ wO',uF w0 init [] bl g c U1 (.slice none 0 0) vb rows rO wO' (w.setCell ⟨g,init.length*2,none⟩ (.slice none 0 0)):=by
 have hg:=h.g0;have hfl:=h.Xq;have k7:∀ b,b≠g->(w.setCell ⟨g,init.length*2,none⟩ (.slice none 0 0)).heap[b]?=w.heap[b]?:=fun b hb=>jl0 _ ⟨g,init.length*2,none⟩ _ b hb
 have g7:w.grownBy (w.setCell ⟨g,init.length*2,none⟩ (.slice none 0 0)) (some g):=⟨rfl,rfl,rfl,by simp [jm0],fun b _ hb=>k7 b (fun e=>hb (by rw [e]))⟩;obtain ⟨QD,e3,rO2⟩:=h.blk.qP (p:=g) h.g1 (by show ¬ g<w0.heap.size;omega) g7;refine ⟨QD,?_,h.len,aH.keep (fun b hb hlt=>⟨hb,k7 b hb.1⟩) _ _ h.red,Rd.aC _ _ _,rO2.top,by rw [e3];exact h.u1,hg,by rw [e3];exact h.g1,h.aO.setCell (p:=⟨g,init.length*2,none⟩) hg _⟩;have:=(h.own.stored (init.length*2) (.slice none 0 0)).1
 rwa [List.set_append_right _ _ (by omega),show init.length*2-rows.flatten.length=0 by omega,jk3] at this
theorem uF.push (h:uF w0 init ti bl g c U1 vt vb rows rO wO w) {g5 c5 n:Nat} {w5:jn8} {r0 r1:List jnj} {d0:D} {x:ah} (hn:(bl.map ah.d).length=n) (hr:aB 48 11 (·<w0.heap.size) w5.heap.size wO (bl.map ah.d++[d0]) (rO++[r0]) (.slice (some ⟨g5,0,none⟩) (n+1) c5) w5) (hl:r1.length=11) (hk:∀ b,b<w.heap.size->vb.ownBlock≠some b->w5.heap[b]?=w.heap[b]?) (hs:w.heap.size<=w5.heap.size) (ho:w5.os=w.os/\w5.tape=w.tape/\w5.output=w.output) (hx:Rd (·<w0.heap.size) w5 x.d r1) : ∃ wO',uF w0 init ti (bl++[x]) g c U1 vt (.slice (some ⟨g5,0,none⟩) (n+1) c5) rows (rO++[r1]) wO' ((jZ w5 g5 (n*11) r1).setCell ⟨g,init.length*2+1,none⟩ (.slice (some ⟨g5,0,none⟩) (n+1) c5)):=by
 have hg:=h.g0;have hg1:=h.g1;have hu1:=h.u1;have hfl:=h.Xq;have hO:=h.blk.lX;have hOl:=h.blk.tK;have yA:∀ b,vb.ownBlock=some b->wO.heap.size<=b:=fun b e=>(h.blk.own.lt b e).1
 have hg5:wO.heap.size<=g5:=(hr.own.lt g5 rfl).1;have hr1:=hr.jaj hn hl (d1:=x.d) (Rd.keep (fun b (hb:b<w0.heap.size) hlt=>⟨⟨.inl hb,by have:=h.aO.size;omega,hlt⟩,rfl⟩) _ _ hx);obtain ⟨w6,iH⟩:∃ w6,w6=jZ w5 g5 (n*11) r1:=⟨_,rfl⟩;have k6:∀ b,b≠g5->w6.heap[b]?=w5.heap[b]?:=fun b hb=>by rw [iH];exact RO g5 _ _ _ b hb
 have z6:w6.heap.size=w5.heap.size:=by rw [iH];exact lS g5 _ _ _
 have s6:=qy g5 r1 (n*11) w5;rw [<- iH] at hr1 s6 ⊢;clear iH;have kA:∀ b,b<wO.heap.size->w6.heap[b]?=w.heap[b]?:=fun b hb=>(k6 b (by omega)).trans (hk b (by omega) (fun e=>by have:=yA b e;omega))
 have gA:w.grownBy w6 (some g5)\/True:=.inr trivial;have jh7:w6.ownsRow w0.heap.size 50 2 (.slice (some ⟨g,0,none⟩) (init.length+1) c) (init.length+1) (rows.flatten++[vt,vb]):=by
  have G5:w.grownBy w5 vb.ownBlock:=⟨ho.1,ho.2.1,ho.2.2,hs,fun b hb hne=>hk b hb (fun e=>hne e.symm)⟩;have G6:w5.grownBy w6 (some g5):=⟨s6.1,s6.2.1,s6.2.2,by omega,fun b _ hb=>k6 b (fun e=>hb (by rw [e]))⟩;refine (h.own.kept G5 (.inr fun e=>?_)).kept G6 (.inr fun e=>?_)
  ·have:=yA g e.symm;omega
  ·have e':g=g5:=by simpa [Value.ownBlock] using e
   omega
 have k7:∀ b,b≠g->(w6.setCell ⟨g,init.length*2+1,none⟩ (.slice (some ⟨g5,0,none⟩) (n+1) c5)).heap[b]?=w6.heap[b]?:=fun b hb=>jl0 _ ⟨g,init.length*2+1,none⟩ _ b hb
 have g7:w6.grownBy (w6.setCell ⟨g,init.length*2+1,none⟩ (.slice (some ⟨g5,0,none⟩) (n+1) c5)) (some g):=⟨rfl,rfl,rfl,by simp [jm0],fun b _ hb=>k7 b (fun e=>hb (by rw [e]))⟩;obtain ⟨QD,e3,rO2⟩:=hr1.qP (p:=g) hg1 (by show ¬ g<w0.heap.size;omega) g7;have kB:∀ b,b<wO.heap.size->b≠g->(w6.setCell ⟨g,init.length*2+1,none⟩ (.slice (some ⟨g5,0,none⟩) (n+1) c5)).heap[b]?=w.heap[b]?:=fun b hb hne=>(k7 b hne).trans (kA b hb)
 refine ⟨QD,?_,h.len,aH.keep (fun b hb hlt=>⟨hb,kB b (by omega) hb.1⟩) _ _ h.red,Rd.keep (fun b (hb:b<w0.heap.size) hlt=>⟨hb,kB b (by omega) (by omega)⟩) _ _ h.tit,?_,by rw [e3];exact hu1,hg,by rw [e3];exact hg1,?_⟩
 ·have:=(jh7.stored (init.length*2+1) (.slice (some ⟨g5,0,none⟩) (n+1) c5)).1
  rwa [List.set_append_right _ _ (by omega),show init.length*2+1-rows.flatten.length=1 by omega,jk4,jk3] at this
 ·rw [List.map_append];exact rO2.top
 ·exact ⟨g7.os.trans (s6.1.trans (ho.1.trans h.aO.os)),g7.tape.trans (s6.2.1.trans (ho.2.1.trans h.aO.tape)),g7.output.trans (s6.2.2.trans (ho.2.2.trans h.aO.output)),by have:=g7.size;have:=h.aO.size;omega,fun b hb=>(kB b (by omega) (by omega)).trans (h.aO.block b hb)⟩
theorem uF.cells (h:uF w0 init ti bl g c U1 vt vb rows rO wO w):w.cell? ⟨g,init.length*2,none⟩=some vt/\w.cell? ⟨g,init.length*2+1,none⟩=some vb/\∀ j,w.frozen? ⟨g,j,none⟩=false:=by
 have hfl:=h.Xq;refine ⟨?_,?_,fun j=>h.own.frozenAt j⟩
 ·rw [h.own.cellAt _ (by omega),List.getElem?_append_right (by omega),hfl,Nat.sub_self];rfl
 ·rw [h.own.cellAt _ (by omega),List.getElem?_append_right (by omega),hfl,Nat.add_sub_cancel_left];rfl
end
open Go.RowKit
def Ic (w0:jn8) (s:List Sl) (v:jnj) (wr:jn8):Prop:=jn9 w0.heap.size w0 wr/\((s=[]/\v=.slice none 0 0)\/∃ (init:List Sl) (ti:List aj) (bl:List ah) (g c U1:Nat) (vt vb:jnj) (rows rO:List (List jnj)) (wO:jn8),s=init++[⟨ti,bl⟩]/\v=.slice (some ⟨g,0,none⟩) (init.length+1) c/\uF w0 init ti bl g c U1 vt vb rows rO wO wr)
theorem Ic.row {w0:jn8} {s:List Sl} {v:jnj} {w:jn8} (h:Ic w0 s v w):∃ rows,aB 50 2 (·<w0.heap.size) w.heap.size w0 (s.map Sl.d) rows v w:=by
 obtain ⟨hb,⟨rfl,rfl⟩ | ⟨init,ti,bl,g,c,U1,vt,vb,rows,rO,wO,rfl,rfl,hI⟩⟩:=h
 ·exact ⟨[],((aB.nil _ _ _ w0).below hb).top⟩
 ·exact ⟨_,hI.row⟩
theorem uF.below {w0:jn8} {init:List Sl} {ti:List aj} {bl:List ah} {g c U1:Nat} {vt vb:jnj} {rows rO:List (List jnj)} {wO w w':jn8} (h:uF w0 init ti bl g c U1 vt vb rows rO wO w) (hb:jn9 w.heap.size w w'):uF w0 init ti bl g c U1 vt vb rows rO wO w':=by have hO:=h.blk.tK;have hO2:=h.blk.lX;have hu:=h.u1;have hs:=h.aO.size;exact ⟨h.own.kept (row:=none) ⟨hb.os,hb.tape,hb.output,hb.size,fun b hb' _=>hb.block b hb'⟩ (.inr (by simp [Value.ownBlock])),h.len,aH.keep (fun b hb' hlt=>⟨hb',hb.block b (by omega)⟩) _ _ h.red,Rd.keep (fun b (hb':b<w0.heap.size) hlt=>⟨hb',hb.block b (by omega)⟩) _ _ h.tit,(h.blk.below hb).top,hu,h.g0,h.g1,aQ h.aO hb⟩
theorem Ic.below {w0:jn8} {s:List Sl} {v:jnj} {w w':jn8} (h:Ic w0 s v w) (hb:jn9 w.heap.size w w'):Ic w0 s v w':=by
 obtain ⟨hB,h | ⟨init,ti,bl,g,c,U1,vt,vb,rows,rO,wO,h1,h2,hI⟩⟩:=h
 ·exact ⟨aQ hB hb,.inl h⟩
 ·exact ⟨aQ hB hb,.inr ⟨init,ti,bl,g,c,U1,vt,vb,rows,rO,wO,h1,h2,hI.below hb⟩⟩
theorem uF.st {w0:jn8} {init:List Sl} {ti:List aj} {bl:List ah} {g c U1:Nat} {vt vb:jnj} {rows rO:List (List jnj)} {wO w:jn8} (h:uF w0 init ti bl g c U1 vt vb rows rO wO w):Ic w0 (init++[⟨ti,bl⟩]) (.slice (some ⟨g,0,none⟩) (init.length+1) c) w:=
 ⟨h.aO,.inr ⟨init,ti,bl,g,c,U1,vt,vb,rows,rO,wO,rfl,rfl,h⟩⟩
theorem Fh {w w':jn8} {b:Nat} (h:w'.heap[b]?=w.heap[b]?) (j:Nat):w'.frozen? ⟨b,j,none⟩=w.frozen? ⟨b,j,none⟩:=by simp [World.frozen?,h]
theorem JF:∀ (l:List ah),(yG l).length<=l.length+1:=fun l=>by
 have h:=Wx l;have:yH l<=l.length:=List.length_filter_le ..;omega
theorem Lr (init:List Sl) (ti:List aj) (bl:List ah) (x:ah) (h:gP x=false):dQ (init++[⟨ti,bl⟩]) x=init++[⟨ti,bl++[x]⟩]:=by unfold dQ;rw [if_neg (by rw [h];simp),List.getLast?_concat];simp
def Pf (w0:jn8) (l:List ah) (v vi:jnj) (wr:jn8):Prop:=∃ k:Nat,k<=l.length/\vi=.int .i64 k/\Ic w0 (yG (l.take k)) v wr
theorem Sm (vm:jnj) (l:List ah) (vb:jnj) (w:jn8) (QS:∃ a n c,vm=.slice a n c) (h:Rd (·<w.heap.size) w (iU l) [vb]) (hl:l.length<=1000000) : Calls Tryz.prog 22 #[.agg #[vm,vb]] w (uE w (yG l)):=by
 obtain ⟨am,nm,cm,rfl⟩:=QS;obtain ⟨ab,cb,hvb,-⟩:=Rd.ay h;obtain ⟨nb,hnb⟩:∃ nb,nb=l.length:=⟨_,rfl⟩;obtain rfl:vb=.slice ab nb cb:=by rw [hnb];simpa using hvb
 obtain ⟨iS,XR,J8,J9,Ka⟩:=info_parts O5;obtain ⟨iB,Bu,Xg,Xh,Ke⟩:=info_parts Hg;have jk0:nb<=1000000:=by omega
 obtain ⟨S,hS⟩:∃ S,S=w.heap.size:=⟨_,rfl⟩;obtain ⟨W0,hW0⟩:∃ W0,W0=w.alloc (.cells #[.slice am nm cm,.slice ab nb cb] 26):=⟨_,rfl⟩;have k0:CB 26 S [.slice am nm cm,.slice ab nb cb] W0:=by rw [hW0,hS];exact CB.new _ _ w
 have b0:jn9 w.heap.size w W0:=by rw [hW0];exact (jk6 _ _).alloc (jk7 _) _
 have X1:Hid (∀ W:jn8,jn9 W0.heap.size W0 W->W.cell? ⟨S,1,none⟩=some (.slice ab nb cb)):=fun W hW=>(k0.below hW).cell 1 _ rfl
 have HB:=hid h;have LP:=hid hnb;have B0:=hid b0;have R0:Hid (Pf W0 l (.slice none 0 0) (.int .i64 0) W0):=⟨0,Nat.zero_le _,rfl,jk6 _ _,.inl ⟨by simp [yG],rfl⟩⟩;clear h hl hvb k0 b0 hnb;go_enter Tryz.func22,Tryz.ntmps22;go_upto_region 1 with (fail)
 rw [<- hW0,<- hS];clear hW0 hS;go_wp2
 go_loopw [3,4] (fun v vi wr=>Pf W0 l v vi wr) (fun _ i _=>nb-(intOf i).toNat)
 case atStart=>exact R0.out
 case round=>
  clear R0;obtain ⟨k,hk,rfl,hst⟩:=hrel;obtain ⟨Pg,hrow⟩:=hst.row;obtain ⟨nv,sH⟩:∃ nv,nv=((yG (l.take k)).map Sl.d).length:=⟨_,rfl⟩;obtain ⟨av,cv,rfl,hcv,hcm⟩:=hrow.cap sH.symm;unfold maxLen at hcm;have Xl:nv<=1000001:=by have h1:=JF (l.take k);rw [jn3] at h1;have:=LP.out;rw [sH,jkq];omega
  have hbel:=hst.1;have x1:=X1.out wr hbel;have HST:=hid hst;have Di:=hid hbel;have ND:=hid sH.symm;clear hst hrow sH;by_cases hlt:k<nb
  ·obtain ⟨x,hx⟩:∃ x,l[k]?=some x:=⟨_,jk5 (by have:=LP.out;omega)⟩;have rX:=hid (N9 l k x hx);have hbw:jn9 w.heap.size w wr:=B0.out.trans (hbel.mono B0.out.size);obtain ⟨ab',cb',hvb,hsb⟩:=Rd.ay (HB.out.below hbw);obtain ⟨rfl,rfl⟩:ab'=ab/\cb'=cb:=by simp at hvb;exact ⟨hvb.1.symm,hvb.2.2.symm⟩
   obtain ⟨s,hs⟩:∃ s,s=yG (l.take k):=⟨_,rfl⟩;rw [<- hs] at rX HST ND;have j5:Hid (∀ (init:List Sl) (tl:List aj) (qC:List ah),s=init++[⟨tl,qC⟩]->qC.length<=1000000):=fun init tl qC e=>by
    have h:=Oa (l.take k);rw [<- hs,e,List.flatMap_append] at h;have h2:=congrArg List.length h;have h3:(Ev (l.take k)).length<=(l.take k).length:=List.length_filter_le ..;rw [jn3] at h3;rw [jkk] at h2;simp only [List.flatMap_cons,List.flatMap_nil,List.append_nil] at h2;omega
   obtain ⟨X,hX⟩:∃ X,X=x:=⟨_,rfl⟩;obtain ⟨kd,lv,i,t,d,ti,at_,li,ks⟩:=x;rw [<- hX] at rX;obtain ⟨g,off,vc,vp,vl,vk,rfl,hgo,hgl,hc,hRR⟩:=F6 hsb hx;obtain ⟨ac,nc,cc,rfl⟩:=Rd.au hRR.at_.cls
   obtain ⟨ap,np,cp,rfl⟩:=Rd.au hRR.at_.aI
   obtain ⟨al,nl,cl,rfl⟩:=Rd.au hRR.line;obtain ⟨ak,nk,ck,rfl⟩:=Rd.au hRR.kids;have c0:=hc.c0;have c1:=hc.c1;have c2:=hc.c2;have c3:=hc.c3;have c4:=hc.c4;have c5:=hc.c5;have c6:=hc.c6;have c7:=hc.c7;have c8:=hc.c8;have c9:=hc.c9;have c10:=hc.c10;obtain ⟨q,hq⟩:∃ q,q=wr.heap.size:=⟨_,rfl⟩;obtain ⟨w2,hw2⟩:∃ w2,w2=wr.alloc (.cells #[.int .i64 kd,.int .i64 lv,.string i,.string t,.string d,.string ti,.string at_.id,.slice ac nc cc,.slice ap np cp,.slice al nl cl,.slice ak nk ck] 48):=⟨_,rfl⟩;have k2:CB 48 q [.int .i64 kd,.int .i64 lv,.string i,.string t,.string d,.string ti,.string at_.id,.slice ac nc cc,.slice ap np cp,.slice al nl cl,.slice ak nk ck] w2:=by rw [hw2,hq];exact CB.new _ _ _
   have b2:jn9 wr.heap.size wr w2:=by rw [hw2];exact (jk6 _ _).alloc (jk7 _) _
   have hXR:Rd (·<w.heap.size) w2 X.d [.int .i64 kd,.int .i64 lv,.string i,.string t,.string d,.string ti,.string at_.id,.slice ac nc cc,.slice ap np cp,.slice al nl cl,.slice ak nk ck]:=by rw [hX];exact Rd.aY (ah.dS kd lv i t d ti hRR) b2
   have hXL:Rd (·<w.heap.size) w2 (aV li) [.slice al nl cl]:=Rd.aY hRR.line b2;have HXR:=hid hXR;have HXL:=hid hXL;have WW:=hid hX;have K2:=hid k2;have HQ:=hid hq;have HB2:=hid b2;have BC:=hid (O9 kd lv i t d ti at_.id ac ap al ak nc cc np cp nl cl nk ck w2);have e0:=k2.cell 0 _ rfl;have e1:=k2.cell 1 _ rfl;have e2:=k2.cell 2 _ rfl;have e3:=k2.cell 3 _ rfl;have e4:=k2.cell 4 _ rfl;have e5:=k2.cell 5 _ rfl;have e6:=k2.cell 6 _ rfl;have e7:=k2.cell 7 _ rfl;have e8:=k2.cell 8 _ rfl;have e9:=k2.cell 9 _ rfl;have e10:=k2.cell 10 _ rfl;clear hbel hx hvb hsb hs hX hgo hgl hc hRR hXR hXL k2 b2 hbw hq;go_upto_region 6 with (fail)
   rw [<- hw2,<- HQ.out];clear hw2 c0 c1 c2 c3 c4 c5 c6 c7 c8 c9 c10 x1;go_wp2_with fail
   (with_reducible refine BC.out.mono ?_)
   rintro e w3 ⟨rfl,b3⟩;have HB3:=hid (aQ HB2.out b3);have K3:=hid (K2.out.below b3);have Xr:=hid (HXR.out.aY b3);have Xt:=hid (HXL.out.aY b3);have ST3:=hid (HST.out.below HB3.out);have e0:=K3.out.cell 0 _ rfl;have e9:=K3.out.cell 9 _ rfl;clear b3 BC HXR HXL K2;cases hbb:bB kd lv with
   | true=>
    obtain ⟨Pg,hrow⟩:=ST3.out.row;have hxr:Rd (fun b=>b<W0.heap.size\/w3.heap.size<=b) w3 (⟨li,[]⟩:Sl).d [.slice al nl cl,.slice none 0 0]:=Sl.dS ⟨li,[]⟩ (Xt.out.weaken (fun b (hb:b<w.heap.size)=>.inl (by have:=B0.out.size;omega))) (Rd.aC _ _ _);have HXX:=hid hxr;have HRW:=hid hrow;have hsl:s.length=nv:=by have:=ND.out;simpa using this
    have HSL:=hid hsl;have HQO:Hid ((Value.slice av nv cv).ownBlock≠some q):=fun e=>by
     obtain ⟨_,hr⟩:=HST.out.row;have h1:=(hr.own.lt q e).2;have h2:=HQ.out;omega
    have HBG:Hid (gP X=true):=by show _=_;rw [WW.out];exact hbb
    clear hxr hrow hsl hbb;go_wp2_with (at_builtin;refine SV (n:=nv) rfl _ _ 41 rfl iS _ 48 Tryz.underlying41 XR J8 J9 Ka rfl (by decide) HRW.out (fun b hb=>hb) (⟨li,[]⟩:Sl).d [.slice al nl cl,.slice none 0 0] HXX.out rfl (by intro u hu;simp at hu;rcases hu with rfl | rfl<;>rfl) ND.out (by omega) (by decide) rfl rfl ?_)
    intro a7 c7 w7 jh PG;obtain ⟨g7,rfl,-,I8,hm7,jh8⟩:=jh.at_ (by simp)
    unfold maxLen at hm7;have Xu:∀ b,b<w3.heap.size->(Value.slice av nv cv).ownBlock≠some b->w7.heap[b]?=w3.heap[b]?:=fun b hb e=>(PG.block b (by simp;omega) (fun e'=>e e'.symm)).trans (Below.heap_alloc w3 _ b hb)
    have hI:=uF.new (l:=s) (n:=nv+1) jh (by rw [HSL.out]) (Rd.keep (fun b (hb:b<w.heap.size) hlt=>⟨(by have:=B0.out.size;show b<W0.heap.size;omega),Xu b hlt (fun e=>by have h1:=(HRW.out.own.lt b e).1;have h2:=B0.out.size;omega)⟩) _ _ Xt.out);have k7:CB 48 q [.int .i64 kd,.int .i64 lv,.string i,.string t,.string d,.string ti,.string at_.id,.slice ac nc cc,.slice ap np cp,.slice al nl cl,.slice ak nk ck] w7:=(Xu q K3.out.lt HQO.out).trans K3.out;have HI:=hid hI;have e0:=k7.cell 0 _ rfl;clear jh PG Xu hI e9 k7 ST3 Xt Xr K3;by_cases h5:kd=5
    ·have q5:(kd==5)=true:=by rw [h5];rfl
     obtain ⟨y0,y1,yf⟩:=HI.out.cells;rw [HSL.out] at y0;have HF:Hid (Pf W0 l (.slice (some ⟨g7,0,none⟩) (nv+1) c7) (.int .i64 ((k+1:Nat):Int)) (w7.setCell ⟨g7,nv*2,none⟩ (.slice none 0 0))):=⟨k+1,by have:=LP.out;omega,rfl,by
      obtain ⟨wO',hI'⟩:=HI.out.set0;have h:=hI'.st;rw [HSL.out] at h;have e:dQ s X=s++[⟨[],[]⟩]:=by unfold dQ;rw [if_pos HBG.out,WW.out];simp [ah.Ef,h5]
      rw [rX.out,e];exact h⟩
     clear h5 y1;go_wp2;go_roundw;case rel=>exact HF.out
     case measure=>simp [intOf];omega
    ·have q5:(kd==5)=false:=by rw [beq_eq_false_iff_ne];exact h5
     have HF:Hid (Pf W0 l (.slice (some ⟨g7,0,none⟩) (nv+1) c7) (.int .i64 ((k+1:Nat):Int)) w7):=⟨k+1,by have:=LP.out;omega,rfl,by
      have h:=HI.out.st;rw [HSL.out] at h;have e:dQ s X=s++[⟨li,[]⟩]:=by unfold dQ;rw [if_pos HBG.out,WW.out];simp [ah.Ef,ah.Wu,h5]
      rw [rX.out,e];exact h⟩
     clear h5;go_wp2;go_roundw;case rel=>exact HF.out
     case measure=>simp [intOf];omega
   | false=>
    have HBG:Hid (gP X=false):=by show _=_;rw [WW.out];exact hbb
    have hsl:s.length=nv:=by have:=ND.out;simpa using this
    have HSL:=hid hsl;have hst:=HST.out;clear hbb hsl e9;obtain ⟨-,⟨hs0,hv0⟩ | ⟨init,tl,qC,g1,c1,U1,vt1,vb1,tq,rO1,Yx,hs0,hv0,hI⟩⟩:=hst
    case' inl=>
     have jc1:nv=0:=by rw [<- HSL.out,hs0];rfl
     have q0:((nv:Int)==0)=true:=by rw [jc1];rfl
     obtain ⟨Pg,hrow⟩:=ST3.out.row;have hxr:Rd (fun b=>b<W0.heap.size\/w3.heap.size<=b) w3 (⟨[],[]⟩:Sl).d [.slice none 0 0,.slice none 0 0]:=Sl.dS ⟨[],[]⟩ (Rd.aC _ _ _) (Rd.aC _ _ _);have HXX:=hid hxr;have HRW:=hid hrow;have XV:=hid hs0;have HV0:Hid ((Value.slice av nv cv).ownBlock=none):=by show _=_;rw [hv0];rfl
     clear hxr hrow hs0 jc1 hv0;go_wp2_with (at_builtin;refine sJ (n:=nv) rfl _ _ 41 rfl iS _ 48 Tryz.underlying41 XR J8 J9 Ka rfl (by decide) HRW.out (fun b hb=>hb) (⟨[],[]⟩:Sl).d [.slice none 0 0,.slice none 0 0] HXX.out rfl (by intro u hu;simp at hu;rcases hu with rfl | rfl<;>rfl) ND.out (by omega) (by decide) rfl rfl ?_)
     intro a7 c1 w7 jh PG jc2;obtain ⟨g1,rfl,-,I8,hm7,jh8⟩:=jh.at_ (by simp)
     unfold maxLen at hm7;have Xu:∀ b,b<w3.heap.size->w7.heap[b]?=w3.heap[b]?:=fun b hb=>(PG.block b (by simp;omega) (fun e'=>by rw [HV0.out] at e';cases e')).trans (Below.heap_alloc w3 _ b hb)
     have hI:=uF.new (l:=s) (t:=[]) (n:=nv+1) jh (by rw [HSL.out]) (Rd.aC _ _ _);have k7:CB 48 q [.int .i64 kd,.int .i64 lv,.string i,.string t,.string d,.string ti,.string at_.id,.slice ac nc cc,.slice ap np cp,.slice al nl cl,.slice ak nk ck] w7:=(Xu q K3.out.lt).trans K3.out;have hx7:Rd (·<w.heap.size) w7 X.d [.int .i64 kd,.int .i64 lv,.string i,.string t,.string d,.string ti,.string at_.id,.slice ac nc cc,.slice ap np cp,.slice al nl cl,.slice ak nk ck]:=Rd.keep (fun b hb hlt=>⟨hb,Xu b hlt⟩) _ _ Xr.out;have I9:g1≠q:=fun e=>by
      have h2:=K3.out.lt;rcases jc2 with h | h
      ·rw [HV0.out] at h;cases h
      ·have e':g1=w3.heap.size+1:=by simpa [Value.ownBlock] using h
       omega
     obtain ⟨init,tl,qC,U1,vt1,vb1,tq,rO1,Yx,W,nn,⟨hW,hn⟩,Sn,hnn,kW,hXW,Yk,I9,hse,hbn⟩:∃ (init:List Sl) (tl:List aj) (qC:List ah) (U1:Nat) (vt1 vb1:jnj) (tq rO1:List (List jnj)) (Yx W:jn8) (nn:Nat),(W=w7/\nn=nv)/\uF W0 init tl qC g1 c1 U1 vt1 vb1 tq rO1 Yx W/\nn=init.length/\CB 48 q [.int .i64 kd,.int .i64 lv,.string i,.string t,.string d,.string ti,.string at_.id,.slice ac nc cc,.slice ap np cp,.slice al nl cl,.slice ak nk ck] W/\Rd (·<w.heap.size) W X.d [.int .i64 kd,.int .i64 lv,.string i,.string t,.string d,.string ti,.string at_.id,.slice ac nc cc,.slice ap np cp,.slice al nl cl,.slice ak nk ck]/\vb1.ownBlock≠some q/\g1≠q/\yG (l.take (k+1))=init++[⟨tl,qC++[X]⟩]/\qC.length<=1000000:=
      ⟨s,[],[],_,_,_,_,_,_,w7,nv,⟨rfl,rfl⟩,hI,HSL.out.symm,k7,hx7,by simp [Value.ownBlock],I9,by rw [rX.out,XV.out];unfold dQ;rw [if_neg (by rw [HBG.out];simp)];rfl,by simp⟩
     clear jh PG jc2 Xu hI k7 hx7 e0;go_upto_region 12 with (fail)
     rw [<- hW,<- hn];have jh9:nn<=1000001:=by rw [hn];exact Xl
     clear hW hn q0;have hm1:=hm7;have hc1:=I8;rw [show nv+1=nv+1 from rfl] at hc1;have hc1:nn+1<=c1:=by have:=Sn.own;rw [<- hnn] at this;obtain ⟨aa,cc',e,e2,e3⟩:=Sn.row.cap (n:=nn+1) (by simp [hnn]);simp at e;omega
     clear I8 hm7
    case' inr=>
     have jc3:nv=init.length+1:=by rw [<- HSL.out,hs0];simp
     have q0:((nv:Int)==0)=false:=by rw [beq_eq_false_iff_ne];omega
     have HV0:=hid hv0;have XV:=hid hs0;have hil:init.length<=1000001:=by omega
     clear hv0 hs0 jc3;go_upto_region 12 with (fail)
     rw [HV0.out];have Yk:vb1.ownBlock≠some q:=fun e=>by have h1:=(hI.blk.own.lt q e).2;have h2:=HQ.out;omega
     have I9:g1≠q:=fun e=>by have h1:=hI.g1;have h3:=hI.blk.tK;have h2:=HQ.out;have h4:=hI.blk.lX;omega
     have hbn:qC.length<=1000000:=j5.out _ _ _ XV.out;have hse:yG (l.take (k+1))=init++[⟨tl,qC++[X]⟩]:=by rw [rX.out,XV.out,Lr _ _ _ _ HBG.out]
     have hI3:=hI.below HB3.out;obtain ⟨W,hW⟩:∃ W,W=w3:=⟨_,rfl⟩;have Sn:uF W0 init tl qC g1 c1 U1 vt1 vb1 tq rO1 Yx W:=by rw [hW];exact hI3
     have kW:CB 48 q [.int .i64 kd,.int .i64 lv,.string i,.string t,.string d,.string ti,.string at_.id,.slice ac nc cc,.slice ap np cp,.slice al nl cl,.slice ak nk ck] W:=by rw [hW];exact K3.out
     have hXW:Rd (·<w.heap.size) W X.d [.int .i64 kd,.int .i64 lv,.string i,.string t,.string d,.string ti,.string at_.id,.slice ac nc cc,.slice ap np cp,.slice al nl cl,.slice ak nk ck]:=by rw [hW];exact Xr.out
     rw [<- hW];obtain ⟨nn,hnn⟩:∃ nn,nn=init.length:=⟨_,rfl⟩;rw [<- hnn];have jh9:nn<=1000001:=by rw [hnn];exact hil
     clear hil;obtain ⟨aa,cc',e,e2,e3⟩:=Sn.row.cap (n:=nn+1) (by simp [hnn]);have hc1:nn+1<=c1:=by simp at e;omega
     have hm1:c1<=9223372036854775807:=by unfold maxLen at e3;simp at e;omega
     clear hW hI hI3 q0 e e2 e3
    all_goals
     obtain ⟨y0,y1,yf⟩:=Sn.cells;rw [<- hnn] at y1;obtain ⟨mo,hmo⟩:∃ mo,mo=(qC.map ah.d).length:=⟨_,rfl⟩;obtain ⟨ao,co,rfl,hco,hcom⟩:=Sn.blk.cap hmo.symm;have jh0:mo<=1000000:=by rw [hmo,jkq];exact hbn
     unfold maxLen at hcom;have S0:jlz W.drew ⟨g1,nn*2+1,none⟩=some (.slice ao mo co)/\jlz W.drew ⟨q,0,none⟩=some (.int .i64 kd)/\jlz W.drew ⟨q,1,none⟩=some (.int .i64 lv)/\jlz W.drew ⟨q,2,none⟩=some (.string i)/\jlz W.drew ⟨q,3,none⟩=some (.string t)/\jlz W.drew ⟨q,4,none⟩=some (.string d)/\jlz W.drew ⟨q,5,none⟩=some (.string ti)/\jlz W.drew ⟨q,6,none⟩=some (.string at_.id)/\jlz W.drew ⟨q,7,none⟩=some (.slice ac nc cc)/\jlz W.drew ⟨q,8,none⟩=some (.slice ap np cp)/\jlz W.drew ⟨q,9,none⟩=some (.slice al nl cl)/\jlz W.drew ⟨q,10,none⟩=some (.slice ak nk ck):=⟨y1,kW.cell 0 _ rfl,kW.cell 1 _ rfl,kW.cell 2 _ rfl,kW.cell 3 _ rfl,kW.cell 4 _ rfl,kW.cell 5 _ rfl,kW.cell 6 _ rfl,kW.cell 7 _ rfl,kW.cell 8 _ rfl,kW.cell 9 _ rfl,kW.cell 10 _ rfl⟩;have HI:=hid Sn;have Yb:=hid hnn;have Sj:=hid hmo.symm;have Ut:=hid kW;have HXW:=hid hXW;have Rm:=hid Yk;have HGQ:=hid I9;have HSE:=hid hse;have U10:=hid Sn.blk.top.drew;have t0:(0:Int)<=(nn:Int):=by omega
     have t2:(nn:Int)<(nn:Int)+1:=by omega
     have t3:nn<nn+1:=by omega
     have s0:(0:Int)<=(mo:Int):=by omega
     have s2:(mo:Int)<(mo:Int)+1:=by omega
     have s3:mo<mo+1:=by omega
     clear Sn hnn hmo kW hXW Yk I9 hse hbn y0 y1 yf;go_upto_region 13 with (fail)
     refine Qy 13 (fun w'=>jlz w' ⟨g1,nn*2+1,none⟩=some (.slice ao mo co)/\jlz w' ⟨q,0,none⟩=some (.int .i64 kd)/\jlz w' ⟨q,1,none⟩=some (.int .i64 lv)/\jlz w' ⟨q,2,none⟩=some (.string i)/\jlz w' ⟨q,3,none⟩=some (.string t)/\jlz w' ⟨q,4,none⟩=some (.string d)/\jlz w' ⟨q,5,none⟩=some (.string ti)/\jlz w' ⟨q,6,none⟩=some (.string at_.id)/\jlz w' ⟨q,7,none⟩=some (.slice ac nc cc)/\jlz w' ⟨q,8,none⟩=some (.slice ap np cp)/\jlz w' ⟨q,9,none⟩=some (.slice al nl cl)/\jlz w' ⟨q,10,none⟩=some (.slice ak nk ck)) (by kernel_rfl) S0 ?_;intro hH;refine fK 0 (v:=?_) rfl (by kernel_rfl) hH (by rfl) ?_ ?_;rotate_left
     ·(intro wv hSw;(try dsimp only at hSw);go_simp;try with_reducible rfl)
     try simp only [Act.put,jk2,jk3,jk4]
     refine fK 1 (v:=?_) rfl (by kernel_rfl) hH (by rfl) ?_ ?_;rotate_left
     ·(intro wv hSw;(try dsimp only at hSw);go_simp;try with_reducible rfl)
     try simp only [Act.put,jk2,jk3,jk4]
     refine fK 2 (v:=?_) rfl (by kernel_rfl) hH (by rfl) ?_ ?_;rotate_left
     ·(intro wv hSw;(try dsimp only at hSw);go_simp;try with_reducible rfl)
     try simp only [Act.put,jk2,jk3,jk4]
     refine fK 3 (v:=?_) rfl (by kernel_rfl) hH (by rfl) ?_ ?_;rotate_left
     ·(intro wv hSw;(try dsimp only at hSw);go_simp;try with_reducible rfl)
     try simp only [Act.put,jk2,jk3,jk4]
     refine fK 4 (v:=?_) rfl (by kernel_rfl) hH (by rfl) ?_ ?_;rotate_left
     ·(intro wv hSw;(try dsimp only at hSw);go_simp;try with_reducible rfl)
     try simp only [Act.put,jk2,jk3,jk4]
     refine fK 5 (v:=?_) rfl (by kernel_rfl) hH (by rfl) ?_ ?_;rotate_left
     ·(intro wv hSw;(try dsimp only at hSw);go_simp;try with_reducible rfl)
     try simp only [Act.put,jk2,jk3,jk4]
     refine fK 6 (v:=?_) rfl (by kernel_rfl) hH (by rfl) ?_ ?_;rotate_left
     ·(intro wv hSw;(try dsimp only at hSw);go_simp;try with_reducible rfl)
     try simp only [Act.put,jk2,jk3,jk4]
     refine q01 (i:=7) rfl (by kernel_rfl) (fun KQ hK=>?_);go_simp;refine hK.out _ _ (fun _ _=>⟨past S0.1 _,past S0.2.1 _,past S0.2.2.1 _,past S0.2.2.2.1 _,past S0.2.2.2.2.1 _,past S0.2.2.2.2.2.1 _,past S0.2.2.2.2.2.2.1 _,past S0.2.2.2.2.2.2.2.1 _,past S0.2.2.2.2.2.2.2.2.1 _,past S0.2.2.2.2.2.2.2.2.2.1 _,past S0.2.2.2.2.2.2.2.2.2.2.1 _,past S0.2.2.2.2.2.2.2.2.2.2.2 _⟩) (fun hH2=>?_);clear hK KQ hH;have hH:=hH2 (by decide) (by kernel_rfl);clear hH2;try simp only [Act.put,jk2,jk3,jk4]
     refine q01 (i:=8) rfl (by kernel_rfl) (fun KQ hK=>?_);refine qL rfl (.tmp 50) (.tmp 53) 22 rfl iB _ 192 Tryz.underlying22 Bu Xg Xh Ke rfl (by decide) U10.out (fun b hb=>by have:=HI.out.g0;have:=HI.out.g1;show b<_;have:b<W0.heap.size:=hb;omega) (ah.mk 0 0 ⟨#[]⟩ ⟨#[]⟩ ⟨#[]⟩ ⟨#[]⟩ ⟨⟨#[]⟩,[],[]⟩ [] []).d [.int .i64 0,.int .i64 0,.string ⟨#[]⟩,.string ⟨#[]⟩,.string ⟨#[]⟩,.string ⟨#[]⟩,.string ⟨#[]⟩,.slice none 0 0,.slice none 0 0,.slice none 0 0,.slice none 0 0] (Jz _ _) rfl E8 Sj.out (by omega) (by decide) rfl rfl ?_;intro g5 c5 w5 bg hg5 tL Fw;have hz5:W.heap.size+1<=w5.heap.size:=by have:=hg5.size;simp at this;exact this
     have hO1:=HI.out.g1;have hO2:=HI.out.g0;have hO3:=HI.out.blk.lX;have jhj:Yx.heap.size<=g5:=(bg.own.lt g5 rfl).1;have I9:g5≠q:=fun e=>by
      rcases tL with h | h
      ·exact Rm.out (by rw [<- e];exact h)
      ·have h1:=Ut.out.lt;have hz9:W.drew.heap.size=W.heap.size:=rfl;omega
     have hgp:g1≠g5:=by omega
     have hov:∀ b,(Value.slice ao mo co).ownBlock=some b->Yx.heap.size<=b:=fun b e=>(HI.out.blk.own.lt b e).1
     have hk5:∀ b,b<W.heap.size->(Value.slice ao mo co).ownBlock≠some b->w5.heap[b]?=W.heap[b]?:=fun b hb e=>(hg5.block b (by simp;omega) (fun e'=>e e'.symm)).trans (Below.heap_alloc W _ b hb)
     have rR:CB 48 q [.int .i64 kd,.int .i64 lv,.string i,.string t,.string d,.string ti,.string at_.id,.slice ac nc cc,.slice ap np cp,.slice al nl cl,.slice ak nk ck] w5:=(hk5 q Ut.out.lt Rm.out).trans Ut.out;have kg5:w5.heap[g1]?=W.heap[g1]?:=hk5 g1 (by omega) (fun e=>by have:=hov g1 e;omega);obtain ⟨-,yv,yfz⟩:=HI.out.cells;rw [<- Yb.out] at yv;have HYV:=hid yv;have HYF:=hid yfz;have zp:w5.cell? ⟨g1,nn*2+1,none⟩=some (.slice ao mo co):=(gH kg5 _).trans HYV.out;have zpf:w5.frozen? ⟨g1,nn*2+1,none⟩=false:=(Fh kg5 _).trans (HYF.out _);have S5:jlz w5 ⟨g1,nn*2+1,none⟩=some (.slice ao mo co)/\jlz w5 ⟨q,0,none⟩=some (.int .i64 kd)/\jlz w5 ⟨q,1,none⟩=some (.int .i64 lv)/\jlz w5 ⟨q,2,none⟩=some (.string i)/\jlz w5 ⟨q,3,none⟩=some (.string t)/\jlz w5 ⟨q,4,none⟩=some (.string d)/\jlz w5 ⟨q,5,none⟩=some (.string ti)/\jlz w5 ⟨q,6,none⟩=some (.string at_.id)/\jlz w5 ⟨q,7,none⟩=some (.slice ac nc cc)/\jlz w5 ⟨q,8,none⟩=some (.slice ap np cp)/\jlz w5 ⟨q,9,none⟩=some (.slice al nl cl)/\jlz w5 ⟨q,10,none⟩=some (.slice ak nk ck):=⟨zp,rR.cell 0 _ rfl,rR.cell 1 _ rfl,rR.cell 2 _ rfl,rR.cell 3 _ rfl,rR.cell 4 _ rfl,rR.cell 5 _ rfl,rR.cell 6 _ rfl,rR.cell 7 _ rfl,rR.cell 8 _ rfl,rR.cell 9 _ rfl,rR.cell 10 _ rfl⟩;obtain ⟨yc,yf⟩:=bg.Ju Sj.out;have y0:jlz w5 ⟨g5,mo*11,none⟩=some (.int .i64 0):=yc 0 _ rfl;have y1:=yc 1 _ rfl;have y2:=yc 2 _ rfl;have y3:=yc 3 _ rfl;have y4:=yc 4 _ rfl;have y5:=yc 5 _ rfl;have y6:=yc 6 _ rfl;have y7:=yc 7 _ rfl;have y8:=yc 8 _ rfl;have y9:=yc 9 _ rfl;have y10:=yc 10 _ rfl;have Y9:=hid (HI.out.push (x:=X) (r1:=[.int .i64 kd,.int .i64 lv,.string i,.string t,.string d,.string ti,.string at_.id,.slice ac nc cc,.slice ap np cp,.slice al nl cl,.slice ak nk ck]) Sj.out bg rfl hk5 (by omega) ⟨hg5.os,hg5.tape,hg5.output⟩ (Rd.keep (fun b (hb:b<w.heap.size) hlt=>⟨(by have:=B0.out.size;show b<W0.heap.size;omega),hk5 b hlt (fun e=>by have:=hov b e;have:=B0.out.size;omega)⟩) _ _ HXW.out));refine hK.out _ _ (fun _ _=>S5) (fun hH2=>?_);clear hK KQ hH;have hH:=hH2 (by decide) (by kernel_rfl);clear hH2 yv yfz;try simp only [Act.put,jk2,jk3,jk4]
     refine fK 11 (v:=?_) rfl (by kernel_rfl) hH (by rfl) ?_ ?_;rotate_left
     ·(intro wv hSw;(try dsimp only at hSw);go_simp;try with_reducible rfl)
     try simp only [Act.put,jk2,jk3,jk4]
     refine fK 12 (v:=?_) rfl (by kernel_rfl) hH (by rfl) ?_ ?_;rotate_left
     ·(intro wv hSw;(try dsimp only at hSw);go_simp;try with_reducible rfl)
     try simp only [Act.put,jk2,jk3,jk4]
     have gZ:w5.grownBy (w5.setCell ⟨g1,nn*2+1,none⟩ (.slice (some ⟨g5,0,none⟩) (mo+1) c5)) (some g1):=⟨rfl,rfl,rfl,by simp [jm0],fun b _ hb=>jl0 w5 ⟨g1,nn*2+1,none⟩ _ b (fun e=>hb (by rw [e]))⟩;obtain ⟨wZ,Vn,mM⟩:=bg.qP (p:=g1) hO1 (fun (h:g1<W0.heap.size)=>by omega) gZ;obtain ⟨uc,uf⟩:=mM.Ju Sj.out;have u0:jlz (w5.setCell ⟨g1,nn*2+1,none⟩ (.slice (some ⟨g5,0,none⟩) (mo+1) c5)) ⟨g5,mo*11,none⟩=some (.int .i64 0):=uc 0 _ rfl;have u1:=uc 1 _ rfl;have u2:=uc 2 _ rfl;have u3:=uc 3 _ rfl;have u4:=uc 4 _ rfl;have u5:=uc 5 _ rfl;have u6:=uc 6 _ rfl;have u7:=uc 7 _ rfl;have u8:=uc 8 _ rfl;have u9:=uc 9 _ rfl;have u10:=uc 10 _ rfl;have kq6:CB 48 q [.int .i64 kd,.int .i64 lv,.string i,.string t,.string d,.string ti,.string at_.id,.slice ac nc cc,.slice ap np cp,.slice al nl cl,.slice ak nk ck] (jZ w5 g5 (mo*11) [.int .i64 kd,.int .i64 lv,.string i,.string t,.string d,.string ti,.string at_.id,.slice ac nc cc,.slice ap np cp,.slice al nl cl,.slice ak nk ck]):=(RO g5 _ _ _ q (fun e=>I9 e.symm)).trans rR;have kg6:(jZ w5 g5 (mo*11) [.int .i64 kd,.int .i64 lv,.string i,.string t,.string d,.string ti,.string at_.id,.slice ac nc cc,.slice ap np cp,.slice al nl cl,.slice ak nk ck]).heap[g1]?=W.heap[g1]?:=(RO g5 _ _ _ g1 hgp).trans kg5;have zp6:jlz (jZ w5 g5 (mo*11) [.int .i64 kd,.int .i64 lv,.string i,.string t,.string d,.string ti,.string at_.id,.slice ac nc cc,.slice ap np cp,.slice al nl cl,.slice ak nk ck]) ⟨g1,nn*2+1,none⟩=some (.slice ao mo co):=(gH kg6 _).trans HYV.out;have VL:World.frozen? (jZ w5 g5 (mo*11) [.int .i64 kd,.int .i64 lv,.string i,.string t,.string d,.string ti,.string at_.id,.slice ac nc cc,.slice ap np cp,.slice al nl cl,.slice ak nk ck]) ⟨g1,nn*2+1,none⟩=false:=(Fh kg6 _).trans (HYF.out _);have jy:=hid kq6;have jhk:=hid zp6;have FD:=hid hgp;clear kq6 kg6 gZ Vn mM uc yc bg hg5 tL Fw I9 hk5 rR kg5 S0 hgp hov hO1 hO2 hO3 jhj;apply MP;case hm=>
      intro REST;refine D5 (i:=9) (j:=13) rfl rfl (by kernel_rfl) (fun KQ hK=>?_) (fun KQ hK=>?_);rotate_left
      ·go_simp;refine hK.out _ _ (fun h=>absurd rfl h) (fun _=>?_);clear hK KQ;try simp only [Act.put,jk2,jk3,jk4]
       refine q01 (i:=9) rfl (by kernel_rfl) (fun KQ hK=>?_);go_simp;refine hK.out _ _ (fun _ h=>absurd h (by decide)) (fun _=>?_);clear hK KQ;try simp only [Act.put,jk2,jk3,jk4]
       refine q01 (i:=10) rfl (by kernel_rfl) (fun KQ hK=>?_);go_simp;refine hK.out _ (jZ (w5.setCell ⟨g1,nn*2+1,none⟩ (.slice (some ⟨g5,0,none⟩) (mo+1) c5)) g5 (mo*11) [.int .i64 kd,.int .i64 lv,.string i,.string t,.string d,.string ti,.string at_.id,.slice ac nc cc,.slice ap np cp,.slice al nl cl,.slice ak nk ck]) (fun _ h=>absurd h (by decide)) (fun _=>?_);clear hK KQ;try simp only [Act.put,jk2,jk3,jk4]
       refine D6 (by kernel_rfl) ?_ _;rw [kT g5 g1 _ _ FD.out];exact REST
      go_simp;refine hK.out _ _ (fun _ _=>S5) (fun hH2=>?_);clear hK KQ;have hH:=hH2 (by decide) (by kernel_rfl);clear hH2;try simp only [Act.put,jk2,jk3,jk4]
      refine D5 (i:=10) (j:=13) rfl rfl (by kernel_rfl) (fun KQ hK=>?_) (fun KQ hK=>?_)
      ·go_simp;refine hK.out _ (jZ w5 g5 (mo*11) [.int .i64 kd,.int .i64 lv,.string i,.string t,.string d,.string ti,.string at_.id,.slice ac nc cc,.slice ap np cp,.slice al nl cl,.slice ak nk ck]) (fun _ _=>⟨jhk.out,jy.out.cell 0 _ rfl,jy.out.cell 1 _ rfl,jy.out.cell 2 _ rfl,jy.out.cell 3 _ rfl,jy.out.cell 4 _ rfl,jy.out.cell 5 _ rfl,jy.out.cell 6 _ rfl,jy.out.cell 7 _ rfl,jy.out.cell 8 _ rfl,jy.out.cell 9 _ rfl,jy.out.cell 10 _ rfl⟩) (fun hH2=>?_);clear hK KQ;have hH:=hH2 (by decide) (by kernel_rfl);clear hH2;try simp only [Act.put,jk2,jk3,jk4]
       refine q01 (i:=13) rfl (by kernel_rfl) (fun KQ hK=>?_);go_simp;refine hK.out _ _ (fun h=>absurd rfl h) (fun _=>?_);clear hK KQ;try simp only [Act.put,jk2,jk3,jk4]
       refine D6 (by kernel_rfl) ?_ _;exact REST
      ·go_simp;refine hK.out _ _ (fun h=>absurd rfl h) (fun _=>?_);clear hK KQ;try simp only [Act.put,jk2,jk3,jk4]
       refine q01 (i:=10) rfl (by kernel_rfl) (fun KQ hK=>?_);go_simp;refine hK.out _ (jZ (w5.setCell ⟨g1,nn*2+1,none⟩ (.slice (some ⟨g5,0,none⟩) (mo+1) c5)) g5 (mo*11) [.int .i64 kd,.int .i64 lv,.string i,.string t,.string d,.string ti,.string at_.id,.slice ac nc cc,.slice ap np cp,.slice al nl cl,.slice ak nk ck]) (fun _ h=>absurd h (by decide)) (fun _=>?_);clear hK KQ;try simp only [Act.put,jk2,jk3,jk4]
       refine D6 (by kernel_rfl) ?_ _;rw [kT g5 g1 _ _ FD.out];exact REST
     case hr=>
      clear S5 y0 y1 y2 y3 y4 y5 y6 y7 y8 y9 y10 yf u0 u1 u2 u3 u4 u5 u6 u7 u8 u9 u10 uf zp zpf zp6 VL t0 t2 t3 s0 s2 s3;obtain ⟨w8,hw8⟩:∃ w8,w8=(jZ w5 g5 (mo*11) [.int .i64 kd,.int .i64 lv,.string i,.string t,.string d,.string ti,.string at_.id,.slice ac nc cc,.slice ap np cp,.slice al nl cl,.slice ak nk ck]).setCell ⟨g1,nn*2+1,none⟩ (.slice (some ⟨g5,0,none⟩) (mo+1) c5):=⟨_,rfl⟩;have HF:Hid (Pf W0 l (.slice (some ⟨g1,0,none⟩) (nn+1) c1) (.int .i64 ((k+1:Nat):Int)) w8):=⟨k+1,by have:=LP.out;omega,rfl,by
       obtain ⟨wO',hI'⟩:=Y9.out;have h:=hI'.st;rw [HSE.out,hw8,Yb.out];exact h⟩
      rw [<- hw8];clear hw8;go_wp2;go_roundw;case rel=>exact HF.out
      case measure=>simp [intOf];omega
  ·have hkl:k=l.length:=by have:=LP.out;omega
   obtain ⟨Pg,hrow⟩:=HST.out.row;have hrd:Rd (·<wr.heap.size) wr (.sl 2 ((yG l).map Sl.d)) [.slice av nv cv]:=by rw [hkl,List.take_length] at hrow;exact Rd.keep (fun b _ hlt=>⟨hlt,rfl⟩) _ _ hrow.rd
   have CJ:=hid hrd;have HBF:=hid (B0.out.trans (Di.out.mono B0.out.size));clear hkl hrd hbel hrow;go_wp2;go_ret;exact ⟨_,rfl,CJ.out,HBF.out⟩
end Go.Proofs.YtkfnkeflalcphaaGreatDoor

