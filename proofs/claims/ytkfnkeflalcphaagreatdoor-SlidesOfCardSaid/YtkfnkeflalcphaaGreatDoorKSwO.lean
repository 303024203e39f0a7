/- Contract of slides.Page. The small case with which each statement of layer 43 ends: it answers true. Law 43: awake answers true. The walk of publisherlaw43.SlidesOf. -/
import Derived.Test.YtkfnkeflalcphaaGreatDoorKSrW
import Derived.Test.YtkfnkeflalcphaaGreatDoorKHwD
set_option maxHeartbeats 8000000
set_option maxRecDepth 100000
open Go.Lib (hid)
namespace Go.Proofs.YtkfnkeflalcphaaGreatDoor
open List renaming setIfInBounds_toArray->jk2,set_cons_zero->jk3,set_cons_succ->jk4,length_map->jkq
open Go.RowKit.Below renaming refl->jk6
open Nat renaming le_refl->jk7
open Go.World renaming size_alloc->jl4
open Go renaming World->jn8
open Go.RowKit renaming Below->jn9
open Go.RowKit
set_option linter.unusedVariables false
set_option linter.unusedSimpArgs false
theorem Cn:∀ (l:List ah),ah.aF l↔∀ b∈l,b.small
 | []=>by unfold ah.aF;simp
 | x::l=>by rw [ah.aF,Cn l];simp
theorem Fj:∀ (L:List (List ah)) (s:List ah),s∈L->(ah.aT s).length<=(ah.aT L.flatten).length
 | [],_,h=>by cases h
 | x::L,s,h=>by
  rw [List.flatten_cons,ah.qV,List.length_append];rcases List.mem_cons.1 h with rfl | h
  ·omega
  ·have:=Fj L s h;omega
theorem Ph (l:List ah):∀ p∈dX l,(ah.aT p.bl).length<=(ah.aT l).length:=by
 intro p hp;rw [qj] at hp;obtain ⟨s,hs,rfl⟩:=List.mem_map.1 hp;have h1:=Fj _ s hs;rw [ru l.length l (jk7 _)] at h1;rw [um];refine Nat.le_trans ?_ h1;unfold jV;split
 ·split
  ·rw [ah.aT,List.length_append];omega
  ·exact jk7 _
 ·exact jk7 _
theorem Pj (l:List ah) (h:ah.aF l):∀ p∈dX l,ah.aF p.bl:=fun p hp=>(Cn _).2 fun b hb=>(Cn _).1 h b (E9 l p hp b hb)
theorem Pk {l:List ah} (h:zF l=0):∀ p∈dX l,zF p.bl=0:=by intro p hp;rw [qj] at hp;obtain ⟨s,hs,rfl⟩:=List.mem_map.1 hp;obtain ⟨h1,h2⟩:=vT h;obtain ⟨h3,h4⟩:=Wy pW l h1 (by rw [ah.jc];exact h2) s hs;rw [ah.jc] at h4;rw [um];unfold zF;rw [if_neg (by rw [h3];simp),h4];rfl
theorem aB.jc4 (w:jn8) (p:Pr):Rd (w.heap.size<=·) (w.alloc (.cells #[.string p.key,.string p.val] 61)) (bR [p]) [.slice (some ⟨w.heap.size,0,none⟩) 1 1]:=
 Rd.slB (rows:=[[.string p.key,.string p.val]]) (l:=[p.d]) (jk7 _) (by decide) (aH.one (Pr.dS _ _ p)) (by simp) (jk7 _) (by rw [jl4];omega)
  (fun j u hu=>(CB.new 61 [.string p.key,.string p.val] w).cell j u (by simpa using hu))
def Xv (me:List Pr) (l:List ah) (title lang:ByteArray):Nd:=if Kk me l title lang=0 then eU title lang (Od l) else mU
def Pm (w4:jn8) (P:List Pt) (v vi:Value) (wr:jn8):Prop:=∃ (k:Nat) (rows:List (List Value)),k<=P.length/\vi=.int .i64 k/\aB 35 4 (fun _=>False) wr.heap.size w4 (((P.take k).map (fun p=>tT p.bl)).map Nd.d) rows v wr
def Pn (wA:jn8) (p3:Nat) (V:Value) (vi:Value) (wr:jn8):Prop:=∃ k:Nat,k<=2/\vi=.int .i64 k/\(k<=1->wr=wA)/\(k=2->wr=wA.setCell ⟨p3,7,none⟩ V)
theorem Am (me:List Pr) (l:List ah) (title lang:ByteArray) (vm vb:Value) (w:jn8) (hm:Rd (·<w.heap.size) w (bR me) [vm]) (hb:Rd (·<w.heap.size) w (iU l) [vb]) (hme:me.length<=1000) (su:∀ p∈me,p.key.size<=1000/\p.val.size<=1000) (hall:ah.bU l<=32768) (hsm:ah.aF l) (hsz:ah.aU l<=900000) (hil:(ah.aT l).length<=1000) (hbd:ah.kV l) (hti:title.size<=300) (hla:lang.size<=300) (ht:PT w) : Calls Tryz.prog 23 #[.agg #[vm,vb],.string title,.string lang] w (wF w (Kk me l title lang) (Xv me l title lang)):=by
 obtain ⟨am,nm,cm,rfl⟩:=Rd.au hm;obtain ⟨ab,nb,cb,rfl⟩:=Rd.au hb;obtain ⟨iN,Fv,nX,nY,nZ⟩:=info_parts mE;obtain ⟨S,W0,hS,hW0,z0,k0,k1,b0⟩:=qQ 26 w [.slice am nm cm,.slice ab nb cb];have Km:jn9 w.heap.size w W0:=by rw [<- hS];exact b0
 have PC:=hid (Gn me l title lang _ _ W0 (hm.up Km) (hb.up Km) hme su hall hsm hsz hil hbd hti hla (ht.below Km));have HB:=hid hb;have qE:Hid (∀ W,jn9 w.heap.size w W->PT W):=fun W hW=>ht.below hW
 have CF:=hid hS;have HW0:=hid hW0;have Z0:=hid z0;have B0:=hid b0;have B0w:=hid Km;have K1:=hid k1;have X0:Hid (∀ W:jn8,jn9 W0.heap.size W0 W->W.cell? ⟨S,1,none⟩=some (.slice ab nb cb)):=fun W hW=>(k0.below hW).cell 1 _ rfl
 have x0:=k0.cell 0 _ rfl;have x1:=k0.cell 1 _ rfl;have hP1:=Fb l;have hP2:=Ph l;have hP3:=Pj l hsm;have Ur:=Fe l hbd;have hP5:=Ak l;have Xi:=fun h=>Pk (l:=l) h
 have hll:=ah.dn l;have hbe:Kk me l title lang=0->zF l=0:=fun h=>VN h
 obtain ⟨E,hE⟩:∃ E,E=Kk me l title lang:=⟨_,rfl⟩;obtain ⟨X,hX⟩:∃ X,X=Tw me l title lang:=⟨_,rfl⟩;have LU:X=if E=0 then eU title lang (eG l) else mU:=by rw [hX,hE];rfl
 have hsp:Xv me l title lang=if E=0 then eU title lang (Od l) else mU:=by rw [hE];rfl
 rw [<- hE,<- hX] at PC;rw [<- hE] at hbe;rw [<- hE];obtain ⟨Z,hZ⟩:∃ Z,Z=Xv me l title lang:=⟨_,rfl⟩;rw [<- hZ];have HZZ:Hid (Z=if E=0 then eU title lang (Od l) else mU):=by show _=_;rw [hZ,hsp]
 have UQ:=hid hbe;have RH:=hid hP1;have LJ:=hid hP2;have HPS:=hid hP3;have Vw:=hid Ur;have HP6:=hid Xi;have Yt:Hid ((dX l).length<=900001):=by show _<=_;omega
 have XT:Hid (l.length<=900000):=by show _<=_;omega
 have Iy:=hid hsz;have HIL:=hid hil;have WW:=hid LU;clear hm hb hme su hall hsm hsz hil hbd hti hla ht hS hW0 z0 k0 k1 b0 Km hP1 hP2 hP3 Ur hP5 Xi hll hbe hE hX LU hsp hZ;go_enter Tryz.func23,Tryz.ntmps23;go_upto_region 1 with (fail)
 rw [<- CF.out];have hk0:=HW0.out;simp only [jG] at hk0;rw [<- hk0];clear hk0;obtain ⟨xn,xt,xa,xk⟩:=X;go_wp2_with fail
 (with_reducible refine PC.out.mono ?_)
 rintro e w2 ⟨va,vk,he,hN,b2,hx2⟩;obtain ⟨aA,nA,cA,rfl⟩:=Rd.au hN.at_
 obtain ⟨aK,nK,cK,rfl⟩:=Rd.au hN.ks;have he:e=.returned (.tuple #[.agg #[.string xn,.string xt,.slice aA nA cA,.slice aK nK cK],.int .i64 (E:Int)]):=he;subst he;obtain ⟨Bp,Bv⟩:∃ Bp,Bp=w2.heap.size:=⟨_,rfl⟩;obtain ⟨w3,hw3⟩:∃ w3,w3=w2.alloc (.cells #[.string xn,.string xt,.slice aA nA cA,.slice aK nK cK] 35):=⟨_,rfl⟩;have k3:CB 35 Bp [.string xn,.string xt,.slice aA nA cA,.slice aK nK cK] w3:=by rw [hw3,Bv];exact CB.new _ _ _
 have b23:jn9 w2.heap.size w2 w3:=by rw [hw3];exact (jk6 _ _).alloc (jk7 _) _
 have B3:=hid (aQ b2 b23);have HB2:=hid b2;have B23:=hid b23;have K3:=hid k3;have HBP:=hid Bv;have HX2:=hid hx2;clear x0 x1 hN b2 b23 k3 PC hx2;go_upto_region 2 with (fail)
 rw [<- hw3,<- Bv];clear hw3 Bv;by_cases h0:E=0
 ·have hz:Z=eU title lang (Od l):=by rw [HZZ.out,if_pos h0]
  have HZ0:=hid hz;have hXf:Nd.mk xn xt xa xk=eU title lang (eG l):=by rw [WW.out,if_pos h0]
  obtain ⟨rfl,rfl,rfl,rfl⟩:xn=kN/\xt=⟨#[]⟩/\xa=[⟨iJ,lang⟩]/\xk=[aP iR [] [aP jk [⟨CO,gG⟩] [],aP fP [] (bS title)],aP gF [] (eG l)]:=by have h:=hXf;unfold eU aP at h;simpa [aP] using h
  have hx:=HX2.out h0;obtain ⟨p3,kh,bv,hvk,hp3,hCB,hKH,hAT⟩:=hx;have jc5:Hid (p3<Bp):=by show _<_;rw [HBP.out];exact (Array.getElem?_eq_some_iff.1 hCB).1
  obtain ⟨rfl,rfl,rfl⟩:aK=some ⟨p3,0,none⟩/\nK=2/\cK=2:=by simpa using hvk
  have hbs:=UQ.out h0;have HBS:=hid hbs;have q0:((E:Int) != 0)=false:=by rw [h0];rfl
  have HE0:=hid h0;have PX:=hid (CB.below hCB B23.out);have HKH:=hid (Rd.aY hKH B23.out);have HAT:=hid (Rd.aY hAT B23.out);have Fx:=hid hp3;have PA:=hid (Aj l _ w3 (HB.out.up (B0w.out.trans (B3.out.mono B0w.out.size))) (by have:=XT.out;omega));obtain ⟨P,hP⟩:∃ P,P=dX l:=⟨_,rfl⟩;rw [<- hP] at PA;have HPP:=hid hP;have x1:=X0.out w3 B3.out;clear hz hXf hvk hp3 hCB hKH hAT hbs h0 hP HX2;go_wp2_with fail
  (with_reducible refine PA.out.mono ?_)
  rintro e w4 ⟨v4,rfl,h4,b4⟩;obtain ⟨a4,c4,hv4,hs4⟩:=Rd.ay h4;obtain ⟨nP,JD⟩:∃ nP,nP=P.length:=⟨_,rfl⟩;obtain rfl:v4=.slice a4 nP c4:=by rw [JD];simpa using hv4
  have hc4:nP<=c4:=by rw [JD];simpa using hs4.le
  have PD:=hs4.max;unfold maxLen at PD;have hnp:nP<=900001:=by rw [JD,HPP.out];exact Yt.out
  have JE:=hid JD;have HS4:=hid hs4;have B4:=hid (aQ B3.out b4);have B34:=hid b4;have R0:Hid (Pm w4 P (.slice none 0 0) (.int .i64 0) w4):=⟨0,[],Nat.zero_le _,rfl,aB.nil _ _ _ _⟩;clear hv4 h4 hs4 b4 JD PA x1;go_wp2
  go_loopw [10,32] (fun v vi wr=>Pm w4 P v vi wr) (fun _ i _=>nP-(intOf i).toNat)
  case atStart=>exact R0.out
  case round=>
   clear R0;obtain ⟨k,rows,hk,rfl,hR⟩:=hrel;obtain ⟨nv,sH⟩:∃ nv,nv=(((P.take k).map (fun p=>tT p.bl)).map Nd.d).length:=⟨_,rfl⟩;obtain ⟨av,cv,rfl,hcv,hcm⟩:=hR.cap sH.symm;unfold maxLen at hcm;have Xl:nv<=900001:=by have:=JE.out;rw [sH,jkq,jkq,List.length_take];omega
   have ND:=hid sH.symm;have hbel:=hR.aO;have HRW:=hid hR;clear hR sH;by_cases hlt:k<nP
   ·obtain ⟨x,hx⟩:∃ x,P[k]?=some x:=⟨_,List.getElem?_eq_getElem (by have:=JE.out;omega)⟩;have hxm:x∈dX l:=by rw [<- HPP.out];exact List.mem_of_getElem? hx
    obtain ⟨b,off,ha,hok,hb,hcx⟩:=HS4.out.at_ (by rw [jkq];have:=JE.out;omega)
    subst ha;obtain ⟨r,hr,hrl,hcell⟩:=hcx k x.d (by rw [List.getElem?_map,hx];rfl);obtain ⟨vbl,rfl,hbl⟩:=Pt.open_ hr;obtain ⟨al,nl,cl,rfl⟩:=Rd.au hbl;have c0:wr.cell? ⟨b,off+k*2,none⟩=some (.bool x.ti):=(hbel.cell (p:=⟨_,_,none⟩) hb).trans (hcell 0 _ rfl);have c1':wr.cell? ⟨b,off+k*2+1,none⟩=some (.slice al nl cl):=(hbel.cell (p:=⟨_,_,none⟩) hb).trans (hcell 1 _ rfl);obtain ⟨q,hq⟩:∃ q,q=wr.heap.size:=⟨_,rfl⟩;obtain ⟨tb,htb⟩:∃ tb,tb=x.ti:=⟨_,rfl⟩;rw [<- htb] at c0;obtain ⟨w5,Gi⟩:∃ w5,w5=wr.alloc (.cells #[.bool tb,.slice al nl cl] 96):=⟨_,rfl⟩;have k5:CB 96 q [.bool tb,.slice al nl cl] w5:=by rw [Gi,hq];exact CB.new _ _ _
    have b5:jn9 wr.heap.size wr w5:=by rw [Gi];exact (jk6 _ _).alloc (jk7 _) _
    have B5:=aQ hbel b5;have B5w:jn9 w.heap.size w w5:=aQ (aQ B0w.out B4.out) B5;have BC:=I5 x.bl (.slice al nl cl) w5 (hbl.up B5) (HPS.out x hxm) (by have:=RH.out x hxm;have:=Iy.out;omega) (by have:=LJ.out x hxm;have:=HIL.out;omega) (Vw.out x hxm) (qE.out _ B5w);have hbx:=HP6.out HBS.out x hxm;have hbn:Tv x.bl=eG x.bl:=by unfold Tv;rw [if_pos hbx]
    rw [hbx,hbn] at BC;have uY:=hid BC;have HQ:=hid hq;have HX:=hid hx;have xY:=hid b5;have e1:=k5.cell 1 _ rfl;clear hr hcell hrl hbl hok hb hx hxm hcx k5 b5 B5 B5w BC hbx hbn htb hq;go_upto_region 8 with (fail)
    rw [<- Gi];simp only [<- HQ.out];clear Gi c0 c1';go_wp2_with fail
    (with_reducible refine uY.out.mono ?_)
    rintro e w6 ⟨Zx,v6,rfl,Cz⟩;obtain ⟨a6,n6,c6,rfl⟩:=Cz.slice3;obtain ⟨p7,VX⟩:∃ p7,p7=w6.heap.size:=⟨_,rfl⟩;obtain ⟨w7,hw7⟩:∃ w7,w7=w6.alloc (.cells #[.string ⟨#[99,108,97,115,115]⟩,.string ⟨#[115,108,105,100,101]⟩] 61):=⟨_,rfl⟩;have b7:jn9 w6.heap.size w6 w7:=by rw [hw7];exact (jk6 _ _).alloc (jk7 _) _
    have B7:=xY.out.trans ((Cz.aO.trans (b7.mono Cz.aO.size)).mono xY.out.size);have jhq:wr.heap.size<=p7:=by have:=xY.out.size;have:=Cz.aO.size;omega
    have jc6:Rd (fun b=>False\/wr.heap.size<=b) w7 (bR [⟨iw,BS⟩]) [.slice (some ⟨p7,0,none⟩) 1 1]:=by have h:=aB.jc4 w6 ⟨iw,BS⟩;rw [hw7,VX];exact h.weaken (fun b hb=>.inr (by omega))
    have jc7:Rd (fun b=>False\/wr.heap.size<=b) w7 (cO (eG x.bl)) [.slice a6 n6 c6]:=(Cz.fu.aY b7).weaken (fun b hb=>.inr (by have:=xY.out.size;omega));have HX7:=hid (Nd.dS eH ⟨#[]⟩ ⟨jc6,jc7⟩);have HR7:=hid (HRW.out.below B7);have HQ7:=hid VX;clear Cz b7 B7 jc6 jc7 VX jhq uY e1;go_upto_region 12 with (fail)
    rw [<- hw7];simp only [<- HQ7.out];clear hw7;go_wp2_with (at_builtin;refine SV (n:=nv) rfl _ _ 28 rfl iN _ 80 Tryz.underlying28 Fv nX nY nZ rfl (by decide) HR7.out (fun b hb=>hb.elim) (tT x.bl).d [.string ⟨#[115,101,99,116,105,111,110]⟩,.string ⟨#[]⟩,.slice (some ⟨p7,0,none⟩) 1 1,.slice a6 n6 c6] HX7.out rfl jH ND.out (by omega) (by decide) rfl rfl ?_)
    intro a8 c8 w8 zI Ye;have hf:Pm w4 P (.slice a8 (nv+1) c8) (.int .i64 ((k+1:Nat):Int)) w8:=by
     refine ⟨k+1,rows++[[.string ⟨#[115,101,99,116,105,111,110]⟩,.string ⟨#[]⟩,.slice (some ⟨p7,0,none⟩) 1 1,.slice a6 n6 c6]],by have:=JE.out;omega,rfl,?_⟩;have e:((P.take (k+1)).map (fun p=>tT p.bl)).map Nd.d=List.take k (List.map (Nd.d ∘ fun p=>tT p.bl) P)++[(tT x.bl).d]:=by rw [List.take_add_one,HX.out];simp
     rw [e];exact zI
    have HF:=hid hf;clear zI Ye hf;go_wp2;go_roundw;case rel=>exact HF.out
    case measure=>simp [intOf];omega
   ·obtain ⟨wA,hA⟩:∃ wA,wA=wr:=⟨_,rfl⟩;subst hA;have hkl:k=P.length:=by have:=JE.out;omega
    have hrow:aB 35 4 (fun _=>False) wA.heap.size w4 ((Od l).map Nd.d) rows (.slice av nv cv) wA:=by have h:=HRW.out;rw [hkl,List.take_length,HPP.out,lN] at h;exact h
    have Po:=aQ B34.out hbel;have Yv:=hid hrow.fu;have Yn:=hid (K3.out.below Po);have HCR:=hid (PX.out.below Po);have HKR:=hid (HKH.out.aY Po);have Um:=hid (HAT.out.aY Po);have Z6:=hid (aQ B4.out hbel);have HBZ:Hid (Bp<w4.heap.size):=by show _<_;have h1:=(Array.getElem?_eq_some_iff.1 K3.out).1;have:=B34.out.size;omega
    have zh:Hid (Bp<wA.heap.size):=by show _<_;exact (Array.getElem?_eq_some_iff.1 Yn.out).1
    have e3:=Yn.out.cell 3 _ rfl;have R1:Hid (Pn wA p3 (.slice av nv cv) (.int .i64 0) wA):=⟨0,by omega,rfl,fun _=>rfl,by omega⟩;clear hkl hrow Po hbel HRW;go_wp2
    go_loopw [58] (fun vi wr=>Pn wA p3 (.slice av nv cv) vi wr) (fun i _=>2-(intOf i).toNat)
    case atStart=>exact R1.out
    case round=>
     clear R1;obtain ⟨j,hj,rfl,hj1,hj2⟩:=hrel;rcases (by omega:j=0\/j=1\/j=2) with rfl | rfl | rfl
     ·obtain rfl:=hj1 (by omega);have e0:=HCR.out.cell 0 _ rfl;have hq:(iR.toList==[98,111,100,121])=false:=by kernel_rfl
      go_wp2;clear hq;go_roundw;case rel=>exact ⟨1,by omega,rfl,fun _=>rfl,by omega⟩
      case measure=>simp [intOf]
     ·obtain rfl:=hj1 (by omega);have e4:=HCR.out.cell 4 _ rfl;have e7:=HCR.out.cell 7 _ rfl;have hf:=nO HCR.out;have hq:(gF.toList==[98,111,100,121])=true:=by kernel_rfl
      go_wp2;clear hq;go_roundw;case rel=>exact ⟨2,by omega,rfl,by omega,fun _=>rfl⟩
      case measure=>simp [intOf]
     ·have hwx:=hj2 rfl;have HWX:=hid hwx;have hb:jn9 wA.heap.size wA wA:=jk6 _ _;have keep:∀ b,b≠p3->wr.heap[b]?=wA.heap[b]?:=fun b hb=>by rw [hwx];exact Below.heap_setCell wA ⟨p3,7,none⟩ _ b hb
      have hzx:wr.heap.size=wA.heap.size:=by rw [hwx];simp [World.setCell]
      have hCX:CB 35 p3 [.string iR,.string ⟨#[]⟩,.slice none 0 0,kh,.string gF,.string ⟨#[]⟩,.slice none 0 0,.slice av nv cv] wr:=by rw [hwx];exact dF HCR.out 7 _
      have hKX:CB 35 Bp [.string kN,.string ⟨#[]⟩,.slice aA nA cA,.slice (some ⟨p3,0,none⟩) 2 2] wr:=(keep Bp (by have:=jc5.out;omega)).trans Yn.out;have hp3:=Fx.out;have hs4:=Z6.out.size;have hbx:jn9 W0.heap.size W0 wr:=by rw [hwx];exact Z6.out.setCell (p:=⟨p3,7,none⟩) hp3 _
      have hpl:=jc5.out;have hbz:=HBZ.out;have hNR:kU (W0.heap.size<=·) wr [⟨iJ,lang⟩] [aP iR [] [aP jk [⟨CO,gG⟩] [],aP fP [] (bS title)],aP gF [] (Od l)] (.slice aA nA cA) (.slice (some ⟨p3,0,none⟩) 2 2):=by
       refine ⟨Rd.keep (fun b (hb:W0.heap.size<=b/\b<p3) _=>⟨hb.1,keep b (by omega)⟩) _ _ Um.out,?_⟩;have r1:Rd (W0.heap.size<=·) wr (aP iR [] [aP jk [⟨CO,gG⟩] [],aP fP [] (bS title)]).d [.string iR,.string ⟨#[]⟩,.slice none 0 0,kh]:=
        Nd.dS iR ⟨#[]⟩ ⟨Rd.aC _ _ _,Rd.keep (fun b (hb:W0.heap.size<=b/\b<p3) _=>⟨hb.1,keep b (by omega)⟩) _ _ HKR.out⟩
       have r2:Rd (W0.heap.size<=·) wr (aP gF [] (Od l)).d [.string gF,.string ⟨#[]⟩,.slice none 0 0,.slice av nv cv]:=
        Nd.dS gF ⟨#[]⟩ ⟨Rd.aC _ _ _,Rd.keep (fun b (hb:w4.heap.size<=b) _=>⟨by have:=B4.out.size;omega,keep b (by omega)⟩) _ _ Yv.out⟩
       exact Rd.slB (rows:=[[.string iR,.string ⟨#[]⟩,.slice none 0 0,kh],[.string gF,.string ⟨#[]⟩,.slice none 0 0,.slice av nv cv]]) (l:=[(aP iR [] [aP jk [⟨CO,gG⟩] [],aP fP [] (bS title)]).d,(aP gF [] (Od l)).d]) (jk7 _) (by decide) (aH.cons r1 (aH.one r2)) (by simp) hp3 (by have:=zh.out;omega)
        (fun j u hu=>hCX.cell j u (by simpa using hu))
      obtain ⟨w9,bM⟩:∃ w9,w9=four wr (S+1) (.string kN) (.string ⟨#[]⟩) (.slice aA nA cA) (.slice (some ⟨p3,0,none⟩) 2 2):=⟨_,rfl⟩;have hf:=fA kN ⟨#[]⟩ [⟨iJ,lang⟩] [aP iR [] [aP jk [⟨CO,gG⟩] [],aP fP [] (bS title)],aP gF [] (Od l)] CF.out Z0.out B0.out K1.out hbx hNR;rw [<- bM] at hf;have iV:=hid hf.1;have Bj:=hid hf.2;obtain ⟨x0,x1,x2,x3,xf⟩:=pI (K1.out.below hbx);have c0:=hKX.cell 0 _ rfl;have c1:=hKX.cell 1 _ rfl;have c2:=hKX.cell 2 _ rfl;have c3:=hKX.cell 3 _ rfl;clear hf hNR hbx hpl hbz hs4 hp3 hKX hCX hzx keep hb hwx hj1 hj2 e3;have hw8:=bM;simp only [four] at hw8;clear bM;go_wp2;rw [<- hw8];have r0:=iV.out.cell 0 _ rfl;have r1:=iV.out.cell 1 _ rfl;have r2:=iV.out.cell 2 _ rfl;have r3:=iV.out.cell 3 _ rfl;exact bodyPost_ret (v:=.tuple #[.agg #[.string kN,.string ⟨#[]⟩,.slice aA nA cA,.slice (some ⟨p3,0,none⟩) 2 2],.int .i64 (0)]) (by simp [results,Tryz.results23,go_sem,r0,r1,r2,r3]) rfl (by rw [HZ0.out,HE0.out];exact wF.of Bj.out (by simp))
 ·have q0:((E:Int) != 0)=true:=by rw [bne_iff_ne];omega
  have hz:Z=mU:=by rw [HZZ.out,if_neg h0]
  have HZ0:=hid hz;clear hz;obtain ⟨x0,x1,x2,x3,xf⟩:=pI (K1.out.below B3.out);obtain ⟨w9,bM⟩:∃ w9,w9=four w3 (S+1) (.string ⟨#[]⟩) (.string ⟨#[]⟩) (.slice none 0 0) (.slice none 0 0):=⟨_,rfl⟩;have hf:=fA ⟨#[]⟩ ⟨#[]⟩ [] [] CF.out Z0.out B0.out K1.out B3.out ⟨Rd.aC _ _ _,Rd.aC _ _ _⟩;rw [<- bM] at hf;have iV:=hid hf.1;have Bj:=hid hf.2;clear hf h0;have hw8:=bM;simp only [four] at hw8;clear bM;go_wp2;rw [<- hw8];have r0:=iV.out.cell 0 _ rfl;have r1:=iV.out.cell 1 _ rfl;have r2:=iV.out.cell 2 _ rfl;have r3:=iV.out.cell 3 _ rfl;exact bodyPost_ret (v:=.tuple #[.agg #[.string ⟨#[]⟩,.string ⟨#[]⟩,.slice none 0 0,.slice none 0 0],.int .i64 (E)]) (by simp [results,Tryz.results23,go_sem,r0,r1,r2,r3]) rfl (by rw [HZ0.out];exact wF.of Bj.out (by simp))
open Go.RowKit
def bC (k lv:Int) (id:ByteArray) (vl:Value):List Value:=[.int .i64 k,.int .i64 lv,.string ⟨#[]⟩,.string ⟨#[]⟩,.string ⟨#[]⟩,.string ⟨#[]⟩,.string id,.slice none 0 0,.slice none 0 0,vl,.slice none 0 0]
def sB (k lv:Int) (id:ByteArray) (li:List aj):ah:=.mk k lv ⟨#[]⟩ ⟨#[]⟩ ⟨#[]⟩ ⟨#[]⟩ ⟨id,[],[]⟩ li []
theorem Ao {ok:Nat->Prop} {w:jn8} (k lv:Int) (id:ByteArray) {li:List aj} {vl:Value} (h:Rd ok w (aV li) [vl]):Rd ok w (sB k lv id li).d (bC k lv id vl):=ah.dS k lv ⟨#[]⟩ ⟨#[]⟩ ⟨#[]⟩ ⟨#[]⟩ ⟨⟨Rd.aC _ _ _,Rd.aC _ _ _⟩,h,Rd.aC _ _ _⟩
theorem nD {w:jn8} {p:Nat} {t:ByteArray} (k:CB 66 p (eC t) w) (ok:Nat->Prop) (h:ok p):Rd ok w (aV [QL t]) [.slice (some ⟨p,0,none⟩) 1 1]:=
 Rd.Tx (l:=[QL t].map aj.d) (rows:=[eC t]) (by simp) (by unfold maxLen;decide) (aH.one (VP _ _ _)) (by simp [eC]) h k.lt (fun j u hu=>k.cell j u (by simpa using hu))
def Co (k lv:Int) (id t:ByteArray) (w:jn8) (e:Ending) (w':jn8):Prop:=
 ∃ p,e=.returned (.agg (bC k lv id (.slice (some ⟨p,0,none⟩) 1 1)).toArray)/\w.heap.size<=p/\CB 66 p (eC t) w'/\jn9 w.heap.size w w'
theorem Uu (k lv:Int) (id t:ByteArray) (w:jn8):∃ S W1,S=w.heap.size/\W1=(w.alloc (.cells (bC 0 0 ⟨#[]⟩ (.slice none 0 0)).toArray 48)).alloc (.cells (eC t).toArray 66)/\CB 48 S (bC 0 0 ⟨#[]⟩ (.slice none 0 0)) W1 /\ CB 48 S (bC k lv id (.slice (some ⟨S+1,0,none⟩) 1 1)) (jZ W1 S 0 (bC k lv id (.slice (some ⟨S+1,0,none⟩) 1 1)))/\Co k lv id t w (.returned (.agg (bC k lv id (.slice (some ⟨S+1,0,none⟩) 1 1)).toArray)) (jZ W1 S 0 (bC k lv id (.slice (some ⟨S+1,0,none⟩) 1 1))):=by
 obtain ⟨S,hS⟩:∃ S,S=w.heap.size:=⟨_,rfl⟩;obtain ⟨W1,hW⟩:∃ W1,W1=(w.alloc (.cells (bC 0 0 ⟨#[]⟩ (.slice none 0 0)).toArray 48)).alloc (.cells (eC t).toArray 66):=⟨_,rfl⟩;have z:(w.alloc (.cells (bC 0 0 ⟨#[]⟩ (.slice none 0 0)).toArray 48)).heap.size=S+1:=by rw [jl4,hS]
 have k0:CB 48 S (bC 0 0 ⟨#[]⟩ (.slice none 0 0)) W1:=by rw [hW,hS];exact (CB.new _ _ w).below ((jk6 _ _).alloc (jk7 _) _)
 have k1:CB 66 (S+1) (eC t) W1:=by rw [hW,<- z];exact CB.new _ _ _
 have b1:jn9 w.heap.size w W1:=by rw [hW];exact ((jk6 _ _).alloc (jk7 _) _).alloc (by rw [z];omega) _
 refine ⟨S,W1,hS,hW,k0,?_,S+1,rfl,by omega,(RO S _ _ _ _ (by omega)).trans k1,?_⟩
 ·exact dF (dF (dF (dF (dF (dF (dF (dF (dF (dF (dF k0 0 _) 1 _) 2 _) 3 _) 4 _) 5 _) 6 _) 7 _) 8 _) 9 _) 10 _
 ·have hs:=Nat.le_of_eq hS.symm;exact ((((((((((b1.setCell (p:=⟨S,0,none⟩) hs _).setCell (p:=⟨S,1,none⟩) hs _).setCell (p:=⟨S,2,none⟩) hs _).setCell (p:=⟨S,3,none⟩) hs _).setCell (p:=⟨S,4,none⟩) hs _).setCell (p:=⟨S,5,none⟩) hs _).setCell (p:=⟨S,6,none⟩) hs _).setCell (p:=⟨S,7,none⟩) hs _).setCell (p:=⟨S,8,none⟩) hs _).setCell (p:=⟨S,9,none⟩) hs _).setCell (p:=⟨S,10,none⟩) hs _
theorem Pp (lv:Int) (id:ByteArray) (w:jn8):Calls Tryz.prog 28 #[.int .i64 lv,.string id] w (Co 2 lv id ⟨#[84]⟩ w):=by
 obtain ⟨S,W1,hS,hW,k0,k1,hP⟩:=Uu 2 lv id ⟨#[84]⟩ w;obtain ⟨w9,bM⟩:∃ w9,w9=jZ W1 S 0 (bC 2 lv id (.slice (some ⟨S+1,0,none⟩) 1 1)):=⟨_,rfl⟩;obtain ⟨w0,hw0⟩:∃ w0,w0=w.alloc (.cells (bC 0 0 ⟨#[]⟩ (.slice none 0 0)).toArray 48):=⟨_,rfl⟩;have z0:w0.heap.size=S+1:=by rw [hw0,jl4,hS]
 rw [<- bM] at k1 hP;rw [<- hw0] at hW;have HP:=hid hP;have K1:=hid k1;have HZ:=hid z0;have r0:=k0.cell 0 _ rfl;have r1:=k0.cell 1 _ rfl;have r2:=k0.cell 2 _ rfl;have r3:=k0.cell 3 _ rfl;have r4:=k0.cell 4 _ rfl;have r5:=k0.cell 5 _ rfl;have r6:=k0.cell 6 _ rfl;have r7:=k0.cell 7 _ rfl;have r8:=k0.cell 8 _ rfl;have r9:=k0.cell 9 _ rfl;have Xw:=k0.cell 10 _ rfl;have g0:=nO k0 0;have g1:=nO k0 1;have g2:=nO k0 2;have g3:=nO k0 3;have g4:=nO k0 4;have g5:=nO k0 5;have g6:=nO k0 6;have g7:=nO k0 7;have g8:=nO k0 8;have g9:=nO k0 9;have g10:=nO k0 10;simp only [bC,jZ] at bM;simp only [eC] at hW;subst hW;simp only [bC] at hw0;clear hP k0 k1 z0;go_enter Tryz.func28,Tryz.ntmps28;go_upto_region 1 with (fail)
 rw [<- hw0,<- hS];clear hw0 hS;go_wp2;simp only [HZ.out];rw [<- bM];clear bM r0 r1 r2 r3 r4 r5 r6 r7 r8 r9 Xw;have r0:=K1.out.cell 0 _ rfl;have r1:=K1.out.cell 1 _ rfl;have r2:=K1.out.cell 2 _ rfl;have r3:=K1.out.cell 3 _ rfl;have r4:=K1.out.cell 4 _ rfl;have r5:=K1.out.cell 5 _ rfl;have r6:=K1.out.cell 6 _ rfl;have r7:=K1.out.cell 7 _ rfl;have r8:=K1.out.cell 8 _ rfl;have r9:=K1.out.cell 9 _ rfl;have Xw:=K1.out.cell 10 _ rfl;exact bodyPost_ret (v:=.agg (bC 2 lv id (.slice (some ⟨S+1,0,none⟩) 1 1)).toArray) (by simp [bC,results,Tryz.results28,go_sem,r0,r1,r2,r3,r4,r5,r6,r7,r8,r9,Xw]) rfl HP.out
theorem Ie (w:jn8):Calls Tryz.prog 55 #[] w (Co 1 0 ⟨#[]⟩ ⟨#[112]⟩ w):=by
 obtain ⟨S,W1,hS,hW,k0,k1,hP⟩:=Uu 1 0 ⟨#[]⟩ ⟨#[112]⟩ w;obtain ⟨w9,bM⟩:∃ w9,w9=jZ W1 S 0 (bC 1 0 ⟨#[]⟩ (.slice (some ⟨S+1,0,none⟩) 1 1)):=⟨_,rfl⟩;obtain ⟨w0,hw0⟩:∃ w0,w0=w.alloc (.cells (bC 0 0 ⟨#[]⟩ (.slice none 0 0)).toArray 48):=⟨_,rfl⟩;have z0:w0.heap.size=S+1:=by rw [hw0,jl4,hS]
 rw [<- bM] at k1 hP;rw [<- hw0] at hW;have HP:=hid hP;have K1:=hid k1;have HZ:=hid z0;have r0:=k0.cell 0 _ rfl;have r1:=k0.cell 1 _ rfl;have r2:=k0.cell 2 _ rfl;have r3:=k0.cell 3 _ rfl;have r4:=k0.cell 4 _ rfl;have r5:=k0.cell 5 _ rfl;have r6:=k0.cell 6 _ rfl;have r7:=k0.cell 7 _ rfl;have r8:=k0.cell 8 _ rfl;have r9:=k0.cell 9 _ rfl;have Xw:=k0.cell 10 _ rfl;have g0:=nO k0 0;have g1:=nO k0 1;have g2:=nO k0 2;have g3:=nO k0 3;have g4:=nO k0 4;have g5:=nO k0 5;have g6:=nO k0 6;have g7:=nO k0 7;have g8:=nO k0 8;have g9:=nO k0 9;have g10:=nO k0 10;simp only [bC,jZ] at bM;simp only [eC] at hW;subst hW;simp only [bC] at hw0;clear hP k0 k1 z0;go_enter Tryz.func55,Tryz.ntmps55;go_upto_region 1 with (fail)
 rw [<- hw0,<- hS];clear hw0 hS;go_wp2;simp only [HZ.out];rw [<- bM];clear bM r0 r1 r2 r3 r4 r5 r6 r7 r8 r9 Xw;have r0:=K1.out.cell 0 _ rfl;have r1:=K1.out.cell 1 _ rfl;have r2:=K1.out.cell 2 _ rfl;have r3:=K1.out.cell 3 _ rfl;have r4:=K1.out.cell 4 _ rfl;have r5:=K1.out.cell 5 _ rfl;have r6:=K1.out.cell 6 _ rfl;have r7:=K1.out.cell 7 _ rfl;have r8:=K1.out.cell 8 _ rfl;have r9:=K1.out.cell 9 _ rfl;have Xw:=K1.out.cell 10 _ rfl;exact bodyPost_ret (v:=.agg (bC 1 0 ⟨#[]⟩ (.slice (some ⟨S+1,0,none⟩) 1 1)).toArray) (by simp [bC,results,Tryz.results55,go_sem,r0,r1,r2,r3,r4,r5,r6,r7,r8,r9,Xw]) rfl HP.out
open Go.RowKit
def sP:ah:=sB 1 0 ⟨#[]⟩ [QL ⟨#[112]⟩]
def Ls:List ah:=[sB 2 1 ⟨#[]⟩ [QL ⟨#[84]⟩],sP,sB 5 0 ⟨#[]⟩ [],sP]
def rT:List ah:=[sB 2 2 ⟨#[115]⟩ [QL ⟨#[84]⟩],sP]
theorem jc8:slP Ls=[⟨[QL ⟨#[84]⟩],[sP]⟩,⟨[],[sP]⟩]:=by rfl
theorem Uv:Kk [] rT ⟨#[84]⟩ ⟨#[101,110]⟩=0:=by decide +kernel
theorem jc9:Xv [] [] ⟨#[84]⟩ ⟨#[101,110]⟩=eU ⟨#[84]⟩ ⟨#[101,110]⟩ []:=by unfold Xv;rw [if_pos Zk,<- lN];rfl
theorem jcj:Xv [] rT ⟨#[84]⟩ ⟨#[101,110]⟩=eU ⟨#[84]⟩ ⟨#[101,110]⟩ [tT rT]:=by unfold Xv;rw [if_pos Uv,<- lN];rfl
theorem jck:(eG rT).length=2:=by rfl
theorem Uw:(eU ⟨#[84]⟩ ⟨#[101,110]⟩ [tT rT]).vals oo=[⟨#[115]⟩]:=by rfl
theorem Ap {k lv:Int} {id t:ByteArray} (hi:(⟨id,[],[]⟩:At).short) (ht:t.size<=50):(sB k lv id [QL t]).small/\(sB k lv id []).small:=by
 have h0:(⟨#[]⟩:ByteArray).size<=300:=by decide
 have h2:(⟨⟨#[]⟩,[],[]⟩:At).short:=⟨by decide,by decide,by decide,fun _ h=>(by cases h),fun _ h=>(by cases h)⟩;have h3:t.size<=300:=by omega
 have h3':aj.aU [aj.mk 1 t ⟨#[]⟩ ⟨#[]⟩ ⟨⟨#[]⟩,[],[]⟩ [] [] []]<=120:=by simp [aj.aU,aj.sz]
 constructor<;>simp [sB,QL,eAt,ah.aF,ah.small,h0,show aj.aU []<=120 by decide,h2,h3,h3',hi,aj.aF,aj.small]
theorem Fp:(⟨⟨#[]⟩,[],[]⟩:At).short:=⟨by decide,by decide,by decide,fun _ h=>(by cases h),fun _ h=>(by cases h)⟩
theorem jcq:(⟨⟨#[115]⟩,[],[]⟩:At).short:=⟨by decide,by decide,by decide,fun _ h=>(by cases h),fun _ h=>(by cases h)⟩
theorem Pq:ah.aF rT:=by rw [rT,ah.aF,ah.aF,ah.aF];exact ⟨(Ap jcq (by decide)).1,(Ap Fp (by decide)).1,trivial⟩
theorem Xx:ah.kV Ls:=by apply ah.lJ;rw [Ls,ah.aF,ah.aF,ah.aF,ah.aF,ah.aF];exact ⟨(Ap Fp (by decide)).1,(Ap Fp (by decide)).1,(Ap (t:=⟨#[]⟩) Fp (by decide)).2,(Ap Fp (by decide)).1,trivial⟩
theorem JG {w:jn8} {q:Nat} {l:List ah} {rows:List (List Value)} (k:CB 48 q rows.flatten w) (hl:l.length=rows.length) (hm:l.length<=1000) (h:aH (·<w.heap.size) w (l.map ah.d) rows) (hk:∀ r∈rows,r.length=11) : Rd (·<w.heap.size) w (iU l) [.slice (some ⟨q,0,none⟩) l.length l.length]:=by
 have h:=Rd.Tx (l:=l.map ah.d) (rows:=rows) (cap:=l.length) (by simp) (by unfold maxLen;omega) h hk k.lt k.lt (fun j u hu=>k.cell j u hu)
 rwa [jkq] at h
theorem xH {ok:Nat->Prop} {w:jn8} {x:Nd} {L:List Nd} {vk:Value} (h:Rd ok w (cO [x,aP gF [] L]) [vk]):∃ b off c aL cL,vk=.slice (some ⟨b,off,none⟩) 2 c/\w.cell? ⟨b,off+4+3,none⟩=some (.slice aL L.length cL)/\Rd ok w (cO L) [.slice aL L.length cL]:=by
 obtain ⟨a,c,hv,hs⟩:=Rd.ay h;obtain ⟨b,off,va,TJ,rfl,-,-,-,-,-,hc,hN⟩:=F8 (l:=[x,aP gF [] L]) hs (k:=1) rfl;obtain ⟨aL,cL,hv2,-⟩:=Rd.ay hN.ks;obtain rfl:TJ=.slice aL L.length cL:=by simpa using hv2
 exact ⟨b,off,c,aL,cL,by simpa using hv,by simpa using hc,hN.ks⟩
theorem jcx {ok:Nat->Prop} {w:jn8} {n t:ByteArray} {at_:List Pr} {ks:List Nd} {a:Option Addr} {c:Nat} (h:Rd ok w (cO [.mk n t at_ ks]) [.slice a 1 c]):∃ b off aS nS cS aK cK,a=some ⟨b,off,none⟩/\w.cell? ⟨b,off,none⟩=some (.string n)/\w.cell? ⟨b,off+1,none⟩=some (.string t)/\w.cell? ⟨b,off+2,none⟩=some (.slice aS nS cS)/\w.cell? ⟨b,off+3,none⟩=some (.slice aK ks.length cK):=by
 obtain ⟨a',c',hv,hs⟩:=Rd.ay h;obtain ⟨rfl,rfl⟩:a'=a/\c'=c:=by simp at hv;exact ⟨hv.1.symm,hv.2.symm⟩
 obtain ⟨b,off,va,TJ,rfl,-,-,c0,c1,c2,c3,hN⟩:=F8 (l:=[.mk n t at_ ks]) hs (k:=0) rfl;obtain ⟨aL,cL,hv2,-⟩:=Rd.ay hN.ks;obtain rfl:TJ=.slice aL ks.length cL:=by simpa using hv2
 obtain ⟨aS,nS,cS,rfl⟩:=Rd.au hN.at_
 simp only [Nat.zero_mul,Nat.add_zero] at c0 c1 c2 c3;exact ⟨b,off,aS,nS,cS,aL,cL,rfl,c0,c1,c2,c3⟩
theorem Ux {ok:Nat->Prop} {w:jn8} {s1 s2:Sl} {v:Value} (h:Rd ok w (.sl 2 ([s1,s2].map Sl.d)) [v]):∃ b off c a0 c0 a1 c1 a2 c2 a3 c3,v=.slice (some ⟨b,off,none⟩) 2 c/\w.cell? ⟨b,off,none⟩=some (.slice a0 s1.ti.length c0)/\w.cell? ⟨b,off+1,none⟩=some (.slice a1 s1.bl.length c1)/\w.cell? ⟨b,off+2,none⟩=some (.slice a2 s2.ti.length c2)/\w.cell? ⟨b,off+2+1,none⟩=some (.slice a3 s2.bl.length c3):=by
 obtain ⟨a,c,hv,hs⟩:=Rd.ay h;obtain ⟨b,off,rfl,-,hb,hcx⟩:=hs.at_ (by simp)
 obtain ⟨r,hr,-,hc⟩:=hcx 0 s1.d rfl;obtain ⟨r',hr',-,hc'⟩:=hcx 1 s2.d rfl;obtain ⟨v1,v2,rfl,g1,g2⟩:=Sl.open_ hr;obtain ⟨v3,v4,rfl,g3,g4⟩:=Sl.open_ hr';obtain ⟨a0,c0,e0,-⟩:=Rd.ay g1;obtain ⟨a1,c1,e1,-⟩:=Rd.ay g2;obtain ⟨a2,c2,e2,-⟩:=Rd.ay g3;obtain ⟨a3,c3,e3,-⟩:=Rd.ay g4;obtain rfl:v1=.slice a0 s1.ti.length c0:=by simpa using e0
 obtain rfl:v2=.slice a1 s1.bl.length c1:=by simpa using e1
 obtain rfl:v3=.slice a2 s2.ti.length c2:=by simpa using e2
 obtain rfl:v4=.slice a3 s2.bl.length c3:=by simpa using e3
 refine ⟨b,off,c,a0,c0,a1,c1,a2,c2,a3,c3,by simpa using hv,?_,?_,?_,?_⟩
 ·have:=hc 0 _ rfl;simpa using this
 ·have:=hc 1 _ rfl;simpa using this
 ·have:=hc' 0 _ rfl;simpa using this
 ·have:=hc' 1 _ rfl;simpa using this
theorem JH (w:jn8) (ht:PT w):Calls Tryz.prog 19 #[] w (dH (.bool true) w):=by
 have qE:Hid (∀ W,jn9 w.heap.size w W->PT W):=fun W hW=>ht.below hW
 clear ht;go_enter Tryz.func19,Tryz.ntmps19;go_wp2_with fail
 refine (Pp _ _ _).mono ?_;rintro e w1 ⟨p1,rfl,hp1,k1,b1⟩;simp only [bC];have K1:=hid k1;have B1:=hid b1;clear hp1 k1 b1;go_wp2_with fail
 refine (Ie _).mono ?_;rintro e w2 ⟨p2,rfl,hp2,k2,b2⟩;simp only [bC];have K1:=hid (K1.out.below b2);have K2:=hid k2;have B2:=hid (aQ B1.out b2);clear hp2 k2 b2;go_wp2_with fail
 refine (Ie _).mono ?_;rintro e w3 ⟨p3,rfl,hp3,k3,b3⟩;simp only [bC];have k1:=K1.out.below b3;have k2:=K2.out.below b3;obtain ⟨q4,hq4⟩:∃ q4,q4=w3.heap.size:=⟨_,rfl⟩;obtain ⟨w4,hw4⟩:∃ w4,w4=w3.alloc (.cells [bC 2 1 ⟨#[]⟩ (.slice (some ⟨p1,0,none⟩) 1 1),bC 1 0 ⟨#[]⟩ (.slice (some ⟨p2,0,none⟩) 1 1),bC 5 0 ⟨#[]⟩ (.slice none 0 0),bC 1 0 ⟨#[]⟩ (.slice (some ⟨p3,0,none⟩) 1 1)].flatten.toArray 48):=⟨_,rfl⟩;have b4:jn9 w3.heap.size w3 w4:=by rw [hw4];exact (jk6 _ _).alloc (jk7 _) _
 have k4:CB 48 q4 [bC 2 1 ⟨#[]⟩ (.slice (some ⟨p1,0,none⟩) 1 1),bC 1 0 ⟨#[]⟩ (.slice (some ⟨p2,0,none⟩) 1 1),bC 5 0 ⟨#[]⟩ (.slice none 0 0),bC 1 0 ⟨#[]⟩ (.slice (some ⟨p3,0,none⟩) 1 1)].flatten w4:=by rw [hw4,hq4];exact CB.new _ _ _
 have h4:Rd (·<w4.heap.size) w4 (iU Ls) [.slice (some ⟨q4,0,none⟩) 4 4]:=by refine JG (l:=Ls) k4 rfl (by decide) (aH.cons (Ao 2 1 ⟨#[]⟩ (nD (k1.below b4) _ (k1.below b4).lt)) (aH.cons (Ao 1 0 ⟨#[]⟩ (nD (k2.below b4) _ (k2.below b4).lt)) (aH.cons (Ao 5 0 ⟨#[]⟩ (Rd.aC _ _ _)) (aH.one (Ao 1 0 ⟨#[]⟩ (nD (k3.below b4) _ (k3.below b4).lt)))))) (by simp [bC])
 have OC:=hid (JC (.slice none 0 0) Ls (.slice (some ⟨q4,0,none⟩) 4 4) w4 ⟨_,_,_,rfl⟩ h4 (by decide +kernel) Xx);have B4:=hid (aQ (aQ B2.out b3) b4);simp only [bC,List.flatten_cons,List.flatten_nil,List.cons_append,List.nil_append,List.append_nil] at hw4;have Tn:=hid hq4;clear hp3 k3 b3 k1 k2 k4 b4 h4 hq4 K1 K2;go_wp2_with fail
 rw [<- hw4,<- Tn.out];clear hw4
 (with_reducible refine OC.out.mono ?_)
 rintro e w5 ⟨v5,rfl,h5,b5⟩;rw [jc8] at h5;obtain ⟨a5,c5,e5⟩:=gU h5;obtain rfl:v5=.slice a5 2 c5:=by simpa using e5
 have B5:=hid (aQ B4.out b5);have R5:=hid (h5.weaken (fun _ _=>trivial):Rd (fun _=>True) w5 _ _);have h6:=Am [] [] ⟨#[84]⟩ ⟨#[101,110]⟩ (.slice none 0 0) (.slice none 0 0) w5 (Rd.aC _ _ _) (Rd.aC _ _ _) (by simp) (by simp) (by decide +kernel) (by unfold ah.aF;trivial) (by decide +kernel) (by decide +kernel) (by unfold ah.kV;trivial) (by decide) (by decide) (qE.out _ B5.out);rw [Zk,jc9] at h6;have PC:=hid h6;clear h5 e5 b5 h6 OC B4 Tn B2 B1;go_wp2_with fail
 (with_reducible refine PC.out.mono ?_)
 rintro e w6 ⟨va,vk,he,hN,b6⟩;obtain ⟨aA,nA,cA,rfl⟩:=Rd.au hN.at_
 obtain ⟨Uy,Uz,Yy,a6L,c6L,rfl,-,-⟩:=xH hN.ks;have he:e=.returned (.tuple #[.agg #[.string kN,.string ⟨#[]⟩,.slice aA nA cA,.slice (some ⟨Uy,Uz,none⟩) 2 Yy],.int .i64 0]):=he;subst he;have RK6:=hid (show Rd (fun _=>True) w6 (cO [_,aP gF [] []]) [.slice (some ⟨Uy,Uz,none⟩) 2 Yy] from hN.ks.weaken (fun _ _=>trivial));have R6:=hid (R5.out.aY b6);have B6:=hid (aQ B5.out b6);clear hN b6 PC R5 B5;obtain ⟨Bp,Bv⟩:∃ Bp,Bp=w6.heap.size:=⟨_,rfl⟩;obtain ⟨w7,hw7⟩:∃ w7,w7=w6.alloc (.cells #[.string kN,.string ⟨#[]⟩,.slice aA nA cA,.slice (some ⟨Uy,Uz,none⟩) 2 Yy] 35):=⟨_,rfl⟩;have k7:CB 35 Bp [.string kN,.string ⟨#[]⟩,.slice aA nA cA,.slice (some ⟨Uy,Uz,none⟩) 2 Yy] w7:=by rw [hw7,Bv];exact CB.new _ _ _
 have b7:jn9 w6.heap.size w6 w7:=by rw [hw7];exact (jk6 _ _).alloc (jk7 _) _
 have B7:=hid (aQ B6.out b7);have R7:=hid (R6.out.aY b7);have RK7:=hid (RK6.out.aY b7);have Zy:=hid k7;clear k7 b7 R6 RK6 B6;go_upto_region 3 with (fail)
 rw [<- hw7,<- Bv];clear hw7 Bv;go_wp2_with fail
 refine (Pp _ _ _).mono ?_;rintro e w8 ⟨p1,rfl,hp1,k1,b1⟩;simp only [bC];have K1:=hid k1;have B8:=hid (aQ B7.out b1);have R8:=hid (R7.out.aY b1);have RK8:=hid (RK7.out.aY b1);have Zz:=hid (Zy.out.below b1);clear hp1 k1 b1 B7 R7 RK7 Zy;go_wp2_with fail
 refine (Ie _).mono ?_;rintro e w9 ⟨p2,rfl,hp2,k2,b2⟩;simp only [bC];have k1:=K1.out.below b2;obtain ⟨q4,hq4⟩:∃ q4,q4=w9.heap.size:=⟨_,rfl⟩;obtain ⟨wA,iE⟩:∃ wA,wA=w9.alloc (.cells [bC 2 2 ⟨#[115]⟩ (.slice (some ⟨p1,0,none⟩) 1 1),bC 1 0 ⟨#[]⟩ (.slice (some ⟨p2,0,none⟩) 1 1)].flatten.toArray 48):=⟨_,rfl⟩;have b4:jn9 w9.heap.size w9 wA:=by rw [iE];exact (jk6 _ _).alloc (jk7 _) _
 have k4:CB 48 q4 [bC 2 2 ⟨#[115]⟩ (.slice (some ⟨p1,0,none⟩) 1 1),bC 1 0 ⟨#[]⟩ (.slice (some ⟨p2,0,none⟩) 1 1)].flatten wA:=by rw [iE,hq4];exact CB.new _ _ _
 have h4:Rd (·<wA.heap.size) wA (iU rT) [.slice (some ⟨q4,0,none⟩) 2 2]:=by refine JG (l:=rT) k4 rfl (by decide) (aH.cons (Ao 2 2 ⟨#[115]⟩ (nD (k1.below b4) _ (k1.below b4).lt)) (aH.one (Ao 1 0 ⟨#[]⟩ (nD (k2.below b4) _ (k2.below b4).lt)))) (by simp [bC])
 have bA:jn9 w8.heap.size w8 wA:=aQ b2 b4;have BA:=hid (aQ B8.out bA);have RA:=hid (R8.out.aY bA);have RKA:=hid (RK8.out.aY bA);have KPA:=hid (Zz.out.below bA);have h6:=Am [] rT ⟨#[84]⟩ ⟨#[101,110]⟩ (.slice none 0 0) (.slice (some ⟨q4,0,none⟩) 2 2) wA (Rd.aC _ _ _) h4 (by simp) (by simp) (by decide +kernel) Pq (by decide +kernel) (by decide +kernel) (ah.lJ _ Pq) (by decide) (by decide) (qE.out _ BA.out);rw [Uv,jcj] at h6;have PC:=hid h6;simp only [bC,List.flatten_cons,List.flatten_nil,List.cons_append,List.nil_append,List.append_nil] at iE;have Tn:=hid hq4;clear hp2 b2 k1 k2 k4 b4 h4 hq4 K1 bA h6 B8 R8 RK8 Zz;go_wp2_with fail
 rw [<- iE,<- Tn.out];clear iE
 (with_reducible refine PC.out.mono ?_)
 rintro e wB ⟨va,vk,he,hN,b6⟩;obtain ⟨aA2,nA2,cA2,rfl⟩:=Rd.au hN.at_
 obtain ⟨bk,ok,ck,aL,cL,rfl,-,-⟩:=xH hN.ks;have he:e=.returned (.tuple #[.agg #[.string kN,.string ⟨#[]⟩,.slice aA2 nA2 cA2,.slice (some ⟨bk,ok,none⟩) 2 ck],.int .i64 0]):=he;subst he;have RB:=hid (RA.out.aY b6);have RKB:=hid (RKA.out.aY b6);have KPB:=hid (KPA.out.below b6);have BB:=hid (aQ BA.out b6);have LP:=hid hN;clear hN b6 PC RA RKA KPA BA Tn;obtain ⟨Bq,hBq⟩:∃ Bq,Bq=wB.heap.size:=⟨_,rfl⟩;obtain ⟨wC,LQ⟩:∃ wC,wC=wB.alloc (.cells #[.string kN,.string ⟨#[]⟩,.slice aA2 nA2 cA2,.slice (some ⟨bk,ok,none⟩) 2 ck] 35):=⟨_,rfl⟩;have kC:CB 35 Bq [.string kN,.string ⟨#[]⟩,.slice aA2 nA2 cA2,.slice (some ⟨bk,ok,none⟩) 2 ck] wC:=by rw [LQ,hBq];exact CB.new _ _ _
 have Xy:jn9 wB.heap.size wB wC:=by rw [LQ];exact (jk6 _ _).alloc (jk7 _) _
 have rC:=RB.out.aY Xy;have rkC:=RKB.out.aY Xy;have kpC:=KPB.out.below Xy;have hAC:=Rd.aY LP.out.at_ Xy
 have hKC:=Rd.aY LP.out.ks Xy;have BC:=hid (aQ BB.out Xy);clear Xy RB RKB KPB LP BB;go_upto_region 4 with (fail)
 rw [<- LQ,<- hBq];clear LQ hBq;obtain ⟨g,o,cg,a0,n0,a1,n1,a2,n2,a3,n3,ev,t0,t1,t2,t3⟩:=Ux rC;obtain ⟨rfl,rfl⟩:a5=some ⟨g,o,none⟩/\c5=cg:=by simpa using ev
 obtain ⟨bx,ox,cx,aM,cM,ex,u3,-⟩:=xH rkC;obtain ⟨⟨rfl,rfl⟩,rfl⟩:(Uy=bx/\Uz=ox)/\Yy=cx:=by simpa using ex
 obtain ⟨uw,oy,cy,aN,cN,ey,y3,hS⟩:=xH hKC;obtain ⟨⟨rfl,rfl⟩,rfl⟩:(bk=uw/\ok=oy)/\ck=cy:=by simpa using ey
 obtain ⟨bz,oz,aS,nS,cS,aK,cK,rfl,z0,z1,z2,z3⟩:=jcx (n:=eH) (t:=⟨#[]⟩) (at_:=[⟨iw,BS⟩]) (ks:=eG rT) hS;rw [jck] at z3
 replace t0:wC.cell? ⟨g,o,none⟩=some (.slice a0 1 n0):=t0
 replace t1:wC.cell? ⟨g,o+1,none⟩=some (.slice a1 1 n1):=t1
 replace t2:wC.cell? ⟨g,o+2,none⟩=some (.slice a2 0 n2):=t2
 replace t3:wC.cell? ⟨g,o+2+1,none⟩=some (.slice a3 1 n3):=t3
 replace u3:wC.cell? ⟨Uy,Uz+4+3,none⟩=some (.slice aM 0 cM):=u3
 replace y3:wC.cell? ⟨bk,ok+4+3,none⟩=some (.slice (some ⟨bz,oz,none⟩) 1 cN):=y3
 have p3:=kpC.cell 3 _ rfl;have q3:=kC.cell 3 _ rfl;go_upto_region 6 with (fail)
 obtain ⟨wD,Ku⟩:∃ wD,wD=wC.alloc (.cells #[.string eH,.string ⟨#[]⟩,.slice aS nS cS,.slice aK 2 cK] 35):=⟨_,rfl⟩;obtain ⟨Bs,hBs⟩:∃ Bs,Bs=wC.heap.size:=⟨_,rfl⟩;have kD:CB 35 Bs [.string eH,.string ⟨#[]⟩,.slice aS nS cS,.slice aK 2 cK] wD:=by rw [Ku,hBs];exact CB.new _ _ _
 have bD:jn9 wC.heap.size wC wD:=by rw [Ku];exact (jk6 _ _).alloc (jk7 _) _
 have AC:Hid (Calls Tryz.prog 56 #[.agg #[.string kN,.string ⟨#[]⟩,.slice aA2 nA2 cA2,.slice (some ⟨bk,ok,none⟩) 2 ck],.string ⟨#[105,100]⟩] wD (pO wD ((eU ⟨#[84]⟩ ⟨#[101,110]⟩ [tT rT]).vals oo))):=(yj oo _ (eU ⟨#[84]⟩ ⟨#[101,110]⟩ [tT rT]) (.slice aA2 nA2 cA2) (.slice (some ⟨bk,ok,none⟩) 2 ck) wD (jk7 _) (by rw [Uw];decide) ⟨Rd.keep (fun b _ h2=>⟨h2,rfl⟩) _ _ (hAC.aY bD),Rd.keep (fun b _ h2=>⟨h2,rfl⟩) _ _ (hKC.aY bD)⟩);have rD:=hid (rC.aY bD);have rkD:=hid (rkC.aY bD);have kpD:=hid (kpC.below bD);have kqD:=hid (kC.below bD);have ksD:=hid kD;have BD:=hid (aQ BC.out bD);have q0:=kqD.out.cell 0 _ rfl;have q1:=kqD.out.cell 1 _ rfl;have q2:=kqD.out.cell 2 _ rfl;have q3':=kqD.out.cell 3 _ rfl;clear hAC hKC bD rC rkC kpC kC kD hS;go_upto_region 7 with (fail)
 rw [<- Ku,<- hBs];clear Ku hBs t0 t1 t2 t3 u3 y3 z0 z1 z2 z3 p3 q3 BC;go_wp2_with fail
 (with_reducible refine AC.out.mono ?_)
 rintro e wE ⟨vE,rfl,hoE,bE⟩;rw [Uw] at hoE;obtain ⟨-,aE,cE,rfl,hcE,hmE,hxE⟩:=Mi.Av hoE;obtain ⟨bs,os,rfl,hcs⟩:∃ b off,aE=some ⟨b,off,none⟩/\wE.cell? ⟨b,off,none⟩=some (.string ⟨#[115]⟩):=by
  rcases hxE with h | ⟨b,off,h,hc⟩
  ·simp at h
  ·exact ⟨b,off,h,hc 0 _ rfl⟩
 obtain ⟨g',o',cg',a0,n0,a1,n1,a2,n2,a3,n3,ev,t0,t1,t2,t3⟩:=Ux (rD.out.aY bE);obtain ⟨⟨rfl,rfl⟩,rfl⟩:(g=g'/\o=o')/\c5=cg':=by simpa using ev
 obtain ⟨bx,ox,cx,aM,cM,ex,u3,-⟩:=xH (rkD.out.aY bE);obtain ⟨⟨rfl,rfl⟩,rfl⟩:(Uy=bx/\Uz=ox)/\Yy=cx:=by simpa using ex
 replace t0:wE.cell? ⟨g,o,none⟩=some (.slice a0 1 n0):=t0
 replace t1:wE.cell? ⟨g,o+1,none⟩=some (.slice a1 1 n1):=t1
 replace t2:wE.cell? ⟨g,o+2,none⟩=some (.slice a2 0 n2):=t2
 replace t3:wE.cell? ⟨g,o+2+1,none⟩=some (.slice a3 1 n3):=t3
 replace u3:wE.cell? ⟨Uy,Uz+4+3,none⟩=some (.slice aM 0 cM):=u3
 have p3:=(kpD.out.below bE).cell 3 _ rfl;have s0:=(ksD.out.below bE).cell 0 _ rfl;have s3:=(ksD.out.below bE).cell 3 _ rfl;have HF:=hid (aQ BD.out bE);have hq:(eH.toList==[115,101,99,116,105,111,110])=true:=by kernel_rfl
 clear hoE bE hxE AC q0 q1 q2 q3' rD rkD kpD kqD ksD BD;go_wp2;go_ret;exact ⟨rfl,HF.out⟩
open Go.RowKit
theorem Q5 (me:List Pr) (l:List ah) (vm vb:Value) (w:jn8) (hm:Rd (·<w.heap.size) w (bR me) [vm]) (hb:Rd (·<w.heap.size) w (iU l) [vb]) (V5:∀ p∈me,p.wf) (hwl:ah.sN l) (hml:me.length<=reachBytes) (hll:l.length<=reachBytes) (ht:PT w) : Calls Tryz.prog 5 #[.agg #[vm,vb]] w (dH (.bool true) w):=by
 obtain ⟨am,nm,cm,rfl⟩:=Rd.au hm;obtain ⟨ab,nb,cb,rfl⟩:=Rd.au hb;obtain ⟨S,hS⟩:∃ S,S=w.heap.size:=⟨_,rfl⟩;obtain ⟨W0,hW0⟩:∃ W0,W0=w.alloc (.cells #[.slice am nm cm,.slice ab nb cb] 26):=⟨_,rfl⟩;have k0:CB 26 S [.slice am nm cm,.slice ab nb cb] W0:=by rw [hW0,hS];exact CB.new _ _ w
 have b0:jn9 w.heap.size w W0:=by rw [hW0];exact (jk6 _ _).alloc (jk7 _) _
 have SM:=hid (QT me l _ _ W0 (hm.up b0) (hb.up b0) V5 hwl);have HM:=hid hm;have HB:=hid hb;have qE:Hid (∀ W,jn9 w.heap.size w W->PT W):=fun W hW=>ht.below hW
 have B0:=hid b0;have X0:Hid (∀ W:jn8,jn9 W0.heap.size W0 W->W.cell? ⟨S,0,none⟩=some (.slice am nm cm)/\W.cell? ⟨S,1,none⟩=some (.slice ab nb cb)):=fun W hW=>⟨(k0.below hW).cell 0 _ rfl,(k0.below hW).cell 1 _ rfl⟩
 have x0:=k0.cell 0 _ rfl;have x1:=k0.cell 1 _ rfl;clear hm hb V5 hwl hml hll ht k0 b0;go_enter Tryz.func5,Tryz.ntmps5;go_upto_region 1 with (fail)
 rw [<- hW0,<- hS];clear hW0 hS;go_wp2_with fail
 (with_reducible refine SM.out.mono ?_)
 rintro e w1 ⟨b,rfl,hsm,b1⟩;have B1:=hid b1;have Yz:=hid (aQ B0.out b1);have AW:=hid (JH w1 (qE.out _ Yz.out));clear x0 x1 b1 SM;cases b with
 | false=>
  clear hsm;go_wp2_with fail
  (with_reducible refine AW.out.mono ?_)
  rintro e w2 ⟨rfl,b2⟩;have HF:=hid (aQ Yz.out b2);clear b2;go_wp2;go_ret;exact ⟨rfl,HF.out⟩
 | true=>
  obtain ⟨hd,hs⟩:=hsm rfl;have jhx:=hs.sz;have hll:=ah.dn l;have hbd:=ah.lJ l hs.sm;have X1:Hid (∀ W:jn8,jn9 w1.heap.size w1 W->W.cell? ⟨S,0,none⟩=some (.slice am nm cm)/\W.cell? ⟨S,1,none⟩=some (.slice ab nb cb)):=fun W hW=>X0.out W (aQ B1.out hW)
  have OC:Hid (∀ W:jn8,jn9 w1.heap.size w1 W->Calls Tryz.prog 21 #[.agg #[.slice am nm cm,.slice ab nb cb]] W (uE W (yG l))):=fun W hW=>by
   have h:=JC (.slice am nm cm) l (.slice ab nb cb) W ⟨_,_,_,rfl⟩ (HB.out.up (aQ Yz.out hW)) (by omega) hbd;rw [Ww] at h;exact h
  have RC:Hid (∀ W:jn8,jn9 w1.heap.size w1 W->Calls Tryz.prog 22 #[.agg #[.slice am nm cm,.slice ab nb cb]] W (uE W (yG l))):=fun W hW=>Sm (.slice am nm cm) l (.slice ab nb cb) W ⟨_,_,_,rfl⟩ (HB.out.up (aQ Yz.out hW)) (by omega)
  have LD:Hid ((yG l).length<=1000000):=by have h:=JF l;show _<=_;omega
  obtain ⟨nP,JD⟩:∃ nP,nP=(yG l).length:=⟨_,rfl⟩;have JE:=hid JD;have AC:Hid (∀ W:jn8,jn9 w1.heap.size w1 W->Calls Tryz.prog 19 #[] W (dH (.bool true) W)):=fun W hW=>JH W (qE.out _ (aQ Yz.out hW))
  clear hsm hd hs AW jhx hll hbd JD;go_upto_region 3 with (fail)
  refine Qy 8 (fun w'=>jn9 w1.heap.size w1 w') (by kernel_rfl) (jk6 _ _).drew ?_;intro hH;refine fK 0 (v:=?_) rfl (by kernel_rfl) hH (by rfl) ?_ ?_;rotate_left
  ·(intro wv hSw;obtain ⟨d0,d1⟩:=X1.out wv hSw;go_simp;try with_reducible rfl)
  try simp only [Act.put,jk2,jk3,jk4]
  refine fK 2 (v:=?_) rfl (by kernel_rfl) hH (by rfl) ?_ ?_;rotate_left
  ·(intro wv hSw;obtain ⟨d0,d1⟩:=X1.out wv hSw;go_simp;try with_reducible rfl)
  try simp only [Act.put,jk2,jk3,jk4]
  obtain ⟨y0,hy0⟩:∃ y0,y0=w1.drew:=⟨_,rfl⟩;rw [<- hy0] at hH;rw [<- hy0];clear hy0;refine q01 (i:=1) rfl (by kernel_rfl) (fun KQ hK=>?_);go_simp;go_at_call 21
  (with_reducible refine (OC.out _ hH).mono ?_);rintro e y1 ⟨v1,rfl,h1,b1⟩;obtain ⟨a1,c1,e1⟩:=gU h1;obtain rfl:v1=.slice a1 nP c1:=(by rw [JE.out];simpa using e1);have H1:=hid h1;clear e1 h1
  have hY:=aQ hH b1;refine hK.out _ _ (fun _ _=>hY) (fun hH2=>?_);clear hK KQ hH hH2;have hH:=hY;clear hY;try simp only [Act.put,jk2,jk3,jk4]
  clear b1;refine q01 (i:=3) rfl (by kernel_rfl) (fun KQ hK=>?_);go_simp;go_at_call 22
  (with_reducible refine (RC.out _ hH).mono ?_);rintro e y2 ⟨v2,rfl,h2,b2⟩;obtain ⟨a2,c2,e2⟩:=gU h2;obtain rfl:v2=.slice a2 nP c2:=(by rw [JE.out];simpa using e2);have SC:=hid (Fg (yG l) _ _ y2 (H1.out.up b2) h2 LD.out);clear e2 h2
  have hY:=aQ hH b2;refine hK.out _ _ (fun _ _=>hY) (fun hH2=>?_);clear hK KQ hH hH2;have hH:=hY;clear hY;try simp only [Act.put,jk2,jk3,jk4]
  clear b2;refine q01 (i:=4) rfl (by kernel_rfl) (fun KQ hK=>?_);go_simp;go_at_call 20
  (with_reducible refine SC.out.mono ?_);rintro e y3 ⟨rfl,b3⟩
  have hY:=aQ hH b3;refine hK.out _ _ (fun _ _=>hY) (fun hH2=>?_);clear hK KQ hH hH2;have hH:=hY;clear hY;try simp only [Act.put,jk2,jk3,jk4]
  clear b3;refine q01 (i:=5) rfl (by kernel_rfl) (fun KQ hK=>?_);go_simp;refine hK.out _ _ (fun _ _=>hH) (fun hH2=>?_);clear hK KQ hH2;try simp only [Act.put,jk2,jk3,jk4]
  refine q01 (i:=6) rfl (by kernel_rfl) (fun KQ hK=>?_);go_simp;go_at_call 19
  (with_reducible refine (AC.out _ hH).mono ?_);rintro e y4 ⟨rfl,b4⟩
  have hY:=aQ hH b4;refine hK.out _ _ (fun _ _=>hY) (fun hH2=>?_);clear hK KQ hH hH2;have hH:=hY;clear hY;try simp only [Act.put,jk2,jk3,jk4]
  clear b4;refine q01 (i:=7) rfl (by kernel_rfl) (fun KQ hK=>?_);go_simp;refine hK.out _ _ (fun _ _=>hH) (fun hH2=>?_);clear hK KQ hH2;try simp only [Act.put,jk2,jk3,jk4]
  refine q01 (i:=8) rfl (by kernel_rfl) (fun KQ hK=>?_);go_simp;refine hK.out _ _ (fun h=>absurd rfl h) (fun _=>?_);clear hK KQ;try simp only [Act.put,jk2,jk3,jk4]
  refine D6 (by kernel_rfl) ?_ _;have HF:=hid (aQ Yz.out hH);clear hH;go_wp2;go_ret;exact ⟨rfl,HF.out⟩
end Go.Proofs.YtkfnkeflalcphaaGreatDoor

