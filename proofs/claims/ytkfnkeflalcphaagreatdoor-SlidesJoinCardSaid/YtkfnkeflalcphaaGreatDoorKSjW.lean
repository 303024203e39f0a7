/- Contract of slides.Page. The small case with which each statement of layer 43 ends: it answers true. Law 43: awake answers true. Plain part: what the walk of publisherref34.block asks of a block; a well-formed, small document without unresolved inlines has it. Plain part: what the walk of the reference asks of the blocks of a well-formed document, and of its notes. Contracts of publisherref34.table, and of publisherref34.block at a table. Contracts of publisherref34.block and publisherref34.inner: the nodes of blocks. Contract of publisherref34.Blocks: the nodes of blocks, with their notes behind them, or the error. Contracts of publisherref34.line, Errors, Frame and Page. The walk of publisherlaw34.HtmlBlocks. The walk of publisherlaw43.SlidesWhole. Words for publisherlaw43.SlidesJoin: rows that begin empty or with one element, and a box that is made meanwhile. -/
import Derived.Test.YtkfnkeflalcphaaGreatDoorKSrW
import Derived.Test.YtkfnkeflalcphaaGreatDoorKHwA
set_option maxHeartbeats 8000000
set_option maxRecDepth 100000
open Go.Lib (hid)
namespace Go.Proofs.YtkfnkeflalcphaaGreatDoor
open Go.RowKit.Below renaming refl->jm0
open Nat renaming le_refl->jm1
open List renaming length_map->jm6
open Go.World renaming size_alloc->jmx
open Go renaming World->jp3,Value->jp5
open Go.RowKit renaming Below->jp4
open Go.RowKit
set_option linter.unusedVariables false
set_option linter.unusedSimpArgs false
theorem Ct:∀ (l:List ah),ah.aF l↔∀ b∈l,b.small
 | []=>by unfold ah.aF;simp
 | x::l=>by rw [ah.aF,Ct l];simp
theorem Fj:∀ (L:List (List ah)) (s:List ah),s∈L->(ah.aU s).length<=(ah.aU L.flatten).length
 | [],_,h=>by cases h
 | x::L,s,h=>by
  rw [List.flatten_cons,ah.rJ,List.length_append];rcases List.mem_cons.1 h with rfl | h
  ·omega
  ·have:=Fj L s h;omega
theorem Pn (l:List ah):∀ p∈dZ l,(ah.aU p.bl).length<=(ah.aU l).length:=by
 intro p hp;rw [qB] at hp;obtain ⟨s,hs,rfl⟩:=List.mem_map.1 hp;have h1:=Fj _ s hs;rw [rT l.length l (jm1 _)] at h1;rw [uy];refine Nat.le_trans ?_ h1;unfold ko;split
 ·split
  ·rw [ah.aU,List.length_append];omega
  ·exact jm1 _
 ·exact jm1 _
theorem Po (l:List ah) (h:ah.aF l):∀ p∈dZ l,ah.aF p.bl:=fun p hp=>(Ct _).2 fun b hb=>(Ct _).1 h b (Fp l p hp b hb)
theorem Pp {l:List ah} (h:zP l=0):∀ p∈dZ l,zP p.bl=0:=by intro p hp;rw [qB] at hp;obtain ⟨s,hs,rfl⟩:=List.mem_map.1 hp;obtain ⟨h1,h2⟩:=wu h;obtain ⟨h3,h4⟩:=WZ qp l h1 (by rw [ah.jg];exact h2) s hs;rw [ah.jg] at h4;rw [uy];unfold zP;rw [if_neg (by rw [h3];simp),h4];rfl
theorem ay.jc5 (w:jp3) (p:Pr):Rd (w.heap.size<=·) (w.alloc (.cells #[.string p.key,.string p.val] 61)) (bP [p]) [.slice (some ⟨w.heap.size,0,none⟩) 1 1]:=
 Rd.slB (rows:=[[.string p.key,.string p.val]]) (l:=[p.d]) (jm1 _) (by decide) (aH.one (Pr.eH _ _ p)) (by simp) (jm1 _) (by rw [jmx];omega)
  (fun j u hu=>(CB.new 61 [.string p.key,.string p.val] w).cell j u (by simpa using hu))
def Xv (me:List Pr) (l:List ah) (title lang:ByteArray):Nd:=if KJ me l title lang=0 then fq title lang (Oz l) else mV
def Pq (w4:jp3) (P:List Pt) (v vi:jp5) (wr:jp3):Prop:=∃ (k:Nat) (rows:List (List jp5)),k<=P.length/\vi=.int .i64 k/\ay 35 4 (fun _=>False) wr.heap.size w4 (((P.take k).map (fun p=>tX p.bl)).map Nd.d) rows v wr
def Pv (wA:jp3) (p3:Nat) (V:jp5) (vi:jp5) (wr:jp3):Prop:=∃ k:Nat,k<=2/\vi=.int .i64 k/\(k<=1->wr=wA)/\(k=2->wr=wA.setCell ⟨p3,7,none⟩ V)
theorem Ar (me:List Pr) (l:List ah) (title lang:ByteArray) (vm vb:jp5) (w:jp3) (hm:Rd (·<w.heap.size) w (bP me) [vm]) (hb:Rd (·<w.heap.size) w (fC l) [vb]) (hme:me.length<=1000) (sH:∀ p∈me,p.key.size<=1000/\p.val.size<=1000) (hall:ah.bU l<=32768) (hsm:ah.aF l) (hsz:ah.aR l<=900000) (hil:(ah.aU l).length<=1000) (hbd:ah.jS l) (hti:title.size<=300) (hla:lang.size<=300) (ht:PT w) : Calls Tryz.prog 23 #[.agg #[vm,vb],.string title,.string lang] w (wS w (KJ me l title lang) (Xv me l title lang)):=by
 obtain ⟨am,nm,cm,rfl⟩:=Rd.au hm;obtain ⟨ab,nb,cb,rfl⟩:=Rd.au hb;obtain ⟨iN,FH,nW,og,oh⟩:=info_parts mG;obtain ⟨S,W0,hS,hW0,z0,k0,k1,b0⟩:=rz 26 w [.slice am nm cm,.slice ab nb cb];have KO:jp4 w.heap.size w W0:=by rw [<- hS];exact b0
 have PC:=hid (GA me l title lang _ _ W0 (hm.up KO) (hb.up KO) hme sH hall hsm hsz hil hbd hti hla (ht.below KO));have HB:=hid hb;have pX:Hid (∀ W,jp4 w.heap.size w W->PT W):=fun W hW=>ht.below hW
 have Da:=hid hS;have HW0:=hid hW0;have Z0:=hid z0;have B0:=hid b0;have B0w:=hid KO;have K1:=hid k1;have X0:Hid (∀ W:jp3,jp4 W0.heap.size W0 W->W.cell? ⟨S,1,none⟩=some (.slice ab nb cb)):=fun W hW=>(k0.below hW).cell 1 _ rfl
 have x0:=k0.cell 0 _ rfl;have x1:=k0.cell 1 _ rfl;have hP1:=Fq l;have hP2:=Pn l;have hP3:=Po l hsm;have TP:=Fu l hbd;have hP5:=Au l;have VW:=fun h=>Pp (l:=l) h
 have hll:=ah.cZ l;have hbe:KJ me l title lang=0->zP l=0:=fun h=>Wo h
 obtain ⟨E,hE⟩:∃ E,E=KJ me l title lang:=⟨_,rfl⟩;obtain ⟨X,hX⟩:∃ X,X=T9 me l title lang:=⟨_,rfl⟩;have L8:X=if E=0 then fq title lang (eP l) else mV:=by rw [hX,hE];rfl
 have hsp:Xv me l title lang=if E=0 then fq title lang (Oz l) else mV:=by rw [hE];rfl
 rw [<- hE,<- hX] at PC;rw [<- hE] at hbe;rw [<- hE];obtain ⟨Z,hZ⟩:∃ Z,Z=Xv me l title lang:=⟨_,rfl⟩;rw [<- hZ];have HZZ:Hid (Z=if E=0 then fq title lang (Oz l) else mV):=by show _=_;rw [hZ,hsp]
 have Vm:=hid hbe;have Sy:=hid hP1;have L9:=hid hP2;have HPS:=hid hP3;have Q9:=hid TP;have HP6:=hid VW;have Yi:Hid ((dZ l).length<=900001):=by show _<=_;omega
 have QM:Hid (l.length<=900000):=by show _<=_;omega
 have CO:=hid hsz;have HIL:=hid hil;have HXE:=hid L8;clear hm hb hme sH hall hsm hsz hil hbd hti hla ht hS hW0 z0 k0 k1 b0 KO hP1 hP2 hP3 TP hP5 VW hll hbe hE hX L8 hsp hZ;go_enter Tryz.func23,Tryz.ntmps23;go_upto_region 1 with (fail)
 rw [<- Da.out];have hk0:=HW0.out;simp only [jN] at hk0;rw [<- hk0];clear hk0;obtain ⟨xn,xt,xa,xk⟩:=X;go_wp2_with fail
 (with_reducible refine PC.out.mono ?_)
 rintro e w2 ⟨va,vk,he,hN,b2,hx2⟩;obtain ⟨aA,nA,cA,rfl⟩:=Rd.au hN.at_
 obtain ⟨aK,nK,cK,rfl⟩:=Rd.au hN.ks;have he:e=.returned (.tuple #[.agg #[.string xn,.string xt,.slice aA nA cA,.slice aK nK cK],.int .i64 (E:Int)]):=he;subst he;obtain ⟨Bp,BK⟩:∃ Bp,Bp=w2.heap.size:=⟨_,rfl⟩;obtain ⟨w3,hw3⟩:∃ w3,w3=w2.alloc (.cells #[.string xn,.string xt,.slice aA nA cA,.slice aK nK cK] 35):=⟨_,rfl⟩;have k3:CB 35 Bp [.string xn,.string xt,.slice aA nA cA,.slice aK nK cK] w3:=by rw [hw3,BK];exact CB.new _ _ _
 have b23:jp4 w2.heap.size w2 w3:=by rw [hw3];exact (jm0 _ _).alloc (jm1 _) _
 have B3:=hid (aP b2 b23);have HB2:=hid b2;have B23:=hid b23;have K3:=hid k3;have HBP:=hid BK;have HX2:=hid hx2;clear x0 x1 hN b2 b23 k3 PC hx2;go_upto_region 2 with (fail)
 rw [<- hw3,<- BK];clear hw3 BK;by_cases h0:E=0
 ·have hz:Z=fq title lang (Oz l):=by rw [HZZ.out,if_pos h0]
  have HZ0:=hid hz;have hXf:Nd.mk xn xt xa xk=fq title lang (eP l):=by rw [HXE.out,if_pos h0]
  obtain ⟨rfl,rfl,rfl,rfl⟩:xn=kW/\xt=⟨#[]⟩/\xa=[⟨iQ,lang⟩]/\xk=[aQ iX [] [aQ jw [⟨Dc,gJ⟩] [],aQ fV [] (bS title)],aQ gI [] (eP l)]:=by have h:=hXf;unfold fq aQ at h;simpa [aQ] using h
  have hx:=HX2.out h0;obtain ⟨p3,kh,bv,hvk,hp3,hCB,hKH,hAT⟩:=hx;have jc6:Hid (p3<Bp):=by show _<_;rw [HBP.out];exact (Array.getElem?_eq_some_iff.1 hCB).1
  obtain ⟨rfl,rfl,rfl⟩:aK=some ⟨p3,0,none⟩/\nK=2/\cK=2:=by simpa using hvk
  have hbs:=Vm.out h0;have HBS:=hid hbs;have q0:((E:Int) != 0)=false:=by rw [h0];rfl
  have HE0:=hid h0;have PU:=hid (CB.below hCB B23.out);have HKH:=hid (Rd.aY hKH B23.out);have HAT:=hid (Rd.aY hAT B23.out);have FJ:=hid hp3;have PA:=hid (zK l _ w3 (HB.out.up (B0w.out.trans (B3.out.mono B0w.out.size))) (by have:=QM.out;omega));obtain ⟨P,hP⟩:∃ P,P=dZ l:=⟨_,rfl⟩;rw [<- hP] at PA;have HPP:=hid hP;have x1:=X0.out w3 B3.out;clear hz hXf hvk hp3 hCB hKH hAT hbs h0 hP HX2;go_wp2_with fail
  (with_reducible refine PA.out.mono ?_)
  rintro e w4 ⟨v4,rfl,h4,b4⟩;obtain ⟨a4,c4,hv4,hs4⟩:=Rd.aB h4;obtain ⟨nP,Pw⟩:∃ nP,nP=P.length:=⟨_,rfl⟩;obtain rfl:v4=.slice a4 nP c4:=by rw [Pw];simpa using hv4
  have hc4:nP<=c4:=by rw [Pw];simpa using hs4.le
  have P5:=hs4.max;unfold maxLen at P5;have hnp:nP<=900001:=by rw [Pw,HPP.out];exact Yi.out
  have Px:=hid Pw;have HS4:=hid hs4;have B4:=hid (aP B3.out b4);have B34:=hid b4;have R0:Hid (Pq w4 P (.slice none 0 0) (.int .i64 0) w4):=⟨0,[],Nat.zero_le _,rfl,ay.nil _ _ _ _⟩;clear hv4 h4 hs4 b4 Pw PA x1;go_wp2
  go_loopw [10,32] (fun v vi wr=>Pq w4 P v vi wr) (fun _ i _=>nP-(intOf i).toNat)
  case atStart=>exact R0.out
  case round=>
   clear R0;obtain ⟨k,rows,hk,rfl,hR⟩:=hrel;obtain ⟨nv,yG⟩:∃ nv,nv=(((P.take k).map (fun p=>tX p.bl)).map Nd.d).length:=⟨_,rfl⟩;obtain ⟨av,cv,rfl,hcv,hcm⟩:=hR.cap yG.symm;unfold maxLen at hcm;have ji9:nv<=900001:=by have:=Px.out;rw [yG,jm6,jm6,List.length_take];omega
   have HNV:=hid yG.symm;have hbel:=hR.aI;have HRW:=hid hR;clear hR yG;by_cases hlt:k<nP
   ·obtain ⟨x,hx⟩:∃ x,P[k]?=some x:=⟨_,List.getElem?_eq_getElem (by have:=Px.out;omega)⟩;have hxm:x∈dZ l:=by rw [<- HPP.out];exact List.mem_of_getElem? hx
    obtain ⟨b,off,ha,hok,hb,hcx⟩:=HS4.out.at_ (by rw [jm6];have:=Px.out;omega)
    subst ha;obtain ⟨r,hr,hrl,hcell⟩:=hcx k x.d (by rw [List.getElem?_map,hx];rfl);obtain ⟨vbl,rfl,hbl⟩:=Pt.open_ hr;obtain ⟨al,nl,cl,rfl⟩:=Rd.au hbl;have c0:wr.cell? ⟨b,off+k*2,none⟩=some (.bool x.ti):=(hbel.cell (p:=⟨_,_,none⟩) hb).trans (hcell 0 _ rfl);have c1':wr.cell? ⟨b,off+k*2+1,none⟩=some (.slice al nl cl):=(hbel.cell (p:=⟨_,_,none⟩) hb).trans (hcell 1 _ rfl);obtain ⟨q,hq⟩:∃ q,q=wr.heap.size:=⟨_,rfl⟩;obtain ⟨tb,htb⟩:∃ tb,tb=x.ti:=⟨_,rfl⟩;rw [<- htb] at c0;obtain ⟨w5,Gv⟩:∃ w5,w5=wr.alloc (.cells #[.bool tb,.slice al nl cl] 96):=⟨_,rfl⟩;have k5:CB 96 q [.bool tb,.slice al nl cl] w5:=by rw [Gv,hq];exact CB.new _ _ _
    have b5:jp4 wr.heap.size wr w5:=by rw [Gv];exact (jm0 _ _).alloc (jm1 _) _
    have B5:=aP hbel b5;have B5w:jp4 w.heap.size w w5:=aP (aP B0w.out B4.out) B5;have BC:=Jk x.bl (.slice al nl cl) w5 (hbl.up B5) (HPS.out x hxm) (by have:=Sy.out x hxm;have:=CO.out;omega) (by have:=L9.out x hxm;have:=HIL.out;omega) (Q9.out x hxm) (pX.out _ B5w);have hbx:=HP6.out HBS.out x hxm;have hbn:TY x.bl=eP x.bl:=by unfold TY;rw [if_pos hbx]
    rw [hbx,hbn] at BC;have vD:=hid BC;have HQ:=hid hq;have HX:=hid hx;have qM:=hid b5;have e1:=k5.cell 1 _ rfl;clear hr hcell hrl hbl hok hb hx hxm hcx k5 b5 B5 B5w BC hbx hbn htb hq;go_upto_region 8 with (fail)
    rw [<- Gv];simp only [<- HQ.out];clear Gv c0 c1';go_wp2_with fail
    (with_reducible refine vD.out.mono ?_)
    rintro e w6 ⟨Uk,v6,rfl,CZ⟩;obtain ⟨a6,n6,c6,rfl⟩:=CZ.slice3;obtain ⟨p7,Wx⟩:∃ p7,p7=w6.heap.size:=⟨_,rfl⟩;obtain ⟨w7,hw7⟩:∃ w7,w7=w6.alloc (.cells #[.string ⟨#[99,108,97,115,115]⟩,.string ⟨#[115,108,105,100,101]⟩] 61):=⟨_,rfl⟩;have b7:jp4 w6.heap.size w6 w7:=by rw [hw7];exact (jm0 _ _).alloc (jm1 _) _
    have B7:=qM.out.trans ((CZ.aI.trans (b7.mono CZ.aI.size)).mono qM.out.size);have jij:wr.heap.size<=p7:=by have:=qM.out.size;have:=CZ.aI.size;omega
    have jc7:Rd (fun b=>False\/wr.heap.size<=b) w7 (bP [⟨iF,Ce⟩]) [.slice (some ⟨p7,0,none⟩) 1 1]:=by have h:=ay.jc5 w6 ⟨iF,Ce⟩;rw [hw7,Wx];exact h.weaken (fun b hb=>.inr (by omega))
    have jc8:Rd (fun b=>False\/wr.heap.size<=b) w7 (cO (eP x.bl)) [.slice a6 n6 c6]:=(CZ.fD.aY b7).weaken (fun b hb=>.inr (by have:=qM.out.size;omega));have HX7:=hid (Nd.eH eT ⟨#[]⟩ ⟨jc7,jc8⟩);have HR7:=hid (HRW.out.below B7);have HQ7:=hid Wx;clear CZ b7 B7 jc7 jc8 Wx jij vD e1;go_upto_region 12 with (fail)
    rw [<- hw7];simp only [<- HQ7.out];clear hw7;go_wp2_with (at_builtin;refine eX (n:=nv) rfl _ _ 28 rfl iN _ 80 Tryz.underlying28 FH nW og oh rfl (by decide) HR7.out (fun b hb=>hb.elim) (tX x.bl).d [.string ⟨#[115,101,99,116,105,111,110]⟩,.string ⟨#[]⟩,.slice (some ⟨p7,0,none⟩) 1 1,.slice a6 n6 c6] HX7.out rfl jO HNV.out (by omega) (by decide) rfl rfl ?_)
    intro a8 c8 w8 zS Ui;have hf:Pq w4 P (.slice a8 (nv+1) c8) (.int .i64 ((k+1:Nat):Int)) w8:=by
     refine ⟨k+1,rows++[[.string ⟨#[115,101,99,116,105,111,110]⟩,.string ⟨#[]⟩,.slice (some ⟨p7,0,none⟩) 1 1,.slice a6 n6 c6]],by have:=Px.out;omega,rfl,?_⟩;have e:((P.take (k+1)).map (fun p=>tX p.bl)).map Nd.d=List.take k (List.map (Nd.d ∘ fun p=>tX p.bl) P)++[(tX x.bl).d]:=by rw [List.take_add_one,HX.out];simp
     rw [e];exact zS
    have HF:=hid hf;clear zS Ui hf;go_wp2;go_roundw;case rel=>exact HF.out
    case measure=>simp [intOf];omega
   ·obtain ⟨wA,hA⟩:∃ wA,wA=wr:=⟨_,rfl⟩;subst hA;have hkl:k=P.length:=by have:=Px.out;omega
    have hrow:ay 35 4 (fun _=>False) wA.heap.size w4 ((Oz l).map Nd.d) rows (.slice av nv cv) wA:=by have h:=HRW.out;rw [hkl,List.take_length,HPP.out,lS] at h;exact h
    have Py:=aP B34.out hbel;have YC:=hid hrow.fD;have Yy:=hid (K3.out.below Py);have HCR:=hid (PU.out.below Py);have HKR:=hid (HKH.out.aY Py);have Te:=hid (HAT.out.aY Py);have HBR:=hid (aP B4.out hbel);have HBZ:Hid (Bp<w4.heap.size):=by show _<_;have h1:=(Array.getElem?_eq_some_iff.1 K3.out).1;have:=B34.out.size;omega
    have zh:Hid (Bp<wA.heap.size):=by show _<_;exact (Array.getElem?_eq_some_iff.1 Yy.out).1
    have e3:=Yy.out.cell 3 _ rfl;have R1:Hid (Pv wA p3 (.slice av nv cv) (.int .i64 0) wA):=⟨0,by omega,rfl,fun _=>rfl,by omega⟩;clear hkl hrow Py hbel HRW;go_wp2
    go_loopw [58] (fun vi wr=>Pv wA p3 (.slice av nv cv) vi wr) (fun i _=>2-(intOf i).toNat)
    case atStart=>exact R1.out
    case round=>
     clear R1;obtain ⟨j,hj,rfl,hj1,hj2⟩:=hrel;rcases (by omega:j=0\/j=1\/j=2) with rfl | rfl | rfl
     ·obtain rfl:=hj1 (by omega);have e0:=HCR.out.cell 0 _ rfl;have hq:(iX.toList==[98,111,100,121])=false:=by kernel_rfl
      go_wp2;clear hq;go_roundw;case rel=>exact ⟨1,by omega,rfl,fun _=>rfl,by omega⟩
      case measure=>simp [intOf]
     ·obtain rfl:=hj1 (by omega);have e4:=HCR.out.cell 4 _ rfl;have e7:=HCR.out.cell 7 _ rfl;have hf:=mg HCR.out;have hq:(gI.toList==[98,111,100,121])=true:=by kernel_rfl
      go_wp2;clear hq;go_roundw;case rel=>exact ⟨2,by omega,rfl,by omega,fun _=>rfl⟩
      case measure=>simp [intOf]
     ·have hwx:=hj2 rfl;have HWX:=hid hwx;have hb:jp4 wA.heap.size wA wA:=jm0 _ _;have keep:∀ b,b≠p3->wr.heap[b]?=wA.heap[b]?:=fun b hb=>by rw [hwx];exact Below.heap_setCell wA ⟨p3,7,none⟩ _ b hb
      have hzx:wr.heap.size=wA.heap.size:=by rw [hwx];simp [World.setCell]
      have hCX:CB 35 p3 [.string iX,.string ⟨#[]⟩,.slice none 0 0,kh,.string gI,.string ⟨#[]⟩,.slice none 0 0,.slice av nv cv] wr:=by rw [hwx];exact dx HCR.out 7 _
      have hKX:CB 35 Bp [.string kW,.string ⟨#[]⟩,.slice aA nA cA,.slice (some ⟨p3,0,none⟩) 2 2] wr:=(keep Bp (by have:=jc6.out;omega)).trans Yy.out;have hp3:=FJ.out;have hs4:=HBR.out.size;have hbx:jp4 W0.heap.size W0 wr:=by rw [hwx];exact HBR.out.setCell (p:=⟨p3,7,none⟩) hp3 _
      have hpl:=jc6.out;have hbz:=HBZ.out;have hNR:kZ (W0.heap.size<=·) wr [⟨iQ,lang⟩] [aQ iX [] [aQ jw [⟨Dc,gJ⟩] [],aQ fV [] (bS title)],aQ gI [] (Oz l)] (.slice aA nA cA) (.slice (some ⟨p3,0,none⟩) 2 2):=by
       refine ⟨Rd.keep (fun b (hb:W0.heap.size<=b/\b<p3) _=>⟨hb.1,keep b (by omega)⟩) _ _ Te.out,?_⟩;have r1:Rd (W0.heap.size<=·) wr (aQ iX [] [aQ jw [⟨Dc,gJ⟩] [],aQ fV [] (bS title)]).d [.string iX,.string ⟨#[]⟩,.slice none 0 0,kh]:=
        Nd.eH iX ⟨#[]⟩ ⟨Rd.aD _ _ _,Rd.keep (fun b (hb:W0.heap.size<=b/\b<p3) _=>⟨hb.1,keep b (by omega)⟩) _ _ HKR.out⟩
       have r2:Rd (W0.heap.size<=·) wr (aQ gI [] (Oz l)).d [.string gI,.string ⟨#[]⟩,.slice none 0 0,.slice av nv cv]:=
        Nd.eH gI ⟨#[]⟩ ⟨Rd.aD _ _ _,Rd.keep (fun b (hb:w4.heap.size<=b) _=>⟨by have:=B4.out.size;omega,keep b (by omega)⟩) _ _ YC.out⟩
       exact Rd.slB (rows:=[[.string iX,.string ⟨#[]⟩,.slice none 0 0,kh],[.string gI,.string ⟨#[]⟩,.slice none 0 0,.slice av nv cv]]) (l:=[(aQ iX [] [aQ jw [⟨Dc,gJ⟩] [],aQ fV [] (bS title)]).d,(aQ gI [] (Oz l)).d]) (jm1 _) (by decide) (aH.cons r1 (aH.one r2)) (by simp) hp3 (by have:=zh.out;omega)
        (fun j u hu=>hCX.cell j u (by simpa using hu))
      obtain ⟨w9,bM⟩:∃ w9,w9=four wr (S+1) (.string kW) (.string ⟨#[]⟩) (.slice aA nA cA) (.slice (some ⟨p3,0,none⟩) 2 2):=⟨_,rfl⟩;have hf:=fE kW ⟨#[]⟩ [⟨iQ,lang⟩] [aQ iX [] [aQ jw [⟨Dc,gJ⟩] [],aQ fV [] (bS title)],aQ gI [] (Oz l)] Da.out Z0.out B0.out K1.out hbx hNR;rw [<- bM] at hf;have iZ:=hid hf.1;have Bz:=hid hf.2;obtain ⟨x0,x1,x2,x3,xf⟩:=pY (K1.out.below hbx);have c0:=hKX.cell 0 _ rfl;have c1:=hKX.cell 1 _ rfl;have c2:=hKX.cell 2 _ rfl;have c3:=hKX.cell 3 _ rfl;clear hf hNR hbx hpl hbz hs4 hp3 hKX hCX hzx keep hb hwx hj1 hj2 e3;have hw8:=bM;simp only [four] at hw8;clear bM;go_wp2;rw [<- hw8];have r0:=iZ.out.cell 0 _ rfl;have r1:=iZ.out.cell 1 _ rfl;have r2:=iZ.out.cell 2 _ rfl;have r3:=iZ.out.cell 3 _ rfl;exact bodyPost_ret (v:=.tuple #[.agg #[.string kW,.string ⟨#[]⟩,.slice aA nA cA,.slice (some ⟨p3,0,none⟩) 2 2],.int .i64 (0)]) (by simp [results,Tryz.results23,go_sem,r0,r1,r2,r3]) rfl (by rw [HZ0.out,HE0.out];exact wS.of Bz.out (by simp))
 ·have q0:((E:Int) != 0)=true:=by rw [bne_iff_ne];omega
  have hz:Z=mV:=by rw [HZZ.out,if_neg h0]
  have HZ0:=hid hz;clear hz;obtain ⟨x0,x1,x2,x3,xf⟩:=pY (K1.out.below B3.out);obtain ⟨w9,bM⟩:∃ w9,w9=four w3 (S+1) (.string ⟨#[]⟩) (.string ⟨#[]⟩) (.slice none 0 0) (.slice none 0 0):=⟨_,rfl⟩;have hf:=fE ⟨#[]⟩ ⟨#[]⟩ [] [] Da.out Z0.out B0.out K1.out B3.out ⟨Rd.aD _ _ _,Rd.aD _ _ _⟩;rw [<- bM] at hf;have iZ:=hid hf.1;have Bz:=hid hf.2;clear hf h0;have hw8:=bM;simp only [four] at hw8;clear bM;go_wp2;rw [<- hw8];have r0:=iZ.out.cell 0 _ rfl;have r1:=iZ.out.cell 1 _ rfl;have r2:=iZ.out.cell 2 _ rfl;have r3:=iZ.out.cell 3 _ rfl;exact bodyPost_ret (v:=.tuple #[.agg #[.string ⟨#[]⟩,.string ⟨#[]⟩,.slice none 0 0,.slice none 0 0],.int .i64 (E)]) (by simp [results,Tryz.results23,go_sem,r0,r1,r2,r3]) rfl (by rw [HZ0.out];exact wS.of Bz.out (by simp))
open Go.RowKit
def bC (k lv:Int) (id:ByteArray) (vl:jp5):List jp5:=[.int .i64 k,.int .i64 lv,.string ⟨#[]⟩,.string ⟨#[]⟩,.string ⟨#[]⟩,.string ⟨#[]⟩,.string id,.slice none 0 0,.slice none 0 0,vl,.slice none 0 0]
def sB (k lv:Int) (id:ByteArray) (li:List aj):ah:=.mk k lv ⟨#[]⟩ ⟨#[]⟩ ⟨#[]⟩ ⟨#[]⟩ ⟨id,[],[]⟩ li []
theorem tJ {ok:Nat->Prop} {w:jp3} (k lv:Int) (id:ByteArray) {li:List aj} {vl:jp5} (h:Rd ok w (aX li) [vl]):Rd ok w (sB k lv id li).d (bC k lv id vl):=ah.eH k lv ⟨#[]⟩ ⟨#[]⟩ ⟨#[]⟩ ⟨#[]⟩ ⟨⟨Rd.aD _ _ _,Rd.aD _ _ _⟩,h,Rd.aD _ _ _⟩
theorem jF {w:jp3} {p:Nat} {t:ByteArray} (k:CB 66 p (eC t) w) (ok:Nat->Prop) (h:ok p):Rd ok w (aX [Nz t]) [.slice (some ⟨p,0,none⟩) 1 1]:=
 Rd.Ua (l:=[Nz t].map aj.d) (rows:=[eC t]) (by simp) (by unfold maxLen;decide) (aH.one (Wq _ _ _)) (by simp [eC]) h k.lt (fun j u hu=>k.cell j u (by simpa using hu))
def Cu (k lv:Int) (id t:ByteArray) (w:jp3) (e:Ending) (w':jp3):Prop:=
 ∃ p,e=.returned (.agg (bC k lv id (.slice (some ⟨p,0,none⟩) 1 1)).toArray)/\w.heap.size<=p/\CB 66 p (eC t) w'/\jp4 w.heap.size w w'
theorem UY (k lv:Int) (id t:ByteArray) (w:jp3):∃ S W1,S=w.heap.size/\W1=(w.alloc (.cells (bC 0 0 ⟨#[]⟩ (.slice none 0 0)).toArray 48)).alloc (.cells (eC t).toArray 66)/\CB 48 S (bC 0 0 ⟨#[]⟩ (.slice none 0 0)) W1 /\ CB 48 S (bC k lv id (.slice (some ⟨S+1,0,none⟩) 1 1)) (oD W1 S 0 (bC k lv id (.slice (some ⟨S+1,0,none⟩) 1 1)))/\Cu k lv id t w (.returned (.agg (bC k lv id (.slice (some ⟨S+1,0,none⟩) 1 1)).toArray)) (oD W1 S 0 (bC k lv id (.slice (some ⟨S+1,0,none⟩) 1 1))):=by
 obtain ⟨S,hS⟩:∃ S,S=w.heap.size:=⟨_,rfl⟩;obtain ⟨W1,hW⟩:∃ W1,W1=(w.alloc (.cells (bC 0 0 ⟨#[]⟩ (.slice none 0 0)).toArray 48)).alloc (.cells (eC t).toArray 66):=⟨_,rfl⟩;have z:(w.alloc (.cells (bC 0 0 ⟨#[]⟩ (.slice none 0 0)).toArray 48)).heap.size=S+1:=by rw [jmx,hS]
 have k0:CB 48 S (bC 0 0 ⟨#[]⟩ (.slice none 0 0)) W1:=by rw [hW,hS];exact (CB.new _ _ w).below ((jm0 _ _).alloc (jm1 _) _)
 have k1:CB 66 (S+1) (eC t) W1:=by rw [hW,<- z];exact CB.new _ _ _
 have b1:jp4 w.heap.size w W1:=by rw [hW];exact ((jm0 _ _).alloc (jm1 _) _).alloc (by rw [z];omega) _
 refine ⟨S,W1,hS,hW,k0,?_,S+1,rfl,by omega,(gV S _ _ _ _ (by omega)).trans k1,?_⟩
 ·exact dx (dx (dx (dx (dx (dx (dx (dx (dx (dx (dx k0 0 _) 1 _) 2 _) 3 _) 4 _) 5 _) 6 _) 7 _) 8 _) 9 _) 10 _
 ·have hs:=Nat.le_of_eq hS.symm;exact ((((((((((b1.setCell (p:=⟨S,0,none⟩) hs _).setCell (p:=⟨S,1,none⟩) hs _).setCell (p:=⟨S,2,none⟩) hs _).setCell (p:=⟨S,3,none⟩) hs _).setCell (p:=⟨S,4,none⟩) hs _).setCell (p:=⟨S,5,none⟩) hs _).setCell (p:=⟨S,6,none⟩) hs _).setCell (p:=⟨S,7,none⟩) hs _).setCell (p:=⟨S,8,none⟩) hs _).setCell (p:=⟨S,9,none⟩) hs _).setCell (p:=⟨S,10,none⟩) hs _
theorem Cv (lv:Int) (id:ByteArray) (w:jp3):Calls Tryz.prog 28 #[.int .i64 lv,.string id] w (Cu 2 lv id ⟨#[84]⟩ w):=by
 obtain ⟨S,W1,hS,hW,k0,k1,hP⟩:=UY 2 lv id ⟨#[84]⟩ w;obtain ⟨w9,bM⟩:∃ w9,w9=oD W1 S 0 (bC 2 lv id (.slice (some ⟨S+1,0,none⟩) 1 1)):=⟨_,rfl⟩;obtain ⟨w0,hw0⟩:∃ w0,w0=w.alloc (.cells (bC 0 0 ⟨#[]⟩ (.slice none 0 0)).toArray 48):=⟨_,rfl⟩;have z0:w0.heap.size=S+1:=by rw [hw0,jmx,hS]
 rw [<- bM] at k1 hP;rw [<- hw0] at hW;have HP:=hid hP;have K1:=hid k1;have HZ:=hid z0;have r0:=k0.cell 0 _ rfl;have r1:=k0.cell 1 _ rfl;have r2:=k0.cell 2 _ rfl;have r3:=k0.cell 3 _ rfl;have r4:=k0.cell 4 _ rfl;have r5:=k0.cell 5 _ rfl;have r6:=k0.cell 6 _ rfl;have r7:=k0.cell 7 _ rfl;have r8:=k0.cell 8 _ rfl;have r9:=k0.cell 9 _ rfl;have Xw:=k0.cell 10 _ rfl;have g0:=mg k0 0;have g1:=mg k0 1;have g2:=mg k0 2;have g3:=mg k0 3;have g4:=mg k0 4;have g5:=mg k0 5;have g6:=mg k0 6;have g7:=mg k0 7;have g8:=mg k0 8;have g9:=mg k0 9;have g10:=mg k0 10;simp only [bC,oD] at bM;simp only [eC] at hW;subst hW;simp only [bC] at hw0;clear hP k0 k1 z0;go_enter Tryz.func28,Tryz.ntmps28;go_upto_region 1 with (fail)
 rw [<- hw0,<- hS];clear hw0 hS;go_wp2;simp only [HZ.out];rw [<- bM];clear bM r0 r1 r2 r3 r4 r5 r6 r7 r8 r9 Xw;have r0:=K1.out.cell 0 _ rfl;have r1:=K1.out.cell 1 _ rfl;have r2:=K1.out.cell 2 _ rfl;have r3:=K1.out.cell 3 _ rfl;have r4:=K1.out.cell 4 _ rfl;have r5:=K1.out.cell 5 _ rfl;have r6:=K1.out.cell 6 _ rfl;have r7:=K1.out.cell 7 _ rfl;have r8:=K1.out.cell 8 _ rfl;have r9:=K1.out.cell 9 _ rfl;have Xw:=K1.out.cell 10 _ rfl;exact bodyPost_ret (v:=.agg (bC 2 lv id (.slice (some ⟨S+1,0,none⟩) 1 1)).toArray) (by simp [bC,results,Tryz.results28,go_sem,r0,r1,r2,r3,r4,r5,r6,r7,r8,r9,Xw]) rfl HP.out
theorem Il (w:jp3):Calls Tryz.prog 55 #[] w (Cu 1 0 ⟨#[]⟩ ⟨#[112]⟩ w):=by
 obtain ⟨S,W1,hS,hW,k0,k1,hP⟩:=UY 1 0 ⟨#[]⟩ ⟨#[112]⟩ w;obtain ⟨w9,bM⟩:∃ w9,w9=oD W1 S 0 (bC 1 0 ⟨#[]⟩ (.slice (some ⟨S+1,0,none⟩) 1 1)):=⟨_,rfl⟩;obtain ⟨w0,hw0⟩:∃ w0,w0=w.alloc (.cells (bC 0 0 ⟨#[]⟩ (.slice none 0 0)).toArray 48):=⟨_,rfl⟩;have z0:w0.heap.size=S+1:=by rw [hw0,jmx,hS]
 rw [<- bM] at k1 hP;rw [<- hw0] at hW;have HP:=hid hP;have K1:=hid k1;have HZ:=hid z0;have r0:=k0.cell 0 _ rfl;have r1:=k0.cell 1 _ rfl;have r2:=k0.cell 2 _ rfl;have r3:=k0.cell 3 _ rfl;have r4:=k0.cell 4 _ rfl;have r5:=k0.cell 5 _ rfl;have r6:=k0.cell 6 _ rfl;have r7:=k0.cell 7 _ rfl;have r8:=k0.cell 8 _ rfl;have r9:=k0.cell 9 _ rfl;have Xw:=k0.cell 10 _ rfl;have g0:=mg k0 0;have g1:=mg k0 1;have g2:=mg k0 2;have g3:=mg k0 3;have g4:=mg k0 4;have g5:=mg k0 5;have g6:=mg k0 6;have g7:=mg k0 7;have g8:=mg k0 8;have g9:=mg k0 9;have g10:=mg k0 10;simp only [bC,oD] at bM;simp only [eC] at hW;subst hW;simp only [bC] at hw0;clear hP k0 k1 z0;go_enter Tryz.func55,Tryz.ntmps55;go_upto_region 1 with (fail)
 rw [<- hw0,<- hS];clear hw0 hS;go_wp2;simp only [HZ.out];rw [<- bM];clear bM r0 r1 r2 r3 r4 r5 r6 r7 r8 r9 Xw;have r0:=K1.out.cell 0 _ rfl;have r1:=K1.out.cell 1 _ rfl;have r2:=K1.out.cell 2 _ rfl;have r3:=K1.out.cell 3 _ rfl;have r4:=K1.out.cell 4 _ rfl;have r5:=K1.out.cell 5 _ rfl;have r6:=K1.out.cell 6 _ rfl;have r7:=K1.out.cell 7 _ rfl;have r8:=K1.out.cell 8 _ rfl;have r9:=K1.out.cell 9 _ rfl;have Xw:=K1.out.cell 10 _ rfl;exact bodyPost_ret (v:=.agg (bC 1 0 ⟨#[]⟩ (.slice (some ⟨S+1,0,none⟩) 1 1)).toArray) (by simp [bC,results,Tryz.results55,go_sem,r0,r1,r2,r3,r4,r5,r6,r7,r8,r9,Xw]) rfl HP.out
open Go.RowKit
def sP:ah:=sB 1 0 ⟨#[]⟩ [Nz ⟨#[112]⟩]
def LM:List ah:=[sB 2 1 ⟨#[]⟩ [Nz ⟨#[84]⟩],sP,sB 5 0 ⟨#[]⟩ [],sP]
def rZ:List ah:=[sB 2 2 ⟨#[115]⟩ [Nz ⟨#[84]⟩],sP]
theorem jc9:slP LM=[⟨[Nz ⟨#[84]⟩],[sP]⟩,⟨[],[sP]⟩]:=by rfl
theorem UZ:KJ [] rZ ⟨#[84]⟩ ⟨#[101,110]⟩=0:=by decide +kernel
theorem jcj:Xv [] [] ⟨#[84]⟩ ⟨#[101,110]⟩=fq ⟨#[84]⟩ ⟨#[101,110]⟩ []:=by unfold Xv;rw [if_pos ZF,<- lS];rfl
theorem jck:Xv [] rZ ⟨#[84]⟩ ⟨#[101,110]⟩=fq ⟨#[84]⟩ ⟨#[101,110]⟩ [tX rZ]:=by unfold Xv;rw [if_pos UZ,<- lS];rfl
theorem jcq:(eP rZ).length=2:=by rfl
theorem U0:(fq ⟨#[84]⟩ ⟨#[101,110]⟩ [tX rZ]).vals oC=[⟨#[115]⟩]:=by rfl
theorem Av {k lv:Int} {id t:ByteArray} (hi:(⟨id,[],[]⟩:At).short) (ht:t.size<=50):(sB k lv id [Nz t]).small/\(sB k lv id []).small:=by
 have h0:(⟨#[]⟩:ByteArray).size<=300:=by decide
 have h2:(⟨⟨#[]⟩,[],[]⟩:At).short:=⟨by decide,by decide,by decide,fun _ h=>(by cases h),fun _ h=>(by cases h)⟩;have h3:t.size<=300:=by omega
 have h3':aj.aR [aj.mk 1 t ⟨#[]⟩ ⟨#[]⟩ ⟨⟨#[]⟩,[],[]⟩ [] [] []]<=120:=by simp [aj.aR,aj.sz]
 constructor<;>simp [sB,Nz,eAt,ah.aF,ah.small,h0,show aj.aR []<=120 by decide,h2,h3,h3',hi,aj.aF,aj.small]
theorem Fv:(⟨⟨#[]⟩,[],[]⟩:At).short:=⟨by decide,by decide,by decide,fun _ h=>(by cases h),fun _ h=>(by cases h)⟩
theorem jcx:(⟨⟨#[115]⟩,[],[]⟩:At).short:=⟨by decide,by decide,by decide,fun _ h=>(by cases h),fun _ h=>(by cases h)⟩
theorem Pz:ah.aF rZ:=by rw [rZ,ah.aF,ah.aF,ah.aF];exact ⟨(Av jcx (by decide)).1,(Av Fv (by decide)).1,trivial⟩
theorem Xx:ah.jS LM:=by apply ah.j6;rw [LM,ah.aF,ah.aF,ah.aF,ah.aF,ah.aF];exact ⟨(Av Fv (by decide)).1,(Av Fv (by decide)).1,(Av (t:=⟨#[]⟩) Fv (by decide)).2,(Av Fv (by decide)).1,trivial⟩
theorem JK {w:jp3} {q:Nat} {l:List ah} {rows:List (List jp5)} (k:CB 48 q rows.flatten w) (hl:l.length=rows.length) (hm:l.length<=1000) (h:aH (·<w.heap.size) w (l.map ah.d) rows) (hk:∀ r∈rows,r.length=11) : Rd (·<w.heap.size) w (fC l) [.slice (some ⟨q,0,none⟩) l.length l.length]:=by
 have h:=Rd.Ua (l:=l.map ah.d) (rows:=rows) (cap:=l.length) (by simp) (by unfold maxLen;omega) h hk k.lt k.lt (fun j u hu=>k.cell j u hu)
 rwa [jm6] at h
theorem xL {ok:Nat->Prop} {w:jp3} {x:Nd} {L:List Nd} {vk:jp5} (h:Rd ok w (cO [x,aQ gI [] L]) [vk]):∃ b off c aL cL,vk=.slice (some ⟨b,off,none⟩) 2 c/\w.cell? ⟨b,off+4+3,none⟩=some (.slice aL L.length cL)/\Rd ok w (cO L) [.slice aL L.length cL]:=by
 obtain ⟨a,c,hv,hs⟩:=Rd.aB h;obtain ⟨b,off,va,Uj,rfl,-,-,-,-,-,hc,hN⟩:=Gg (l:=[x,aQ gI [] L]) hs (k:=1) rfl;obtain ⟨aL,cL,hv2,-⟩:=Rd.aB hN.ks;obtain rfl:Uj=.slice aL L.length cL:=by simpa using hv2
 exact ⟨b,off,c,aL,cL,by simpa using hv,by simpa using hc,hN.ks⟩
theorem jcz {ok:Nat->Prop} {w:jp3} {n t:ByteArray} {at_:List Pr} {ks:List Nd} {a:Option Addr} {c:Nat} (h:Rd ok w (cO [.mk n t at_ ks]) [.slice a 1 c]):∃ b off aS nS cS aK cK,a=some ⟨b,off,none⟩/\w.cell? ⟨b,off,none⟩=some (.string n)/\w.cell? ⟨b,off+1,none⟩=some (.string t)/\w.cell? ⟨b,off+2,none⟩=some (.slice aS nS cS)/\w.cell? ⟨b,off+3,none⟩=some (.slice aK ks.length cK):=by
 obtain ⟨a',c',hv,hs⟩:=Rd.aB h;obtain ⟨rfl,rfl⟩:a'=a/\c'=c:=by simp at hv;exact ⟨hv.1.symm,hv.2.symm⟩
 obtain ⟨b,off,va,Uj,rfl,-,-,c0,c1,c2,c3,hN⟩:=Gg (l:=[.mk n t at_ ks]) hs (k:=0) rfl;obtain ⟨aL,cL,hv2,-⟩:=Rd.aB hN.ks;obtain rfl:Uj=.slice aL ks.length cL:=by simpa using hv2
 obtain ⟨aS,nS,cS,rfl⟩:=Rd.au hN.at_
 simp only [Nat.zero_mul,Nat.add_zero] at c0 c1 c2 c3;exact ⟨b,off,aS,nS,cS,aL,cL,rfl,c0,c1,c2,c3⟩
theorem U6 {ok:Nat->Prop} {w:jp3} {s1 s2:Sl} {v:jp5} (h:Rd ok w (.sl 2 ([s1,s2].map Sl.d)) [v]):∃ b off c a0 c0 a1 c1 a2 c2 a3 c3,v=.slice (some ⟨b,off,none⟩) 2 c/\w.cell? ⟨b,off,none⟩=some (.slice a0 s1.ti.length c0)/\w.cell? ⟨b,off+1,none⟩=some (.slice a1 s1.bl.length c1)/\w.cell? ⟨b,off+2,none⟩=some (.slice a2 s2.ti.length c2)/\w.cell? ⟨b,off+2+1,none⟩=some (.slice a3 s2.bl.length c3):=by
 obtain ⟨a,c,hv,hs⟩:=Rd.aB h;obtain ⟨b,off,rfl,-,hb,hcx⟩:=hs.at_ (by simp)
 obtain ⟨r,hr,-,hc⟩:=hcx 0 s1.d rfl;obtain ⟨r',hr',-,hc'⟩:=hcx 1 s2.d rfl;obtain ⟨v1,v2,rfl,g1,g2⟩:=Sl.open_ hr;obtain ⟨v3,v4,rfl,g3,g4⟩:=Sl.open_ hr';obtain ⟨a0,c0,e0,-⟩:=Rd.aB g1;obtain ⟨a1,c1,e1,-⟩:=Rd.aB g2;obtain ⟨a2,c2,e2,-⟩:=Rd.aB g3;obtain ⟨a3,c3,e3,-⟩:=Rd.aB g4;obtain rfl:v1=.slice a0 s1.ti.length c0:=by simpa using e0
 obtain rfl:v2=.slice a1 s1.bl.length c1:=by simpa using e1
 obtain rfl:v3=.slice a2 s2.ti.length c2:=by simpa using e2
 obtain rfl:v4=.slice a3 s2.bl.length c3:=by simpa using e3
 refine ⟨b,off,c,a0,c0,a1,c1,a2,c2,a3,c3,by simpa using hv,?_,?_,?_,?_⟩
 ·have:=hc 0 _ rfl;simpa using this
 ·have:=hc 1 _ rfl;simpa using this
 ·have:=hc' 0 _ rfl;simpa using this
 ·have:=hc' 1 _ rfl;simpa using this
theorem Cw (w:jp3) (ht:PT w):Calls Tryz.prog 19 #[] w (dN (.bool true) w):=by
 have pX:Hid (∀ W,jp4 w.heap.size w W->PT W):=fun W hW=>ht.below hW
 clear ht;go_enter Tryz.func19,Tryz.ntmps19;go_wp2_with fail
 refine (Cv _ _ _).mono ?_;rintro e w1 ⟨p1,rfl,hp1,k1,b1⟩;simp only [bC];have K1:=hid k1;have B1:=hid b1;clear hp1 k1 b1;go_wp2_with fail
 refine (Il _).mono ?_;rintro e w2 ⟨p2,rfl,hp2,k2,b2⟩;simp only [bC];have K1:=hid (K1.out.below b2);have K2:=hid k2;have B2:=hid (aP B1.out b2);clear hp2 k2 b2;go_wp2_with fail
 refine (Il _).mono ?_;rintro e w3 ⟨p3,rfl,hp3,k3,b3⟩;simp only [bC];have k1:=K1.out.below b3;have k2:=K2.out.below b3;obtain ⟨q4,hq4⟩:∃ q4,q4=w3.heap.size:=⟨_,rfl⟩;obtain ⟨w4,hw4⟩:∃ w4,w4=w3.alloc (.cells [bC 2 1 ⟨#[]⟩ (.slice (some ⟨p1,0,none⟩) 1 1),bC 1 0 ⟨#[]⟩ (.slice (some ⟨p2,0,none⟩) 1 1),bC 5 0 ⟨#[]⟩ (.slice none 0 0),bC 1 0 ⟨#[]⟩ (.slice (some ⟨p3,0,none⟩) 1 1)].flatten.toArray 48):=⟨_,rfl⟩;have b4:jp4 w3.heap.size w3 w4:=by rw [hw4];exact (jm0 _ _).alloc (jm1 _) _
 have k4:CB 48 q4 [bC 2 1 ⟨#[]⟩ (.slice (some ⟨p1,0,none⟩) 1 1),bC 1 0 ⟨#[]⟩ (.slice (some ⟨p2,0,none⟩) 1 1),bC 5 0 ⟨#[]⟩ (.slice none 0 0),bC 1 0 ⟨#[]⟩ (.slice (some ⟨p3,0,none⟩) 1 1)].flatten w4:=by rw [hw4,hq4];exact CB.new _ _ _
 have h4:Rd (·<w4.heap.size) w4 (fC LM) [.slice (some ⟨q4,0,none⟩) 4 4]:=by refine JK (l:=LM) k4 rfl (by decide) (aH.cons (tJ 2 1 ⟨#[]⟩ (jF (k1.below b4) _ (k1.below b4).lt)) (aH.cons (tJ 1 0 ⟨#[]⟩ (jF (k2.below b4) _ (k2.below b4).lt)) (aH.cons (tJ 5 0 ⟨#[]⟩ (Rd.aD _ _ _)) (aH.one (tJ 1 0 ⟨#[]⟩ (jF (k3.below b4) _ (k3.below b4).lt)))))) (by simp [bC])
 have OC:=hid (uH (.slice none 0 0) LM (.slice (some ⟨q4,0,none⟩) 4 4) w4 ⟨_,_,_,rfl⟩ h4 (by decide +kernel) Xx);have B4:=hid (aP (aP B2.out b3) b4);simp only [bC,List.flatten_cons,List.flatten_nil,List.cons_append,List.nil_append,List.append_nil] at hw4;have TT:=hid hq4;clear hp3 k3 b3 k1 k2 k4 b4 h4 hq4 K1 K2;go_wp2_with fail
 rw [<- hw4,<- TT.out];clear hw4
 (with_reducible refine OC.out.mono ?_)
 rintro e w5 ⟨v5,rfl,h5,b5⟩;rw [jc9] at h5;obtain ⟨a5,c5,e5⟩:=gq h5;obtain rfl:v5=.slice a5 2 c5:=by simpa using e5
 have B5:=hid (aP B4.out b5);have R5:=hid (h5.weaken (fun _ _=>trivial):Rd (fun _=>True) w5 _ _);have h6:=Ar [] [] ⟨#[84]⟩ ⟨#[101,110]⟩ (.slice none 0 0) (.slice none 0 0) w5 (Rd.aD _ _ _) (Rd.aD _ _ _) (by simp) (by simp) (by decide +kernel) (by unfold ah.aF;trivial) (by decide +kernel) (by decide +kernel) (by unfold ah.jS;trivial) (by decide) (by decide) (pX.out _ B5.out);rw [ZF,jcj] at h6;have PC:=hid h6;clear h5 e5 b5 h6 OC B4 TT B2 B1;go_wp2_with fail
 (with_reducible refine PC.out.mono ?_)
 rintro e w6 ⟨va,vk,he,hN,b6⟩;obtain ⟨aA,nA,cA,rfl⟩:=Rd.au hN.at_
 obtain ⟨U7,U8,YD,a6L,c6L,rfl,-,-⟩:=xL hN.ks;have he:e=.returned (.tuple #[.agg #[.string kW,.string ⟨#[]⟩,.slice aA nA cA,.slice (some ⟨U7,U8,none⟩) 2 YD],.int .i64 0]):=he;subst he;have RK6:=hid (show Rd (fun _=>True) w6 (cO [_,aQ gI [] []]) [.slice (some ⟨U7,U8,none⟩) 2 YD] from hN.ks.weaken (fun _ _=>trivial));have R6:=hid (R5.out.aY b6);have B6:=hid (aP B5.out b6);clear hN b6 PC R5 B5;obtain ⟨Bp,BK⟩:∃ Bp,Bp=w6.heap.size:=⟨_,rfl⟩;obtain ⟨w7,hw7⟩:∃ w7,w7=w6.alloc (.cells #[.string kW,.string ⟨#[]⟩,.slice aA nA cA,.slice (some ⟨U7,U8,none⟩) 2 YD] 35):=⟨_,rfl⟩;have k7:CB 35 Bp [.string kW,.string ⟨#[]⟩,.slice aA nA cA,.slice (some ⟨U7,U8,none⟩) 2 YD] w7:=by rw [hw7,BK];exact CB.new _ _ _
 have b7:jp4 w6.heap.size w6 w7:=by rw [hw7];exact (jm0 _ _).alloc (jm1 _) _
 have B7:=hid (aP B6.out b7);have R7:=hid (R6.out.aY b7);have RK7:=hid (RK6.out.aY b7);have ZT:=hid k7;clear k7 b7 R6 RK6 B6;go_upto_region 3 with (fail)
 rw [<- hw7,<- BK];clear hw7 BK;go_wp2_with fail
 refine (Cv _ _ _).mono ?_;rintro e w8 ⟨p1,rfl,hp1,k1,b1⟩;simp only [bC];have K1:=hid k1;have B8:=hid (aP B7.out b1);have R8:=hid (R7.out.aY b1);have RK8:=hid (RK7.out.aY b1);have ZU:=hid (ZT.out.below b1);clear hp1 k1 b1 B7 R7 RK7 ZT;go_wp2_with fail
 refine (Il _).mono ?_;rintro e w9 ⟨p2,rfl,hp2,k2,b2⟩;simp only [bC];have k1:=K1.out.below b2;obtain ⟨q4,hq4⟩:∃ q4,q4=w9.heap.size:=⟨_,rfl⟩;obtain ⟨wA,iL⟩:∃ wA,wA=w9.alloc (.cells [bC 2 2 ⟨#[115]⟩ (.slice (some ⟨p1,0,none⟩) 1 1),bC 1 0 ⟨#[]⟩ (.slice (some ⟨p2,0,none⟩) 1 1)].flatten.toArray 48):=⟨_,rfl⟩;have b4:jp4 w9.heap.size w9 wA:=by rw [iL];exact (jm0 _ _).alloc (jm1 _) _
 have k4:CB 48 q4 [bC 2 2 ⟨#[115]⟩ (.slice (some ⟨p1,0,none⟩) 1 1),bC 1 0 ⟨#[]⟩ (.slice (some ⟨p2,0,none⟩) 1 1)].flatten wA:=by rw [iL,hq4];exact CB.new _ _ _
 have h4:Rd (·<wA.heap.size) wA (fC rZ) [.slice (some ⟨q4,0,none⟩) 2 2]:=by refine JK (l:=rZ) k4 rfl (by decide) (aH.cons (tJ 2 2 ⟨#[115]⟩ (jF (k1.below b4) _ (k1.below b4).lt)) (aH.one (tJ 1 0 ⟨#[]⟩ (jF (k2.below b4) _ (k2.below b4).lt)))) (by simp [bC])
 have bA:jp4 w8.heap.size w8 wA:=aP b2 b4;have BA:=hid (aP B8.out bA);have RA:=hid (R8.out.aY bA);have RKA:=hid (RK8.out.aY bA);have KPA:=hid (ZU.out.below bA);have h6:=Ar [] rZ ⟨#[84]⟩ ⟨#[101,110]⟩ (.slice none 0 0) (.slice (some ⟨q4,0,none⟩) 2 2) wA (Rd.aD _ _ _) h4 (by simp) (by simp) (by decide +kernel) Pz (by decide +kernel) (by decide +kernel) (ah.j6 _ Pz) (by decide) (by decide) (pX.out _ BA.out);rw [UZ,jck] at h6;have PC:=hid h6;simp only [bC,List.flatten_cons,List.flatten_nil,List.cons_append,List.nil_append,List.append_nil] at iL;have TT:=hid hq4;clear hp2 b2 k1 k2 k4 b4 h4 hq4 K1 bA h6 B8 R8 RK8 ZU;go_wp2_with fail
 rw [<- iL,<- TT.out];clear iL
 (with_reducible refine PC.out.mono ?_)
 rintro e wB ⟨va,vk,he,hN,b6⟩;obtain ⟨aA2,nA2,cA2,rfl⟩:=Rd.au hN.at_
 obtain ⟨bk,ok,ck,aL,cL,rfl,-,-⟩:=xL hN.ks;have he:e=.returned (.tuple #[.agg #[.string kW,.string ⟨#[]⟩,.slice aA2 nA2 cA2,.slice (some ⟨bk,ok,none⟩) 2 ck],.int .i64 0]):=he;subst he;have RB:=hid (RA.out.aY b6);have RKB:=hid (RKA.out.aY b6);have KPB:=hid (KPA.out.below b6);have BB:=hid (aP BA.out b6);have Rn:=hid hN;clear hN b6 PC RA RKA KPA BA TT;obtain ⟨Bq,hBq⟩:∃ Bq,Bq=wB.heap.size:=⟨_,rfl⟩;obtain ⟨wC,Mc⟩:∃ wC,wC=wB.alloc (.cells #[.string kW,.string ⟨#[]⟩,.slice aA2 nA2 cA2,.slice (some ⟨bk,ok,none⟩) 2 ck] 35):=⟨_,rfl⟩;have kC:CB 35 Bq [.string kW,.string ⟨#[]⟩,.slice aA2 nA2 cA2,.slice (some ⟨bk,ok,none⟩) 2 ck] wC:=by rw [Mc,hBq];exact CB.new _ _ _
 have Xy:jp4 wB.heap.size wB wC:=by rw [Mc];exact (jm0 _ _).alloc (jm1 _) _
 have rC:=RB.out.aY Xy;have rkC:=RKB.out.aY Xy;have kpC:=KPB.out.below Xy;have hAC:=Rd.aY Rn.out.at_ Xy
 have hKC:=Rd.aY Rn.out.ks Xy;have BC:=hid (aP BB.out Xy);clear Xy RB RKB KPB Rn BB;go_upto_region 4 with (fail)
 rw [<- Mc,<- hBq];clear Mc hBq;obtain ⟨g,o,cg,a0,n0,a1,n1,a2,n2,a3,n3,ev,t0,t1,t2,t3⟩:=U6 rC;obtain ⟨rfl,rfl⟩:a5=some ⟨g,o,none⟩/\c5=cg:=by simpa using ev
 obtain ⟨bx,ox,cx,aM,cM,ex,u3,-⟩:=xL rkC;obtain ⟨⟨rfl,rfl⟩,rfl⟩:(U7=bx/\U8=ox)/\YD=cx:=by simpa using ex
 obtain ⟨uE,oy,cy,aN,cN,ey,y3,hS⟩:=xL hKC;obtain ⟨⟨rfl,rfl⟩,rfl⟩:(bk=uE/\ok=oy)/\ck=cy:=by simpa using ey
 obtain ⟨bz,oz,aS,nS,cS,aK,cK,rfl,z0,z1,z2,z3⟩:=jcz (n:=eT) (t:=⟨#[]⟩) (at_:=[⟨iF,Ce⟩]) (ks:=eP rZ) hS;rw [jcq] at z3
 replace t0:wC.cell? ⟨g,o,none⟩=some (.slice a0 1 n0):=t0
 replace t1:wC.cell? ⟨g,o+1,none⟩=some (.slice a1 1 n1):=t1
 replace t2:wC.cell? ⟨g,o+2,none⟩=some (.slice a2 0 n2):=t2
 replace t3:wC.cell? ⟨g,o+2+1,none⟩=some (.slice a3 1 n3):=t3
 replace u3:wC.cell? ⟨U7,U8+4+3,none⟩=some (.slice aM 0 cM):=u3
 replace y3:wC.cell? ⟨bk,ok+4+3,none⟩=some (.slice (some ⟨bz,oz,none⟩) 1 cN):=y3
 have p3:=kpC.cell 3 _ rfl;have q3:=kC.cell 3 _ rfl;go_upto_region 6 with (fail)
 obtain ⟨wD,KU⟩:∃ wD,wD=wC.alloc (.cells #[.string eT,.string ⟨#[]⟩,.slice aS nS cS,.slice aK 2 cK] 35):=⟨_,rfl⟩;obtain ⟨Bs,hBs⟩:∃ Bs,Bs=wC.heap.size:=⟨_,rfl⟩;have kD:CB 35 Bs [.string eT,.string ⟨#[]⟩,.slice aS nS cS,.slice aK 2 cK] wD:=by rw [KU,hBs];exact CB.new _ _ _
 have bD:jp4 wC.heap.size wC wD:=by rw [KU];exact (jm0 _ _).alloc (jm1 _) _
 have AC:Hid (Calls Tryz.prog 56 #[.agg #[.string kW,.string ⟨#[]⟩,.slice aA2 nA2 cA2,.slice (some ⟨bk,ok,none⟩) 2 ck],.string ⟨#[105,100]⟩] wD (qg wD ((fq ⟨#[84]⟩ ⟨#[101,110]⟩ [tX rZ]).vals oC))):=(yD oC _ (fq ⟨#[84]⟩ ⟨#[101,110]⟩ [tX rZ]) (.slice aA2 nA2 cA2) (.slice (some ⟨bk,ok,none⟩) 2 ck) wD (jm1 _) (by rw [U0];decide) ⟨Rd.keep (fun b _ h2=>⟨h2,rfl⟩) _ _ (hAC.aY bD),Rd.keep (fun b _ h2=>⟨h2,rfl⟩) _ _ (hKC.aY bD)⟩);have rD:=hid (rC.aY bD);have rkD:=hid (rkC.aY bD);have kpD:=hid (kpC.below bD);have kqD:=hid (kC.below bD);have ksD:=hid kD;have BD:=hid (aP BC.out bD);have q0:=kqD.out.cell 0 _ rfl;have q1:=kqD.out.cell 1 _ rfl;have q2:=kqD.out.cell 2 _ rfl;have q3':=kqD.out.cell 3 _ rfl;clear hAC hKC bD rC rkC kpC kC kD hS;go_upto_region 7 with (fail)
 rw [<- KU,<- hBs];clear KU hBs t0 t1 t2 t3 u3 y3 z0 z1 z2 z3 p3 q3 BC;go_wp2_with fail
 (with_reducible refine AC.out.mono ?_)
 rintro e wE ⟨vE,rfl,hoE,bE⟩;rw [U0] at hoE;obtain ⟨-,aE,cE,rfl,hcE,hmE,hxE⟩:=MH.AJ hoE;obtain ⟨bs,os,rfl,hcs⟩:∃ b off,aE=some ⟨b,off,none⟩/\wE.cell? ⟨b,off,none⟩=some (.string ⟨#[115]⟩):=by
  rcases hxE with h | ⟨b,off,h,hc⟩
  ·simp at h
  ·exact ⟨b,off,h,hc 0 _ rfl⟩
 obtain ⟨g',o',cg',a0,n0,a1,n1,a2,n2,a3,n3,ev,t0,t1,t2,t3⟩:=U6 (rD.out.aY bE);obtain ⟨⟨rfl,rfl⟩,rfl⟩:(g=g'/\o=o')/\c5=cg':=by simpa using ev
 obtain ⟨bx,ox,cx,aM,cM,ex,u3,-⟩:=xL (rkD.out.aY bE);obtain ⟨⟨rfl,rfl⟩,rfl⟩:(U7=bx/\U8=ox)/\YD=cx:=by simpa using ex
 replace t0:wE.cell? ⟨g,o,none⟩=some (.slice a0 1 n0):=t0
 replace t1:wE.cell? ⟨g,o+1,none⟩=some (.slice a1 1 n1):=t1
 replace t2:wE.cell? ⟨g,o+2,none⟩=some (.slice a2 0 n2):=t2
 replace t3:wE.cell? ⟨g,o+2+1,none⟩=some (.slice a3 1 n3):=t3
 replace u3:wE.cell? ⟨U7,U8+4+3,none⟩=some (.slice aM 0 cM):=u3
 have p3:=(kpD.out.below bE).cell 3 _ rfl;have s0:=(ksD.out.below bE).cell 0 _ rfl;have s3:=(ksD.out.below bE).cell 3 _ rfl;have HF:=hid (aP BD.out bE);have hq:(eT.toList==[115,101,99,116,105,111,110])=true:=by kernel_rfl
 clear hoE bE hxE AC q0 q1 q2 q3' rD rkD kpD kqD ksD BD;go_wp2;go_ret;exact ⟨rfl,HF.out⟩
open Go.RowKit
open Go.RowKit
open Go.RowKit
open Go.RowKit
open Go.RowKit
structure SmB (l:List ah):Prop where
 sm:ah.aF l
 sz:ah.aR l<=120
 il:(ah.aU l).length<=120
 al:ah.bU l<=120
theorem Xz {me:List Pr} {l:List ah} (h:PD me l):SmB l:=by have h1:=ah.BQ l;have h2:=h.all;exact ⟨h.blks,by omega,by omega,h2⟩
theorem JL (me:List Pr) (l:List ah) (vm vb:jp5) (w:jp3) (hm:Rd (·<w.heap.size) w (bP me) [vm]) (hb:Rd (·<w.heap.size) w (fC l) [vb]) (XB:∀ p∈me,p.wf) (hwl:ah.qL l) : Calls Tryz.prog 11 #[.agg #[vm,vb]] w fun e w'=>∃ b,e=.returned (.bool b)/\(b=true->PD me l/\SmB l)/\jp4 w.heap.size w w':=
 (LP me l vm vb w hm hb XB hwl).mono fun e w' ⟨b,h1,h2,h3⟩=>⟨b,h1,fun h=>⟨h2 h,Xz (h2 h)⟩,h3⟩
open Go.RowKit
theorem PE {kd lv:Int} {i t d ti id:ByteArray} {ac ap al ak:Option Addr} {nc cc np cp nl cl nk ck:Nat}:∀ u∈([.int .i64 kd,.int .i64 lv,.string i,.string t,.string d,.string ti,.string id,.slice ac nc cc,.slice ap np cp,.slice al nl cl,.slice ak nk ck]:List jp5),u.oneCell'=true:=by intro u hu;simp at hu;rcases hu with rfl | rfl | rfl | rfl | rfl | rfl | rfl | rfl | rfl | rfl | rfl<;>rfl
theorem uI {ok:Nat->Prop} {w:jp3} {l:List ah} {rows:List (List jp5)} (h:aH ok w (l.map ah.d) rows):∀ u∈rows.flatten,u.oneCell'=true:=
 jD h fun d hd r hr u hu=>by
  obtain ⟨x,_,rfl⟩:=List.mem_map.1 hd;obtain ⟨kd,lv,i,t,d,ti,at_,li,ks⟩:=x;obtain ⟨vc,vp,vl,vk,rfl,hR⟩:=ah.open_ hr;obtain ⟨ac,nc,cc,rfl⟩:=Rd.au hR.at_.cls
  obtain ⟨ap,np,cp,rfl⟩:=Rd.au hR.at_.aJ
  obtain ⟨al,nl,cl,rfl⟩:=Rd.au hR.line;obtain ⟨ak,nk,ck,rfl⟩:=Rd.au hR.kids;exact PE u hu
open Go.RowKit
theorem ay.emp (T:TypeId) (k:Nat) (ok:Nat->Prop) (w:jp3):ay T k ok (w.heap.size+1) w [] [] (.slice (some ⟨w.heap.size,0,none⟩) 0 0) (w.alloc (.cells #[] T)):=
 ⟨gY w T k,aH.none,by simp,(jm0 _ _).alloc (jm1 _) _,fun g hg=>by
  have e1:w.heap.size=g:=by simpa [Value.ownBlock] using hg
  omega,Nat.le_succ _,by rw [jmx];exact jm1 _⟩
theorem ay.jd0 {T:TypeId} {k:Nat} {ok:Nat->Prop} {w:jp3} {d:D} {r:List jp5} (hok:∀ b,ok b->b<w.heap.size) (hr:r.length=k) (hx:Rd ok w d r) : ay T k ok (w.heap.size+1) w [d] [r] (.slice (some ⟨w.heap.size,0,none⟩) 1 1) (w.alloc (.cells r.toArray T)):=by
 have hs:(w.alloc (.cells r.toArray T)).heap.size=w.heap.size+1:=jmx _ _;refine ⟨?_,?_,by simp [hr],(jm0 _ _).alloc (jm1 _) _,?_,Nat.le_succ _,by omega⟩
 ·refine ⟨by simp [hr],.inr ⟨w.heap.size,1,r.toArray,rfl,jm1 _,?_,by simp,by unfold maxLen;omega,?_,?_⟩⟩
  ·exact heap_alloc_new w _
  ·simp [hr]
  ·subst hr;simp
 ·refine aH.one (Rd.keep (fun b hb hlt=>⟨⟨.inl hb,?_,by have:=hok b hb;omega⟩,Below.heap_alloc w _ b hlt⟩) _ _ hx);intro e;have e1:w.heap.size=b:=by simpa [Value.ownBlock] using e
  have:=hok b hb;omega
 ·intro g hg;have e1:w.heap.size=g:=by simpa [Value.ownBlock] using hg
  omega
theorem SV {w:jp3} {base n p:Nat} {T:TypeId} {v:jp5} {xs:List jp5} {a b:jp5} (ho:w.ownsRow base T 11 v n xs) (hc:CB 26 p [a,b] w):v.ownBlock≠some p:=by
 intro e;rcases ho.2 with ⟨rfl,-⟩ | ⟨g,cap,cur,rfl,hb,hh,hn,hm,hcs,-⟩
 ·simp [Value.ownBlock] at e
 ·have e1:g=p:=by simpa [Value.ownBlock] using e
  subst e1;unfold CB at hc;rw [hc] at hh;have h2:=congrArg (fun o:Option Obj=>match o with | some (.cells c _ _)=>c.size | _=>0) hh;simp at h2;omega
structure JJ (w2:jp3) (q:Option Nat) (X:jp3->Prop) (y:jp3):Prop where
 aI:jp4 w2.heap.size w2 y
 bx:∀ p,q=some p->CB 26 p [.slice none 0 0,.slice none 0 0] y/\w2.heap.size<=p
 ext:∀ z,jp4 y.heap.size y z->X z
section
variable {w2 y y':jp3} {q:Option Nat} {X X':jp3->Prop}
theorem JJ.now (h:JJ w2 q X y):X y:=h.ext y (jm0 _ _)
theorem JJ.zero (h:JJ w2 none X y):JJ w2 (some y.heap.size) X (y.alloc (.cells #[.slice none 0 0,.slice none 0 0] 26)):=by
 have hb:jp4 y.heap.size y (y.alloc (.cells #[.slice none 0 0,.slice none 0 0] 26)):=(jm0 _ _).alloc (jm1 _) _;refine ⟨aP h.aI hb,fun p hp=>?_,fun z hz=>h.ext z (hb.trans (hz.mono hb.size))⟩;cases hp
 exact ⟨CB.new _ _ _,h.aI.size⟩
theorem JJ.far (h:JJ w2 q X y) (hb:jp4 y.heap.size y y') (hX:∀ z,jp4 y'.heap.size y' z->X' z):JJ w2 q X' y':=
 ⟨aP h.aI hb,fun p hp=>⟨(h.bx p hp).1.below hb,(h.bx p hp).2⟩,hX⟩
theorem JJ.app {T:TypeId} {B n:Nat} {v:jp5} {xs:List jp5} (h:JJ w2 q X y) (ho:y.ownsRow B T 11 v n xs) (hB:w2.heap.size<=B) (hg:y.grownBy y' v.ownBlock) (hX:∀ z,jp4 y'.heap.size y' z->X' z):JJ w2 q X' y':=
 ⟨h.aI.grown hg h.aI.size (fun g hgg=>Nat.le_trans hB (ho.lt g hgg).1),fun p hp=>⟨(hg.block p (h.bx p hp).1.lt (fun e=>SV ho (h.bx p hp).1 e.symm)).trans (h.bx p hp).1,(h.bx p hp).2⟩,hX⟩
end
def jB:ah:=sB 2 2 ⟨#[]⟩ [Nz ⟨#[84]⟩]
theorem jd1:jr jB=true:=by rfl
theorem jd2:jB.sz=1:=by rfl
theorem jik:jB.bd:=by simp [jB,sB,ah.bd,ah.jS,aj.jS,aj.bd,Nz,eAt,aj.aR,aj.sz]
theorem pQ:∀ (l m:List ah),ah.aR (l++m)=ah.aR l+ah.aR m
 | [],m=>by rw [List.nil_append,ah.aR,Nat.zero_add]
 | x::l,m=>by rw [List.cons_append,ah.aR,ah.aR,pQ l m];omega
section
variable {T:TypeId} {k U:Nat} {ok:Nat->Prop} {w0 w:jp3} {ds es:List D} {rows:List (List jp5)} {v:jp5}
theorem JM {n m:Nat} {ops:Array Oper} {rest:List Oper} {o:Oper} {a:Act} {Q:Exit->Act->jp3->Prop} (hw:Region.wanted o (yielded ops a.tmps)=true) (s x:Operand) (t:TypeId) (ho:o.op=.call { callee:=.builtin .append,args:=#[s,x],argTypes:=#[t,t] }) (i:TypeInfo) (z:jp5) (bytes:Nat) (ht:Tryz.prog.underlying t=some (.slice T)) (hi:Tryz.prog.info? T=some i) (hz:i.zero=some z) (hsize:i.size=k) (hby:i.bytes=bytes) (hzs:z.cells.size=k) (hsz:0<k) (h:ay T k ok U w0 ds rows v w) (hB:∀ b,ok b->b<w0.heap.size) (vx:jp5) (hx:Rd (fun b=>ok b\/U<=b) w (.sl k es) [vx]) (h1:∀ (rs:List (List jp5)) (ok':Nat->Prop),aH ok' w es rs->∀ u∈rs.flatten,u.oneCell'=true) (hdn:ds.length=n) (hem:es.length=m) (hn:n+m<=10000000) (iG:bytes<=1000) (hs:a.eval s=v) (hxe:a.eval x=vx) (hK:∀ a' c' rows' w',ay T k ok w'.heap.size w0 (ds++es) rows' (.slice a' (n+m) c') w'->w.grownBy w' v.ownBlock->wpList Tryz.prog ops Q rest (a.put o.dst (.slice a' (n+m) c')) w') : wpList Tryz.prog ops Q (o::rest) a w:=by subst hdn hem;obtain ⟨A,c,rs,rfl,h2,h3,h4,h5,h6⟩:=Rd.qV hx;have hmul:(ds.length+es.length)*bytes<=140737488355328:=Nat.le_trans (Nat.mul_le_mul hn iG) (by omega);rw [wpList,if_pos hw];refine .inl (jY w s x t ho w0.heap.size T i z k bytes ht hi hz hsize hby hzs hsz v ds.length rows.flatten hs h.own w.heap.size A es.length c rs.flatten hxe h6 (h1 rs _ h4) (by unfold maxLen;omega) hmul (by have:=h.aI.size;omega) ?_);intro v' w' hown hg hat;obtain ⟨a',c',rfl⟩:=sN hown;exact hK a' c' _ w' (h.put hB h4 h5 (World.grownBy.refl w none) hown hg hat) hg
end
theorem JO {ok:Nat->Prop} {w:jp3} {l:List Sl} {rows:List (List jp5)} (h:aH ok w (l.map Sl.d) rows):∀ u∈rows.flatten,u.oneCell'=true:=
 jD h fun d hd r hr u hu=>by
  obtain ⟨x,_,rfl⟩:=List.mem_map.1 hd;obtain ⟨v,v2,rfl,h1,h2⟩:=Sl.open_ hr;obtain ⟨a1,n1,c1,rfl⟩:=Rd.au h1;obtain ⟨a2,n2,c2,rfl⟩:=Rd.au h2;simp at hu;rcases hu with rfl | rfl<;>rfl
end Go.Proofs.YtkfnkeflalcphaaGreatDoor

