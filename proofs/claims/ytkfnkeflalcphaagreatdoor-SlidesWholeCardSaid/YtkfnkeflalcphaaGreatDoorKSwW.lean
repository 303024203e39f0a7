/- Contract of slides.Page. The small case with which each statement of layer 43 ends: it answers true. Law 43: awake answers true. The walk of publisherlaw43.SlidesWhole. -/
import Derived.Test.YtkfnkeflalcphaaGreatDoorKSpC
import Derived.Test.YtkfnkeflalcphaaGreatDoorKHwD
set_option maxHeartbeats 8000000
set_option maxRecDepth 100000
open Go.Lib (hid)
namespace Go.Proofs.YtkfnkeflalcphaaGreatDoor
open List renaming getElem?_eq_getElem->jj7,length_append->jjx,length_map->jjz,take_length->jkz
open Go.RowKit.Below renaming refl->jj8
open Nat renaming le_refl->jj9
open Go.World renaming size_alloc->jk6
open Go renaming World->jmj
open Go.RowKit renaming Below->jmk
open Go.RowKit
set_option linter.unusedVariables false
set_option linter.unusedSimpArgs false
theorem Ch:∀ (l:List ah),ah.aG l↔∀ b∈l,b.small
 | []=>by unfold ah.aG;simp
 | x::l=>by rw [ah.aG,Ch l];simp
theorem EX:∀ (L:List (List ah)) (s:List ah),s∈L->(ah.aU s).length<=(ah.aU L.flatten).length
 | [],_,h=>by cases h
 | x::L,s,h=>by
  rw [List.flatten_cons,ah.qQ,jjx];rcases List.mem_cons.1 h with rfl | h
  ·omega
  ·have:=EX L s h;omega
theorem OU (l:List ah):∀ p∈dW l,(ah.aU p.bl).length<=(ah.aU l).length:=by
 intro p hp;rw [qo] at hp;obtain ⟨s,hs,rfl⟩:=List.mem_map.1 hp;have h1:=EX _ s hs;rw [qX l.length l (jj9 _)] at h1;rw [tY];refine Nat.le_trans ?_ h1;unfold jW;split
 ·split
  ·rw [ah.aU,jjx];omega
  ·exact jj9 _
 ·exact jj9 _
theorem OV (l:List ah) (h:ah.aG l):∀ p∈dW l,ah.aG p.bl:=fun p hp=>(Ch _).2 fun b hb=>(Ch _).1 h b (ES l p hp b hb)
theorem OX {l:List ah} (h:zx l=0):∀ p∈dW l,zx p.bl=0:=by intro p hp;rw [qo] at hp;obtain ⟨s,hs,rfl⟩:=List.mem_map.1 hp;obtain ⟨h1,h2⟩:=vJ h;obtain ⟨h3,h4⟩:=Wo pX l h1 (by rw [ah.jd];exact h2) s hs;rw [ah.jd] at h4;rw [tY];unfold zx;rw [if_neg (by rw [h3];simp),h4];rfl
theorem aC.jb4 (w:jmj) (p:Pr):Rd (w.heap.size<=·) (w.alloc (.cells #[.string p.key,.string p.val] 61)) (bS [p]) [.slice (some ⟨w.heap.size,0,none⟩) 1 1]:=
 Rd.slB (rows:=[[.string p.key,.string p.val]]) (l:=[p.d]) (jj9 _) (by decide) (aI.one (Pr.eu _ _ p)) (by simp) (jj9 _) (by rw [jk6];omega)
  (fun j u hu=>(CB.new 61 [.string p.key,.string p.val] w).cell j u (by simpa using hu))
def Xc (me:List Pr) (l:List ah) (title lang:ByteArray):Nd:=if JY me l title lang=0 then eU title lang (NS l) else mP
def OY (w4:jmj) (P:List Pt) (v vi:Value) (wr:jmj):Prop:=∃ (k:Nat) (rows:List (List Value)),k<=P.length/\vi=.int .i64 k/\aC 35 4 (fun _=>False) wr.heap.size w4 (((P.take k).map (fun p=>tJ p.bl)).map Nd.d) rows v wr
def OZ (wA:jmj) (p3:Nat) (V:Value) (vi:Value) (wr:jmj):Prop:=∃ k:Nat,k<=2/\vi=.int .i64 k/\(k<=1->wr=wA)/\(k=2->wr=wA.setCell ⟨p3,7,none⟩ V)
theorem Ah (me:List Pr) (l:List ah) (title lang:ByteArray) (vm vb:Value) (w:jmj) (hm:Rd (·<w.heap.size) w (bS me) [vm]) (hb:Rd (·<w.heap.size) w (iO l) [vb]) (hme:me.length<=1000) (rX:∀ p∈me,p.key.size<=1000/\p.val.size<=1000) (hall:ah.bV l<=32768) (hsm:ah.aG l) (hsz:ah.aV l<=900000) (hil:(ah.aU l).length<=1000) (hbd:ah.kV l) (hti:title.size<=300) (hla:lang.size<=300) (ht:PT w) : Calls Tryz.prog 23 #[.agg #[vm,vb],.string title,.string lang] w (vW w (JY me l title lang) (Xc me l title lang)):=by
 obtain ⟨am,nm,cm,rfl⟩:=Rd.ay hm;obtain ⟨ab,nb,cb,rfl⟩:=Rd.ay hb;obtain ⟨iN,Fb,nU,nV,nW⟩:=info_parts mq;obtain ⟨S,W0,hS,hW0,z0,k0,k1,b0⟩:=qN 26 w [.slice am nm cm,.slice ab nb cb];have J2:jmk w.heap.size w W0:=by rw [<- hS];exact b0
 have PC:=hid (Gh me l title lang _ _ W0 (hm.up J2) (hb.up J2) hme rX hall hsm hsz hil hbd hti hla (ht.below J2));have HB:=hid hb;have qC:Hid (∀ W,jmk w.heap.size w W->PT W):=fun W hW=>ht.below hW
 have Cx:=hid hS;have HW0:=hid hW0;have Z0:=hid z0;have B0:=hid b0;have B0w:=hid J2;have K1:=hid k1;have X0:Hid (∀ W:jmj,jmk W0.heap.size W0 W->W.cell? ⟨S,1,none⟩=some (.slice ab nb cb)):=fun W hW=>(k0.below hW).cell 1 _ rfl
 have x0:=k0.cell 0 _ rfl;have x1:=k0.cell 1 _ rfl;have hP1:=EU l;have hP2:=OU l;have hP3:=OV l hsm;have Uh:=EW l hbd;have hP5:=Af l;have WV:=fun h=>OX (l:=l) h
 have hll:=ah.dw l;have hbe:JY me l title lang=0->zx l=0:=fun h=>VB h
 obtain ⟨E,hE⟩:∃ E,E=JY me l title lang:=⟨_,rfl⟩;obtain ⟨X,hX⟩:∃ X,X=Te me l title lang:=⟨_,rfl⟩;have Lp:X=if E=0 then eU title lang (eG l) else mP:=by rw [hX,hE];rfl
 have hsp:Xc me l title lang=if E=0 then eU title lang (NS l) else mP:=by rw [hE];rfl
 rw [<- hE,<- hX] at PC;rw [<- hE] at hbe;rw [<- hE];obtain ⟨Z,hZ⟩:∃ Z,Z=Xc me l title lang:=⟨_,rfl⟩;rw [<- hZ];have HZZ:Hid (Z=if E=0 then eU title lang (NS l) else mP):=by show _=_;rw [hZ,hsp]
 have Uy:=hid hbe;have Ro:=hid hP1;have Lj:=hid hP2;have HPS:=hid hP3;have Vn:=hid Uh;have HP6:=hid WV;have XZ:Hid ((dW l).length<=900001):=by show _<=_;omega
 have Lh:Hid (l.length<=900000):=by show _<=_;omega
 have FU:=hid hsz;have HIL:=hid hil;have HXE:=hid Lp;clear hm hb hme rX hall hsm hsz hil hbd hti hla ht hS hW0 z0 k0 k1 b0 J2 hP1 hP2 hP3 Uh hP5 WV hll hbe hE hX Lp hsp hZ;go_enter Tryz.func23,Tryz.ntmps23;go_upto_region 1 with (fail)
 rw [<- Cx.out];have hk0:=HW0.out;simp only [jI] at hk0;rw [<- hk0];clear hk0;obtain ⟨xn,xt,xa,xk⟩:=X;go_wp2_with fail
 (with_reducible refine PC.out.mono ?_)
 rintro e w2 ⟨va,vk,he,hN,b2,hx2⟩;obtain ⟨aA,nA,cA,rfl⟩:=Rd.ay hN.at_
 obtain ⟨aK,nK,cK,rfl⟩:=Rd.ay hN.ks;have he:e=.returned (.tuple #[.agg #[.string xn,.string xt,.slice aA nA cA,.slice aK nK cK],.int .i64 (E:Int)]):=he;subst he;obtain ⟨Bp,Bo⟩:∃ Bp,Bp=w2.heap.size:=⟨_,rfl⟩;obtain ⟨w3,hw3⟩:∃ w3,w3=w2.alloc (.cells #[.string xn,.string xt,.slice aA nA cA,.slice aK nK cK] 35):=⟨_,rfl⟩;have k3:CB 35 Bp [.string xn,.string xt,.slice aA nA cA,.slice aK nK cK] w3:=by rw [hw3,Bo];exact CB.new _ _ _
 have b23:jmk w2.heap.size w2 w3:=by rw [hw3];exact (jj8 _ _).alloc (jj9 _) _
 have B3:=hid (aR b2 b23);have HB2:=hid b2;have B23:=hid b23;have K3:=hid k3;have HBP:=hid Bo;have HX2:=hid hx2;clear x0 x1 hN b2 b23 k3 PC hx2;go_upto_region 2 with (fail)
 rw [<- hw3,<- Bo];clear hw3 Bo;by_cases h0:E=0
 ·have hz:Z=eU title lang (NS l):=by rw [HZZ.out,if_pos h0]
  have HZ0:=hid hz;have hXf:Nd.mk xn xt xa xk=eU title lang (eG l):=by rw [HXE.out,if_pos h0]
  obtain ⟨rfl,rfl,rfl,rfl⟩:xn=kN/\xt=⟨#[]⟩/\xa=[⟨iK,lang⟩]/\xk=[aQ iU [] [aQ jl [⟨Cz,gI⟩] [],aQ fQ [] (bT title)],aQ gH [] (eG l)]:=by have h:=hXf;unfold eU aQ at h;simpa [aQ] using h
  have hx:=HX2.out h0;obtain ⟨p3,kh,bv,hvk,hp3,hCB,hKH,hAT⟩:=hx;have jb5:Hid (p3<Bp):=by show _<_;rw [HBP.out];exact (Array.getElem?_eq_some_iff.1 hCB).1
  obtain ⟨rfl,rfl,rfl⟩:aK=some ⟨p3,0,none⟩/\nK=2/\cK=2:=by simpa using hvk
  have hbs:=Uy.out h0;have HBS:=hid hbs;have q0:((E:Int) != 0)=false:=by rw [h0];rfl
  have HE0:=hid h0;have Py:=hid (CB.below hCB B23.out);have HKH:=hid (Rd.aZ hKH B23.out);have HAT:=hid (Rd.aZ hAT B23.out);have Fe:=hid hp3;have PA:=hid (Ae l _ w3 (HB.out.up (B0w.out.trans (B3.out.mono B0w.out.size))) (by have:=Lh.out;omega));obtain ⟨P,hP⟩:∃ P,P=dW l:=⟨_,rfl⟩;rw [<- hP] at PA;have HPP:=hid hP;have x1:=X0.out w3 B3.out;clear hz hXf hvk hp3 hCB hKH hAT hbs h0 hP HX2;go_wp2_with fail
  (with_reducible refine PA.out.mono ?_)
  rintro e w4 ⟨v4,rfl,h4,b4⟩;obtain ⟨a4,c4,hv4,hs4⟩:=Rd.aB h4;obtain ⟨nP,OP⟩:∃ nP,nP=P.length:=⟨_,rfl⟩;obtain rfl:v4=.slice a4 nP c4:=by rw [OP];simpa using hv4
  have hc4:nP<=c4:=by rw [OP];simpa using hs4.le
  have Pj:=hs4.max;unfold maxLen at Pj;have hnp:nP<=900001:=by rw [OP,HPP.out];exact XZ.out
  have OQ:=hid OP;have HS4:=hid hs4;have B4:=hid (aR B3.out b4);have B34:=hid b4;have R0:Hid (OY w4 P (.slice none 0 0) (.int .i64 0) w4):=⟨0,[],Nat.zero_le _,rfl,aC.nil _ _ _ _⟩;clear hv4 h4 hs4 b4 OP PA x1;go_wp2
  go_loopw [10,32] (fun v vi wr=>OY w4 P v vi wr) (fun _ i _=>nP-(intOf i).toNat)
  case atStart=>exact R0.out
  case round=>
   clear R0;obtain ⟨k,rows,hk,rfl,hR⟩:=hrel;obtain ⟨nv,sw⟩:∃ nv,nv=(((P.take k).map (fun p=>tJ p.bl)).map Nd.d).length:=⟨_,rfl⟩;obtain ⟨av,cv,rfl,hcv,hcm⟩:=hR.cap sw.symm;unfold maxLen at hcm;have jb2:nv<=900001:=by have:=OQ.out;rw [sw,jjz,jjz,List.length_take];omega
   have TI:=hid sw.symm;have hbel:=hR.aP;have HRW:=hid hR;clear hR sw;by_cases hlt:k<nP
   ·obtain ⟨x,hx⟩:∃ x,P[k]?=some x:=⟨_,jj7 (by have:=OQ.out;omega)⟩;have hxm:x∈dW l:=by rw [<- HPP.out];exact List.mem_of_getElem? hx
    obtain ⟨b,off,ha,hok,hb,hcx⟩:=HS4.out.at_ (by rw [jjz];have:=OQ.out;omega)
    subst ha;obtain ⟨r,hr,hrl,hcell⟩:=hcx k x.d (by rw [List.getElem?_map,hx];rfl);obtain ⟨vbl,rfl,hbl⟩:=Pt.open_ hr;obtain ⟨al,nl,cl,rfl⟩:=Rd.ay hbl;have c0:wr.cell? ⟨b,off+k*2,none⟩=some (.bool x.ti):=(hbel.cell (p:=⟨_,_,none⟩) hb).trans (hcell 0 _ rfl);have c1':wr.cell? ⟨b,off+k*2+1,none⟩=some (.slice al nl cl):=(hbel.cell (p:=⟨_,_,none⟩) hb).trans (hcell 1 _ rfl);obtain ⟨q,hq⟩:∃ q,q=wr.heap.size:=⟨_,rfl⟩;obtain ⟨tb,htb⟩:∃ tb,tb=x.ti:=⟨_,rfl⟩;rw [<- htb] at c0;obtain ⟨w5,Gb⟩:∃ w5,w5=wr.alloc (.cells #[.bool tb,.slice al nl cl] 96):=⟨_,rfl⟩;have k5:CB 96 q [.bool tb,.slice al nl cl] w5:=by rw [Gb,hq];exact CB.new _ _ _
    have b5:jmk wr.heap.size wr w5:=by rw [Gb];exact (jj8 _ _).alloc (jj9 _) _
    have B5:=aR hbel b5;have B5w:jmk w.heap.size w w5:=aR (aR B0w.out B4.out) B5;have BC:=II x.bl (.slice al nl cl) w5 (hbl.up B5) (HPS.out x hxm) (by have:=Ro.out x hxm;have:=FU.out;omega) (by have:=Lj.out x hxm;have:=HIL.out;omega) (Vn.out x hxm) (qC.out _ B5w);have hbx:=HP6.out HBS.out x hxm;have hbn:Td x.bl=eG x.bl:=by unfold Td;rw [if_pos hbx]
    rw [hbx,hbn] at BC;have uQ:=hid BC;have HQ:=hid hq;have HX:=hid hx;have xU:=hid b5;have e1:=k5.cell 1 _ rfl;clear hr hcell hrl hbl hok hb hx hxm hcx k5 b5 B5 B5w BC hbx hbn htb hq;go_upto_region 8 with (fail)
    rw [<- Gb];simp only [<- HQ.out];clear Gb c0 c1';go_wp2_with fail
    (with_reducible refine uQ.out.mono ?_)
    rintro e w6 ⟨Zb,v6,rfl,Cw⟩;obtain ⟨a6,n6,c6,rfl⟩:=Cw.slice3;obtain ⟨p7,VK⟩:∃ p7,p7=w6.heap.size:=⟨_,rfl⟩;obtain ⟨w7,hw7⟩:∃ w7,w7=w6.alloc (.cells #[.string ⟨#[99,108,97,115,115]⟩,.string ⟨#[115,108,105,100,101]⟩] 61):=⟨_,rfl⟩;have b7:jmk w6.heap.size w6 w7:=by rw [hw7];exact (jj8 _ _).alloc (jj9 _) _
    have B7:=xU.out.trans ((Cw.aP.trans (b7.mono Cw.aP.size)).mono xU.out.size);have jg8:wr.heap.size<=p7:=by have:=xU.out.size;have:=Cw.aP.size;omega
    have jb6:Rd (fun b=>False\/wr.heap.size<=b) w7 (bS [⟨iw,BO⟩]) [.slice (some ⟨p7,0,none⟩) 1 1]:=by have h:=aC.jb4 w6 ⟨iw,BO⟩;rw [hw7,VK];exact h.weaken (fun b hb=>.inr (by omega))
    have jb7:Rd (fun b=>False\/wr.heap.size<=b) w7 (cZ (eG x.bl)) [.slice a6 n6 c6]:=(Cw.fu.aZ b7).weaken (fun b hb=>.inr (by have:=xU.out.size;omega));have HX7:=hid (Nd.eu eH ⟨#[]⟩ ⟨jb6,jb7⟩);have HR7:=hid (HRW.out.below B7);have HQ7:=hid VK;clear Cw b7 B7 jb6 jb7 VK jg8 uQ e1;go_upto_region 12 with (fail)
    rw [<- hw7];simp only [<- HQ7.out];clear hw7;go_wp2_with (at_builtin;refine Sv (n:=nv) rfl _ _ 28 rfl iN _ 80 Tryz.underlying28 Fb nU nV nW rfl (by decide) HR7.out (fun b hb=>hb.elim) (tJ x.bl).d [.string ⟨#[115,101,99,116,105,111,110]⟩,.string ⟨#[]⟩,.slice (some ⟨p7,0,none⟩) 1 1,.slice a6 n6 c6] HX7.out rfl jJ TI.out (by omega) (by decide) rfl rfl ?_)
    intro a8 c8 w8 zC XC;have hf:OY w4 P (.slice a8 (nv+1) c8) (.int .i64 ((k+1:Nat):Int)) w8:=by
     refine ⟨k+1,rows++[[.string ⟨#[115,101,99,116,105,111,110]⟩,.string ⟨#[]⟩,.slice (some ⟨p7,0,none⟩) 1 1,.slice a6 n6 c6]],by have:=OQ.out;omega,rfl,?_⟩;have e:((P.take (k+1)).map (fun p=>tJ p.bl)).map Nd.d=List.take k (List.map (Nd.d ∘ fun p=>tJ p.bl) P)++[(tJ x.bl).d]:=by rw [List.take_add_one,HX.out];simp
     rw [e];exact zC
    have HF:=hid hf;clear zC XC hf;go_wp2;go_roundw;case rel=>exact HF.out
    case measure=>simp [intOf];omega
   ·obtain ⟨wA,hA⟩:∃ wA,wA=wr:=⟨_,rfl⟩;subst hA;have hkl:k=P.length:=by have:=OQ.out;omega
    have hrow:aC 35 4 (fun _=>False) wA.heap.size w4 ((NS l).map Nd.d) rows (.slice av nv cv) wA:=by have h:=HRW.out;rw [hkl,jkz,HPP.out,lQ] at h;exact h
    have O4:=aR B34.out hbel;have Ya:=hid hrow.fu;have XQ:=hid (K3.out.below O4);have HCR:=hid (Py.out.below O4);have HKR:=hid (HKH.out.aZ O4);have Ud:=hid (HAT.out.aZ O4);have ZE:=hid (aR B4.out hbel);have HBZ:Hid (Bp<w4.heap.size):=by show _<_;have h1:=(Array.getElem?_eq_some_iff.1 K3.out).1;have:=B34.out.size;omega
    have yV:Hid (Bp<wA.heap.size):=by show _<_;exact (Array.getElem?_eq_some_iff.1 XQ.out).1
    have e3:=XQ.out.cell 3 _ rfl;have R1:Hid (OZ wA p3 (.slice av nv cv) (.int .i64 0) wA):=⟨0,by omega,rfl,fun _=>rfl,by omega⟩;clear hkl hrow O4 hbel HRW;go_wp2
    go_loopw [58] (fun vi wr=>OZ wA p3 (.slice av nv cv) vi wr) (fun i _=>2-(intOf i).toNat)
    case atStart=>exact R1.out
    case round=>
     clear R1;obtain ⟨j,hj,rfl,hj1,hj2⟩:=hrel;rcases (by omega:j=0\/j=1\/j=2) with rfl | rfl | rfl
     ·obtain rfl:=hj1 (by omega);have e0:=HCR.out.cell 0 _ rfl;have hq:(iU.toList==[98,111,100,121])=false:=by kernel_rfl
      go_wp2;clear hq;go_roundw;case rel=>exact ⟨1,by omega,rfl,fun _=>rfl,by omega⟩
      case measure=>simp [intOf]
     ·obtain rfl:=hj1 (by omega);have e4:=HCR.out.cell 4 _ rfl;have e7:=HCR.out.cell 7 _ rfl;have hf:=nJ HCR.out;have hq:(gH.toList==[98,111,100,121])=true:=by kernel_rfl
      go_wp2;clear hq;go_roundw;case rel=>exact ⟨2,by omega,rfl,by omega,fun _=>rfl⟩
      case measure=>simp [intOf]
     ·have hwx:=hj2 rfl;have HWX:=hid hwx;have hb:jmk wA.heap.size wA wA:=jj8 _ _;have keep:∀ b,b≠p3->wr.heap[b]?=wA.heap[b]?:=fun b hb=>by rw [hwx];exact Below.heap_setCell wA ⟨p3,7,none⟩ _ b hb
      have hzx:wr.heap.size=wA.heap.size:=by rw [hwx];simp [World.setCell]
      have hCX:CB 35 p3 [.string iU,.string ⟨#[]⟩,.slice none 0 0,kh,.string gH,.string ⟨#[]⟩,.slice none 0 0,.slice av nv cv] wr:=by rw [hwx];exact dG HCR.out 7 _
      have hKX:CB 35 Bp [.string kN,.string ⟨#[]⟩,.slice aA nA cA,.slice (some ⟨p3,0,none⟩) 2 2] wr:=(keep Bp (by have:=jb5.out;omega)).trans XQ.out;have hp3:=Fe.out;have hs4:=ZE.out.size;have hbx:jmk W0.heap.size W0 wr:=by rw [hwx];exact ZE.out.setCell (p:=⟨p3,7,none⟩) hp3 _
      have hpl:=jb5.out;have hbz:=HBZ.out;have hNR:kU (W0.heap.size<=·) wr [⟨iK,lang⟩] [aQ iU [] [aQ jl [⟨Cz,gI⟩] [],aQ fQ [] (bT title)],aQ gH [] (NS l)] (.slice aA nA cA) (.slice (some ⟨p3,0,none⟩) 2 2):=by
       refine ⟨Rd.keep (fun b (hb:W0.heap.size<=b/\b<p3) _=>⟨hb.1,keep b (by omega)⟩) _ _ Ud.out,?_⟩;have r1:Rd (W0.heap.size<=·) wr (aQ iU [] [aQ jl [⟨Cz,gI⟩] [],aQ fQ [] (bT title)]).d [.string iU,.string ⟨#[]⟩,.slice none 0 0,kh]:=
        Nd.eu iU ⟨#[]⟩ ⟨Rd.aF _ _ _,Rd.keep (fun b (hb:W0.heap.size<=b/\b<p3) _=>⟨hb.1,keep b (by omega)⟩) _ _ HKR.out⟩
       have r2:Rd (W0.heap.size<=·) wr (aQ gH [] (NS l)).d [.string gH,.string ⟨#[]⟩,.slice none 0 0,.slice av nv cv]:=
        Nd.eu gH ⟨#[]⟩ ⟨Rd.aF _ _ _,Rd.keep (fun b (hb:w4.heap.size<=b) _=>⟨by have:=B4.out.size;omega,keep b (by omega)⟩) _ _ Ya.out⟩
       exact Rd.slB (rows:=[[.string iU,.string ⟨#[]⟩,.slice none 0 0,kh],[.string gH,.string ⟨#[]⟩,.slice none 0 0,.slice av nv cv]]) (l:=[(aQ iU [] [aQ jl [⟨Cz,gI⟩] [],aQ fQ [] (bT title)]).d,(aQ gH [] (NS l)).d]) (jj9 _) (by decide) (aI.cons r1 (aI.one r2)) (by simp) hp3 (by have:=yV.out;omega)
        (fun j u hu=>hCX.cell j u (by simpa using hu))
      obtain ⟨w9,bO⟩:∃ w9,w9=four wr (S+1) (.string kN) (.string ⟨#[]⟩) (.slice aA nA cA) (.slice (some ⟨p3,0,none⟩) 2 2):=⟨_,rfl⟩;have hf:=fA kN ⟨#[]⟩ [⟨iK,lang⟩] [aQ iU [] [aQ jl [⟨Cz,gI⟩] [],aQ fQ [] (bT title)],aQ gH [] (NS l)] Cx.out Z0.out B0.out K1.out hbx hNR;rw [<- bO] at hf;have iW:=hid hf.1;have Ba:=hid hf.2;obtain ⟨x0,x1,x2,x3,xf⟩:=pJ (K1.out.below hbx);have c0:=hKX.cell 0 _ rfl;have c1:=hKX.cell 1 _ rfl;have c2:=hKX.cell 2 _ rfl;have c3:=hKX.cell 3 _ rfl;clear hf hNR hbx hpl hbz hs4 hp3 hKX hCX hzx keep hb hwx hj1 hj2 e3;have hw8:=bO;simp only [four] at hw8;clear bO;go_wp2;rw [<- hw8];have r0:=iW.out.cell 0 _ rfl;have r1:=iW.out.cell 1 _ rfl;have r2:=iW.out.cell 2 _ rfl;have r3:=iW.out.cell 3 _ rfl;exact bodyPost_ret (v:=.tuple #[.agg #[.string kN,.string ⟨#[]⟩,.slice aA nA cA,.slice (some ⟨p3,0,none⟩) 2 2],.int .i64 (0)]) (by simp [results,Tryz.results23,go_sem,r0,r1,r2,r3]) rfl (by rw [HZ0.out,HE0.out];exact vW.of Ba.out (by simp))
 ·have q0:((E:Int) != 0)=true:=by rw [bne_iff_ne];omega
  have hz:Z=mP:=by rw [HZZ.out,if_neg h0]
  have HZ0:=hid hz;clear hz;obtain ⟨x0,x1,x2,x3,xf⟩:=pJ (K1.out.below B3.out);obtain ⟨w9,bO⟩:∃ w9,w9=four w3 (S+1) (.string ⟨#[]⟩) (.string ⟨#[]⟩) (.slice none 0 0) (.slice none 0 0):=⟨_,rfl⟩;have hf:=fA ⟨#[]⟩ ⟨#[]⟩ [] [] Cx.out Z0.out B0.out K1.out B3.out ⟨Rd.aF _ _ _,Rd.aF _ _ _⟩;rw [<- bO] at hf;have iW:=hid hf.1;have Ba:=hid hf.2;clear hf h0;have hw8:=bO;simp only [four] at hw8;clear bO;go_wp2;rw [<- hw8];have r0:=iW.out.cell 0 _ rfl;have r1:=iW.out.cell 1 _ rfl;have r2:=iW.out.cell 2 _ rfl;have r3:=iW.out.cell 3 _ rfl;exact bodyPost_ret (v:=.tuple #[.agg #[.string ⟨#[]⟩,.string ⟨#[]⟩,.slice none 0 0,.slice none 0 0],.int .i64 (E)]) (by simp [results,Tryz.results23,go_sem,r0,r1,r2,r3]) rfl (by rw [HZ0.out];exact vW.of Ba.out (by simp))
open Go.RowKit
def bC (k lv:Int) (id:ByteArray) (vl:Value):List Value:=[.int .i64 k,.int .i64 lv,.string ⟨#[]⟩,.string ⟨#[]⟩,.string ⟨#[]⟩,.string ⟨#[]⟩,.string id,.slice none 0 0,.slice none 0 0,vl,.slice none 0 0]
def sB (k lv:Int) (id:ByteArray) (li:List aj):ah:=.mk k lv ⟨#[]⟩ ⟨#[]⟩ ⟨#[]⟩ ⟨#[]⟩ ⟨id,[],[]⟩ li []
theorem Aj {ok:Nat->Prop} {w:jmj} (k lv:Int) (id:ByteArray) {li:List aj} {vl:Value} (h:Rd ok w (aY li) [vl]):Rd ok w (sB k lv id li).d (bC k lv id vl):=ah.eu k lv ⟨#[]⟩ ⟨#[]⟩ ⟨#[]⟩ ⟨#[]⟩ ⟨⟨Rd.aF _ _ _,Rd.aF _ _ _⟩,h,Rd.aF _ _ _⟩
theorem ng {w:jmj} {p:Nat} {t:ByteArray} (k:CB 66 p (eC t) w) (ok:Nat->Prop) (h:ok p):Rd ok w (aY [Qz t]) [.slice (some ⟨p,0,none⟩) 1 1]:=
 Rd.Tf (l:=[Qz t].map aj.d) (rows:=[eC t]) (by simp) (by unfold maxLen;decide) (aI.one (VE _ _ _)) (by simp [eC]) h k.lt (fun j u hu=>k.cell j u (by simpa using hu))
def Cj (k lv:Int) (id t:ByteArray) (w:jmj) (e:Ending) (w':jmj):Prop:=
 ∃ p,e=.returned (.agg (bC k lv id (.slice (some ⟨p,0,none⟩) 1 1)).toArray)/\w.heap.size<=p/\CB 66 p (eC t) w'/\jmk w.heap.size w w'
theorem Uj (k lv:Int) (id t:ByteArray) (w:jmj):∃ S W1,S=w.heap.size/\W1=(w.alloc (.cells (bC 0 0 ⟨#[]⟩ (.slice none 0 0)).toArray 48)).alloc (.cells (eC t).toArray 66)/\CB 48 S (bC 0 0 ⟨#[]⟩ (.slice none 0 0)) W1 /\ CB 48 S (bC k lv id (.slice (some ⟨S+1,0,none⟩) 1 1)) (oq W1 S 0 (bC k lv id (.slice (some ⟨S+1,0,none⟩) 1 1)))/\Cj k lv id t w (.returned (.agg (bC k lv id (.slice (some ⟨S+1,0,none⟩) 1 1)).toArray)) (oq W1 S 0 (bC k lv id (.slice (some ⟨S+1,0,none⟩) 1 1))):=by
 obtain ⟨S,hS⟩:∃ S,S=w.heap.size:=⟨_,rfl⟩;obtain ⟨W1,hW⟩:∃ W1,W1=(w.alloc (.cells (bC 0 0 ⟨#[]⟩ (.slice none 0 0)).toArray 48)).alloc (.cells (eC t).toArray 66):=⟨_,rfl⟩;have z:(w.alloc (.cells (bC 0 0 ⟨#[]⟩ (.slice none 0 0)).toArray 48)).heap.size=S+1:=by rw [jk6,hS]
 have k0:CB 48 S (bC 0 0 ⟨#[]⟩ (.slice none 0 0)) W1:=by rw [hW,hS];exact (CB.new _ _ w).below ((jj8 _ _).alloc (jj9 _) _)
 have k1:CB 66 (S+1) (eC t) W1:=by rw [hW,<- z];exact CB.new _ _ _
 have b1:jmk w.heap.size w W1:=by rw [hW];exact ((jj8 _ _).alloc (jj9 _) _).alloc (by rw [z];omega) _
 refine ⟨S,W1,hS,hW,k0,?_,S+1,rfl,by omega,(gU S _ _ _ _ (by omega)).trans k1,?_⟩
 ·exact dG (dG (dG (dG (dG (dG (dG (dG (dG (dG (dG k0 0 _) 1 _) 2 _) 3 _) 4 _) 5 _) 6 _) 7 _) 8 _) 9 _) 10 _
 ·have hs:=Nat.le_of_eq hS.symm;exact ((((((((((b1.setCell (p:=⟨S,0,none⟩) hs _).setCell (p:=⟨S,1,none⟩) hs _).setCell (p:=⟨S,2,none⟩) hs _).setCell (p:=⟨S,3,none⟩) hs _).setCell (p:=⟨S,4,none⟩) hs _).setCell (p:=⟨S,5,none⟩) hs _).setCell (p:=⟨S,6,none⟩) hs _).setCell (p:=⟨S,7,none⟩) hs _).setCell (p:=⟨S,8,none⟩) hs _).setCell (p:=⟨S,9,none⟩) hs _).setCell (p:=⟨S,10,none⟩) hs _
theorem O5 (lv:Int) (id:ByteArray) (w:jmj):Calls Tryz.prog 28 #[.int .i64 lv,.string id] w (Cj 2 lv id ⟨#[84]⟩ w):=by
 obtain ⟨S,W1,hS,hW,k0,k1,hP⟩:=Uj 2 lv id ⟨#[84]⟩ w;obtain ⟨w9,bO⟩:∃ w9,w9=oq W1 S 0 (bC 2 lv id (.slice (some ⟨S+1,0,none⟩) 1 1)):=⟨_,rfl⟩;obtain ⟨w0,hw0⟩:∃ w0,w0=w.alloc (.cells (bC 0 0 ⟨#[]⟩ (.slice none 0 0)).toArray 48):=⟨_,rfl⟩;have z0:w0.heap.size=S+1:=by rw [hw0,jk6,hS]
 rw [<- bO] at k1 hP;rw [<- hw0] at hW;have HP:=hid hP;have K1:=hid k1;have HZ:=hid z0;have r0:=k0.cell 0 _ rfl;have r1:=k0.cell 1 _ rfl;have r2:=k0.cell 2 _ rfl;have r3:=k0.cell 3 _ rfl;have r4:=k0.cell 4 _ rfl;have r5:=k0.cell 5 _ rfl;have r6:=k0.cell 6 _ rfl;have r7:=k0.cell 7 _ rfl;have r8:=k0.cell 8 _ rfl;have r9:=k0.cell 9 _ rfl;have Xd:=k0.cell 10 _ rfl;have g0:=nJ k0 0;have g1:=nJ k0 1;have g2:=nJ k0 2;have g3:=nJ k0 3;have g4:=nJ k0 4;have g5:=nJ k0 5;have g6:=nJ k0 6;have g7:=nJ k0 7;have g8:=nJ k0 8;have g9:=nJ k0 9;have g10:=nJ k0 10;simp only [bC,oq] at bO;simp only [eC] at hW;subst hW;simp only [bC] at hw0;clear hP k0 k1 z0;go_enter Tryz.func28,Tryz.ntmps28;go_upto_region 1 with (fail)
 rw [<- hw0,<- hS];clear hw0 hS;go_wp2;simp only [HZ.out];rw [<- bO];clear bO r0 r1 r2 r3 r4 r5 r6 r7 r8 r9 Xd;have r0:=K1.out.cell 0 _ rfl;have r1:=K1.out.cell 1 _ rfl;have r2:=K1.out.cell 2 _ rfl;have r3:=K1.out.cell 3 _ rfl;have r4:=K1.out.cell 4 _ rfl;have r5:=K1.out.cell 5 _ rfl;have r6:=K1.out.cell 6 _ rfl;have r7:=K1.out.cell 7 _ rfl;have r8:=K1.out.cell 8 _ rfl;have r9:=K1.out.cell 9 _ rfl;have Xd:=K1.out.cell 10 _ rfl;exact bodyPost_ret (v:=.agg (bC 2 lv id (.slice (some ⟨S+1,0,none⟩) 1 1)).toArray) (by simp [bC,results,Tryz.results28,go_sem,r0,r1,r2,r3,r4,r5,r6,r7,r8,r9,Xd]) rfl HP.out
theorem Hw (w:jmj):Calls Tryz.prog 55 #[] w (Cj 1 0 ⟨#[]⟩ ⟨#[112]⟩ w):=by
 obtain ⟨S,W1,hS,hW,k0,k1,hP⟩:=Uj 1 0 ⟨#[]⟩ ⟨#[112]⟩ w;obtain ⟨w9,bO⟩:∃ w9,w9=oq W1 S 0 (bC 1 0 ⟨#[]⟩ (.slice (some ⟨S+1,0,none⟩) 1 1)):=⟨_,rfl⟩;obtain ⟨w0,hw0⟩:∃ w0,w0=w.alloc (.cells (bC 0 0 ⟨#[]⟩ (.slice none 0 0)).toArray 48):=⟨_,rfl⟩;have z0:w0.heap.size=S+1:=by rw [hw0,jk6,hS]
 rw [<- bO] at k1 hP;rw [<- hw0] at hW;have HP:=hid hP;have K1:=hid k1;have HZ:=hid z0;have r0:=k0.cell 0 _ rfl;have r1:=k0.cell 1 _ rfl;have r2:=k0.cell 2 _ rfl;have r3:=k0.cell 3 _ rfl;have r4:=k0.cell 4 _ rfl;have r5:=k0.cell 5 _ rfl;have r6:=k0.cell 6 _ rfl;have r7:=k0.cell 7 _ rfl;have r8:=k0.cell 8 _ rfl;have r9:=k0.cell 9 _ rfl;have Xd:=k0.cell 10 _ rfl;have g0:=nJ k0 0;have g1:=nJ k0 1;have g2:=nJ k0 2;have g3:=nJ k0 3;have g4:=nJ k0 4;have g5:=nJ k0 5;have g6:=nJ k0 6;have g7:=nJ k0 7;have g8:=nJ k0 8;have g9:=nJ k0 9;have g10:=nJ k0 10;simp only [bC,oq] at bO;simp only [eC] at hW;subst hW;simp only [bC] at hw0;clear hP k0 k1 z0;go_enter Tryz.func55,Tryz.ntmps55;go_upto_region 1 with (fail)
 rw [<- hw0,<- hS];clear hw0 hS;go_wp2;simp only [HZ.out];rw [<- bO];clear bO r0 r1 r2 r3 r4 r5 r6 r7 r8 r9 Xd;have r0:=K1.out.cell 0 _ rfl;have r1:=K1.out.cell 1 _ rfl;have r2:=K1.out.cell 2 _ rfl;have r3:=K1.out.cell 3 _ rfl;have r4:=K1.out.cell 4 _ rfl;have r5:=K1.out.cell 5 _ rfl;have r6:=K1.out.cell 6 _ rfl;have r7:=K1.out.cell 7 _ rfl;have r8:=K1.out.cell 8 _ rfl;have r9:=K1.out.cell 9 _ rfl;have Xd:=K1.out.cell 10 _ rfl;exact bodyPost_ret (v:=.agg (bC 1 0 ⟨#[]⟩ (.slice (some ⟨S+1,0,none⟩) 1 1)).toArray) (by simp [bC,results,Tryz.results55,go_sem,r0,r1,r2,r3,r4,r5,r6,r7,r8,r9,Xd]) rfl HP.out
open Go.RowKit
def sP:ah:=sB 1 0 ⟨#[]⟩ [Qz ⟨#[112]⟩]
def K9:List ah:=[sB 2 1 ⟨#[]⟩ [Qz ⟨#[84]⟩],sP,sB 5 0 ⟨#[]⟩ [],sP]
def rP:List ah:=[sB 2 2 ⟨#[115]⟩ [Qz ⟨#[84]⟩],sP]
theorem jb8:XR K9=[⟨[Qz ⟨#[84]⟩],[sP]⟩,⟨[],[sP]⟩]:=by rfl
theorem Uk:JY [] rP ⟨#[84]⟩ ⟨#[101,110]⟩=0:=by decide +kernel
theorem jb9:Xc [] [] ⟨#[84]⟩ ⟨#[101,110]⟩=eU ⟨#[84]⟩ ⟨#[101,110]⟩ []:=by unfold Xc;rw [if_pos YZ,<- lQ];rfl
theorem jbj:Xc [] rP ⟨#[84]⟩ ⟨#[101,110]⟩=eU ⟨#[84]⟩ ⟨#[101,110]⟩ [tJ rP]:=by unfold Xc;rw [if_pos Uk,<- lQ];rfl
theorem jbk:(eG rP).length=2:=by rfl
theorem Ul:(eU ⟨#[84]⟩ ⟨#[101,110]⟩ [tJ rP]).vals oh=[⟨#[115]⟩]:=by rfl
theorem Ak {k lv:Int} {id t:ByteArray} (hi:(⟨id,[],[]⟩:At).short) (ht:t.size<=50):(sB k lv id [Qz t]).small/\(sB k lv id []).small:=by
 have h0:(⟨#[]⟩:ByteArray).size<=300:=by decide
 have h2:(⟨⟨#[]⟩,[],[]⟩:At).short:=⟨by decide,by decide,by decide,fun _ h=>(by cases h),fun _ h=>(by cases h)⟩;have h3:t.size<=300:=by omega
 have h3':aj.aV [aj.mk 1 t ⟨#[]⟩ ⟨#[]⟩ ⟨⟨#[]⟩,[],[]⟩ [] [] []]<=120:=by simp [aj.aV,aj.sz]
 constructor<;>simp [sB,Qz,eAt,ah.aG,ah.small,h0,show aj.aV []<=120 by decide,h2,h3,h3',hi,aj.aG,aj.small]
theorem EY:(⟨⟨#[]⟩,[],[]⟩:At).short:=⟨by decide,by decide,by decide,fun _ h=>(by cases h),fun _ h=>(by cases h)⟩
theorem jbq:(⟨⟨#[115]⟩,[],[]⟩:At).short:=⟨by decide,by decide,by decide,fun _ h=>(by cases h),fun _ h=>(by cases h)⟩
theorem O6:ah.aG rP:=by rw [rP,ah.aG,ah.aG,ah.aG];exact ⟨(Ak jbq (by decide)).1,(Ak EY (by decide)).1,trivial⟩
theorem Xe:ah.kV K9:=by apply ah.lJ;rw [K9,ah.aG,ah.aG,ah.aG,ah.aG,ah.aG];exact ⟨(Ak EY (by decide)).1,(Ak EY (by decide)).1,(Ak (t:=⟨#[]⟩) EY (by decide)).2,(Ak EY (by decide)).1,trivial⟩
theorem Jq {w:jmj} {q:Nat} {l:List ah} {rows:List (List Value)} (k:CB 48 q rows.flatten w) (hl:l.length=rows.length) (hm:l.length<=1000) (h:aI (·<w.heap.size) w (l.map ah.d) rows) (hk:∀ r∈rows,r.length=11) : Rd (·<w.heap.size) w (iO l) [.slice (some ⟨q,0,none⟩) l.length l.length]:=by
 have h:=Rd.Tf (l:=l.map ah.d) (rows:=rows) (cap:=l.length) (by simp) (by unfold maxLen;omega) h hk k.lt k.lt (fun j u hu=>k.cell j u hu)
 rwa [jjz] at h
theorem xA {ok:Nat->Prop} {w:jmj} {x:Nd} {L:List Nd} {vk:Value} (h:Rd ok w (cZ [x,aQ gH [] L]) [vk]):∃ b off c aL cL,vk=.slice (some ⟨b,off,none⟩) 2 c/\w.cell? ⟨b,off+4+3,none⟩=some (.slice aL L.length cL)/\Rd ok w (cZ L) [.slice aL L.length cL]:=by
 obtain ⟨a,c,hv,hs⟩:=Rd.aB h;obtain ⟨b,off,va,Tq,rfl,-,-,-,-,-,hc,hN⟩:=FW (l:=[x,aQ gH [] L]) hs (k:=1) rfl;obtain ⟨aL,cL,hv2,-⟩:=Rd.aB hN.ks;obtain rfl:Tq=.slice aL L.length cL:=by simpa using hv2
 exact ⟨b,off,c,aL,cL,by simpa using hv,by simpa using hc,hN.ks⟩
theorem jbx {ok:Nat->Prop} {w:jmj} {n t:ByteArray} {at_:List Pr} {ks:List Nd} {a:Option Addr} {c:Nat} (h:Rd ok w (cZ [.mk n t at_ ks]) [.slice a 1 c]):∃ b off aS nS cS aK cK,a=some ⟨b,off,none⟩/\w.cell? ⟨b,off,none⟩=some (.string n)/\w.cell? ⟨b,off+1,none⟩=some (.string t)/\w.cell? ⟨b,off+2,none⟩=some (.slice aS nS cS)/\w.cell? ⟨b,off+3,none⟩=some (.slice aK ks.length cK):=by
 obtain ⟨a',c',hv,hs⟩:=Rd.aB h;obtain ⟨rfl,rfl⟩:a'=a/\c'=c:=by simp at hv;exact ⟨hv.1.symm,hv.2.symm⟩
 obtain ⟨b,off,va,Tq,rfl,-,-,c0,c1,c2,c3,hN⟩:=FW (l:=[.mk n t at_ ks]) hs (k:=0) rfl;obtain ⟨aL,cL,hv2,-⟩:=Rd.aB hN.ks;obtain rfl:Tq=.slice aL ks.length cL:=by simpa using hv2
 obtain ⟨aS,nS,cS,rfl⟩:=Rd.ay hN.at_
 simp only [Nat.zero_mul,Nat.add_zero] at c0 c1 c2 c3;exact ⟨b,off,aS,nS,cS,aL,cL,rfl,c0,c1,c2,c3⟩
theorem Um {ok:Nat->Prop} {w:jmj} {s1 s2:Sl} {v:Value} (h:Rd ok w (.sl 2 ([s1,s2].map Sl.d)) [v]):∃ b off c a0 c0 a1 c1 a2 c2 a3 c3,v=.slice (some ⟨b,off,none⟩) 2 c/\w.cell? ⟨b,off,none⟩=some (.slice a0 s1.ti.length c0)/\w.cell? ⟨b,off+1,none⟩=some (.slice a1 s1.bl.length c1)/\w.cell? ⟨b,off+2,none⟩=some (.slice a2 s2.ti.length c2)/\w.cell? ⟨b,off+2+1,none⟩=some (.slice a3 s2.bl.length c3):=by
 obtain ⟨a,c,hv,hs⟩:=Rd.aB h;obtain ⟨b,off,rfl,-,hb,hcx⟩:=hs.at_ (by simp)
 obtain ⟨r,hr,-,hc⟩:=hcx 0 s1.d rfl;obtain ⟨r',hr',-,hc'⟩:=hcx 1 s2.d rfl;obtain ⟨v1,v2,rfl,g1,g2⟩:=Sl.open_ hr;obtain ⟨v3,v4,rfl,g3,g4⟩:=Sl.open_ hr';obtain ⟨a0,c0,e0,-⟩:=Rd.aB g1;obtain ⟨a1,c1,e1,-⟩:=Rd.aB g2;obtain ⟨a2,c2,e2,-⟩:=Rd.aB g3;obtain ⟨a3,c3,e3,-⟩:=Rd.aB g4;obtain rfl:v1=.slice a0 s1.ti.length c0:=by simpa using e0
 obtain rfl:v2=.slice a1 s1.bl.length c1:=by simpa using e1
 obtain rfl:v3=.slice a2 s2.ti.length c2:=by simpa using e2
 obtain rfl:v4=.slice a3 s2.bl.length c3:=by simpa using e3
 refine ⟨b,off,c,a0,c0,a1,c1,a2,c2,a3,c3,by simpa using hv,?_,?_,?_,?_⟩
 ·have:=hc 0 _ rfl;simpa using this
 ·have:=hc 1 _ rfl;simpa using this
 ·have:=hc' 0 _ rfl;simpa using this
 ·have:=hc' 1 _ rfl;simpa using this
theorem Jr (w:jmj) (ht:PT w):Calls Tryz.prog 19 #[] w (dR (.bool true) w):=by
 have qC:Hid (∀ W,jmk w.heap.size w W->PT W):=fun W hW=>ht.below hW
 clear ht;go_enter Tryz.func19,Tryz.ntmps19;go_wp2_with fail
 refine (O5 _ _ _).mono ?_;rintro e w1 ⟨p1,rfl,hp1,k1,b1⟩;simp only [bC];have K1:=hid k1;have B1:=hid b1;clear hp1 k1 b1;go_wp2_with fail
 refine (Hw _).mono ?_;rintro e w2 ⟨p2,rfl,hp2,k2,b2⟩;simp only [bC];have K1:=hid (K1.out.below b2);have K2:=hid k2;have B2:=hid (aR B1.out b2);clear hp2 k2 b2;go_wp2_with fail
 refine (Hw _).mono ?_;rintro e w3 ⟨p3,rfl,hp3,k3,b3⟩;simp only [bC];have k1:=K1.out.below b3;have k2:=K2.out.below b3;obtain ⟨q4,hq4⟩:∃ q4,q4=w3.heap.size:=⟨_,rfl⟩;obtain ⟨w4,hw4⟩:∃ w4,w4=w3.alloc (.cells [bC 2 1 ⟨#[]⟩ (.slice (some ⟨p1,0,none⟩) 1 1),bC 1 0 ⟨#[]⟩ (.slice (some ⟨p2,0,none⟩) 1 1),bC 5 0 ⟨#[]⟩ (.slice none 0 0),bC 1 0 ⟨#[]⟩ (.slice (some ⟨p3,0,none⟩) 1 1)].flatten.toArray 48):=⟨_,rfl⟩;have b4:jmk w3.heap.size w3 w4:=by rw [hw4];exact (jj8 _ _).alloc (jj9 _) _
 have k4:CB 48 q4 [bC 2 1 ⟨#[]⟩ (.slice (some ⟨p1,0,none⟩) 1 1),bC 1 0 ⟨#[]⟩ (.slice (some ⟨p2,0,none⟩) 1 1),bC 5 0 ⟨#[]⟩ (.slice none 0 0),bC 1 0 ⟨#[]⟩ (.slice (some ⟨p3,0,none⟩) 1 1)].flatten w4:=by rw [hw4,hq4];exact CB.new _ _ _
 have h4:Rd (·<w4.heap.size) w4 (iO K9) [.slice (some ⟨q4,0,none⟩) 4 4]:=by refine Jq (l:=K9) k4 rfl (by decide) (aI.cons (Aj 2 1 ⟨#[]⟩ (ng (k1.below b4) _ (k1.below b4).lt)) (aI.cons (Aj 1 0 ⟨#[]⟩ (ng (k2.below b4) _ (k2.below b4).lt)) (aI.cons (Aj 5 0 ⟨#[]⟩ (Rd.aF _ _ _)) (aI.one (Aj 1 0 ⟨#[]⟩ (ng (k3.below b4) _ (k3.below b4).lt)))))) (by simp [bC])
 have OC:=hid (Jp (.slice none 0 0) K9 (.slice (some ⟨q4,0,none⟩) 4 4) w4 ⟨_,_,_,rfl⟩ h4 (by decide +kernel) Xe);have B4:=hid (aR (aR B2.out b3) b4);simp only [bC,List.flatten_cons,List.flatten_nil,List.cons_append,List.nil_append,List.append_nil] at hw4;have SY:=hid hq4;clear hp3 k3 b3 k1 k2 k4 b4 h4 hq4 K1 K2;go_wp2_with fail
 rw [<- hw4,<- SY.out];clear hw4
 (with_reducible refine OC.out.mono ?_)
 rintro e w5 ⟨v5,rfl,h5,b5⟩;rw [jb8] at h5;obtain ⟨a5,c5,e5⟩:=jv h5;obtain rfl:v5=.slice a5 2 c5:=by simpa using e5
 have B5:=hid (aR B4.out b5);have R5:=hid (h5.weaken (fun _ _=>trivial):Rd (fun _=>True) w5 _ _);have h6:=Ah [] [] ⟨#[84]⟩ ⟨#[101,110]⟩ (.slice none 0 0) (.slice none 0 0) w5 (Rd.aF _ _ _) (Rd.aF _ _ _) (by simp) (by simp) (by decide +kernel) (by unfold ah.aG;trivial) (by decide +kernel) (by decide +kernel) (by unfold ah.kV;trivial) (by decide) (by decide) (qC.out _ B5.out);rw [YZ,jb9] at h6;have PC:=hid h6;clear h5 e5 b5 h6 OC B4 SY B2 B1;go_wp2_with fail
 (with_reducible refine PC.out.mono ?_)
 rintro e w6 ⟨va,vk,he,hN,b6⟩;obtain ⟨aA,nA,cA,rfl⟩:=Rd.ay hN.at_
 obtain ⟨Un,Uo,Yc,a6L,c6L,rfl,-,-⟩:=xA hN.ks;have he:e=.returned (.tuple #[.agg #[.string kN,.string ⟨#[]⟩,.slice aA nA cA,.slice (some ⟨Un,Uo,none⟩) 2 Yc],.int .i64 0]):=he;subst he;have RK6:=hid (show Rd (fun _=>True) w6 (cZ [_,aQ gH [] []]) [.slice (some ⟨Un,Uo,none⟩) 2 Yc] from hN.ks.weaken (fun _ _=>trivial));have R6:=hid (R5.out.aZ b6);have B6:=hid (aR B5.out b6);clear hN b6 PC R5 B5;obtain ⟨Bp,Bo⟩:∃ Bp,Bp=w6.heap.size:=⟨_,rfl⟩;obtain ⟨w7,hw7⟩:∃ w7,w7=w6.alloc (.cells #[.string kN,.string ⟨#[]⟩,.slice aA nA cA,.slice (some ⟨Un,Uo,none⟩) 2 Yc] 35):=⟨_,rfl⟩;have k7:CB 35 Bp [.string kN,.string ⟨#[]⟩,.slice aA nA cA,.slice (some ⟨Un,Uo,none⟩) 2 Yc] w7:=by rw [hw7,Bo];exact CB.new _ _ _
 have b7:jmk w6.heap.size w6 w7:=by rw [hw7];exact (jj8 _ _).alloc (jj9 _) _
 have B7:=hid (aR B6.out b7);have R7:=hid (R6.out.aZ b7);have RK7:=hid (RK6.out.aZ b7);have Zc:=hid k7;clear k7 b7 R6 RK6 B6;go_upto_region 3 with (fail)
 rw [<- hw7,<- Bo];clear hw7 Bo;go_wp2_with fail
 refine (O5 _ _ _).mono ?_;rintro e w8 ⟨p1,rfl,hp1,k1,b1⟩;simp only [bC];have K1:=hid k1;have B8:=hid (aR B7.out b1);have R8:=hid (R7.out.aZ b1);have RK8:=hid (RK7.out.aZ b1);have Zd:=hid (Zc.out.below b1);clear hp1 k1 b1 B7 R7 RK7 Zc;go_wp2_with fail
 refine (Hw _).mono ?_;rintro e w9 ⟨p2,rfl,hp2,k2,b2⟩;simp only [bC];have k1:=K1.out.below b2;obtain ⟨q4,hq4⟩:∃ q4,q4=w9.heap.size:=⟨_,rfl⟩;obtain ⟨wA,iF⟩:∃ wA,wA=w9.alloc (.cells [bC 2 2 ⟨#[115]⟩ (.slice (some ⟨p1,0,none⟩) 1 1),bC 1 0 ⟨#[]⟩ (.slice (some ⟨p2,0,none⟩) 1 1)].flatten.toArray 48):=⟨_,rfl⟩;have b4:jmk w9.heap.size w9 wA:=by rw [iF];exact (jj8 _ _).alloc (jj9 _) _
 have k4:CB 48 q4 [bC 2 2 ⟨#[115]⟩ (.slice (some ⟨p1,0,none⟩) 1 1),bC 1 0 ⟨#[]⟩ (.slice (some ⟨p2,0,none⟩) 1 1)].flatten wA:=by rw [iF,hq4];exact CB.new _ _ _
 have h4:Rd (·<wA.heap.size) wA (iO rP) [.slice (some ⟨q4,0,none⟩) 2 2]:=by refine Jq (l:=rP) k4 rfl (by decide) (aI.cons (Aj 2 2 ⟨#[115]⟩ (ng (k1.below b4) _ (k1.below b4).lt)) (aI.one (Aj 1 0 ⟨#[]⟩ (ng (k2.below b4) _ (k2.below b4).lt)))) (by simp [bC])
 have bA:jmk w8.heap.size w8 wA:=aR b2 b4;have BA:=hid (aR B8.out bA);have RA:=hid (R8.out.aZ bA);have RKA:=hid (RK8.out.aZ bA);have KPA:=hid (Zd.out.below bA);have h6:=Ah [] rP ⟨#[84]⟩ ⟨#[101,110]⟩ (.slice none 0 0) (.slice (some ⟨q4,0,none⟩) 2 2) wA (Rd.aF _ _ _) h4 (by simp) (by simp) (by decide +kernel) O6 (by decide +kernel) (by decide +kernel) (ah.lJ _ O6) (by decide) (by decide) (qC.out _ BA.out);rw [Uk,jbj] at h6;have PC:=hid h6;simp only [bC,List.flatten_cons,List.flatten_nil,List.cons_append,List.nil_append,List.append_nil] at iF;have SY:=hid hq4;clear hp2 b2 k1 k2 k4 b4 h4 hq4 K1 bA h6 B8 R8 RK8 Zd;go_wp2_with fail
 rw [<- iF,<- SY.out];clear iF
 (with_reducible refine PC.out.mono ?_)
 rintro e wB ⟨va,vk,he,hN,b6⟩;obtain ⟨aA2,nA2,cA2,rfl⟩:=Rd.ay hN.at_
 obtain ⟨bk,ok,ck,aL,cL,rfl,-,-⟩:=xA hN.ks;have he:e=.returned (.tuple #[.agg #[.string kN,.string ⟨#[]⟩,.slice aA2 nA2 cA2,.slice (some ⟨bk,ok,none⟩) 2 ck],.int .i64 0]):=he;subst he;have RB:=hid (RA.out.aZ b6);have RKB:=hid (RKA.out.aZ b6);have KPB:=hid (KPA.out.below b6);have BB:=hid (aR BA.out b6);have Pz:=hid hN;clear hN b6 PC RA RKA KPA BA SY;obtain ⟨Bq,hBq⟩:∃ Bq,Bq=wB.heap.size:=⟨_,rfl⟩;obtain ⟨wC,Lm⟩:∃ wC,wC=wB.alloc (.cells #[.string kN,.string ⟨#[]⟩,.slice aA2 nA2 cA2,.slice (some ⟨bk,ok,none⟩) 2 ck] 35):=⟨_,rfl⟩;have kC:CB 35 Bq [.string kN,.string ⟨#[]⟩,.slice aA2 nA2 cA2,.slice (some ⟨bk,ok,none⟩) 2 ck] wC:=by rw [Lm,hBq];exact CB.new _ _ _
 have Xf:jmk wB.heap.size wB wC:=by rw [Lm];exact (jj8 _ _).alloc (jj9 _) _
 have rC:=RB.out.aZ Xf;have rkC:=RKB.out.aZ Xf;have kpC:=KPB.out.below Xf;have hAC:=Rd.aZ Pz.out.at_ Xf
 have hKC:=Rd.aZ Pz.out.ks Xf;have BC:=hid (aR BB.out Xf);clear Xf RB RKB KPB Pz BB;go_upto_region 4 with (fail)
 rw [<- Lm,<- hBq];clear Lm hBq;obtain ⟨g,o,cg,a0,n0,a1,n1,a2,n2,a3,n3,ev,t0,t1,t2,t3⟩:=Um rC;obtain ⟨rfl,rfl⟩:a5=some ⟨g,o,none⟩/\c5=cg:=by simpa using ev
 obtain ⟨bx,ox,cx,aM,cM,ex,u3,-⟩:=xA rkC;obtain ⟨⟨rfl,rfl⟩,rfl⟩:(Un=bx/\Uo=ox)/\Yc=cx:=by simpa using ex
 obtain ⟨ug,oy,cy,aN,cN,ey,y3,hS⟩:=xA hKC;obtain ⟨⟨rfl,rfl⟩,rfl⟩:(bk=ug/\ok=oy)/\ck=cy:=by simpa using ey
 obtain ⟨bz,oz,aS,nS,cS,aK,cK,rfl,z0,z1,z2,z3⟩:=jbx (n:=eH) (t:=⟨#[]⟩) (at_:=[⟨iw,BO⟩]) (ks:=eG rP) hS;rw [jbk] at z3
 replace t0:wC.cell? ⟨g,o,none⟩=some (.slice a0 1 n0):=t0
 replace t1:wC.cell? ⟨g,o+1,none⟩=some (.slice a1 1 n1):=t1
 replace t2:wC.cell? ⟨g,o+2,none⟩=some (.slice a2 0 n2):=t2
 replace t3:wC.cell? ⟨g,o+2+1,none⟩=some (.slice a3 1 n3):=t3
 replace u3:wC.cell? ⟨Un,Uo+4+3,none⟩=some (.slice aM 0 cM):=u3
 replace y3:wC.cell? ⟨bk,ok+4+3,none⟩=some (.slice (some ⟨bz,oz,none⟩) 1 cN):=y3
 have p3:=kpC.cell 3 _ rfl;have q3:=kC.cell 3 _ rfl;go_upto_region 6 with (fail)
 obtain ⟨wD,J7⟩:∃ wD,wD=wC.alloc (.cells #[.string eH,.string ⟨#[]⟩,.slice aS nS cS,.slice aK 2 cK] 35):=⟨_,rfl⟩;obtain ⟨Bs,hBs⟩:∃ Bs,Bs=wC.heap.size:=⟨_,rfl⟩;have kD:CB 35 Bs [.string eH,.string ⟨#[]⟩,.slice aS nS cS,.slice aK 2 cK] wD:=by rw [J7,hBs];exact CB.new _ _ _
 have bD:jmk wC.heap.size wC wD:=by rw [J7];exact (jj8 _ _).alloc (jj9 _) _
 have AC:Hid (Calls Tryz.prog 56 #[.agg #[.string kN,.string ⟨#[]⟩,.slice aA2 nA2 cA2,.slice (some ⟨bk,ok,none⟩) 2 ck],.string ⟨#[105,100]⟩] wD (pQ wD ((eU ⟨#[84]⟩ ⟨#[101,110]⟩ [tJ rP]).vals oh))):=(xY oh _ (eU ⟨#[84]⟩ ⟨#[101,110]⟩ [tJ rP]) (.slice aA2 nA2 cA2) (.slice (some ⟨bk,ok,none⟩) 2 ck) wD (jj9 _) (by rw [Ul];decide) ⟨Rd.keep (fun b _ h2=>⟨h2,rfl⟩) _ _ (hAC.aZ bD),Rd.keep (fun b _ h2=>⟨h2,rfl⟩) _ _ (hKC.aZ bD)⟩);have rD:=hid (rC.aZ bD);have rkD:=hid (rkC.aZ bD);have kpD:=hid (kpC.below bD);have kqD:=hid (kC.below bD);have ksD:=hid kD;have BD:=hid (aR BC.out bD);have q0:=kqD.out.cell 0 _ rfl;have q1:=kqD.out.cell 1 _ rfl;have q2:=kqD.out.cell 2 _ rfl;have q3':=kqD.out.cell 3 _ rfl;clear hAC hKC bD rC rkC kpC kC kD hS;go_upto_region 7 with (fail)
 rw [<- J7,<- hBs];clear J7 hBs t0 t1 t2 t3 u3 y3 z0 z1 z2 z3 p3 q3 BC;go_wp2_with fail
 (with_reducible refine AC.out.mono ?_)
 rintro e wE ⟨vE,rfl,hoE,bE⟩;rw [Ul] at hoE;obtain ⟨-,aE,cE,rfl,hcE,hmE,hxE⟩:=LW.Ap hoE;obtain ⟨bs,os,rfl,hcs⟩:∃ b off,aE=some ⟨b,off,none⟩/\wE.cell? ⟨b,off,none⟩=some (.string ⟨#[115]⟩):=by
  rcases hxE with h | ⟨b,off,h,hc⟩
  ·simp at h
  ·exact ⟨b,off,h,hc 0 _ rfl⟩
 obtain ⟨g',o',cg',a0,n0,a1,n1,a2,n2,a3,n3,ev,t0,t1,t2,t3⟩:=Um (rD.out.aZ bE);obtain ⟨⟨rfl,rfl⟩,rfl⟩:(g=g'/\o=o')/\c5=cg':=by simpa using ev
 obtain ⟨bx,ox,cx,aM,cM,ex,u3,-⟩:=xA (rkD.out.aZ bE);obtain ⟨⟨rfl,rfl⟩,rfl⟩:(Un=bx/\Uo=ox)/\Yc=cx:=by simpa using ex
 replace t0:wE.cell? ⟨g,o,none⟩=some (.slice a0 1 n0):=t0
 replace t1:wE.cell? ⟨g,o+1,none⟩=some (.slice a1 1 n1):=t1
 replace t2:wE.cell? ⟨g,o+2,none⟩=some (.slice a2 0 n2):=t2
 replace t3:wE.cell? ⟨g,o+2+1,none⟩=some (.slice a3 1 n3):=t3
 replace u3:wE.cell? ⟨Un,Uo+4+3,none⟩=some (.slice aM 0 cM):=u3
 have p3:=(kpD.out.below bE).cell 3 _ rfl;have s0:=(ksD.out.below bE).cell 0 _ rfl;have s3:=(ksD.out.below bE).cell 3 _ rfl;have HF:=hid (aR BD.out bE);have hq:(eH.toList==[115,101,99,116,105,111,110])=true:=by kernel_rfl
 clear hoE bE hxE AC q0 q1 q2 q3' rD rkD kpD kqD ksD BD;go_wp2;go_ret;exact ⟨rfl,HF.out⟩
open Go.RowKit
theorem EZ {kd lv:Int} {i t d ti id:ByteArray} {ac ap al ak:Option Addr} {nc cc np cp nl cl nk ck:Nat}:∀ u∈([.int .i64 kd,.int .i64 lv,.string i,.string t,.string d,.string ti,.string id,.slice ac nc cc,.slice ap np cp,.slice al nl cl,.slice ak nk ck]:List Value),u.oneCell'=true:=by intro u hu;simp at hu;rcases hu with rfl | rfl | rfl | rfl | rfl | rfl | rfl | rfl | rfl | rfl | rfl<;>rfl
theorem RU {ok:Nat->Prop} {w:jmj} {l:List ah} {rows:List (List Value)} (h:aI ok w (l.map ah.d) rows):∀ u∈rows.flatten,u.oneCell'=true:=
 kT h fun d hd r hr u hu=>by
  obtain ⟨x,_,rfl⟩:=List.mem_map.1 hd;obtain ⟨kd,lv,i,t,d,ti,at_,li,ks⟩:=x;obtain ⟨vc,vp,vl,vk,rfl,hR⟩:=ah.open_ hr;obtain ⟨ac,nc,cc,rfl⟩:=Rd.ay hR.at_.cls
  obtain ⟨ap,np,cp,rfl⟩:=Rd.ay hR.at_.aJ
  obtain ⟨al,nl,cl,rfl⟩:=Rd.ay hR.line;obtain ⟨ak,nk,ck,rfl⟩:=Rd.ay hR.kids;exact EZ u hu
theorem La (l:List ah) (k:Nat) (x:ah) (h:l[k]?=some x):(iy x=true->fE (l.take (k+1))=fE (l.take k)/\kR (l.take (k+1))=kR (l.take k)+1)/\(iy x=false->fE (l.take (k+1))=fE (l.take k)++[x]/\kR (l.take (k+1))=kR (l.take k)):=by unfold fE kR;rw [List.take_add_one,h,List.filter_append,List.filter_append];constructor<;>intro hx<;>simp [Option.toList,hx]
theorem Ck (l:List ah) (k:Nat):(fE (l.take k)).length<=l.length/\kR (l.take k)<=l.length:=by
 have h:(l.take k).length<=l.length:=by rw [List.length_take];omega
 exact ⟨Nat.le_trans (List.length_filter_le ..) h,Nat.le_trans (List.length_filter_le ..) h⟩
theorem Js (S:List Sl) (k:Nat):((S.take k).flatMap (·.bl)).length<=(S.flatMap (·.bl)).length:=by
 have h:S=S.take k++S.drop k:=(List.take_append_drop k S).symm
 conv=>rhs;rw [h]
 rw [List.flatMap_append,jjx];omega
def Jt (w2:jmj) (l:List ah) (v vb vi:Value) (wr:jmj):Prop:=∃ (k:Nat) (rows:List (List Value)),k<=l.length/\vi=.int .i64 k/\vb=.int .i64 (kR (l.take k):Nat)/\aC 48 11 (·<w2.heap.size) wr.heap.size w2 ((fE (l.take k)).map ah.d) rows v wr
def O7 (w2:jmj) (S:List Sl) (v vi:Value) (wr:jmj):Prop:=∃ (k:Nat) (rows:List (List Value)),k<=S.length/\vi=.int .i64 k/\aC 48 11 (·<w2.heap.size) wr.heap.size w2 (((S.take k).flatMap (·.bl)).map ah.d) rows v wr
theorem QK (me:List Pr) (l:List ah) (vm vb:Value) (w:jmj) (hm:Rd (·<w.heap.size) w (bS me) [vm]) (hb:Rd (·<w.heap.size) w (iO l) [vb]) (VQ:∀ p∈me,p.wf) (hwl:ah.sJ l) (hml:me.length<=reachBytes) (hll:l.length<=reachBytes) (ht:PT w) : Calls Tryz.prog 7 #[.agg #[vm,vb]] w (dR (.bool true) w):=by
 obtain ⟨am,nm,cm,rfl⟩:=Rd.ay hm;obtain ⟨ab,nb,cb,rfl⟩:=Rd.ay hb;obtain ⟨S,hS⟩:∃ S,S=w.heap.size:=⟨_,rfl⟩;obtain ⟨W0,hW0⟩:∃ W0,W0=w.alloc (.cells #[.slice am nm cm,.slice ab nb cb] 26):=⟨_,rfl⟩;have k0:CB 26 S [.slice am nm cm,.slice ab nb cb] W0:=by rw [hW0,hS];exact CB.new _ _ w
 have b0:jmk w.heap.size w W0:=by rw [hW0];exact (jj8 _ _).alloc (jj9 _) _
 have SM:=hid (QD me l _ _ W0 (hm.up b0) (hb.up b0) VQ hwl);have HM:=hid hm;have HB:=hid hb;have qC:Hid (∀ W,jmk w.heap.size w W->PT W):=fun W hW=>ht.below hW
 have B0:=hid b0;have X0:Hid (∀ W:jmj,jmk W0.heap.size W0 W->W.cell? ⟨S,0,none⟩=some (.slice am nm cm)/\W.cell? ⟨S,1,none⟩=some (.slice ab nb cb)):=fun W hW=>⟨(k0.below hW).cell 0 _ rfl,(k0.below hW).cell 1 _ rfl⟩
 have x0:=k0.cell 0 _ rfl;have x1:=k0.cell 1 _ rfl;clear hm hb VQ hwl hml hll ht k0 b0;go_enter Tryz.func7,Tryz.ntmps7;go_upto_region 1 with (fail)
 rw [<- hW0,<- hS];clear hW0 hS;go_wp2_with fail
 (with_reducible refine SM.out.mono ?_)
 rintro e w1 ⟨b,rfl,hsm,b1⟩;have B1:=hid b1;have B1w:=hid (aR B0.out b1);have AW:=hid (Jr w1 (qC.out _ B1w.out));clear x0 x1 b1 SM;cases b with
 | false=>
  clear hsm;go_wp2_with fail
  (with_reducible refine AW.out.mono ?_)
  rintro e w2 ⟨rfl,b2⟩;have HF:=hid (aR B1w.out b2);clear b2;go_wp2;go_ret;exact ⟨rfl,HF.out⟩
 | true=>
  obtain ⟨hd,hs⟩:=hsm rfl;obtain ⟨iB,zD,RJ,RO,F7⟩:=info_parts Rf;have jbz:=hs.sz;have OC:=hid (Jp (.slice am nm cm) l (.slice ab nb cb) w1 ⟨_,_,_,rfl⟩ (HB.out.up B1w.out) (by omega) (ah.lJ l hs.sm));have hll:=ah.dw l;have Lh:Hid (l.length<=120):=by show _<=_;omega
  have FU:=hid jbz;obtain ⟨P,hP⟩:∃ P,P=XR l:=⟨_,rfl⟩;rw [<- hP] at OC;have HPC:Hid (P.length=kR l\/P.length=kR l+1):=by show _\/_;rw [hP,NK];exact Wn l
  have XE:Hid (P.flatMap (·.bl)=fE l):=by show _=_;rw [hP,NK];exact NP l
  obtain ⟨x0,x1⟩:=X0.out w1 B1.out;clear hsm hd hs AW jbz hll hP;go_wp2_with fail
  (with_reducible refine OC.out.mono ?_)
  rintro e w2 ⟨v2,rfl,h2,b2⟩;obtain ⟨a2,c2,hv2,hs2⟩:=Rd.aB h2;obtain ⟨nS,hnS⟩:∃ nS,nS=P.length:=⟨_,rfl⟩;obtain rfl:v2=.slice a2 nS c2:=by rw [hnS];simpa using hv2
  have hc2:nS<=c2:=by rw [hnS];simpa using hs2.le
  have hm2:=hs2.max;unfold maxLen at hm2;have jiz:nS<=121:=by have h1:=HPC.out;have h2:=(Ck l l.length).2;rw [jkz] at h2;have:=Lh.out;omega
  obtain ⟨nb',hnb⟩:∃ n,n=l.length:=⟨_,rfl⟩;have hbr:=Rd.aB HB.out;obtain ⟨ab',cb',hvb,-⟩:=hbr;obtain ⟨rfl,rfl,rfl⟩:ab'=ab/\nb'=nb/\cb'=cb:=by rw [hnb];simp at hvb;exact ⟨hvb.1.symm,hvb.2.1.symm,hvb.2.2.symm⟩
  have jj0:nb'<=120:=by rw [hnb];exact Lh.out
  have Pz:=hid hnb;have HNS:=hid hnS;have HS2:=hid hs2;have B12:=hid b2;have B2:=hid (aR B1.out b2);have B2w:=hid (aR B0.out B2.out);have R0:Hid (Jt w2 l (.slice none 0 0) (.int .i64 0) (.int .i64 0) w2):=⟨0,[],Nat.zero_le _,rfl,rfl,(aC.nil _ _ _ _)⟩;clear x0 x1 OC h2 hv2 hs2 hnS hnb hvb b2;go_wp2
  go_loopw [4,5,6] (fun v vb vi wr=>Jt w2 l v vb vi wr) (fun _ _ i _=>nb'-(intOf i).toNat)
  case atStart=>exact R0.out
  case round=>
   clear R0;obtain ⟨k,rows,hk,rfl,rfl,hR⟩:=hrel;obtain ⟨nv,sw⟩:∃ nv,nv=((fE (l.take k)).map ah.d).length:=⟨_,rfl⟩;obtain ⟨av,cv,rfl,hcv,hcm⟩:=hR.cap sw.symm;unfold maxLen at hcm;have hbel:=hR.aP;obtain ⟨hrl,hcl⟩:=Ck l k;have jb2:nv<=120:=by have:=Lh.out;rw [sw,jjz];omega
   obtain ⟨cn,hcn⟩:∃ cn,cn=kR (l.take k):=⟨_,rfl⟩;have jj1:cn<=120:=by have:=Lh.out;rw [hcn];omega
   rw [<- hcn];have PN:=hid hcn;have TI:=hid sw.symm;have HRW:=hid hR;obtain ⟨x0,x1⟩:=X0.out wr (aR B2.out hbel);clear hR sw hrl hcl hcn;by_cases hlt:k<nb'
   ·obtain ⟨x,hx⟩:∃ x,l[k]?=some x:=⟨_,jj7 (by have:=Pz.out;omega)⟩;have xC:=hid (La l k x hx);have hBr:=HB.out.up (aR B2w.out hbel);obtain ⟨jg9,jgj,hvb,hsb⟩:=Rd.aB (HB.out.below (aR B2w.out hbel));obtain ⟨rfl,rfl⟩:jg9=ab'/\jgj=cb':=by simp at hvb;exact ⟨hvb.1.symm,hvb.2.2.symm⟩
    obtain ⟨kd,lv,i,t,d,ti,at_,li,ks⟩:=x;obtain ⟨g,off,vc,vp,vl,vk,rfl,hgo,hgl,hc,hRR⟩:=FR hsb hx;obtain ⟨ac,nc,cc,rfl⟩:=Rd.ay hRR.at_.cls
    obtain ⟨ap,np,cp,rfl⟩:=Rd.ay hRR.at_.aJ
    obtain ⟨al,nl,cl,rfl⟩:=Rd.ay hRR.line;obtain ⟨ak,nk,ck,rfl⟩:=Rd.ay hRR.kids;have c0:=hc.c0;have c1:=hc.c1;have c2':=hc.c2;have c3:=hc.c3;have c4:=hc.c4;have c5:=hc.c5;have c6:=hc.c6;have c7:=hc.c7;have c8:=hc.c8;have c9:=hc.c9;have c10:=hc.c10;obtain ⟨p,hp⟩:∃ p,p=wr.heap.size:=⟨_,rfl⟩;obtain ⟨w6,iJ⟩:∃ w6,w6=wr.alloc (.cells #[.int .i64 kd,.int .i64 lv,.string i,.string t,.string d,.string ti,.string at_.id,.slice ac nc cc,.slice ap np cp,.slice al nl cl,.slice ak nk ck] 48):=⟨_,rfl⟩;have k6:CB 48 p [.int .i64 kd,.int .i64 lv,.string i,.string t,.string d,.string ti,.string at_.id,.slice ac nc cc,.slice ap np cp,.slice al nl cl,.slice ak nk ck] w6:=by rw [iJ,hp];exact CB.new _ _ _
    have b6:jmk wr.heap.size wr w6:=by rw [iJ];exact (jj8 _ _).alloc (jj9 _) _
    have hX6:Rd (fun b=>b<w2.heap.size\/wr.heap.size<=b) w6 (ah.mk kd lv i t d ti at_ li ks).d [.int .i64 kd,.int .i64 lv,.string i,.string t,.string d,.string ti,.string at_.id,.slice ac nc cc,.slice ap np cp,.slice al nl cl,.slice ak nk ck]:=
     (Rd.aZ (ah.eu kd lv i t d ti hRR) b6).weaken (fun b hb=>.inl (by have:=B2w.out.size;omega))
    have HX6:=hid hX6;have HR6:=hid (HRW.out.below b6);have e0:=k6.cell 0 _ rfl;have e1:=k6.cell 1 _ rfl;have e2:=k6.cell 2 _ rfl;have e3:=k6.cell 3 _ rfl;have e4:=k6.cell 4 _ rfl;have e5:=k6.cell 5 _ rfl;have e6:=k6.cell 6 _ rfl;have e7:=k6.cell 7 _ rfl;have e8:=k6.cell 8 _ rfl;have e9:=k6.cell 9 _ rfl;have e10:=k6.cell 10 _ rfl;have hcs:(((kd==5)=true\/((kd==5)=false/\(kd==2)=true/\(lv==1)=true)\/((kd==5)=false/\(kd==2)=true/\(lv==1)=false/\(lv==2)=true))/\bB kd lv=true)\/((((kd==5)=false/\(kd==2)=true/\(lv==1)=false/\(lv==2)=false)\/((kd==5)=false/\(kd==2)=false))/\bB kd lv=false):=by
     unfold bB tB;by_cases h5:kd=5
     ·simp [h5]
     ·by_cases h2:kd=2
      ·by_cases h1:lv=1
       ·simp [h2,h1]
       ·by_cases h22:lv=2
        ·simp [h2,h22]
        ·simp [h2,h1,h22]
      ·simp [h5,h2]
    clear hx hc k6 b6 hbel hRR hX6 hBr hvb hsb hgo hgl;go_upto_region 10 with (fail)
    rw [<- iJ,<- hp];clear iJ hp c0 c1 c2' c3 c4 c5 c6 c7 c8 c9 c10;rcases hcs with ⟨hcs,hbg⟩ | ⟨hcs,hbg⟩
    ·have HT:=hid (xC.out.1 hbg);clear hbg;have HF:Hid (Jt w2 l (.slice av nv cv) (.int .i64 ((cn:Int)+1)) (.int .i64 ((k+1:Nat):Int)) w6):=⟨k+1,rows,by have:=Pz.out;omega,rfl,by rw [HT.out.2,<- PN.out];rfl,by rw [HT.out.1];exact HR6.out.top⟩;rcases hcs with q5 | ⟨q5,q2,q1⟩ | ⟨q5,q2,q1,q22⟩
     all_goals
      go_wp2;go_roundw;case rel=>exact HF.out
      case measure=>simp [intOf];omega
    ·have HT:=hid (xC.out.2 hbg);clear hbg;rcases hcs with ⟨q5,q2,q1,q22⟩ | ⟨q5,q2⟩
     all_goals
      go_upto_region 12 with (fail)
      go_wp2_with (at_builtin;refine Sv (n:=nv) rfl _ _ 22 rfl iB _ 192 Tryz.underlying22 zD RJ RO F7 rfl (by decide) HR6.out (fun b hb=>hb) (ah.mk kd lv i t d ti at_ li ks).d [.int .i64 kd,.int .i64 lv,.string i,.string t,.string d,.string ti,.string at_.id,.slice ac nc cc,.slice ap np cp,.slice al nl cl,.slice ak nk ck] HX6.out rfl EZ TI.out (by omega) (by decide) rfl rfl ?_)
      intro a7 c7 w7 kJ Sr;have hf:Jt w2 l (.slice a7 (nv+1) c7) (.int .i64 (cn:Nat)) (.int .i64 ((k+1:Nat):Int)) w7:=by refine ⟨k+1,rows++[[.int .i64 kd,.int .i64 lv,.string i,.string t,.string d,.string ti,.string at_.id,.slice ac nc cc,.slice ap np cp,.slice al nl cl,.slice ak nk ck]],by have:=Pz.out;omega,rfl,by rw [HT.out.2,<- PN.out],?_⟩;rw [HT.out.1,List.map_append];exact kJ
      have HF:=hid hf;clear kJ Sr hf;go_wp2;go_roundw;case rel=>exact HF.out
      case measure=>simp [intOf];omega
   ·obtain ⟨wA,hA⟩:∃ wA,wA=wr:=⟨_,rfl⟩;subst hA;have hkl:k=l.length:=by have:=Pz.out;omega
    have HRR:Hid (aC 48 11 (·<w2.heap.size) wA.heap.size w2 ((fE l).map ah.d) rows (.slice av nv cv) wA):=by have h:=HRW.out;rw [hkl,jkz] at h;exact h
    have HCC:Hid (cn=kR l):=by show _=_;rw [PN.out,hkl,jkz]
    have B2A:=hid hbel;have BA:=hid (aR B2.out hbel);have BAw:=hid (aR B0.out BA.out);have XV:Hid ((fE l).length<=120):=by have h:=(Ck l l.length).1;rw [jkz] at h;show _<=_;have:=Lh.out;omega
    have Zg:=hid (HS2.out.aZ hbel);have R1:Hid (O7 wA P (.slice none 0 0) (.int .i64 0) wA):=⟨0,[],Nat.zero_le _,rfl,(aC.nil _ _ _ _)⟩;clear hbel hkl HRW TI PN;go_wp2
    go_loopw [8,9] (fun v vi wr=>O7 wA P v vi wr) (fun _ i _=>nS-(intOf i).toNat)
    case atStart=>exact R1.out
    case round=>
     clear R1;obtain ⟨j,OD,hj,rfl,hR⟩:=hrel;obtain ⟨nu,hnu⟩:∃ nu,nu=(((P.take j).flatMap (·.bl)).map ah.d).length:=⟨_,rfl⟩;obtain ⟨au,cu,rfl,hcu,jgk⟩:=hR.cap hnu.symm;unfold maxLen at jgk;have hbel:=hR.aP;have hfl:=Js P j;rw [XE.out] at hfl;have jj2:nu<=120:=by have:=XV.out;rw [hnu,jjz];omega
     have HNU:=hid hnu.symm;have HRU:=hid hR;clear hR hnu hfl;by_cases hlj:j<nS
     ·obtain ⟨x,hx⟩:∃ x,P[j]?=some x:=⟨_,jj7 (by have:=HNS.out;omega)⟩;obtain ⟨b,off,ha,hok,hb,hcx⟩:=(Zg.out.aZ hbel).at_ (by rw [jjz];have:=HNS.out;omega)
      subst ha;obtain ⟨r,hr,hrl,hcell⟩:=hcx j x.d (by rw [List.getElem?_map,hx];rfl);obtain ⟨vt,vbl,rfl,-,hbl⟩:=Sl.open_ hr;obtain ⟨ax,cx,hvx,-⟩:=Rd.aB hbl;obtain ⟨nx,hnx⟩:∃ nx,nx=(x.bl.map ah.d).length:=⟨_,rfl⟩;obtain rfl:vbl=.slice ax nx cx:=by rw [hnx];simpa using hvx
      have c1:wr.cell? ⟨b,off+j*2+1,none⟩=some (.slice ax nx cx):=hcell 1 _ rfl;have O8:(P.take (j+1)).flatMap (·.bl)=(P.take j).flatMap (·.bl)++x.bl:=by rw [List.take_add_one,hx,List.flatMap_append];simp
      have hnx1:nx<=120:=by have h:=Js P (j+1);rw [XE.out,O8,jjx] at h;have:=XV.out;rw [hnx,jjz];omega
      have Dc:=hid (hbl.weaken (fun b (hb:b<w2.heap.size)=>(.inl (by have:=B2A.out.size;omega):b<wA.heap.size\/wr.heap.size<=b)));have HFL:=hid O8;have HNX:=hid hnx.symm;clear hx hok hb hcx hr hrl hcell hbl hvx hnx O8 hbel;go_wp2_with (at_builtin;refine sH (n:=nu) (m:=nx) rfl _ _ 22 rfl iB _ 192 Tryz.underlying22 zD RJ RO F7 rfl (by decide) HRU.out (fun b hb=>hb) (.slice ax nx cx) Dc.out (fun rs ok' h=>RU h) HNU.out HNX.out (by omega) (by decide) rfl rfl ?_)
      intro a7 c7 M8 w7 kJ Sr;have hf:O7 wA P (.slice a7 (nu+nx) c7) (.int .i64 ((j+1:Nat):Int)) w7:=by refine ⟨j+1,M8,by have:=HNS.out;omega,rfl,?_⟩;rw [HFL.out,List.map_append];exact kJ
      have HF:=hid hf;clear kJ Sr hf;go_wp2;go_roundw;case rel=>exact HF.out
      case measure=>simp [intOf];omega
     ·have hjl:j=P.length:=by have:=HNS.out;omega
      have hall:aC 48 11 (·<wA.heap.size) wr.heap.size wA ((fE l).map ah.d) OD (.slice au nu cu) wr:=by have h:=HRU.out;rw [hjl,jkz,XE.out] at h;exact h
      have hA1:Rd (·<wr.heap.size) wr (iO (fE l)) [.slice au nu cu]:=Rd.keep (fun b _ hlt=>⟨hlt,rfl⟩) _ _ hall.rd;have hA2:Rd (·<wr.heap.size) wr (iO (fE l)) [.slice av nv cv]:=Rd.keep (fun b _ hlt=>⟨hlt,rfl⟩) _ _ (HRR.out.below hbel).rd;have SB:=hid (xg _ (fE l) (fE l) (.slice au nu cu) (.slice av nv cv) wr (jj9 _) hA1 hA2);have BRw:=hid (aR BAw.out hbel);have hpc:(nS==cn)=true\/((nS==cn)=false/\(nS==cn+1)=true):=by
       have h1:=HPC.out;rw [<- HNS.out,<- HCC.out] at h1;rcases h1 with h1 | h1
       ·left;simp [h1]
       ·right;simp [h1]
      clear hjl hall hA1 hA2 hbel;go_wp2_with fail
      (with_reducible refine SB.out.mono ?_)
      rintro e w8 ⟨bb,rfl,hbb,b8⟩;obtain rfl:bb=true:=hbb.2 rfl;have B8w:=hid (aR BRw.out b8);have AW:=hid (Jr w8 (qC.out _ B8w.out));clear hbb b8 SB;have Kh:nS=cn\/(nS≠cn/\nS=cn+1):=by
       rcases hpc with h | ⟨h,h'⟩
       ·left;simpa using h
       ·right;exact ⟨by simpa using h,by simpa using h'⟩
      clear hpc;rcases Kh with h | ⟨h,h'⟩
      all_goals
       go_wp2_with fail
       (with_reducible refine AW.out.mono ?_)
       rintro e w9 ⟨rfl,b9⟩;have HF:=hid (aR B8w.out b9);clear b9;go_wp2;go_ret;exact ⟨rfl,HF.out⟩
end Go.Proofs.YtkfnkeflalcphaaGreatDoor

