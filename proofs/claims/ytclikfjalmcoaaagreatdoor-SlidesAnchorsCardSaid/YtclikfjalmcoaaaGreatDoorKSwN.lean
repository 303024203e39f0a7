/- Contract of slides.Page. The small case with which each statement of layer 43 ends: it answers true. Law 43: awake answers true. The walk of publisherlaw43.SlidesAnchors. -/
import Derived.Test.YtclikfjalmcoaaaGreatDoorKSpC
import Derived.Test.YtclikfjalmcoaaaGreatDoorKHwD
set_option maxHeartbeats 8000000
set_option maxRecDepth 100000
open Go.Lib (hid)
namespace Go.Proofs.YtclikfjalmcoaaaGreatDoor
open List renaming setIfInBounds_toArray->ji3,set_cons_zero->ji4,set_cons_succ->ji5,getElem?_eq_getElem->ji6,length_map->jix
open Go.RowKit.Below renaming refl->ji7
open Nat renaming le_refl->ji8
open Go.World renaming size_alloc->jj5
open Go renaming World->jl9
open Go.RowKit renaming Below->jlj
open Go.RowKit
set_option linter.unusedVariables false
set_option linter.unusedSimpArgs false
theorem Cj:∀ (l:List ah),ah.aD l↔∀ b∈l,b.small
 | []=>by unfold ah.aD;simp
 | x::l=>by rw [ah.aD,Cj l];simp
theorem E8:∀ (L:List (List ah)) (s:List ah),s∈L->(ah.aQ s).length<=(ah.aQ L.flatten).length
 | [],_,h=>by cases h
 | x::L,s,h=>by
  rw [List.flatten_cons,ah.qQ,List.length_append];rcases List.mem_cons.1 h with rfl | h
  ·omega
  ·have:=E8 L s h;omega
theorem OU (l:List ah):∀ p∈dY l,(ah.aQ p.bl).length<=(ah.aQ l).length:=by
 intro p hp;rw [qh] at hp;obtain ⟨s,hs,rfl⟩:=List.mem_map.1 hp;have h1:=E8 _ s hs;rw [nM l.length l (ji8 _)] at h1;rw [uj];refine Nat.le_trans ?_ h1;unfold gW;split
 ·split
  ·rw [ah.aQ,List.length_append];omega
  ·exact ji8 _
 ·exact ji8 _
theorem OV (l:List ah) (h:ah.aD l):∀ p∈dY l,ah.aD p.bl:=fun p hp=>(Cj _).2 fun b hb=>(Cj _).1 h b (EW l p hp b hb)
theorem OX {l:List ah} (h:zH l=0):∀ p∈dY l,zH p.bl=0:=by intro p hp;rw [qh] at hp;obtain ⟨s,hs,rfl⟩:=List.mem_map.1 hp;obtain ⟨h1,h2⟩:=vW h;obtain ⟨h3,h4⟩:=V9 pV l h1 (by rw [ah.jc];exact h2) s hs;rw [ah.jc] at h4;rw [uj];unfold zH;rw [if_neg (by rw [h3];simp),h4];rfl
theorem ay.jak (w:jl9) (p:Pr):Rd (w.heap.size<=·) (w.alloc (.cells #[.string p.key,.string p.val] 74)) (bX [p]) [.slice (some ⟨w.heap.size,0,none⟩) 1 1]:=
 Rd.slB (rows:=[[.string p.key,.string p.val]]) (l:=[p.d]) (ji8 _) (by decide) (aP.one (Pr.eD _ _ p)) (by simp) (ji8 _) (by rw [jj5];omega)
  (fun j u hu=>(CB.new 74 [.string p.key,.string p.val] w).cell j u (by simpa using hu))
def Lb (me:List Pr) (l:List ah) (title lang:ByteArray):Nd:=if Eb me l title lang=0 then tY title lang (Gi l) else mK
def OY (w4:jl9) (P:List Pt) (v vi:Value) (wr:jl9):Prop:=∃ (k:Nat) (rows:List (List Value)),k<=P.length/\vi=.int .i64 k/\ay 43 4 (fun _=>False) wr.heap.size w4 (((P.take k).map (fun p=>oM p.bl)).map Nd.d) rows v wr
def OZ (wA:jl9) (p3:Nat) (V:Value) (vi:Value) (wr:jl9):Prop:=∃ k:Nat,k<=2/\vi=.int .i64 k/\(k<=1->wr=wA)/\(k=2->wr=wA.setCell ⟨p3,7,none⟩ V)
theorem rP (me:List Pr) (l:List ah) (title lang:ByteArray) (vm vb:Value) (w:jl9) (hm:Rd (·<w.heap.size) w (bX me) [vm]) (hb:Rd (·<w.heap.size) w (jg l) [vb]) (hme:me.length<=1000) (jG:∀ p∈me,p.key.size<=1000/\p.val.size<=1000) (hall:ah.bY l<=32768) (hsm:ah.aD l) (hsz:ah.aY l<=900000) (hil:(ah.aQ l).length<=1000) (hbd:ah.kK l) (hti:title.size<=300) (hla:lang.size<=300) (ht:PT w) : Calls Tryz.prog 36 #[.agg #[vm,vb],.string title,.string lang] w (qP w (Eb me l title lang) (Lb me l title lang)):=by
 obtain ⟨am,nm,cm,rfl⟩:=Rd.au hm;obtain ⟨ab,nb,cb,rfl⟩:=Rd.au hb;obtain ⟨iN,Fg,nR,nT,nU⟩:=info_parts l9;obtain ⟨S,W0,hS,hW0,z0,k0,k1,b0⟩:=qN 32 w [.slice am nm cm,.slice ab nb cb];have J7:jlj w.heap.size w W0:=by rw [<- hS];exact b0
 have PC:=hid (vZ me l title lang _ _ W0 (hm.up J7) (hb.up J7) hme jG hall hsm hsz hil hbd hti hla (ht.below J7));have HB:=hid hb;have oF:Hid (∀ W,jlj w.heap.size w W->PT W):=fun W hW=>ht.below hW
 have Cy:=hid hS;have HW0:=hid hW0;have Z0:=hid z0;have B0:=hid b0;have B0w:=hid J7;have K1:=hid k1;have X0:Hid (∀ W:jl9,jlj W0.heap.size W0 W->W.cell? ⟨S,1,none⟩=some (.slice ab nb cb)):=fun W hW=>(k0.below hW).cell 1 _ rfl
 have x0:=k0.cell 0 _ rfl;have x1:=k0.cell 1 _ rfl;have hP1:=EY l;have hP2:=OU l;have hP3:=OV l hsm;have Ue:=EZ l hbd;have hP5:=Aj l;have WM:=fun h=>OX (l:=l) h
 have hll:=ah.dB l;have hbe:Eb me l title lang=0->zH l=0:=fun h=>Vz h
 obtain ⟨E,hE⟩:∃ E,E=Eb me l title lang:=⟨_,rfl⟩;obtain ⟨X,hX⟩:∃ X,X=IY me l title lang:=⟨_,rfl⟩;have Lm:X=if E=0 then tY title lang (oh l) else mK:=by rw [hX,hE];rfl
 have hsp:Lb me l title lang=if E=0 then tY title lang (Gi l) else mK:=by rw [hE];rfl
 rw [<- hE,<- hX] at PC;rw [<- hE] at hbe;rw [<- hE];obtain ⟨Z,hZ⟩:∃ Z,Z=Lb me l title lang:=⟨_,rfl⟩;rw [<- hZ];have HZZ:Hid (Z=if E=0 then tY title lang (Gi l) else mK):=by show _=_;rw [hZ,hsp]
 have Uw:=hid hbe;have Ro:=hid hP1;have Lh:=hid hP2;have HPS:=hid hP3;have Vm:=hid Ue;have HP6:=hid WM;have XI:Hid ((dY l).length<=900001):=by show _<=_;omega
 have Xj:Hid (l.length<=900000):=by show _<=_;omega
 have Iw:=hid hsz;have HIL:=hid hil;have HXE:=hid Lm;clear hm hb hme jG hall hsm hsz hil hbd hti hla ht hS hW0 z0 k0 k1 b0 J7 hP1 hP2 hP3 Ue hP5 WM hll hbe hE hX Lm hsp hZ;go_enter Tryz.func36,Tryz.ntmps36;go_upto_region 1 with (fail)
 rw [<- Cy.out];have hk0:=HW0.out;simp only [jI] at hk0;rw [<- hk0];clear hk0;obtain ⟨xn,xt,xa,xk⟩:=X;go_wp2_with fail
 (with_reducible refine PC.out.mono ?_)
 rintro e w2 ⟨va,vk,he,hN,b2,hx2⟩;obtain ⟨aA,nA,cA,rfl⟩:=Rd.au hN.at_
 obtain ⟨aK,nK,cK,rfl⟩:=Rd.au hN.ks;have he:e=.returned (.tuple #[.agg #[.string xn,.string xt,.slice aA nA cA,.slice aK nK cK],.int .i64 (E:Int)]):=he;subst he;obtain ⟨Bp,wo⟩:∃ Bp,Bp=w2.heap.size:=⟨_,rfl⟩;obtain ⟨w3,hw3⟩:∃ w3,w3=w2.alloc (.cells #[.string xn,.string xt,.slice aA nA cA,.slice aK nK cK] 43):=⟨_,rfl⟩;have k3:CB 43 Bp [.string xn,.string xt,.slice aA nA cA,.slice aK nK cK] w3:=by rw [hw3,wo];exact CB.new _ _ _
 have Ug:jlj w2.heap.size w2 w3:=by rw [hw3];exact (ji7 _ _).alloc (ji8 _) _
 have B3:=hid (aZ b2 Ug);have HB2:=hid b2;have B23:=hid Ug;have K3:=hid k3;have HBP:=hid wo;have HX2:=hid hx2;clear x0 x1 hN b2 Ug k3 PC hx2;go_upto_region 2 with (fail)
 rw [<- hw3,<- wo];clear hw3 wo;by_cases h0:E=0
 ·have hz:Z=tY title lang (Gi l):=by rw [HZZ.out,if_pos h0]
  have HZ0:=hid hz;have hXf:Nd.mk xn xt xa xk=tY title lang (oh l):=by rw [HXE.out,if_pos h0]
  obtain ⟨rfl,rfl,rfl,rfl⟩:xn=kL/\xt=⟨#[]⟩/\xa=[⟨iM,lang⟩]/\xk=[aV gJ [] [aV gK [⟨zL,fD⟩] [],aV dN [] (bP title)],aV fC [] (oh l)]:=by have h:=hXf;unfold tY aV at h;simpa [aV] using h
  have hx:=HX2.out h0;obtain ⟨p3,kh,bv,hvk,hp3,hCB,hKH,hAT⟩:=hx;have jaq:Hid (p3<Bp):=by show _<_;rw [HBP.out];exact (Array.getElem?_eq_some_iff.1 hCB).1
  obtain ⟨rfl,rfl,rfl⟩:aK=some ⟨p3,0,none⟩/\nK=2/\cK=2:=by simpa using hvk
  have hbs:=Uw.out h0;have HBS:=hid hbs;have q0:((E:Int) != 0)=false:=by rw [h0];rfl
  have HE0:=hid h0;have Pq:=hid (CB.below hCB B23.out);have HKH:=hid (Rd.bq hKH B23.out);have HAT:=hid (Rd.bq hAT B23.out);have Fh:=hid hp3;have PA:=hid (Ah l _ w3 (HB.out.up (B0w.out.trans (B3.out.mono B0w.out.size))) (by have:=Xj.out;omega));obtain ⟨P,hP⟩:∃ P,P=dY l:=⟨_,rfl⟩;rw [<- hP] at PA;have Z8:=hid hP;have x1:=X0.out w3 B3.out;clear hz hXf hvk hp3 hCB hKH hAT hbs h0 hP HX2;go_wp2_with fail
  (with_reducible refine PA.out.mono ?_)
  rintro e w4 ⟨v4,rfl,h4,b4⟩;obtain ⟨a4,c4,hv4,hs4⟩:=Rd.aG h4;obtain ⟨nP,OP⟩:∃ nP,nP=P.length:=⟨_,rfl⟩;obtain rfl:v4=.slice a4 nP c4:=by rw [OP];simpa using hv4
  have hc4:nP<=c4:=by rw [OP];simpa using hs4.le
  have Pg:=hs4.max;unfold maxLen at Pg;have hnp:nP<=900001:=by rw [OP,Z8.out];exact XI.out
  have OQ:=hid OP;have HS4:=hid hs4;have B4:=hid (aZ B3.out b4);have B34:=hid b4;have R0:Hid (OY w4 P (.slice none 0 0) (.int .i64 0) w4):=⟨0,[],Nat.zero_le _,rfl,ay.nil _ _ _ _⟩;clear hv4 h4 hs4 b4 OP PA x1;go_wp2
  go_loopw [10,32] (fun v vi wr=>OY w4 P v vi wr) (fun _ i _=>nP-(intOf i).toNat)
  case atStart=>exact R0.out
  case round=>
   clear R0;obtain ⟨k,rows,hk,rfl,hR⟩:=hrel;obtain ⟨nv,yG⟩:∃ nv,nv=(((P.take k).map (fun p=>oM p.bl)).map Nd.d).length:=⟨_,rfl⟩;obtain ⟨av,cv,rfl,hcv,hcm⟩:=hR.cap yG.symm;unfold maxLen at hcm;have jg2:nv<=900001:=by have:=OQ.out;rw [yG,jix,jix,List.length_take];omega
   have Zx:=hid yG.symm;have hbel:=hR.aT;have HRW:=hid hR;clear hR yG;by_cases hlt:k<nP
   ·obtain ⟨x,hx⟩:∃ x,P[k]?=some x:=⟨_,ji6 (by have:=OQ.out;omega)⟩;have hxm:x∈dY l:=by rw [<- Z8.out];exact List.mem_of_getElem? hx
    obtain ⟨b,off,ha,hok,hb,hcx⟩:=HS4.out.at_ (by rw [jix];have:=OQ.out;omega)
    subst ha;obtain ⟨r,hr,hrl,hcell⟩:=hcx k x.d (by rw [List.getElem?_map,hx];rfl);obtain ⟨vbl,rfl,hbl⟩:=Pt.open_ hr;obtain ⟨al,nl,cl,rfl⟩:=Rd.au hbl;have c0:wr.cell? ⟨b,off+k*2,none⟩=some (.bool x.ti):=(hbel.cell (p:=⟨_,_,none⟩) hb).trans (hcell 0 _ rfl);have c1':wr.cell? ⟨b,off+k*2+1,none⟩=some (.slice al nl cl):=(hbel.cell (p:=⟨_,_,none⟩) hb).trans (hcell 1 _ rfl);obtain ⟨q,hq⟩:∃ q,q=wr.heap.size:=⟨_,rfl⟩;obtain ⟨tb,htb⟩:∃ tb,tb=x.ti:=⟨_,rfl⟩;rw [<- htb] at c0;obtain ⟨w5,zG⟩:∃ w5,w5=wr.alloc (.cells #[.bool tb,.slice al nl cl] 103):=⟨_,rfl⟩;have k5:CB 103 q [.bool tb,.slice al nl cl] w5:=by rw [zG,hq];exact CB.new _ _ _
    have b5:jlj wr.heap.size wr w5:=by rw [zG];exact (ji7 _ _).alloc (ji8 _) _
    have B5:=aZ hbel b5;have XR:jlj w.heap.size w w5:=aZ (aZ B0w.out B4.out) B5;have BC:=IZ x.bl (.slice al nl cl) w5 (hbl.up B5) (HPS.out x hxm) (by have:=Ro.out x hxm;have:=Iw.out;omega) (by have:=Lh.out x hxm;have:=HIL.out;omega) (Vm.out x hxm) (oF.out _ XR);have hbx:=HP6.out HBS.out x hxm;have hbn:Ta x.bl=oh x.bl:=by unfold Ta;rw [if_pos hbx]
    rw [hbx,hbn] at BC;have uX:=hid BC;have HQ:=hid hq;have HX:=hid hx;have yw:=hid b5;have e1:=k5.cell 1 _ rfl;clear hr hcell hrl hbl hok hb hx hxm hcx k5 b5 B5 XR BC hbx hbn htb hq;go_upto_region 8 with (fail)
    rw [<- zG];simp only [<- HQ.out];clear zG c0 c1';go_wp2_with fail
    (with_reducible refine uX.out.mono ?_)
    rintro e w6 ⟨Y4,v6,rfl,Cx⟩;obtain ⟨a6,n6,c6,rfl⟩:=Cx.slice3;obtain ⟨p7,VJ⟩:∃ p7,p7=w6.heap.size:=⟨_,rfl⟩;obtain ⟨w7,hw7⟩:∃ w7,w7=w6.alloc (.cells #[.string ⟨#[99,108,97,115,115]⟩,.string ⟨#[115,108,105,100,101]⟩] 74):=⟨_,rfl⟩;have b7:jlj w6.heap.size w6 w7:=by rw [hw7];exact (ji7 _ _).alloc (ji8 _) _
    have B7:=yw.out.trans ((Cx.aT.trans (b7.mono Cx.aT.size)).mono yw.out.size);have jg5:wr.heap.size<=p7:=by have:=yw.out.size;have:=Cx.aT.size;omega
    have jax:Rd (fun b=>False\/wr.heap.size<=b) w7 (bX [⟨fJ,BI⟩]) [.slice (some ⟨p7,0,none⟩) 1 1]:=by have h:=ay.jak w6 ⟨fJ,BI⟩;rw [hw7,VJ];exact h.weaken (fun b hb=>.inr (by omega))
    have jaz:Rd (fun b=>False\/wr.heap.size<=b) w7 (cZ (oh x.bl)) [.slice a6 n6 c6]:=(Cx.fA.bq b7).weaken (fun b hb=>.inr (by have:=yw.out.size;omega));have HX7:=hid (Nd.eD dM ⟨#[]⟩ ⟨jax,jaz⟩);have HR7:=hid (HRW.out.below B7);have HQ7:=hid VJ;clear Cx b7 B7 jax jaz VJ jg5 uX e1;go_upto_region 12 with (fail)
    rw [<- hw7];simp only [<- HQ7.out];clear hw7;go_wp2_with (at_builtin;refine eU (n:=nv) rfl _ _ 34 rfl iN _ 80 Tryz.underlying34 Fg nR nT nU rfl (by decide) HR7.out (fun b hb=>hb.elim) (oM x.bl).d [.string ⟨#[115,101,99,116,105,111,110]⟩,.string ⟨#[]⟩,.slice (some ⟨p7,0,none⟩) 1 1,.slice a6 n6 c6] HX7.out rfl jJ Zx.out (by omega) (by decide) rfl rfl ?_)
    intro a8 c8 w8 zK Xr;have hf:OY w4 P (.slice a8 (nv+1) c8) (.int .i64 ((k+1:Nat):Int)) w8:=by
     refine ⟨k+1,rows++[[.string ⟨#[115,101,99,116,105,111,110]⟩,.string ⟨#[]⟩,.slice (some ⟨p7,0,none⟩) 1 1,.slice a6 n6 c6]],by have:=OQ.out;omega,rfl,?_⟩;have e:((P.take (k+1)).map (fun p=>oM p.bl)).map Nd.d=List.take k (List.map (Nd.d ∘ fun p=>oM p.bl) P)++[(oM x.bl).d]:=by rw [List.take_add_one,HX.out];simp
     rw [e];exact zK
    have HF:=hid hf;clear zK Xr hf;go_wp2;go_roundw;case rel=>exact HF.out
    case measure=>simp [intOf];omega
   ·obtain ⟨wA,hA⟩:∃ wA,wA=wr:=⟨_,rfl⟩;subst hA;have hkl:k=P.length:=by have:=OQ.out;omega
    have hrow:ay 43 4 (fun _=>False) wA.heap.size w4 ((Gi l).map Nd.d) rows (.slice av nv cv) wA:=by have h:=HRW.out;rw [hkl,List.take_length,Z8.out,lF] at h;exact h
    have O4:=aZ B34.out hbel;have XM:=hid hrow.fA;have XE:=hid (K3.out.below O4);have HCR:=hid (Pq.out.below O4);have HKR:=hid (HKH.out.bq O4);have HAR:=hid (HAT.out.bq O4);have Zw:=hid (aZ B4.out hbel);have HBZ:Hid (Bp<w4.heap.size):=by show _<_;have h1:=(Array.getElem?_eq_some_iff.1 K3.out).1;have:=B34.out.size;omega
    have zl:Hid (Bp<wA.heap.size):=by show _<_;exact (Array.getElem?_eq_some_iff.1 XE.out).1
    have e3:=XE.out.cell 3 _ rfl;have R1:Hid (OZ wA p3 (.slice av nv cv) (.int .i64 0) wA):=⟨0,by omega,rfl,fun _=>rfl,by omega⟩;clear hkl hrow O4 hbel HRW;go_wp2
    go_loopw [58] (fun vi wr=>OZ wA p3 (.slice av nv cv) vi wr) (fun i _=>2-(intOf i).toNat)
    case atStart=>exact R1.out
    case round=>
     clear R1;obtain ⟨j,hj,rfl,hj1,hj2⟩:=hrel;rcases (by omega:j=0\/j=1\/j=2) with rfl | rfl | rfl
     ·obtain rfl:=hj1 (by omega);have e0:=HCR.out.cell 0 _ rfl;have hq:(gJ.toList==[98,111,100,121])=false:=by kernel_rfl
      go_wp2;clear hq;go_roundw;case rel=>exact ⟨1,by omega,rfl,fun _=>rfl,by omega⟩
      case measure=>simp [intOf]
     ·obtain rfl:=hj1 (by omega);have e4:=HCR.out.cell 4 _ rfl;have e7:=HCR.out.cell 7 _ rfl;have hf:=nD HCR.out;have hq:(fC.toList==[98,111,100,121])=true:=by kernel_rfl
      go_wp2;clear hq;go_roundw;case rel=>exact ⟨2,by omega,rfl,by omega,fun _=>rfl⟩
      case measure=>simp [intOf]
     ·have hwx:=hj2 rfl;have HWX:=hid hwx;have hb:jlj wA.heap.size wA wA:=ji7 _ _;have keep:∀ b,b≠p3->wr.heap[b]?=wA.heap[b]?:=fun b hb=>by rw [hwx];exact Below.heap_setCell wA ⟨p3,7,none⟩ _ b hb
      have hzx:wr.heap.size=wA.heap.size:=by rw [hwx];simp [World.setCell]
      have hCX:CB 43 p3 [.string gJ,.string ⟨#[]⟩,.slice none 0 0,kh,.string fC,.string ⟨#[]⟩,.slice none 0 0,.slice av nv cv] wr:=by rw [hwx];exact dF HCR.out 7 _
      have hKX:CB 43 Bp [.string kL,.string ⟨#[]⟩,.slice aA nA cA,.slice (some ⟨p3,0,none⟩) 2 2] wr:=(keep Bp (by have:=jaq.out;omega)).trans XE.out;have hp3:=Fh.out;have hs4:=Zw.out.size;have hbx:jlj W0.heap.size W0 wr:=by rw [hwx];exact Zw.out.setCell (p:=⟨p3,7,none⟩) hp3 _
      have hpl:=jaq.out;have hbz:=HBZ.out;have hNR:jT (W0.heap.size<=·) wr [⟨iM,lang⟩] [aV gJ [] [aV gK [⟨zL,fD⟩] [],aV dN [] (bP title)],aV fC [] (Gi l)] (.slice aA nA cA) (.slice (some ⟨p3,0,none⟩) 2 2):=by
       refine ⟨Rd.keep (fun b (hb:W0.heap.size<=b/\b<p3) _=>⟨hb.1,keep b (by omega)⟩) _ _ HAR.out,?_⟩;have r1:Rd (W0.heap.size<=·) wr (aV gJ [] [aV gK [⟨zL,fD⟩] [],aV dN [] (bP title)]).d [.string gJ,.string ⟨#[]⟩,.slice none 0 0,kh]:=
        Nd.eD gJ ⟨#[]⟩ ⟨Rd.aF _ _ _,Rd.keep (fun b (hb:W0.heap.size<=b/\b<p3) _=>⟨hb.1,keep b (by omega)⟩) _ _ HKR.out⟩
       have r2:Rd (W0.heap.size<=·) wr (aV fC [] (Gi l)).d [.string fC,.string ⟨#[]⟩,.slice none 0 0,.slice av nv cv]:=
        Nd.eD fC ⟨#[]⟩ ⟨Rd.aF _ _ _,Rd.keep (fun b (hb:w4.heap.size<=b) _=>⟨by have:=B4.out.size;omega,keep b (by omega)⟩) _ _ XM.out⟩
       exact Rd.slB (rows:=[[.string gJ,.string ⟨#[]⟩,.slice none 0 0,kh],[.string fC,.string ⟨#[]⟩,.slice none 0 0,.slice av nv cv]]) (l:=[(aV gJ [] [aV gK [⟨zL,fD⟩] [],aV dN [] (bP title)]).d,(aV fC [] (Gi l)).d]) (ji8 _) (by decide) (aP.cons r1 (aP.one r2)) (by simp) hp3 (by have:=zl.out;omega)
        (fun j u hu=>hCX.cell j u (by simpa using hu))
      obtain ⟨w9,bT⟩:∃ w9,w9=four wr (S+1) (.string kL) (.string ⟨#[]⟩) (.slice aA nA cA) (.slice (some ⟨p3,0,none⟩) 2 2):=⟨_,rfl⟩;have hf:=fB kL ⟨#[]⟩ [⟨iM,lang⟩] [aV gJ [] [aV gK [⟨zL,fD⟩] [],aV dN [] (bP title)],aV fC [] (Gi l)] Cy.out Z0.out B0.out K1.out hbx hNR;rw [<- bT] at hf;have iU:=hid hf.1;have Bc:=hid hf.2;obtain ⟨x0,x1,x2,x3,xf⟩:=mZ (K1.out.below hbx);have c0:=hKX.cell 0 _ rfl;have c1:=hKX.cell 1 _ rfl;have c2:=hKX.cell 2 _ rfl;have c3:=hKX.cell 3 _ rfl;clear hf hNR hbx hpl hbz hs4 hp3 hKX hCX hzx keep hb hwx hj1 hj2 e3;have hw8:=bT;simp only [four] at hw8;clear bT;go_wp2;rw [<- hw8];have r0:=iU.out.cell 0 _ rfl;have r1:=iU.out.cell 1 _ rfl;have r2:=iU.out.cell 2 _ rfl;have r3:=iU.out.cell 3 _ rfl;exact bodyPost_ret (v:=.tuple #[.agg #[.string kL,.string ⟨#[]⟩,.slice aA nA cA,.slice (some ⟨p3,0,none⟩) 2 2],.int .i64 (0)]) (by simp [results,Tryz.results36,go_sem,r0,r1,r2,r3]) rfl (by rw [HZ0.out,HE0.out];exact qP.of Bc.out (by simp))
 ·have q0:((E:Int) != 0)=true:=by rw [bne_iff_ne];omega
  have hz:Z=mK:=by rw [HZZ.out,if_neg h0]
  have HZ0:=hid hz;clear hz;obtain ⟨x0,x1,x2,x3,xf⟩:=mZ (K1.out.below B3.out);obtain ⟨w9,bT⟩:∃ w9,w9=four w3 (S+1) (.string ⟨#[]⟩) (.string ⟨#[]⟩) (.slice none 0 0) (.slice none 0 0):=⟨_,rfl⟩;have hf:=fB ⟨#[]⟩ ⟨#[]⟩ [] [] Cy.out Z0.out B0.out K1.out B3.out ⟨Rd.aF _ _ _,Rd.aF _ _ _⟩;rw [<- bT] at hf;have iU:=hid hf.1;have Bc:=hid hf.2;clear hf h0;have hw8:=bT;simp only [four] at hw8;clear bT;go_wp2;rw [<- hw8];have r0:=iU.out.cell 0 _ rfl;have r1:=iU.out.cell 1 _ rfl;have r2:=iU.out.cell 2 _ rfl;have r3:=iU.out.cell 3 _ rfl;exact bodyPost_ret (v:=.tuple #[.agg #[.string ⟨#[]⟩,.string ⟨#[]⟩,.slice none 0 0,.slice none 0 0],.int .i64 (E)]) (by simp [results,Tryz.results36,go_sem,r0,r1,r2,r3]) rfl (by rw [HZ0.out];exact qP.of Bc.out (by simp))
open Go.RowKit
def bC (k lv:Int) (id:ByteArray) (vl:Value):List Value:=[.int .i64 k,.int .i64 lv,.string ⟨#[]⟩,.string ⟨#[]⟩,.string ⟨#[]⟩,.string ⟨#[]⟩,.string id,.slice none 0 0,.slice none 0 0,vl,.slice none 0 0]
def sB (k lv:Int) (id:ByteArray) (li:List aj):ah:=.mk k lv ⟨#[]⟩ ⟨#[]⟩ ⟨#[]⟩ ⟨#[]⟩ ⟨id,[],[]⟩ li []
theorem Al {ok:Nat->Prop} {w:jl9} (k lv:Int) (id:ByteArray) {li:List aj} {vl:Value} (h:Rd ok w (bG li) [vl]):Rd ok w (sB k lv id li).d (bC k lv id vl):=ah.eD k lv ⟨#[]⟩ ⟨#[]⟩ ⟨#[]⟩ ⟨#[]⟩ ⟨⟨Rd.aF _ _ _,Rd.aF _ _ _⟩,h,Rd.aF _ _ _⟩
theorem mV {w:jl9} {p:Nat} {t:ByteArray} (k:CB 51 p (eC t) w) (ok:Nat->Prop) (h:ok p):Rd ok w (bG [Qw t]) [.slice (some ⟨p,0,none⟩) 1 1]:=
 Rd.Tc (l:=[Qw t].map aj.d) (rows:=[eC t]) (by simp) (by unfold maxLen;decide) (aP.one (VD _ _ _)) (by simp [eC]) h k.lt (fun j u hu=>k.cell j u (by simpa using hu))
def Ck (k lv:Int) (id t:ByteArray) (w:jl9) (e:Ending) (w':jl9):Prop:=
 ∃ p,e=.returned (.agg (bC k lv id (.slice (some ⟨p,0,none⟩) 1 1)).toArray)/\w.heap.size<=p/\CB 51 p (eC t) w'/\jlj w.heap.size w w'
theorem Uh (k lv:Int) (id t:ByteArray) (w:jl9):∃ S W1,S=w.heap.size/\W1=(w.alloc (.cells (bC 0 0 ⟨#[]⟩ (.slice none 0 0)).toArray 30)).alloc (.cells (eC t).toArray 51)/\CB 30 S (bC 0 0 ⟨#[]⟩ (.slice none 0 0)) W1 /\ CB 30 S (bC k lv id (.slice (some ⟨S+1,0,none⟩) 1 1)) (om W1 S 0 (bC k lv id (.slice (some ⟨S+1,0,none⟩) 1 1)))/\Ck k lv id t w (.returned (.agg (bC k lv id (.slice (some ⟨S+1,0,none⟩) 1 1)).toArray)) (om W1 S 0 (bC k lv id (.slice (some ⟨S+1,0,none⟩) 1 1))):=by
 obtain ⟨S,hS⟩:∃ S,S=w.heap.size:=⟨_,rfl⟩;obtain ⟨W1,hW⟩:∃ W1,W1=(w.alloc (.cells (bC 0 0 ⟨#[]⟩ (.slice none 0 0)).toArray 30)).alloc (.cells (eC t).toArray 51):=⟨_,rfl⟩;have z:(w.alloc (.cells (bC 0 0 ⟨#[]⟩ (.slice none 0 0)).toArray 30)).heap.size=S+1:=by rw [jj5,hS]
 have k0:CB 30 S (bC 0 0 ⟨#[]⟩ (.slice none 0 0)) W1:=by rw [hW,hS];exact (CB.new _ _ w).below ((ji7 _ _).alloc (ji8 _) _)
 have k1:CB 51 (S+1) (eC t) W1:=by rw [hW,<- z];exact CB.new _ _ _
 have b1:jlj w.heap.size w W1:=by rw [hW];exact ((ji7 _ _).alloc (ji8 _) _).alloc (by rw [z];omega) _
 refine ⟨S,W1,hS,hW,k0,?_,S+1,rfl,by omega,(gX S _ _ _ _ (by omega)).trans k1,?_⟩
 ·exact dF (dF (dF (dF (dF (dF (dF (dF (dF (dF (dF k0 0 _) 1 _) 2 _) 3 _) 4 _) 5 _) 6 _) 7 _) 8 _) 9 _) 10 _
 ·have hs:=Nat.le_of_eq hS.symm;exact ((((((((((b1.setCell (p:=⟨S,0,none⟩) hs _).setCell (p:=⟨S,1,none⟩) hs _).setCell (p:=⟨S,2,none⟩) hs _).setCell (p:=⟨S,3,none⟩) hs _).setCell (p:=⟨S,4,none⟩) hs _).setCell (p:=⟨S,5,none⟩) hs _).setCell (p:=⟨S,6,none⟩) hs _).setCell (p:=⟨S,7,none⟩) hs _).setCell (p:=⟨S,8,none⟩) hs _).setCell (p:=⟨S,9,none⟩) hs _).setCell (p:=⟨S,10,none⟩) hs _
theorem O5 (lv:Int) (id:ByteArray) (w:jl9):Calls Tryz.prog 42 #[.int .i64 lv,.string id] w (Ck 2 lv id ⟨#[84]⟩ w):=by
 obtain ⟨S,W1,hS,hW,k0,k1,hP⟩:=Uh 2 lv id ⟨#[84]⟩ w;obtain ⟨w9,bT⟩:∃ w9,w9=om W1 S 0 (bC 2 lv id (.slice (some ⟨S+1,0,none⟩) 1 1)):=⟨_,rfl⟩;obtain ⟨w0,hw0⟩:∃ w0,w0=w.alloc (.cells (bC 0 0 ⟨#[]⟩ (.slice none 0 0)).toArray 30):=⟨_,rfl⟩;have z0:w0.heap.size=S+1:=by rw [hw0,jj5,hS]
 rw [<- bT] at k1 hP;rw [<- hw0] at hW;have HP:=hid hP;have K1:=hid k1;have HZ:=hid z0;have r0:=k0.cell 0 _ rfl;have r1:=k0.cell 1 _ rfl;have r2:=k0.cell 2 _ rfl;have r3:=k0.cell 3 _ rfl;have r4:=k0.cell 4 _ rfl;have r5:=k0.cell 5 _ rfl;have r6:=k0.cell 6 _ rfl;have r7:=k0.cell 7 _ rfl;have r8:=k0.cell 8 _ rfl;have r9:=k0.cell 9 _ rfl;have WY:=k0.cell 10 _ rfl;have g0:=nD k0 0;have g1:=nD k0 1;have g2:=nD k0 2;have g3:=nD k0 3;have g4:=nD k0 4;have g5:=nD k0 5;have g6:=nD k0 6;have g7:=nD k0 7;have g8:=nD k0 8;have g9:=nD k0 9;have g10:=nD k0 10;simp only [bC,om] at bT;simp only [eC] at hW;subst hW;simp only [bC] at hw0;clear hP k0 k1 z0;go_enter Tryz.func42,Tryz.ntmps42;go_upto_region 1 with (fail)
 rw [<- hw0,<- hS];clear hw0 hS;go_wp2;simp only [HZ.out];rw [<- bT];clear bT r0 r1 r2 r3 r4 r5 r6 r7 r8 r9 WY;have r0:=K1.out.cell 0 _ rfl;have r1:=K1.out.cell 1 _ rfl;have r2:=K1.out.cell 2 _ rfl;have r3:=K1.out.cell 3 _ rfl;have r4:=K1.out.cell 4 _ rfl;have r5:=K1.out.cell 5 _ rfl;have r6:=K1.out.cell 6 _ rfl;have r7:=K1.out.cell 7 _ rfl;have r8:=K1.out.cell 8 _ rfl;have r9:=K1.out.cell 9 _ rfl;have WY:=K1.out.cell 10 _ rfl;exact bodyPost_ret (v:=.agg (bC 2 lv id (.slice (some ⟨S+1,0,none⟩) 1 1)).toArray) (by simp [bC,results,Tryz.results42,go_sem,r0,r1,r2,r3,r4,r5,r6,r7,r8,r9,WY]) rfl HP.out
theorem H8 (w:jl9):Calls Tryz.prog 71 #[] w (Ck 1 0 ⟨#[]⟩ ⟨#[112]⟩ w):=by
 obtain ⟨S,W1,hS,hW,k0,k1,hP⟩:=Uh 1 0 ⟨#[]⟩ ⟨#[112]⟩ w;obtain ⟨w9,bT⟩:∃ w9,w9=om W1 S 0 (bC 1 0 ⟨#[]⟩ (.slice (some ⟨S+1,0,none⟩) 1 1)):=⟨_,rfl⟩;obtain ⟨w0,hw0⟩:∃ w0,w0=w.alloc (.cells (bC 0 0 ⟨#[]⟩ (.slice none 0 0)).toArray 30):=⟨_,rfl⟩;have z0:w0.heap.size=S+1:=by rw [hw0,jj5,hS]
 rw [<- bT] at k1 hP;rw [<- hw0] at hW;have HP:=hid hP;have K1:=hid k1;have HZ:=hid z0;have r0:=k0.cell 0 _ rfl;have r1:=k0.cell 1 _ rfl;have r2:=k0.cell 2 _ rfl;have r3:=k0.cell 3 _ rfl;have r4:=k0.cell 4 _ rfl;have r5:=k0.cell 5 _ rfl;have r6:=k0.cell 6 _ rfl;have r7:=k0.cell 7 _ rfl;have r8:=k0.cell 8 _ rfl;have r9:=k0.cell 9 _ rfl;have WY:=k0.cell 10 _ rfl;have g0:=nD k0 0;have g1:=nD k0 1;have g2:=nD k0 2;have g3:=nD k0 3;have g4:=nD k0 4;have g5:=nD k0 5;have g6:=nD k0 6;have g7:=nD k0 7;have g8:=nD k0 8;have g9:=nD k0 9;have g10:=nD k0 10;simp only [bC,om] at bT;simp only [eC] at hW;subst hW;simp only [bC] at hw0;clear hP k0 k1 z0;go_enter Tryz.func71,Tryz.ntmps71;go_upto_region 1 with (fail)
 rw [<- hw0,<- hS];clear hw0 hS;go_wp2;simp only [HZ.out];rw [<- bT];clear bT r0 r1 r2 r3 r4 r5 r6 r7 r8 r9 WY;have r0:=K1.out.cell 0 _ rfl;have r1:=K1.out.cell 1 _ rfl;have r2:=K1.out.cell 2 _ rfl;have r3:=K1.out.cell 3 _ rfl;have r4:=K1.out.cell 4 _ rfl;have r5:=K1.out.cell 5 _ rfl;have r6:=K1.out.cell 6 _ rfl;have r7:=K1.out.cell 7 _ rfl;have r8:=K1.out.cell 8 _ rfl;have r9:=K1.out.cell 9 _ rfl;have WY:=K1.out.cell 10 _ rfl;exact bodyPost_ret (v:=.agg (bC 1 0 ⟨#[]⟩ (.slice (some ⟨S+1,0,none⟩) 1 1)).toArray) (by simp [bC,results,Tryz.results71,go_sem,r0,r1,r2,r3,r4,r5,r6,r7,r8,r9,WY]) rfl HP.out
open Go.RowKit
def sP:ah:=sB 1 0 ⟨#[]⟩ [Qw ⟨#[112]⟩]
def Lc:List ah:=[sB 2 1 ⟨#[]⟩ [Qw ⟨#[84]⟩],sP,sB 5 0 ⟨#[]⟩ [],sP]
def rQ:List ah:=[sB 2 2 ⟨#[115]⟩ [Qw ⟨#[84]⟩],sP]
theorem jb0:slP Lc=[⟨[Qw ⟨#[84]⟩],[sP]⟩,⟨[],[sP]⟩]:=by rfl
theorem Ui:Eb [] rQ ⟨#[84]⟩ ⟨#[101,110]⟩=0:=by decide +kernel
theorem jb1:Lb [] [] ⟨#[84]⟩ ⟨#[101,110]⟩=tY ⟨#[84]⟩ ⟨#[101,110]⟩ []:=by unfold Lb;rw [if_pos YQ,<- lF];rfl
theorem jb2:Lb [] rQ ⟨#[84]⟩ ⟨#[101,110]⟩=tY ⟨#[84]⟩ ⟨#[101,110]⟩ [oM rQ]:=by unfold Lb;rw [if_pos Ui,<- lF];rfl
theorem jb3:(oh rQ).length=2:=by rfl
theorem Uj:(tY ⟨#[84]⟩ ⟨#[101,110]⟩ [oM rQ]).vals dR=[⟨#[115]⟩]:=by rfl
theorem Am {k lv:Int} {id t:ByteArray} (hi:(⟨id,[],[]⟩:At).short) (ht:t.size<=50):(sB k lv id [Qw t]).small/\(sB k lv id []).small:=by
 have h0:(⟨#[]⟩:ByteArray).size<=300:=by decide
 have h2:(⟨⟨#[]⟩,[],[]⟩:At).short:=⟨by decide,by decide,by decide,fun _ h=>(by cases h),fun _ h=>(by cases h)⟩;have h3:t.size<=300:=by omega
 have h3':aj.aY [aj.mk 1 t ⟨#[]⟩ ⟨#[]⟩ ⟨⟨#[]⟩,[],[]⟩ [] [] []]<=120:=by simp [aj.aY,aj.sz]
 constructor<;>simp [sB,Qw,eAt,ah.aD,ah.small,h0,show aj.aY []<=120 by decide,h2,h3,h3',hi,aj.aD,aj.small]
theorem E9:(⟨⟨#[]⟩,[],[]⟩:At).short:=⟨by decide,by decide,by decide,fun _ h=>(by cases h),fun _ h=>(by cases h)⟩
theorem jb4:(⟨⟨#[115]⟩,[],[]⟩:At).short:=⟨by decide,by decide,by decide,fun _ h=>(by cases h),fun _ h=>(by cases h)⟩
theorem O6:ah.aD rQ:=by rw [rQ,ah.aD,ah.aD,ah.aD];exact ⟨(Am jb4 (by decide)).1,(Am E9 (by decide)).1,trivial⟩
theorem WZ:ah.kK Lc:=by apply ah.jW;rw [Lc,ah.aD,ah.aD,ah.aD,ah.aD,ah.aD];exact ⟨(Am E9 (by decide)).1,(Am E9 (by decide)).1,(Am (t:=⟨#[]⟩) E9 (by decide)).2,(Am E9 (by decide)).1,trivial⟩
theorem JB {w:jl9} {q:Nat} {l:List ah} {rows:List (List Value)} (k:CB 30 q rows.flatten w) (hl:l.length=rows.length) (hm:l.length<=1000) (h:aP (·<w.heap.size) w (l.map ah.d) rows) (hk:∀ r∈rows,r.length=11) : Rd (·<w.heap.size) w (jg l) [.slice (some ⟨q,0,none⟩) l.length l.length]:=by
 have h:=Rd.Tc (l:=l.map ah.d) (rows:=rows) (cap:=l.length) (by simp) (by unfold maxLen;omega) h hk k.lt k.lt (fun j u hu=>k.cell j u hu)
 rwa [jix] at h
theorem xM {ok:Nat->Prop} {w:jl9} {x:Nd} {L:List Nd} {vk:Value} (h:Rd ok w (cZ [x,aV fC [] L]) [vk]):∃ b off c aL cL,vk=.slice (some ⟨b,off,none⟩) 2 c/\w.cell? ⟨b,off+4+3,none⟩=some (.slice aL L.length cL)/\Rd ok w (cZ L) [.slice aL L.length cL]:=by
 obtain ⟨a,c,hv,hs⟩:=Rd.aG h;obtain ⟨b,off,va,Xt,rfl,-,-,-,-,-,hc,hN⟩:=FX (l:=[x,aV fC [] L]) hs (k:=1) rfl;obtain ⟨aL,cL,hv2,-⟩:=Rd.aG hN.ks;obtain rfl:Xt=.slice aL L.length cL:=by simpa using hv2
 exact ⟨b,off,c,aL,cL,by simpa using hv,by simpa using hc,hN.ks⟩
theorem jb5 {ok:Nat->Prop} {w:jl9} {n t:ByteArray} {at_:List Pr} {ks:List Nd} {a:Option Addr} {c:Nat} (h:Rd ok w (cZ [.mk n t at_ ks]) [.slice a 1 c]):∃ b off aS nS cS aK cK,a=some ⟨b,off,none⟩/\w.cell? ⟨b,off,none⟩=some (.string n)/\w.cell? ⟨b,off+1,none⟩=some (.string t)/\w.cell? ⟨b,off+2,none⟩=some (.slice aS nS cS)/\w.cell? ⟨b,off+3,none⟩=some (.slice aK ks.length cK):=by
 obtain ⟨a',c',hv,hs⟩:=Rd.aG h;obtain ⟨rfl,rfl⟩:a'=a/\c'=c:=by simp at hv;exact ⟨hv.1.symm,hv.2.symm⟩
 obtain ⟨b,off,va,Xt,rfl,-,-,c0,c1,c2,c3,hN⟩:=FX (l:=[.mk n t at_ ks]) hs (k:=0) rfl;obtain ⟨aL,cL,hv2,-⟩:=Rd.aG hN.ks;obtain rfl:Xt=.slice aL ks.length cL:=by simpa using hv2
 obtain ⟨aS,nS,cS,rfl⟩:=Rd.au hN.at_
 simp only [Nat.zero_mul,Nat.add_zero] at c0 c1 c2 c3;exact ⟨b,off,aS,nS,cS,aL,cL,rfl,c0,c1,c2,c3⟩
theorem Uk {ok:Nat->Prop} {w:jl9} {s1 s2:Sl} {v:Value} (h:Rd ok w (.sl 2 ([s1,s2].map Sl.d)) [v]):∃ b off c a0 c0 a1 c1 a2 c2 a3 c3,v=.slice (some ⟨b,off,none⟩) 2 c/\w.cell? ⟨b,off,none⟩=some (.slice a0 s1.ti.length c0)/\w.cell? ⟨b,off+1,none⟩=some (.slice a1 s1.bl.length c1)/\w.cell? ⟨b,off+2,none⟩=some (.slice a2 s2.ti.length c2)/\w.cell? ⟨b,off+2+1,none⟩=some (.slice a3 s2.bl.length c3):=by
 obtain ⟨a,c,hv,hs⟩:=Rd.aG h;obtain ⟨b,off,rfl,-,hb,hcx⟩:=hs.at_ (by simp)
 obtain ⟨r,hr,-,hc⟩:=hcx 0 s1.d rfl;obtain ⟨r',hr',-,hc'⟩:=hcx 1 s2.d rfl;obtain ⟨v1,v2,rfl,g1,g2⟩:=Sl.open_ hr;obtain ⟨v3,v4,rfl,g3,g4⟩:=Sl.open_ hr';obtain ⟨a0,c0,e0,-⟩:=Rd.aG g1;obtain ⟨a1,c1,e1,-⟩:=Rd.aG g2;obtain ⟨a2,c2,e2,-⟩:=Rd.aG g3;obtain ⟨a3,c3,e3,-⟩:=Rd.aG g4;obtain rfl:v1=.slice a0 s1.ti.length c0:=by simpa using e0
 obtain rfl:v2=.slice a1 s1.bl.length c1:=by simpa using e1
 obtain rfl:v3=.slice a2 s2.ti.length c2:=by simpa using e2
 obtain rfl:v4=.slice a3 s2.bl.length c3:=by simpa using e3
 refine ⟨b,off,c,a0,c0,a1,c1,a2,c2,a3,c3,by simpa using hv,?_,?_,?_,?_⟩
 ·have:=hc 0 _ rfl;simpa using this
 ·have:=hc 1 _ rfl;simpa using this
 ·have:=hc' 0 _ rfl;simpa using this
 ·have:=hc' 1 _ rfl;simpa using this
theorem Cm (w:jl9) (ht:PT w):Calls Tryz.prog 32 #[] w (dS (.bool true) w):=by
 have oF:Hid (∀ W,jlj w.heap.size w W->PT W):=fun W hW=>ht.below hW
 clear ht;go_enter Tryz.func32,Tryz.ntmps32;go_wp2_with fail
 refine (O5 _ _ _).mono ?_;rintro e w1 ⟨p1,rfl,hp1,k1,b1⟩;simp only [bC];have K1:=hid k1;have B1:=hid b1;clear hp1 k1 b1;go_wp2_with fail
 refine (H8 _).mono ?_;rintro e w2 ⟨p2,rfl,hp2,k2,b2⟩;simp only [bC];have K1:=hid (K1.out.below b2);have K2:=hid k2;have B2:=hid (aZ B1.out b2);clear hp2 k2 b2;go_wp2_with fail
 refine (H8 _).mono ?_;rintro e w3 ⟨p3,rfl,hp3,k3,b3⟩;simp only [bC];have k1:=K1.out.below b3;have k2:=K2.out.below b3;obtain ⟨q4,hq4⟩:∃ q4,q4=w3.heap.size:=⟨_,rfl⟩;obtain ⟨w4,hw4⟩:∃ w4,w4=w3.alloc (.cells [bC 2 1 ⟨#[]⟩ (.slice (some ⟨p1,0,none⟩) 1 1),bC 1 0 ⟨#[]⟩ (.slice (some ⟨p2,0,none⟩) 1 1),bC 5 0 ⟨#[]⟩ (.slice none 0 0),bC 1 0 ⟨#[]⟩ (.slice (some ⟨p3,0,none⟩) 1 1)].flatten.toArray 30):=⟨_,rfl⟩;have b4:jlj w3.heap.size w3 w4:=by rw [hw4];exact (ji7 _ _).alloc (ji8 _) _
 have k4:CB 30 q4 [bC 2 1 ⟨#[]⟩ (.slice (some ⟨p1,0,none⟩) 1 1),bC 1 0 ⟨#[]⟩ (.slice (some ⟨p2,0,none⟩) 1 1),bC 5 0 ⟨#[]⟩ (.slice none 0 0),bC 1 0 ⟨#[]⟩ (.slice (some ⟨p3,0,none⟩) 1 1)].flatten w4:=by rw [hw4,hq4];exact CB.new _ _ _
 have h4:Rd (·<w4.heap.size) w4 (jg Lc) [.slice (some ⟨q4,0,none⟩) 4 4]:=by refine JB (l:=Lc) k4 rfl (by decide) (aP.cons (Al 2 1 ⟨#[]⟩ (mV (k1.below b4) _ (k1.below b4).lt)) (aP.cons (Al 1 0 ⟨#[]⟩ (mV (k2.below b4) _ (k2.below b4).lt)) (aP.cons (Al 5 0 ⟨#[]⟩ (Rd.aF _ _ _)) (aP.one (Al 1 0 ⟨#[]⟩ (mV (k3.below b4) _ (k3.below b4).lt)))))) (by simp [bC])
 have OC:=hid (RQ (.slice none 0 0) Lc (.slice (some ⟨q4,0,none⟩) 4 4) w4 ⟨_,_,_,rfl⟩ h4 (by decide +kernel) WZ);have B4:=hid (aZ (aZ B2.out b3) b4);simp only [bC,List.flatten_cons,List.flatten_nil,List.cons_append,List.nil_append,List.append_nil] at hw4;have SQ:=hid hq4;clear hp3 k3 b3 k1 k2 k4 b4 h4 hq4 K1 K2;go_wp2_with fail
 rw [<- hw4,<- SQ.out];clear hw4
 (with_reducible refine OC.out.mono ?_)
 rintro e w5 ⟨v5,rfl,h5,b5⟩;rw [jb0] at h5;obtain ⟨a5,c5,e5⟩:=jq h5;obtain rfl:v5=.slice a5 2 c5:=by simpa using e5
 have B5:=hid (aZ B4.out b5);have R5:=hid (h5.weaken (fun _ _=>trivial):Rd (fun _=>True) w5 _ _);have h6:=rP [] [] ⟨#[84]⟩ ⟨#[101,110]⟩ (.slice none 0 0) (.slice none 0 0) w5 (Rd.aF _ _ _) (Rd.aF _ _ _) (by simp) (by simp) (by decide +kernel) (by unfold ah.aD;trivial) (by decide +kernel) (by decide +kernel) (by unfold ah.kK;trivial) (by decide) (by decide) (oF.out _ B5.out);rw [YQ,jb1] at h6;have PC:=hid h6;clear h5 e5 b5 h6 OC B4 SQ B2 B1;go_wp2_with fail
 (with_reducible refine PC.out.mono ?_)
 rintro e w6 ⟨va,vk,he,hN,b6⟩;obtain ⟨aA,nA,cA,rfl⟩:=Rd.au hN.at_
 obtain ⟨Ul,Um,XT,a6L,c6L,rfl,-,-⟩:=xM hN.ks;have he:e=.returned (.tuple #[.agg #[.string kL,.string ⟨#[]⟩,.slice aA nA cA,.slice (some ⟨Ul,Um,none⟩) 2 XT],.int .i64 0]):=he;subst he;have RK6:=hid (show Rd (fun _=>True) w6 (cZ [_,aV fC [] []]) [.slice (some ⟨Ul,Um,none⟩) 2 XT] from hN.ks.weaken (fun _ _=>trivial));have R6:=hid (R5.out.bq b6);have B6:=hid (aZ B5.out b6);clear hN b6 PC R5 B5;obtain ⟨Bp,wo⟩:∃ Bp,Bp=w6.heap.size:=⟨_,rfl⟩;obtain ⟨w7,hw7⟩:∃ w7,w7=w6.alloc (.cells #[.string kL,.string ⟨#[]⟩,.slice aA nA cA,.slice (some ⟨Ul,Um,none⟩) 2 XT] 43):=⟨_,rfl⟩;have k7:CB 43 Bp [.string kL,.string ⟨#[]⟩,.slice aA nA cA,.slice (some ⟨Ul,Um,none⟩) 2 XT] w7:=by rw [hw7,wo];exact CB.new _ _ _
 have b7:jlj w6.heap.size w6 w7:=by rw [hw7];exact (ji7 _ _).alloc (ji8 _) _
 have B7:=hid (aZ B6.out b7);have R7:=hid (R6.out.bq b7);have RK7:=hid (RK6.out.bq b7);have Y5:=hid k7;clear k7 b7 R6 RK6 B6;go_upto_region 3 with (fail)
 rw [<- hw7,<- wo];clear hw7 wo;go_wp2_with fail
 refine (O5 _ _ _).mono ?_;rintro e w8 ⟨p1,rfl,hp1,k1,b1⟩;simp only [bC];have K1:=hid k1;have B8:=hid (aZ B7.out b1);have R8:=hid (R7.out.bq b1);have RK8:=hid (RK7.out.bq b1);have Y6:=hid (Y5.out.below b1);clear hp1 k1 b1 B7 R7 RK7 Y5;go_wp2_with fail
 refine (H8 _).mono ?_;rintro e w9 ⟨p2,rfl,hp2,k2,b2⟩;simp only [bC];have k1:=K1.out.below b2;obtain ⟨q4,hq4⟩:∃ q4,q4=w9.heap.size:=⟨_,rfl⟩;obtain ⟨wA,iJ⟩:∃ wA,wA=w9.alloc (.cells [bC 2 2 ⟨#[115]⟩ (.slice (some ⟨p1,0,none⟩) 1 1),bC 1 0 ⟨#[]⟩ (.slice (some ⟨p2,0,none⟩) 1 1)].flatten.toArray 30):=⟨_,rfl⟩;have b4:jlj w9.heap.size w9 wA:=by rw [iJ];exact (ji7 _ _).alloc (ji8 _) _
 have k4:CB 30 q4 [bC 2 2 ⟨#[115]⟩ (.slice (some ⟨p1,0,none⟩) 1 1),bC 1 0 ⟨#[]⟩ (.slice (some ⟨p2,0,none⟩) 1 1)].flatten wA:=by rw [iJ,hq4];exact CB.new _ _ _
 have h4:Rd (·<wA.heap.size) wA (jg rQ) [.slice (some ⟨q4,0,none⟩) 2 2]:=by refine JB (l:=rQ) k4 rfl (by decide) (aP.cons (Al 2 2 ⟨#[115]⟩ (mV (k1.below b4) _ (k1.below b4).lt)) (aP.one (Al 1 0 ⟨#[]⟩ (mV (k2.below b4) _ (k2.below b4).lt)))) (by simp [bC])
 have bA:jlj w8.heap.size w8 wA:=aZ b2 b4;have BA:=hid (aZ B8.out bA);have RA:=hid (R8.out.bq bA);have RKA:=hid (RK8.out.bq bA);have KPA:=hid (Y6.out.below bA);have h6:=rP [] rQ ⟨#[84]⟩ ⟨#[101,110]⟩ (.slice none 0 0) (.slice (some ⟨q4,0,none⟩) 2 2) wA (Rd.aF _ _ _) h4 (by simp) (by simp) (by decide +kernel) O6 (by decide +kernel) (by decide +kernel) (ah.jW _ O6) (by decide) (by decide) (oF.out _ BA.out);rw [Ui,jb2] at h6;have PC:=hid h6;simp only [bC,List.flatten_cons,List.flatten_nil,List.cons_append,List.nil_append,List.append_nil] at iJ;have SQ:=hid hq4;clear hp2 b2 k1 k2 k4 b4 h4 hq4 K1 bA h6 B8 R8 RK8 Y6;go_wp2_with fail
 rw [<- iJ,<- SQ.out];clear iJ
 (with_reducible refine PC.out.mono ?_)
 rintro e wB ⟨va,vk,he,hN,b6⟩;obtain ⟨aA2,nA2,cA2,rfl⟩:=Rd.au hN.at_
 obtain ⟨bk,ok,ck,aL,cL,rfl,-,-⟩:=xM hN.ks;have he:e=.returned (.tuple #[.agg #[.string kL,.string ⟨#[]⟩,.slice aA2 nA2 cA2,.slice (some ⟨bk,ok,none⟩) 2 ck],.int .i64 0]):=he;subst he;have RB:=hid (RA.out.bq b6);have RKB:=hid (RKA.out.bq b6);have KPB:=hid (KPA.out.below b6);have BB:=hid (aZ BA.out b6);have Y2:=hid hN;clear hN b6 PC RA RKA KPA BA SQ;obtain ⟨Bq,W9⟩:∃ Bq,Bq=wB.heap.size:=⟨_,rfl⟩;obtain ⟨wC,Lj⟩:∃ wC,wC=wB.alloc (.cells #[.string kL,.string ⟨#[]⟩,.slice aA2 nA2 cA2,.slice (some ⟨bk,ok,none⟩) 2 ck] 43):=⟨_,rfl⟩;have kC:CB 43 Bq [.string kL,.string ⟨#[]⟩,.slice aA2 nA2 cA2,.slice (some ⟨bk,ok,none⟩) 2 ck] wC:=by rw [Lj,W9];exact CB.new _ _ _
 have Xa:jlj wB.heap.size wB wC:=by rw [Lj];exact (ji7 _ _).alloc (ji8 _) _
 have rC:=RB.out.bq Xa;have rkC:=RKB.out.bq Xa;have kpC:=KPB.out.below Xa;have hAC:=Rd.bq Y2.out.at_ Xa
 have hKC:=Rd.bq Y2.out.ks Xa;have BC:=hid (aZ BB.out Xa);clear Xa RB RKB KPB Y2 BB;go_upto_region 4 with (fail)
 rw [<- Lj,<- W9];clear Lj W9;obtain ⟨g,o,cg,a0,n0,a1,n1,a2,n2,a3,n3,ev,t0,t1,t2,t3⟩:=Uk rC;obtain ⟨rfl,rfl⟩:a5=some ⟨g,o,none⟩/\c5=cg:=by simpa using ev
 obtain ⟨bx,ox,cx,aM,cM,ex,u3,-⟩:=xM rkC;obtain ⟨⟨rfl,rfl⟩,rfl⟩:(Ul=bx/\Um=ox)/\XT=cx:=by simpa using ex
 obtain ⟨uq,oy,cy,aN,cN,ey,y3,hS⟩:=xM hKC;obtain ⟨⟨rfl,rfl⟩,rfl⟩:(bk=uq/\ok=oy)/\ck=cy:=by simpa using ey
 obtain ⟨bz,oz,aS,nS,cS,aK,cK,rfl,z0,z1,z2,z3⟩:=jb5 (n:=dM) (t:=⟨#[]⟩) (at_:=[⟨fJ,BI⟩]) (ks:=oh rQ) hS;rw [jb3] at z3
 replace t0:wC.cell? ⟨g,o,none⟩=some (.slice a0 1 n0):=t0
 replace t1:wC.cell? ⟨g,o+1,none⟩=some (.slice a1 1 n1):=t1
 replace t2:wC.cell? ⟨g,o+2,none⟩=some (.slice a2 0 n2):=t2
 replace t3:wC.cell? ⟨g,o+2+1,none⟩=some (.slice a3 1 n3):=t3
 replace u3:wC.cell? ⟨Ul,Um+4+3,none⟩=some (.slice aM 0 cM):=u3
 replace y3:wC.cell? ⟨bk,ok+4+3,none⟩=some (.slice (some ⟨bz,oz,none⟩) 1 cN):=y3
 have p3:=kpC.cell 3 _ rfl;have q3:=kC.cell 3 _ rfl;go_upto_region 6 with (fail)
 obtain ⟨wD,Ki⟩:∃ wD,wD=wC.alloc (.cells #[.string dM,.string ⟨#[]⟩,.slice aS nS cS,.slice aK 2 cK] 43):=⟨_,rfl⟩;obtain ⟨Bs,hBs⟩:∃ Bs,Bs=wC.heap.size:=⟨_,rfl⟩;have kD:CB 43 Bs [.string dM,.string ⟨#[]⟩,.slice aS nS cS,.slice aK 2 cK] wD:=by rw [Ki,hBs];exact CB.new _ _ _
 have bD:jlj wC.heap.size wC wD:=by rw [Ki];exact (ji7 _ _).alloc (ji8 _) _
 have AC:Hid (Calls Tryz.prog 31 #[.agg #[.string kL,.string ⟨#[]⟩,.slice aA2 nA2 cA2,.slice (some ⟨bk,ok,none⟩) 2 ck],.string ⟨#[105,100]⟩] wD (kE wD ((tY ⟨#[84]⟩ ⟨#[101,110]⟩ [oM rQ]).vals dR))):=(jU dR _ (tY ⟨#[84]⟩ ⟨#[101,110]⟩ [oM rQ]) (.slice aA2 nA2 cA2) (.slice (some ⟨bk,ok,none⟩) 2 ck) wD (ji8 _) (by rw [Uj];decide) ⟨Rd.keep (fun b _ h2=>⟨h2,rfl⟩) _ _ (hAC.bq bD),Rd.keep (fun b _ h2=>⟨h2,rfl⟩) _ _ (hKC.bq bD)⟩);have rD:=hid (rC.bq bD);have rkD:=hid (rkC.bq bD);have kpD:=hid (kpC.below bD);have kqD:=hid (kC.below bD);have ksD:=hid kD;have BD:=hid (aZ BC.out bD);have q0:=kqD.out.cell 0 _ rfl;have q1:=kqD.out.cell 1 _ rfl;have q2:=kqD.out.cell 2 _ rfl;have q3':=kqD.out.cell 3 _ rfl;clear hAC hKC bD rC rkC kpC kC kD hS;go_upto_region 7 with (fail)
 rw [<- Ki,<- hBs];clear Ki hBs t0 t1 t2 t3 u3 y3 z0 z1 z2 z3 p3 q3 BC;go_wp2_with fail
 (with_reducible refine AC.out.mono ?_)
 rintro e wE ⟨vE,rfl,hoE,bE⟩;rw [Uj] at hoE;obtain ⟨-,aE,cE,rfl,hcE,hmE,hxE⟩:=uT.qC hoE;obtain ⟨bs,os,rfl,hcs⟩:∃ b off,aE=some ⟨b,off,none⟩/\wE.cell? ⟨b,off,none⟩=some (.string ⟨#[115]⟩):=by
  rcases hxE with h | ⟨b,off,h,hc⟩
  ·simp at h
  ·exact ⟨b,off,h,hc 0 _ rfl⟩
 obtain ⟨g',o',cg',a0,n0,a1,n1,a2,n2,a3,n3,ev,t0,t1,t2,t3⟩:=Uk (rD.out.bq bE);obtain ⟨⟨rfl,rfl⟩,rfl⟩:(g=g'/\o=o')/\c5=cg':=by simpa using ev
 obtain ⟨bx,ox,cx,aM,cM,ex,u3,-⟩:=xM (rkD.out.bq bE);obtain ⟨⟨rfl,rfl⟩,rfl⟩:(Ul=bx/\Um=ox)/\XT=cx:=by simpa using ex
 replace t0:wE.cell? ⟨g,o,none⟩=some (.slice a0 1 n0):=t0
 replace t1:wE.cell? ⟨g,o+1,none⟩=some (.slice a1 1 n1):=t1
 replace t2:wE.cell? ⟨g,o+2,none⟩=some (.slice a2 0 n2):=t2
 replace t3:wE.cell? ⟨g,o+2+1,none⟩=some (.slice a3 1 n3):=t3
 replace u3:wE.cell? ⟨Ul,Um+4+3,none⟩=some (.slice aM 0 cM):=u3
 have p3:=(kpD.out.below bE).cell 3 _ rfl;have s0:=(ksD.out.below bE).cell 0 _ rfl;have s3:=(ksD.out.below bE).cell 3 _ rfl;have HF:=hid (aZ BD.out bE);have hq:(dM.toList==[115,101,99,116,105,111,110])=true:=by kernel_rfl
 clear hoE bE hxE AC q0 q1 q2 q3' rD rkD kpD kqD ksD BD;go_wp2;go_ret;exact ⟨rfl,HF.out⟩
open Go.RowKit
theorem xO (l:List ByteArray) (x:ByteArray) (v:Value) (w:jl9) (hl:l.length<=1000000) (hs:uT w 1 v l.length (l.map Value.string)) : Calls Tryz.prog 39 #[v,.string x] w fun e w'=>e=.returned (.int .i64 (lS x l:Nat))/\w=w':=by
 obtain ⟨-,a,cap,rfl,hcap,hmx,hcs⟩:=hs;have Pb:=hid hcs;have HZ:Hid (lS x (l.take 0)=0):=rfl;clear hcs;unfold maxLen at hmx;go_enter Tryz.func39,Tryz.ntmps39;go_wp2
 go_loop [5,6] (fun vc vi=>∃ k:Nat,k<=l.length/\vi=.int .i64 k/\vc=.int .i64 (lS x (l.take k):Nat)) (fun _ i=>l.length-(intOf i).toNat)
 case atStart=>exact ⟨0,Nat.zero_le _,rfl,by rw [HZ.out];rfl⟩
 case round=>
  obtain ⟨k,hk,rfl,rfl⟩:=hrel;by_cases hlt:k<l.length
  ·obtain ⟨y,hy⟩:∃ y,l[k]?=some y:=⟨_,ji6 hlt⟩;rcases Pb.out with h0 | ⟨b,off,rfl,hc⟩
   ·omega
   have c0:w.cell? ⟨b,off+k,none⟩=some (.string y):=hc k _ (by simp [hy]);have xP:=hid (J9 l k x y hy);have hle:=QB (l.take k) x;obtain ⟨q,hq⟩:∃ q,q=lS x (l.take k):=⟨_,rfl⟩;have hq1:q<=1000000:=by rw [List.length_take] at hle;omega
   rw [<- hq];have HQ:=hid hq;clear hy hc hle hq;by_cases hyx:y=x
   ·subst hyx;go_wp2
    go_round
    case rel=>exact ⟨k+1,by omega,by go_num,by rw [xP.out,<- HQ.out,if_pos rfl];go_num⟩
    case measure=>simp [intOf];omega
   ·have e1:=Gy hyx;go_wp2
    go_round
    case rel=>exact ⟨k+1,by omega,by go_num,by rw [xP.out,<- HQ.out,if_neg hyx];rfl⟩
    case measure=>simp [intOf];omega
  ·have hkl:k=l.length:=by omega
   have HT:Hid (l.take k=l):=by show _=_;rw [hkl,List.take_length]
   clear hkl;go_wp2;go_ret;exact ⟨by rw [HT.out];rfl,rfl⟩
def Un (n:Nat) (w6:jl9) (vi:Value) (wr:jl9):Prop:=∃ k q:Nat,k<=n/\vi=.int .i64 k/\wr=w6.drewN q
theorem QJ (me:List Pr) (l:List ah) (vm vb:Value) (w:jl9) (hm:Rd (·<w.heap.size) w (bX me) [vm]) (hb:Rd (·<w.heap.size) w (jg l) [vb]) (VT:∀ p∈me,p.wf) (hwl:ah.sM l) (hml:me.length<=reachBytes) (hll:l.length<=reachBytes) (ht:PT w) : Calls Tryz.prog 11 #[.agg #[vm,vb]] w (dS (.bool true) w):=by
 obtain ⟨am,nm,cm,rfl⟩:=Rd.au hm;obtain ⟨ab,nb,cb,rfl⟩:=Rd.au hb;obtain ⟨S,hS⟩:∃ S,S=w.heap.size:=⟨_,rfl⟩;obtain ⟨W0,hW0⟩:∃ W0,W0=w.alloc (.cells #[.slice am nm cm,.slice ab nb cb] 32):=⟨_,rfl⟩;have k0:CB 32 S [.slice am nm cm,.slice ab nb cb] W0:=by rw [hW0,hS];exact CB.new _ _ w
 have b0:jlj w.heap.size w W0:=by rw [hW0];exact (ji7 _ _).alloc (ji8 _) _
 have SM:=hid (QC me l _ _ W0 (hm.up b0) (hb.up b0) VT hwl);have HM:=hid hm;have HB:=hid hb;have oF:Hid (∀ W,jlj w.heap.size w W->PT W):=fun W hW=>ht.below hW
 have B0:=hid b0;have X0:Hid (∀ W:jl9,jlj W0.heap.size W0 W->W.cell? ⟨S,0,none⟩=some (.slice am nm cm)/\W.cell? ⟨S,1,none⟩=some (.slice ab nb cb)):=fun W hW=>⟨(k0.below hW).cell 0 _ rfl,(k0.below hW).cell 1 _ rfl⟩
 have x0:=k0.cell 0 _ rfl;have x1:=k0.cell 1 _ rfl;clear hm hb VT hwl hml hll ht k0 b0;go_enter Tryz.func11,Tryz.ntmps11;go_upto_region 1 with (fail)
 rw [<- hW0,<- hS];clear hW0 hS;go_wp2_with fail
 (with_reducible refine SM.out.mono ?_)
 rintro e w1 ⟨b,rfl,hsm,b1⟩;have B1:=hid b1;have B1w:=hid (aZ B0.out b1);have AW:=hid (Cm w1 (oF.out _ B1w.out));clear x0 x1 b1 SM;cases b with
 | false=>
  clear hsm;go_wp2_with fail
  (with_reducible refine AW.out.mono ?_)
  rintro e w2 ⟨rfl,b2⟩;have HF:=hid (aZ B1w.out b2);clear b2;go_wp2;go_ret;exact ⟨rfl,HF.out⟩
 | true=>
  obtain ⟨hd,hs⟩:=hsm rfl;have jG:∀ p∈me,p.key.size<=1000/\p.val.size<=1000:=fun p hp=>by have:=hd.jf7 p hp;omega
  have hEl:(ah.aO l).length<=120:=by rw [nI];exact hs.sz
  have hlen:=M4 dR ⟨#[84]⟩ ⟨#[101,110]⟩ l hEl hs.il;have SC:=hid (fun W hW=>rP me l ⟨#[84]⟩ ⟨#[101,110]⟩ (.slice am nm cm) (.slice ab nb cb) W (HM.out.up hW) (HB.out.up hW) (by have:=hd.meta_;omega) jG (by have:=hs.al;omega) hs.sm (by have:=hs.sz;omega) (by have:=hs.il;omega) (ah.jW l hs.sm) (by decide) (by decide) (oF.out W hW));have PC:=hid (fun W hW=>J8 me l ⟨#[84]⟩ ⟨#[101,110]⟩ (.slice am nm cm) (.slice ab nb cb) W (HM.out.up hW) (HB.out.up hW) (by have:=hd.meta_;omega) jG (by have:=hs.al;omega) hs.sm (by have:=hs.sz;omega) (by have:=hs.il;omega) (ah.jW l hs.sm) (by decide) (by decide) (oF.out W hW));have O8:Hid (Eb me l ⟨#[84]⟩ ⟨#[101,110]⟩=0->(((Lb me l ⟨#[84]⟩ ⟨#[101,110]⟩).vals dR).length<=1000000/\((IY me l ⟨#[84]⟩ ⟨#[101,110]⟩).vals dR).length=((Lb me l ⟨#[84]⟩ ⟨#[101,110]⟩).vals dR).length/\∀ x,lS x ((Lb me l ⟨#[84]⟩ ⟨#[101,110]⟩).vals dR)=lS x ((IY me l ⟨#[84]⟩ ⟨#[101,110]⟩).vals dR))):=fun h=>by
   have e1:Lb me l ⟨#[84]⟩ ⟨#[101,110]⟩=tY ⟨#[84]⟩ ⟨#[101,110]⟩ (Gi l):=by unfold Lb;rw [if_pos h]
   have e2:IY me l ⟨#[84]⟩ ⟨#[101,110]⟩=tY ⟨#[84]⟩ ⟨#[101,110]⟩ (oh l):=by unfold IY;rw [if_pos h]
   have h1:=fun x=>VP me l ⟨#[84]⟩ ⟨#[101,110]⟩ x h
   have h2:=M6 _ _ h1;rw [e1,e2];exact ⟨by rw [h2];exact hlen,h2.symm,h1⟩
  obtain ⟨x0,x1⟩:=X0.out w1 B1.out;obtain ⟨X,hX⟩:∃ X,X=Lb me l ⟨#[84]⟩ ⟨#[101,110]⟩:=⟨_,rfl⟩;obtain ⟨Y,hY⟩:∃ Y,Y=IY me l ⟨#[84]⟩ ⟨#[101,110]⟩:=⟨_,rfl⟩;obtain ⟨E,hE⟩:∃ E,E=Eb me l ⟨#[84]⟩ ⟨#[101,110]⟩:=⟨_,rfl⟩;rw [<- hX,<- hE] at SC;rw [<- hY,<- hE] at PC;rw [<- hX,<- hY,<- hE] at O8;obtain ⟨L,hL⟩:∃ L,L=X.vals dR:=⟨_,rfl⟩;obtain ⟨M,hM⟩:∃ M,M=Y.vals dR:=⟨_,rfl⟩;rw [<- hL,<- hM] at O8;have HL:=hid hL;have HM':=hid hM;have SP:=hid (SC.out w1 B1w.out);obtain ⟨xn,xt,xa,xk⟩:=X;obtain ⟨yn,yt,ya,yk⟩:=Y;clear hsm hd hs jG hX hY hE AW hEl hlen hL hM SC;go_wp2_with fail
  (with_reducible refine SP.out.mono ?_)
  rintro e w2 ⟨va,vk,he,hN,b2⟩;obtain ⟨aA,nA,cA,rfl⟩:=Rd.au hN.at_
  obtain ⟨aK,nK,cK,rfl⟩:=Rd.au hN.ks;have he:e=.returned (.tuple #[.agg #[.string xn,.string xt,.slice aA nA cA,.slice aK nK cK],.int .i64 (E:Int)]):=he;subst he;obtain ⟨Bp,wo⟩:∃ Bp,Bp=w2.heap.size:=⟨_,rfl⟩;obtain ⟨w3,hw3⟩:∃ w3,w3=w2.alloc (.cells #[.string xn,.string xt,.slice aA nA cA,.slice aK nK cK] 43):=⟨_,rfl⟩;have k3:CB 43 Bp [.string xn,.string xt,.slice aA nA cA,.slice aK nK cK] w3:=by rw [hw3,wo];exact CB.new _ _ _
  have Ug:jlj w2.heap.size w2 w3:=by rw [hw3];exact (ji7 _ _).alloc (ji8 _) _
  have B3:=hid (aZ (aZ B1.out b2) Ug);have B3w:=hid (aZ B0.out B3.out);have N3:=hid (show jT (fun _=>True) w3 xa xk (.slice aA nA cA) (.slice aK nK cK) from ⟨(hN.at_.bq Ug).weaken (fun _ _=>trivial),(hN.ks.bq Ug).weaken (fun _ _=>trivial)⟩);have XP:Hid (∀ W:jl9,jlj w3.heap.size w3 W->W.cell? ⟨Bp,0,none⟩=some (.string xn)/\W.cell? ⟨Bp,1,none⟩=some (.string xt)/\W.cell? ⟨Bp,2,none⟩=some (.slice aA nA cA)/\W.cell? ⟨Bp,3,none⟩=some (.slice aK nK cK)):=fun W hW=>⟨(k3.below hW).cell 0 _ rfl,(k3.below hW).cell 1 _ rfl,(k3.below hW).cell 2 _ rfl,(k3.below hW).cell 3 _ rfl⟩
  have PP:=hid (PC.out w3 B3w.out);clear x0 x1 hN b2 Ug k3 SP PC;go_upto_region 4 with (fail)
  rw [<- hw3,<- wo];clear hw3 wo;obtain ⟨x0,x1⟩:=X0.out w3 B3.out;go_wp2_with fail
  (with_reducible refine PP.out.mono ?_)
  rintro e w4 ⟨va,vk,he,hN,b2⟩;obtain ⟨aB,nB,cB,rfl⟩:=Rd.au hN.at_
  obtain ⟨aJ,nJ,cJ,rfl⟩:=Rd.au hN.ks;have he:e=.returned (.tuple #[.agg #[.string yn,.string yt,.slice aB nB cB,.slice aJ nJ cJ],.int .i64 (E:Int)]):=he;subst he;obtain ⟨Bq,W9⟩:∃ Bq,Bq=w4.heap.size:=⟨_,rfl⟩;obtain ⟨w5,zG⟩:∃ w5,w5=w4.alloc (.cells #[.string yn,.string yt,.slice aB nB cB,.slice aJ nJ cJ] 43):=⟨_,rfl⟩;have k5:CB 43 Bq [.string yn,.string yt,.slice aB nB cB,.slice aJ nJ cJ] w5:=by rw [zG,W9];exact CB.new _ _ _
  have b45:jlj w4.heap.size w4 w5:=by rw [zG];exact (ji7 _ _).alloc (ji8 _) _
  have TG:=aZ b2 b45;have XR:=hid (aZ B3w.out TG);have N5:=hid (show jT (fun _=>True) w5 xa xk (.slice aA nA cA) (.slice aK nK cK) from ⟨N3.out.at_.bq TG,N3.out.ks.bq TG⟩);have M5:=hid (show jT (fun _=>True) w5 ya yk (.slice aB nB cB) (.slice aJ nJ cJ) from ⟨(hN.at_.bq b45).weaken (fun _ _=>trivial),(hN.ks.bq b45).weaken (fun _ _=>trivial)⟩);have B35:=hid TG;have XQ:Hid (∀ W:jl9,jlj w5.heap.size w5 W->(W.cell? ⟨Bp,0,none⟩=some (.string xn)/\W.cell? ⟨Bp,1,none⟩=some (.string xt)/\W.cell? ⟨Bp,2,none⟩=some (.slice aA nA cA)/\W.cell? ⟨Bp,3,none⟩=some (.slice aK nK cK))/\W.cell? ⟨Bq,0,none⟩=some (.string yn)/\W.cell? ⟨Bq,1,none⟩=some (.string yt)/\W.cell? ⟨Bq,2,none⟩=some (.slice aB nB cB)/\W.cell? ⟨Bq,3,none⟩=some (.slice aJ nJ cJ)):=fun W hW=>⟨XP.out W (aZ B35.out hW),(k5.below hW).cell 0 _ rfl,(k5.below hW).cell 1 _ rfl,(k5.below hW).cell 2 _ rfl,(k5.below hW).cell 3 _ rfl⟩
  clear x0 x1 hN b2 b45 TG k5 PP N3;go_upto_region 5 with (fail)
  rw [<- zG,<- W9];clear zG W9;have qe:((E:Int) != (E:Int))=false:=by simp
  by_cases h0:E=0
  ·have q0:((E:Int) != 0)=false:=by rw [h0];rfl
   obtain ⟨hl1,hl2,hcn⟩:=O8.out h0;have HL1:=hid hl1;have HL2:=hid hl2;have HCC:=hid hcn;have RX:Hid (∀ y,jlj w5.heap.size w5 y->Calls Tryz.prog 31 #[.agg #[.string xn,.string xt,.slice aA nA cA,.slice aK nK cK],.string ⟨#[105,100]⟩] y (kE y L)):=fun y hy=>by
    have h:=jU dR _ (.mk xn xt xa xk) (.slice aA nA cA) (.slice aK nK cK) y (ji8 _) (by rw [<- HL.out];exact hl1) ⟨Rd.keep (fun b _ h2=>⟨h2,rfl⟩) _ _ (N5.out.at_.bq hy),Rd.keep (fun b _ h2=>⟨h2,rfl⟩) _ _ (N5.out.ks.bq hy)⟩;rw [<- HL.out] at h;exact h
   have RY:Hid (∀ y,jlj w5.heap.size w5 y->Calls Tryz.prog 31 #[.agg #[.string yn,.string yt,.slice aB nB cB,.slice aJ nJ cJ],.string ⟨#[105,100]⟩] y (kE y M)):=fun y hy=>by
    have h:=jU dR _ (.mk yn yt ya yk) (.slice aB nB cB) (.slice aJ nJ cJ) y (ji8 _) (by rw [<- HM'.out,hl2];exact hl1) ⟨Rd.keep (fun b _ h2=>⟨h2,rfl⟩) _ _ (M5.out.at_.bq hy),Rd.keep (fun b _ h2=>⟨h2,rfl⟩) _ _ (M5.out.ks.bq hy)⟩;rw [<- HM'.out] at h;exact h
   obtain ⟨nL,uy⟩:∃ nL,nL=L.length:=⟨_,rfl⟩;have qJ:=hid uy;have SA:Hid (nL=M.length):=by show _=_;rw [hl2];exact uy
   clear h0 hl1 hl2 hcn O8 uy;go_upto_region 9 with (fail)
   refine SH 5 (fun w'=>jlj w5.heap.size w5 w') (by kernel_rfl) (ji7 _ _).drew ?_;intro hH;refine kT 0 (v:=?_) rfl (by kernel_rfl) hH (by rfl) ?_ ?_;rotate_left
   ·(intro wv hSw;obtain ⟨⟨c0,c1,c2,c3⟩,-⟩:=XQ.out wv hSw;go_simp;try with_reducible rfl)
   try simp only [Act.put,ji3,ji4,ji5]
   refine kT 2 (v:=?_) rfl (by kernel_rfl) hH (by rfl) ?_ ?_;rotate_left
   ·(intro wv hSw;obtain ⟨-,c0,c1,c2,c3⟩:=XQ.out wv hSw;go_simp;try with_reducible rfl)
   try simp only [Act.put,ji3,ji4,ji5]
   obtain ⟨y0,hy0⟩:∃ y0,y0=w5.drew:=⟨_,rfl⟩;rw [<- hy0] at hH;rw [<- hy0];clear hy0;refine q01 (i:=1) rfl (by kernel_rfl) (fun KQ hK=>?_);go_simp;go_at_call 31
   (with_reducible refine (RX.out y0 hH).mono ?_)
   rintro e y1 ⟨v1,rfl,hown1,b1⟩;obtain ⟨a1,c1,rfl⟩:∃ a1 c1,v1=.slice a1 nL c1:=by rw [qJ.out];exact sF hown1
   have VK:=aZ hH b1;have S1:=hid (uT.qC hown1);clear hown1 b1;refine hK.out _ _ (fun _ _=>VK) (fun hH2=>?_);clear hK KQ hH;have hH:=hH2 (by decide) (by kernel_rfl);clear hH2;try simp only [Act.put,ji3,ji4,ji5]
   refine q01 (i:=3) rfl (by kernel_rfl) (fun KQ hK=>?_);go_simp;go_at_call 31
   (with_reducible refine (RY.out y1 hH).mono ?_)
   rintro e y2 ⟨v2,rfl,hown2,b2⟩;obtain ⟨a2,c2,rfl⟩:∃ a2 c2,v2=.slice a2 nL c2:=by rw [SA.out];exact sF hown2
   have Tm:=aZ hH b2;have S1:=hid (S1.out.below b2);have S2:=hid (uT.qC hown2);clear hown2 b2;refine hK.out _ _ (fun _ _=>Tm) (fun hH2=>?_);clear hK KQ hH;have hH:=hH2 (by decide) (by kernel_rfl);clear hH2;try simp only [Act.put,ji3,ji4,ji5]
   refine q01 (i:=4) rfl (by kernel_rfl) (fun KQ hK=>?_);go_simp;refine hK.out _ _ (fun _ _=>Tm) (fun hH2=>?_);clear hK KQ hH;have hH:=hH2 (by decide) (by kernel_rfl);clear hH2;try simp only [Act.put,ji3,ji4,ji5]
   refine q01 (i:=5) rfl (by kernel_rfl) (fun KQ hK=>?_);go_simp;refine hK.out _ _ (fun h=>absurd rfl h) (fun _=>?_);clear hK KQ;try simp only [Act.put,ji3,ji4,ji5]
   refine Ba (by kernel_rfl) ?_ _;have B2w:=hid (aZ XR.out Tm);have s1:=S1.out;have s2:=S2.out;obtain ⟨-,a1',c1',hv1,hcap1,jg6,hcs1⟩:=s1;obtain ⟨rfl,rfl⟩:a1'=a1/\c1'=c1:=by simp at hv1;exact ⟨hv1.1.symm,hv1.2.2.symm⟩
   rw [<- qJ.out] at hcap1;unfold maxLen at jg6;have Pb:=hid hcs1;have R1:Hid (Un nL y2 (.int .i64 0) y2):=⟨0,0,Nat.zero_le _,rfl,rfl⟩;clear s2 hv1 hcs1 hH VK Tm B35 XQ RX RY N5 M5;go_wp2
   go_loopw [9] (fun i wr=>Un nL y2 i wr) (fun i _=>nL-(intOf i).toNat)
   case atStart=>exact R1.out
   case round=>
    clear R1;obtain ⟨j,q,hj,rfl,rfl⟩:=hrel;by_cases hlj:j<nL
    ·obtain ⟨y,hy⟩:∃ y,L[j]?=some y:=⟨_,ji6 (by have:=qJ.out;omega)⟩;rcases Pb.out with h0 | ⟨g4,o4,rfl,hc4⟩
     ·have:=qJ.out;omega
     have c0:y2.cell? ⟨g4,o4+j,none⟩=some (.string y):=hc4 j _ (by simp [hy]);have C1:Hid (∀ m,Calls Tryz.prog 39 #[.slice (some ⟨g4,o4,none⟩) nL c1',.string y] (y2.drewN m) fun e w'=>e=.returned (.int .i64 (lS y L:Nat))/\y2.drewN m=w'):=fun m=>xO L y _ _ HL1.out (S1.out.below (ig (ji7 _ _) m))
     have C2:Hid (∀ m,Calls Tryz.prog 39 #[.slice a2 nL c2,.string y] (y2.drewN m) fun e w'=>e=.returned (.int .i64 (lS y L:Nat))/\y2.drewN m=w'):=fun m=>by
      rw [HCC.out y];exact xO M y _ _ (by rw [HL2.out];exact HL1.out) (S2.out.below (ig (ji7 _ _) m))
     clear hy hc4;go_upto_region 15 with (fail)
     refine SH 12 (fun w'=>w'.cell? ⟨g4,o4+j,none⟩=some (.string y)/\∃ m,w'=y2.drewN m) (by kernel_rfl) ⟨c0,q+1,rfl⟩ ?_;intro hH;rw [show (y2.drewN q).drew=y2.drewN (q+1) from rfl] at hH ⊢;refine kT 0 (v:=?_) rfl (by kernel_rfl) hH (by rfl) ?_ ?_;rotate_left
     ·(intro wv hSw;obtain ⟨d0,-⟩:=hSw;go_simp;try with_reducible rfl)
     try simp only [Act.put,ji3,ji4,ji5]
     refine kT 1 (v:=?_) rfl (by kernel_rfl) hH (by rfl) ?_ ?_;rotate_left
     ·(intro wv hSw;obtain ⟨d0,-⟩:=hSw;go_simp;try with_reducible rfl)
     try simp only [Act.put,ji3,ji4,ji5]
     refine kT 2 (v:=?_) rfl (by kernel_rfl) hH (by rfl) ?_ ?_;rotate_left
     ·(intro wv hSw;obtain ⟨d0,-⟩:=hSw;go_simp;try with_reducible rfl)
     try simp only [Act.put,ji3,ji4,ji5]
     refine kT 3 (v:=?_) rfl (by kernel_rfl) hH (by rfl) ?_ ?_;rotate_left
     ·(intro wv hSw;obtain ⟨d0,-⟩:=hSw;go_simp;try with_reducible rfl)
     try simp only [Act.put,ji3,ji4,ji5]
     refine kT 4 (v:=?_) rfl (by kernel_rfl) hH (by rfl) ?_ ?_;rotate_left
     ·(intro wv hSw;obtain ⟨d0,-⟩:=hSw;go_simp;try with_reducible rfl)
     try simp only [Act.put,ji3,ji4,ji5]
     refine kT 6 (v:=?_) rfl (by kernel_rfl) hH (by rfl) ?_ ?_;rotate_left
     ·(intro wv hSw;obtain ⟨d0,-⟩:=hSw;go_simp;try with_reducible rfl)
     try simp only [Act.put,ji3,ji4,ji5]
     refine kT 7 (v:=?_) rfl (by kernel_rfl) hH (by rfl) ?_ ?_;rotate_left
     ·(intro wv hSw;obtain ⟨d0,-⟩:=hSw;go_simp;try with_reducible rfl)
     try simp only [Act.put,ji3,ji4,ji5]
     refine kT 8 (v:=?_) rfl (by kernel_rfl) hH (by rfl) ?_ ?_;rotate_left
     ·(intro wv hSw;obtain ⟨d0,-⟩:=hSw;go_simp;try with_reducible rfl)
     try simp only [Act.put,ji3,ji4,ji5]
     refine kT 9 (v:=?_) rfl (by kernel_rfl) hH (by rfl) ?_ ?_;rotate_left
     ·(intro wv hSw;obtain ⟨d0,-⟩:=hSw;go_simp;try with_reducible rfl)
     try simp only [Act.put,ji3,ji4,ji5]
     refine kT 10 (v:=?_) rfl (by kernel_rfl) hH (by rfl) ?_ ?_;rotate_left
     ·(intro wv hSw;obtain ⟨d0,-⟩:=hSw;go_simp;try with_reducible rfl)
     try simp only [Act.put,ji3,ji4,ji5]
     refine q01 (i:=5) rfl (by kernel_rfl) (fun KQ hK=>?_);go_simp;go_at_call 39
     (with_reducible refine (C1.out _).mono ?_)
     rintro e yy ⟨rfl,rfl⟩;refine hK.out _ _ (fun _ _=>hH) (fun hH2=>?_);clear hK KQ hH2;try simp only [Act.put,ji3,ji4,ji5]
     refine q01 (i:=11) rfl (by kernel_rfl) (fun KQ hK=>?_);go_simp;go_at_call 39
     (with_reducible refine (C2.out _).mono ?_)
     rintro e yy ⟨rfl,rfl⟩;refine hK.out _ _ (fun _ _=>hH) (fun hH2=>?_);clear hK KQ hH2;try simp only [Act.put,ji3,ji4,ji5]
     refine q01 (i:=12) rfl (by kernel_rfl) (fun KQ hK=>?_);go_simp;refine hK.out _ _ (fun h=>absurd rfl h) (fun _=>?_);clear hK KQ;try simp only [Act.put,ji3,ji4,ji5]
     refine Ba (by kernel_rfl) ?_ _;clear hH;go_wp2;go_roundw;case rel=>exact ⟨j+1,_,by omega,by go_num,rfl⟩
     case measure=>simp [intOf];omega
    ·have B7:=hid (ig B2w.out q);have AW:=hid (Cm (y2.drewN q) (oF.out _ B7.out));go_wp2_with fail
     (with_reducible refine AW.out.mono ?_)
     rintro e w7 ⟨rfl,b7⟩;have HF:=hid (aZ B7.out b7);clear b7;go_wp2;go_ret;exact ⟨rfl,HF.out⟩
  ·have q0:((E:Int) != 0)=true:=by rw [bne_iff_ne];omega
   have AW:=hid (Cm w5 (oF.out _ XR.out));clear h0;go_wp2_with fail
   (with_reducible refine AW.out.mono ?_)
   rintro e w6 ⟨rfl,b6⟩;have HF:=hid (aZ XR.out b6);clear b6;go_wp2;go_ret;exact ⟨rfl,HF.out⟩
end Go.Proofs.YtclikfjalmcoaaaGreatDoor

