/- Contracts of tree.checkBlocks and Blocks: the first error of blocks; of a formula's check they ask the contract where there is a formula. The contract of tree.Check: the first error of a document. -/
import Derived.Test.YtdneicipdlofiaaGreatDoorKChU
import Derived.StillTailTactics
set_option maxHeartbeats 8000000
set_option maxRecDepth 100000
open Go.Lib (hid)
namespace Go.Proofs.YtdneicipdlofiaaGreatDoor
open List renaming getElem?_eq_getElem->joq
open Go.RowKit
set_option linter.unusedVariables false
set_option linter.unusedSimpArgs false
mutual
def ah.mth:ah->Bool
 | .mk k _ _ _ _ _ _ _ ks=>decide (k=4)||ah.zw ks
def ah.zw:List ah->Bool
 | []=>false
 | x::l=>x.mth||ah.zw l
end
theorem ah.Fz:∀ {l:List ah} {k:Nat} {x:ah},l[k]?=some x->x.mth=true->ah.zw l=true
 | [],_,_,h,_=>by simp at h
 | y::l,0,x,h,hx=>by simp at h;subst h;rw [ah.zw,hx];rfl
 | y::l,k+1,x,h,hx=>by rw [ah.zw,ah.Fz (l:=l) (k:=k) (by simpa using h) hx,Bool.or_true]
mutual
def ah.mid:ah->Prop
 | .mk k lv i t d ti a li ks=>i.size<=300/\t.size<=300/\d.size<=300/\ti.size<=300/\a.short/\aj.fD li/\ah.fD ks
def ah.fD:List ah->Prop
 | []=>True
 | x::l=>x.mid/\ah.fD l
end
mutual
theorem ah.Im:∀ (x:ah),x.small->x.mid
 | .mk k lv i t d ti a li ks,h=>by
  rw [ah.small] at h;rw [ah.mid];obtain ⟨h1,h2,h3,h4,h5,h6,h7,h8⟩:=h;exact ⟨h1,h2,h3,h4,h5,aj.gK li h6,ah.gK ks h8⟩
theorem ah.gK:∀ (l:List ah),ah.aG l->ah.fD l
 | [],_=>by rw [ah.fD];trivial
 | x::l,h=>by
  rw [ah.aG] at h;rw [ah.fD];exact ⟨ah.Im x h.1,ah.gK l h.2⟩
end
theorem ah.ng:∀ {l:List ah} {k:Nat} {x:ah},ah.fD l->l[k]?=some x->x.mid
 | [],_,_,_,h=>by simp at h
 | y::l,0,x,hb,h=>by simp at h;subst h;rw [ah.fD] at hb;exact hb.1
 | y::l,k+1,x,hb,h=>by rw [ah.fD] at hb;exact ah.ng (l:=l) (k:=k) hb.2 (by simpa using h)
theorem XQ {k lv:Int} {i t d ti:ByteArray} {a:At} {li:List aj} {ks:List ah} (h:(ah.mk k lv i t d ti a li ks).mid):BlM i t d ti a li/\ah.fD ks:=by unfold ah.mid at h;obtain ⟨h1,h2,h3,h4,h5,h6,h8⟩:=h;exact ⟨⟨h1,h2,h3,h4,h5,h6⟩,h8⟩
theorem CQ (cl:ByteArray->Bool) (par:Int) (dp:Nat) (k lv:Int) (i t d ti:ByteArray) (a:At) (li:List aj) (ks l:List ah) (Tq:¬ 15<dp) : ah.aT cl par dp (ah.mk k lv i t d ti a li ks::l)=if EH k lv i t d ti a li ks=false\/dD k par=false then 5 else if uX cl k lv i t d ti a li ks≠0 then uX cl k lv i t d ti a li ks else if ah.aT cl k (dp+1) ks≠0 then ah.aT cl k (dp+1) ks else ah.aT cl par dp l:=by
 rw [ah.aT,ah.err,if_neg Tq];by_cases h1:EH k lv i t d ti a li ks=false\/dD k par=false
 ·rw [if_pos h1,if_pos h1];rfl
 ·rw [if_neg h1,if_neg h1];by_cases h2:uX cl k lv i t d ti a li ks=0
  ·simp only [h2,ne_eq,not_true_eq_false,if_false]
  ·simp only [ne_eq,h2,not_false_eq_true,if_true]
def PS (cl:ByteArray->Bool) (l:List ah) (par:Int) (dp:Nat) (E:Nat) (w:World) (vi:Value) (wr:World):Prop:=∃ k:Nat,k<=l.length/\vi=.int .i64 k/\Below w.heap.size w wr/\ah.aT cl par dp (l.drop k)=E
theorem uO (cl:ByteArray->Bool) (n:Nat):∀ (l:List ah) (par:Int) (dp:Nat) (a:Option Addr) (cap:Nat) (w:World),ah.aX l<=n->dp<=1000000->ah.fD l->(ah.zw l=true->uf cl)->Rd (·<w.heap.size) w (om l) [.slice a l.length cap] -> Calls Tryz.prog 106 #[.slice a l.length cap,.int .i64 par,.int .i64 (dp:Int)] w (gu (.int .i64 (ah.aT cl par dp l:Nat)) w):=by
 induction n using Nat.strongRecOn with
 | _ n ih=>
  intro l par dp a cap w hn hdp hsm hmt h;obtain ⟨a',c',hv,hs⟩:=Rd.aC h;obtain ⟨rfl,rfl⟩:a'=a/\c'=cap:=by simp at hv;exact ⟨hv.1.symm,hv.2.symm⟩
  have hcap:l.length<=c':=by simpa using hs.le
  have hmx:=hs.max;unfold maxLen at hmx;have HS:=hid hs;have IH:=hid ih;have SM:=hid hsm;have MT:=hid hmt;obtain ⟨E,hE⟩:∃ E,ah.aT cl par dp l=E:=⟨_,rfl⟩;rw [hE];have R0:Hid (PS cl l par dp E w (.int .i64 0) w):=⟨0,Nat.zero_le _,rfl,Below.refl _ _,hE⟩;clear hs hv h ih hsm hmt hE;by_cases Tq:15<dp
  ·have q15:decide ((15:Int)<(dp:Int))=true:=by simp;omega
   go_enter Tryz.func106,Tryz.ntmps106;go_wp2
   go_loopw [13] (fun i wr=>PS cl l par dp E w i wr) (fun i _=>l.length-(intOf i).toNat)
   case atStart=>exact R0.out
   case round=>
    clear R0;obtain ⟨k,hk,rfl,hbel,aU⟩:=hrel;have HB:=hid hbel;by_cases hlt:k<l.length
    ·obtain ⟨x,hx⟩:∃ x,l[k]?=some x:=⟨_,joq hlt⟩;have HE:Hid (E=11):=by
      show E=11;rw [<- aU,NJ l k x hx,ah.aT];have:x.err cl par dp=11:=by cases x;rw [ah.err,if_pos Tq]
      rw [this];rfl
     clear aU hx;go_wp2;go_ret;exact ⟨by rw [HE.out];rfl,HB.out⟩
    ·have HE:Hid (E=0):=by
      show E=0;rw [<- aU,List.drop_of_length_le (by omega),ah.aT]
     clear aU;go_wp2;go_ret;exact ⟨by rw [HE.out];rfl,HB.out⟩
  ·have q15:decide ((15:Int)<(dp:Int))=false:=by simp;omega
   go_enter Tryz.func106,Tryz.ntmps106;go_wp2
   go_loopw [13] (fun i wr=>PS cl l par dp E w i wr) (fun i _=>l.length-(intOf i).toNat)
   case atStart=>exact R0.out
   case round=>
    clear R0;obtain ⟨k,hk,rfl,hbel,aU⟩:=hrel;have HB:=hid hbel;by_cases hlt:k<l.length
    ·obtain ⟨x,hx⟩:∃ x,l[k]?=some x:=⟨_,joq hlt⟩;have hxs:x.mid:=ah.ng SM.out hx;have hsz:=ah.bP l k _ hx;have hmg:=ah.Fz hx;rw [NJ l k x hx] at aU;obtain ⟨kd,lv,i,t,d,ti,at_,li,ks⟩:=x;rw [ah.sz] at hsz;obtain ⟨hbs,hks⟩:=XQ hxs;rw [CQ _ _ _ _ _ _ _ _ _ _ _ _ _ Tq] at aU;have BK:kd=4->uf cl:=fun e=>MT.out (hmg (by rw [ah.mth,decide_eq_true e];rfl))
     have hmk:ah.zw ks=true->uf cl:=fun e=>MT.out (hmg (by rw [ah.mth,e,Bool.or_true]))
     obtain ⟨b,off,ac,ap,al,ak,cc,cp,cl',ck,rfl,hP0⟩:=PO HS.out hx;have hP:=hP0.up hbel;have HP:=hid hP;have Nf:=hid (uM wr b (off+k*11) kd lv i t d ti at_ li ks ac ap al ak cc cp cl' ck hP);have FT:=hid (fun w=>Pv kd par w);have CI:=hid (fun wx (hb:Below wr.heap.size wr wx) hf=>xJ cl wx b (off+k*11) kd lv i t d ti at_ li ks ac ap al ak cc cp cl' ck (hP.up hb) hbs hf BK);have CK:=hid (fun wx (hb:Below wr.heap.size wr wx)=>IH.out (ah.aX ks) (by omega) ks kd (dp+1) ak ck wx (Nat.le_refl _) (by omega) hks hmk (hP.up hb).rd.kids);have cK:=hid aU;clear hxs hsz hmg hbs hks BK hmk hP hP0 aU hx hbel;cases hf:EH kd lv i t d ti at_ li ks with
     | false=>
      rw [hf] at Nf;have HE:Hid (E=5):=by show E=5;have:=cK.out;rw [if_pos (.inl hf)] at this;exact this.symm
      clear hf;go_wp2_with fail
      refine Nf.out.mono ?_;rintro e w2 ⟨rfl,hb2⟩;go_wp2;go_ret;exact ⟨by rw [HE.out];rfl,aP HB.out hb2⟩
     | true=>
      rw [hf] at Nf;cases hpl:dD kd par with
      | false=>
       rw [hpl] at FT;have HE:Hid (E=5):=by show E=5;have:=cK.out;rw [if_pos (.inr hpl)] at this;exact this.symm
       clear hf hpl;go_wp2_with fail
       refine Nf.out.mono ?_;rintro e w2 ⟨rfl,hb2⟩;obtain ⟨p0,p1,p2,p3,p4,p5,p6,p7,p8,p9,Gz⟩:=(HP.out.up hb2).cells;go_wp2_with fail
       refine (FT.out _).mono ?_;rintro e w3 ⟨rfl,hb3⟩;go_wp2;go_ret;exact ⟨by rw [HE.out];rfl,aP HB.out (aP hb2 hb3)⟩
      | true=>
       rw [hpl] at FT;have xH:Hid ((if uX cl kd lv i t d ti at_ li ks≠0 then uX cl kd lv i t d ti at_ li ks else if ah.aT cl kd (dp+1) ks≠0 then ah.aT cl kd (dp+1) ks else ah.aT cl par dp (l.drop (k+1)))=E):=by show _=_;have:=cK.out;rw [if_neg (by rw [hf,hpl];simp)] at this;exact this
       have Y2:=hid (fun wx hb=>CI.out wx hb hf);clear hf hpl cK CI;generalize uX cl kd lv i t d ti at_ li ks=E1 at *
       generalize ah.aT cl kd (dp+1) ks=E2 at *;obtain ⟨c0,c1,c2,c3,c4,c5,c6,c7,c8,c9,c10⟩:=HP.out.cells;go_wp2_with fail
       refine Nf.out.mono ?_;rintro e w2 ⟨rfl,hb2⟩;obtain ⟨p0,p1,p2,p3,p4,p5,p6,p7,p8,p9,Gz⟩:=(HP.out.up hb2).cells;go_wp2_with fail
       refine (FT.out _).mono ?_;rintro e w3 ⟨rfl,hb3⟩;have vv:=hid (aP hb2 hb3);have Tv:=hid (Y2.out _ vv.out);clear c0 c1 c2 c3 c4 c5 c6 c7 c8 c9 c10 p0 p1 p2 p3 p4 p5 p6 p7 p8 p9 Gz hb2 hb3 Y2;by_cases h1:E1=0
       ·have JZ:Hid ((if E2≠0 then E2 else ah.aT cl par dp (l.drop (k+1)))=E):=by
         show _=_;have:=xH.out;rw [if_neg (by simpa using h1)] at this;exact this
        subst h1;go_wp2_with fail
        refine Tv.out.mono ?_;rintro e w4 ⟨rfl,hb4⟩;have yK:=hid (aP vv.out hb4);obtain ⟨p0,p1,p2,p3,p4,p5,p6,p7,p8,p9,Gz⟩:=(HP.out.up yK.out).cells;have XR:Hid (Below wr.heap.size wr w4.drew):=eZ yK.out 1;have Tw:=hid (CK.out _ XR.out);clear Tv hb4 CK xH;by_cases h2:E2=0
        ·have XO:Hid (ah.aT cl par dp (l.drop (k+1))=E):=by
          show _=_;have:=JZ.out;rw [if_neg (by simpa using h2)] at this;exact this
         subst h2;go_upto_region 12 with (fail)
         go_still_tail 10,(by kernel_rfl)
         change wpList _ _ _ _ _ w4.drew;go_wp2_with fail
         refine Tw.out.mono ?_;rintro e w5 ⟨rfl,hb5⟩;have uU:=hid (aP XR.out hb5);clear Tw hb5;go_wp2;go_roundw;case rel=>exact ⟨k+1,by omega,by go_num,aP HB.out uU.out,XO.out⟩
         case measure=>simp [intOf];omega
        ·have XO:Hid (E=E2):=by
          show _=_;have:=JZ.out;rw [if_pos h2] at this;exact this.symm
         have hn2:((E2:Int) != 0)=true:=by rw [bne_iff_ne];omega
         clear h2;go_upto_region 12 with (fail)
         go_still_tail 10,(by kernel_rfl)
         change wpList _ _ _ _ _ w4.drew;go_wp2_with fail
         refine Tw.out.mono ?_;rintro e w5 ⟨rfl,hb5⟩;have uU:=hid (aP XR.out hb5);clear Tw hb5;go_wp2;go_ret;exact ⟨by rw [XO.out];rfl,aP HB.out uU.out⟩
       ·have JZ:Hid (E=E1):=by
         show _=_;have:=xH.out;rw [if_pos h1] at this;exact this.symm
        have hn1:((E1:Int) != 0)=true:=by rw [bne_iff_ne];omega
        clear h1;go_wp2_with fail
        refine Tv.out.mono ?_;rintro e w4 ⟨rfl,hb4⟩;have yK:=hid (aP vv.out hb4);clear Tv hb4;go_wp2;go_ret;exact ⟨by rw [JZ.out];rfl,aP HB.out yK.out⟩
    ·have HE:Hid (E=0):=by
      show E=0;rw [<- aU,List.drop_of_length_le (by omega),ah.aT]
     clear aU;go_wp2;go_ret;exact ⟨by rw [HE.out];rfl,HB.out⟩
theorem FD (cl:ByteArray->Bool) (l:List ah) (a:Option Addr) (cap:Nat) (w:World) (hsm:ah.fD l) (hm:ah.zw l=true->uf cl) (h:Rd (·<w.heap.size) w (om l) [.slice a l.length cap]) : Calls Tryz.prog 60 #[.slice a l.length cap] w (gu (.int .i64 (ah.aT cl 0 0 l:Nat)) w):=by
 have CK:=hid (uO cl _ l 0 0 a cap w (Nat.le_refl _) (by omega) hsm hm h);generalize ah.aT cl 0 0 l=E at *;clear h hsm hm;go_enter Tryz.func60,Tryz.ntmps60;go_wp2_with fail
 refine CK.out.mono ?_;rintro e w1 ⟨rfl,hb⟩;go_wp2;go_ret;exact ⟨rfl,hb⟩
open Go.RowKit
def eH (cl:ByteArray->Bool) (me:List Pr) (l:List ah):Nat:=
 if 32768<ah.aZ l\/64<me.length then 3 else if dR [] me≠0 then dR [] me else ah.aT cl 0 0 l
def Vr (T:TypeId) (p:Nat) (cs:List Value) (w:World) (mb:Nat) (l:List Pr) (E:Nat) (vi:Value) (wr:World):Prop:=
 ∃ k:Nat,k<=l.length/\vi=.int .i64 k/\Ng T p cs w mb k ((l.take k).map Pr.key).reverse wr/\dR ((l.take k).map Pr.key) (l.drop k)=E
theorem Ig (cl:ByteArray->Bool) (me:List Pr) (l:List ah) (am ab:Option Addr) (cm nb cb:Nat) (w:World) (hme:me.length<=1000) (ET:∀ p∈me,p.key.size<=1000/\p.val.size<=1000) (hall:ah.aZ l<=32768) (hsm:ah.fD l) (hm:ah.zw l=true->uf cl) (h1:Rd (·<w.heap.size) w (Co me) [.slice am me.length cm]) (h2:Rd (·<w.heap.size) w (om l) [.slice ab nb cb]) : Calls Tryz.prog 27 #[.agg #[.slice am me.length cm,.slice ab nb cb]] w (gu (.int .i64 (eH cl me l:Nat)) w):=by
 obtain ⟨a1,c1,hv1,hs1⟩:=Rd.aC h1;obtain ⟨rfl,rfl⟩:a1=am/\c1=cm:=by simp at hv1;exact ⟨hv1.1.symm,hv1.2.symm⟩
 obtain ⟨a2,c2,hv2,hs2⟩:=Rd.aC h2;obtain ⟨rfl,rfl,rfl⟩:a2=ab/\nb=l.length/\c2=cb:=by simp at hv2;exact ⟨hv2.1.symm,hv2.2.1,hv2.2.2.symm⟩
 have l1:me.length<=c1:=by simpa using hs1.le
 have m1:=hs1.max;unfold maxLen at m1;have Vf:=hid hs1;have SP:=hid ET;have HB:=hid h2;have SM:=hid hsm;have MA:=hid hm;obtain ⟨V,hV⟩:∃ V,V=eH cl me l:=⟨_,rfl⟩;have HE:Hid (V=eH cl me l):=hV;have Ws:=hid hall;rw [<- hV];clear hV hs1 ET h2 hsm hm h1 hv1 hv2 hall hs2;obtain ⟨w0,hw0⟩:∃ w0,w0=w.alloc (.cells #[.slice a1 me.length c1,.slice a2 l.length c2] 25):=⟨_,rfl⟩;have hb0:Below w.heap.size w w0:=by rw [hw0];exact (Below.refl _ _).alloc (Nat.le_refl _) _
 have k1:CB 25 w.heap.size [.slice a1 me.length c1,.slice a2 l.length c2] w0:=by rw [hw0];exact CB.new _ _ _
 have SZ:=hid (Md l a1 a2 me.length c1 l.length c2 w0 (by have:=Ws.out;omega) (HB.out.up hb0));have x0:=k1.cell 0 _ rfl;have x1:=k1.cell 1 _ rfl;have HK:=hid k1;have HB0:=hid hb0;have hall:=Ws.out;obtain ⟨N,hN⟩:∃ N,N=ah.aZ l:=⟨_,rfl⟩;have HN:Hid (N=ah.aZ l):=hN;rw [<- hN] at SZ hall;have hb3:decide ((32768:Int)<(N:Int))=false:=by simp;omega
 clear k1 hb0 hN hall;go_enter Tryz.func27,Tryz.ntmps27;go_upto_region 1 with (fail)
 rw [<- hw0];clear hw0;go_wp2_with fail
 refine SZ.out.mono ?_;rintro e w1 ⟨rfl,b1⟩;have K1:=hid (HK.out.below b1);have B1:=hid (aP HB0.out b1);have x0:=K1.out.cell 0 _ rfl;have x1:=K1.out.cell 1 _ rfl;have LT:=hid K1.out.lt;clear SZ;by_cases hml:64<me.length
 ·have q1:decide ((64:Int)<(me.length:Int))=true:=by simp;omega
  have HV:Hid (V=3):=by show V=3;rw [HE.out,eH,if_pos (.inr hml)]
  clear b1;go_wp2;go_ret;exact ⟨by rw [HV.out];rfl,B1.out⟩
 ·have q1:decide ((64:Int)<(me.length:Int))=false:=by simp;omega
  have HE2:Hid (V=if dR [] me≠0 then dR [] me else ah.aT cl 0 0 l):=by show V=_;rw [HE.out,eH,if_neg (by have:=Ws.out;omega)]
  obtain ⟨w2,hw2⟩:∃ w2,w2=w1.alloc (.map #[] 0):=⟨_,rfl⟩;have b2:Below w1.heap.size w1 w2:=by rw [hw2];exact (Below.refl _ _).alloc (Nat.le_refl _) _
  have K2:=hid (K1.out.below b2);have R0:Hid (Vr 25 w.heap.size [.slice a1 me.length c1,.slice a2 l.length c2] w w1.heap.size me (dR [] me) (.int .i64 0) w2):=by
   refine ⟨0,Nat.zero_le _,rfl,⟨K2.out,?_,aP B1.out b2,B1.out.size,?_,Nat.le_refl _⟩,rfl⟩
   ·rw [hw2];exact bT.made w1
   ·have:=LT.out;omega
  have x0':=K2.out.cell 0 _ rfl;have x1':=K2.out.cell 1 _ rfl;obtain ⟨E1,hE1⟩:∃ E1,E1=dR [] me:=⟨_,rfl⟩;rw [<- hE1] at HE2 R0;have hmm:=@run_makeMap Tryz.prog;clear hE1 hml b1 b2;go_upto_region 4 with (fail)
  rw [<- hw2];clear hmm hw2 x0 x1;go_wp2
  go_loopw [19] (fun i wr=>Vr 25 w.heap.size [.slice a1 me.length c1,.slice a2 l.length c2] w w1.heap.size me E1 i wr) (fun i _=>me.length-(intOf i).toNat)
  case atStart=>exact R0.out
  case round=>
   clear R0 x0' x1';obtain ⟨k,hk,rfl,rT,aU⟩:=hrel;have Tz:=hid rT;by_cases hlt:k<me.length
   ·obtain ⟨x,hx⟩:∃ x,me[k]?=some x:=⟨_,joq hlt⟩;obtain ⟨b,off,rfl,-,-,c0,c1'⟩:=CU Vf.out hx;have c0:wr.cell? ⟨b,off+k*2,none⟩=some (.string x.key):=by rw [rT.2.2.1.cell (p:=⟨b,off+k*2,none⟩) (jY c0)];exact c0
    have c1':wr.cell? ⟨b,off+k*2+1,none⟩=some (.string x.val):=by rw [rT.2.2.1.cell (p:=⟨b,off+k*2+1,none⟩) (jY c1')];exact c1'
    have hxs:=SP.out x (List.mem_of_getElem? hx);have HX:=hid hx;have cK:Hid (dR ((me.take k).map Pr.key) (x::me.drop (k+1))=E1):=by show _=_;rw [<- NJ me k x hx];exact aU
    obtain ⟨key,val⟩:=x;dsimp only at c0 c1' hxs;have CN:=hid (fun w=>MV key w (by omega));have CV:=hid (fun w=>PD val w (by omega));have CT:=hid (fun w=>iV val w (by omega));have Jv:Hid ((me.take (k+1)).map Pr.key=(me.take k).map Pr.key++[key]):=by show _=_;rw [List.take_add_one,HX.out];simp
    obtain ⟨wi,hwi⟩:∃ wi,wi=wr.alloc (.cells #[.string key,.string val] 60):=⟨_,rfl⟩;have DJ:=rT.alloc (.cells #[.string key,.string val] 60);rw [<- hwi] at DJ;have i0:wi.cell? ⟨wr.heap.size,0,none⟩=some (.string key):=by rw [hwi];exact q16 wr [.string key,.string val] _ 0 _ rfl
    have i1:wi.cell? ⟨wr.heap.size,1,none⟩=some (.string val):=by rw [hwi];exact q16 wr [.string key,.string val] _ 1 _ rfl
    have Q8:=hid DJ;clear aU rT hx;cases hn:fO key with
    | false=>
     rw [hn] at CN;have HV:Hid (V=6):=by show V=6;have:=cK.out;rw [dR,if_pos hn] at this;rw [HE2.out,<- this];rfl
     clear hn;go_upto_region 7 with (fail)
     rw [<- hwi];clear hwi DJ;go_wp2_with fail
     refine (CN.out _).mono ?_;rintro e w3 ⟨rfl,rfl⟩;go_wp2;go_ret;exact ⟨by rw [HV.out];rfl,Q8.out.2.2.1⟩
    | true=>
     rw [hn] at CN;cases hln:iA val with
     | false=>
      rw [hln] at CV;have HV:Hid (V=17):=by show V=17;have:=cK.out;rw [dR,if_neg (by rw [hn];decide),if_pos (.inl hln)] at this;rw [HE2.out,<- this];rfl
      clear hn hln;go_upto_region 7 with (fail)
      rw [<- hwi];clear hwi DJ;go_wp2_with fail
      refine (CN.out _).mono ?_;rintro e w3 ⟨rfl,rfl⟩;go_wp2_with fail
      refine (CV.out _).mono ?_;rintro e w3 ⟨rfl,q,rfl⟩;go_wp2;go_ret;exact ⟨by rw [HV.out];rfl,eZ Q8.out.2.2.1 q⟩
     | true=>
      rw [hln] at CV;cases htr:trimS val with
      | false=>
       rw [htr] at CT;have HV:Hid (V=17):=by show V=17;have:=cK.out;rw [dR,if_neg (by rw [hn];decide),if_pos (.inr htr)] at this;rw [HE2.out,<- this];rfl
       clear hn hln htr;go_upto_region 7 with (fail)
       rw [<- hwi];clear hwi DJ;go_wp2_with fail
       refine (CN.out _).mono ?_;rintro e w3 ⟨rfl,rfl⟩;go_wp2_with fail
       refine (CV.out _).mono ?_;rintro e w3 ⟨rfl,q,rfl⟩;go_wp2_with fail
       refine (CT.out _).mono ?_;rintro e w3 ⟨rfl,rfl⟩;go_wp2;go_ret;exact ⟨by rw [HV.out];rfl,eZ Q8.out.2.2.1 q⟩
      | true=>
       rw [htr] at CT;have HLK:=hid (fun q=>(DJ.drewN q).2.1.look key (by unfold maxLen;omega));have XT:=hid (fun q=>(DJ.drewN q).2.1.put key (by unfold maxLen;omega) (by unfold maxLen;omega));have hor:¬ (iA val=false\/trimS val=false):=by rw [hln,htr];decide
       cases hb:fu ((me.take k).map Pr.key) key with
       | true=>
        have HV:Hid (V=7):=by show V=7;have:=cK.out;rw [dR,if_neg (by rw [hn];decide),if_neg hor,if_pos hb] at this;rw [HE2.out,<- this];rfl
        have DK:=hid hb;clear hn hln hb htr hor;go_upto_region 7 with (fail)
        rw [<- hwi];clear hwi DJ;go_wp2_with fail
        refine (CN.out _).mono ?_;rintro e w3 ⟨rfl,rfl⟩;go_wp2_with fail
        refine (CV.out _).mono ?_;rintro e w3 ⟨rfl,q,rfl⟩;go_wp2_with fail
        refine (CT.out _).mono ?_;rintro e w3 ⟨rfl,rfl⟩;have hlk:=HLK.out q;rw [kE,DK.out] at hlk;go_wp2;go_ret;exact ⟨by rw [HV.out];rfl,eZ Q8.out.2.2.1 q⟩
       | false=>
        have Hg:Hid (dR ((me.take (k+1)).map Pr.key) (me.drop (k+1))=E1):=by show _=_;have:=cK.out;rw [dR,if_neg (by rw [hn];decide),if_neg hor,if_neg (by rw [hb];decide)] at this;rw [Jv.out];exact this
        have DK:=hid hb;clear hn hln hb htr hor;go_upto_region 7 with (fail)
        rw [<- hwi];clear hwi DJ;go_wp2_with fail
        refine (CN.out _).mono ?_;rintro e w3 ⟨rfl,rfl⟩;go_wp2_with fail
        refine (CV.out _).mono ?_;rintro e w3 ⟨rfl,q,rfl⟩;go_wp2_with fail
        refine (CT.out _).mono ?_;rintro e w3 ⟨rfl,rfl⟩;have hlk:=HLK.out q;rw [kE,DK.out] at hlk;obtain ⟨w',hup,hS',hg⟩:=XT.out q;have HN':=hid ((Q8.out.drewN q).put hg hS');clear hS' hg;go_wp2;go_roundw;case rel=>exact ⟨k+1,by omega,by go_num,by rw [Jv.out,List.reverse_append];exact HN'.out,Hg.out⟩
        case measure=>simp [intOf];omega
   ·obtain rfl:k=me.length:=by omega
    have HV:Hid (V=ah.aT cl 0 0 l):=by show V=_;rw [List.drop_length,dR] at aU;rw [HE2.out,<- aU];rfl
    have p1:wr.cell? ⟨w.heap.size,1,none⟩=some (.slice a2 l.length c2):=rT.1.cell 1 _ rfl;have TB:=hid (FD cl l a2 c2 wr SM.out MA.out (HB.out.up rT.2.2.1));rw [<- HV.out] at TB;clear aU rT hk hlt;go_wp2_with fail
    refine TB.out.mono ?_;rintro e w4 ⟨rfl,b4⟩;go_wp2;go_ret;exact ⟨rfl,aP Tz.out.2.2.1 b4⟩
end Go.Proofs.YtdneicipdlofiaaGreatDoor

