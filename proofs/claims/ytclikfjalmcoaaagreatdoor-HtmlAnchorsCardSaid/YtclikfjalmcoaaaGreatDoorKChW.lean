/- Contracts of tree.checkBlocks and Blocks: the first error of blocks; of a formula's check they ask the contract where there is a formula. The contract of tree.Check: the first error of a document. -/
import Derived.Test.YtclikfjalmcoaaaGreatDoorKRfJ
import Derived.StillTailTactics
set_option maxHeartbeats 8000000
set_option maxRecDepth 100000
open Go.Lib (hid)
namespace Go.Proofs.YtclikfjalmcoaaaGreatDoor
open List renaming getElem?_eq_getElem->je6
open Go.RowKit
set_option linter.unusedVariables false
set_option linter.unusedSimpArgs false
mutual
def ah.Xj:ah->Bool
 | .mk k _ _ _ _ _ _ _ ks=>decide (k=4)||ah.vZ ks
def ah.vZ:List ah->Bool
 | []=>false
 | x::l=>x.Xj||ah.vZ l
end
theorem ah.AX:∀ {l:List ah} {k:Nat} {x:ah},l[k]?=some x->x.Xj=true->ah.vZ l=true
 | [],_,_,h,_=>by simp at h
 | y::l,0,x,h,hx=>by simp at h;subst h;rw [ah.vZ,hx];rfl
 | y::l,k+1,x,h,hx=>by rw [ah.vZ,ah.AX (l:=l) (k:=k) (by simpa using h) hx,Bool.or_true]
mutual
def ah.mid:ah->Prop
 | .mk k lv i t d ti a li ks=>i.size<=300/\t.size<=300/\d.size<=300/\ti.size<=300/\a.short/\aj.fV li/\ah.fV ks
def ah.fV:List ah->Prop
 | []=>True
 | x::l=>x.mid/\ah.fV l
end
mutual
theorem ah.Dw:∀ (x:ah),x.small->x.mid
 | .mk k lv i t d ti a li ks,h=>by
  rw [ah.small] at h;rw [ah.mid];obtain ⟨h1,h2,h3,h4,h5,h6,h7,h8⟩:=h;exact ⟨h1,h2,h3,h4,h5,aj.ji li h6,ah.ji ks h8⟩
theorem ah.ji:∀ (l:List ah),ah.ay l->ah.fV l
 | [],_=>by rw [ah.fV];trivial
 | x::l,h=>by
  rw [ah.ay] at h;rw [ah.fV];exact ⟨ah.Dw x h.1,ah.ji l h.2⟩
end
theorem ah.kU:∀ {l:List ah} {k:Nat} {x:ah},ah.fV l->l[k]?=some x->x.mid
 | [],_,_,_,h=>by simp at h
 | y::l,0,x,hb,h=>by simp at h;subst h;rw [ah.fV] at hb;exact hb.1
 | y::l,k+1,x,hb,h=>by rw [ah.fV] at hb;exact ah.kU (l:=l) (k:=k) hb.2 (by simpa using h)
theorem QD {k lv:Int} {i t d ti:ByteArray} {a:At} {li:List aj} {ks:List ah} (h:(ah.mk k lv i t d ti a li ks).mid):BlM i t d ti a li/\ah.fV ks:=by unfold ah.mid at h;obtain ⟨h1,h2,h3,h4,h5,h6,h8⟩:=h;exact ⟨⟨h1,h2,h3,h4,h5,h6⟩,h8⟩
theorem yD (cl:ByteArray->Bool) (par:Int) (dp:Nat) (k lv:Int) (i t d ti:ByteArray) (a:At) (li:List aj) (ks l:List ah) (wh:¬ 15<dp) : ah.aQ cl par dp (ah.mk k lv i t d ti a li ks::l)=if wm k lv i t d ti a li ks=false\/dA k par=false then 5 else if rV cl k lv i t d ti a li ks≠0 then rV cl k lv i t d ti a li ks else if ah.aQ cl k (dp+1) ks≠0 then ah.aQ cl k (dp+1) ks else ah.aQ cl par dp l:=by
 rw [ah.aQ,ah.err,if_neg wh];by_cases h1:wm k lv i t d ti a li ks=false\/dA k par=false
 ·rw [if_pos h1,if_pos h1];rfl
 ·rw [if_neg h1,if_neg h1];by_cases h2:rV cl k lv i t d ti a li ks=0
  ·simp only [h2,ne_eq,not_true_eq_false,if_false]
  ·simp only [ne_eq,h2,not_false_eq_true,if_true]
def Jm (cl:ByteArray->Bool) (l:List ah) (par:Int) (dp:Nat) (E:Nat) (w:World) (vi:Value) (wr:World):Prop:=∃ k:Nat,k<=l.length/\vi=.int .i64 k/\Below w.heap.size w wr/\ah.aQ cl par dp (l.drop k)=E
theorem rM (cl:ByteArray->Bool) (n:Nat):∀ (l:List ah) (par:Int) (dp:Nat) (a:Option Addr) (cap:Nat) (w:World),ah.aS l<=n->dp<=1000000->ah.fV l->(ah.vZ l=true->qL cl)->Rd (·<w.heap.size) w (nR l) [.slice a l.length cap] -> Calls Tryz.prog 105 #[.slice a l.length cap,.int .i64 par,.int .i64 (dp:Int)] w (dR (.int .i64 (ah.aQ cl par dp l:Nat)) w):=by
 induction n using Nat.strongRecOn with
 | _ n ih=>
  intro l par dp a cap w hn hdp hsm hmt h;obtain ⟨a',c',hv,hs⟩:=Rd.aC h;obtain ⟨rfl,rfl⟩:a'=a/\c'=cap:=by simp at hv;exact ⟨hv.1.symm,hv.2.symm⟩
  have hcap:l.length<=c':=by simpa using hs.le
  have hmx:=hs.max;unfold maxLen at hmx;have HS:=hid hs;have IH:=hid ih;have SM:=hid hsm;have MT:=hid hmt;obtain ⟨E,hE⟩:∃ E,ah.aQ cl par dp l=E:=⟨_,rfl⟩;rw [hE];have R0:Hid (Jm cl l par dp E w (.int .i64 0) w):=⟨0,Nat.zero_le _,rfl,Below.refl _ _,hE⟩;clear hs hv h ih hsm hmt hE;by_cases wh:15<dp
  ·have Tp:decide ((15:Int)<(dp:Int))=true:=by simp;omega
   go_enter Tryz.func105,Tryz.ntmps105;go_wp2
   go_loopw [13] (fun i wr=>Jm cl l par dp E w i wr) (fun i _=>l.length-(intOf i).toNat)
   case atStart=>exact R0.out
   case round=>
    clear R0;obtain ⟨k,hk,rfl,hbel,bq⟩:=hrel;have HB:=hid hbel;by_cases hlt:k<l.length
    ·obtain ⟨x,hx⟩:∃ x,l[k]?=some x:=⟨_,je6 hlt⟩;have HE:Hid (E=11):=by
      show E=11;rw [<- bq,MP l k x hx,ah.aQ];have:x.err cl par dp=11:=by cases x;rw [ah.err,if_pos wh]
      rw [this];rfl
     clear bq hx;go_wp2;go_ret;exact ⟨by rw [HE.out];rfl,HB.out⟩
    ·have HE:Hid (E=0):=by
      show E=0;rw [<- bq,List.drop_of_length_le (by omega),ah.aQ]
     clear bq;go_wp2;go_ret;exact ⟨by rw [HE.out];rfl,HB.out⟩
  ·have Tp:decide ((15:Int)<(dp:Int))=false:=by simp;omega
   go_enter Tryz.func105,Tryz.ntmps105;go_wp2
   go_loopw [13] (fun i wr=>Jm cl l par dp E w i wr) (fun i _=>l.length-(intOf i).toNat)
   case atStart=>exact R0.out
   case round=>
    clear R0;obtain ⟨k,hk,rfl,hbel,bq⟩:=hrel;have HB:=hid hbel;by_cases hlt:k<l.length
    ·obtain ⟨x,hx⟩:∃ x,l[k]?=some x:=⟨_,je6 hlt⟩;have hxs:x.mid:=ah.kU SM.out hx;have hsz:=ah.aZ l k _ hx;have YE:=ah.AX hx;rw [MP l k x hx] at bq;obtain ⟨kd,lv,i,t,d,ti,at_,li,ks⟩:=x;rw [ah.sz] at hsz;obtain ⟨hbs,hks⟩:=QD hxs;rw [yD _ _ _ _ _ _ _ _ _ _ _ _ _ wh] at bq;have OZ:kd=4->qL cl:=fun e=>MT.out (YE (by rw [ah.Xj,decide_eq_true e];rfl))
     have hmk:ah.vZ ks=true->qL cl:=fun e=>MT.out (YE (by rw [ah.Xj,e,Bool.or_true]))
     obtain ⟨b,off,ac,ap,al,ak,cc,cp,cl',ck,rfl,Uo⟩:=Jo HS.out hx;have hP:=Uo.up hbel;have HP:=hid hP;have IY:=hid (rO wr b (off+k*11) kd lv i t d ti at_ li ks ac ap al ak cc cp cl' ck hP);have FT:=hid (fun w=>Jp kd par w);have CI:=hid (fun wx (hb:Below wr.heap.size wr wx) hf=>sV cl wx b (off+k*11) kd lv i t d ti at_ li ks ac ap al ak cc cp cl' ck (hP.up hb) hbs hf OZ);have CK:=hid (fun wx (hb:Below wr.heap.size wr wx)=>IH.out (ah.aS ks) (by omega) ks kd (dp+1) ak ck wx (Nat.le_refl _) (by omega) hks hmk (hP.up hb).rd.kids);have eX:=hid bq;clear hxs hsz YE hbs hks OZ hmk hP Uo bq hx hbel;cases hf:wm kd lv i t d ti at_ li ks with
     | false=>
      rw [hf] at IY;have HE:Hid (E=5):=by show E=5;have:=eX.out;rw [if_pos (.inl hf)] at this;exact this.symm
      clear hf;go_wp2_with fail
      refine IY.out.mono ?_;rintro e w2 ⟨rfl,hb2⟩;go_wp2;go_ret;exact ⟨by rw [HE.out];rfl,aU HB.out hb2⟩
     | true=>
      rw [hf] at IY;cases hpl:dA kd par with
      | false=>
       rw [hpl] at FT;have HE:Hid (E=5):=by show E=5;have:=eX.out;rw [if_pos (.inr hpl)] at this;exact this.symm
       clear hf hpl;go_wp2_with fail
       refine IY.out.mono ?_;rintro e w2 ⟨rfl,hb2⟩;obtain ⟨p0,p1,p2,p3,p4,p5,p6,p7,p8,p9,G5⟩:=(HP.out.up hb2).cells;go_wp2_with fail
       refine (FT.out _).mono ?_;rintro e w3 ⟨rfl,hb3⟩;go_wp2;go_ret;exact ⟨by rw [HE.out];rfl,aU HB.out (aU hb2 hb3)⟩
      | true=>
       rw [hpl] at FT;have sW:Hid ((if rV cl kd lv i t d ti at_ li ks≠0 then rV cl kd lv i t d ti at_ li ks else if ah.aQ cl kd (dp+1) ks≠0 then ah.aQ cl kd (dp+1) ks else ah.aQ cl par dp (l.drop (k+1)))=E):=by show _=_;have:=eX.out;rw [if_neg (by rw [hf,hpl];simp)] at this;exact this
       have Tq:=hid (fun wx hb=>CI.out wx hb hf);clear hf hpl eX CI;generalize rV cl kd lv i t d ti at_ li ks=E1 at *
       generalize ah.aQ cl kd (dp+1) ks=E2 at *;obtain ⟨c0,c1,c2,c3,c4,c5,c6,c7,c8,c9,c10⟩:=HP.out.cells;go_wp2_with fail
       refine IY.out.mono ?_;rintro e w2 ⟨rfl,hb2⟩;obtain ⟨p0,p1,p2,p3,p4,p5,p6,p7,p8,p9,G5⟩:=(HP.out.up hb2).cells;go_wp2_with fail
       refine (FT.out _).mono ?_;rintro e w3 ⟨rfl,hb3⟩;have lU:=hid (aU hb2 hb3);have MQ:=hid (Tq.out _ lU.out);clear c0 c1 c2 c3 c4 c5 c6 c7 c8 c9 c10 p0 p1 p2 p3 p4 p5 p6 p7 p8 p9 G5 hb2 hb3 Tq;by_cases h1:E1=0
       ·have FD:Hid ((if E2≠0 then E2 else ah.aQ cl par dp (l.drop (k+1)))=E):=by
         show _=_;have:=sW.out;rw [if_neg (by simpa using h1)] at this;exact this
        subst h1;go_wp2_with fail
        refine MQ.out.mono ?_;rintro e w4 ⟨rfl,hb4⟩;have yE:=hid (aU lU.out hb4);obtain ⟨p0,p1,p2,p3,p4,p5,p6,p7,p8,p9,G5⟩:=(HP.out.up yE.out).cells;have QE:Hid (Below wr.heap.size wr w4.drew):=gV yE.out 1;have MR:=hid (CK.out _ QE.out);clear MQ hb4 CK sW;by_cases h2:E2=0
        ·have QF:Hid (ah.aQ cl par dp (l.drop (k+1))=E):=by
          show _=_;have:=FD.out;rw [if_neg (by simpa using h2)] at this;exact this
         subst h2;go_upto_region 12 with (fail)
         go_still_tail 10,(by kernel_rfl)
         change wpList _ _ _ _ _ w4.drew;go_wp2_with fail
         refine MR.out.mono ?_;rintro e w5 ⟨rfl,hb5⟩;have Jq:=hid (aU QE.out hb5);clear MR hb5;go_wp2;go_roundw;case rel=>exact ⟨k+1,by omega,by go_num,aU HB.out Jq.out,QF.out⟩
         case measure=>simp [intOf];omega
        ·have QF:Hid (E=E2):=by
          show _=_;have:=FD.out;rw [if_pos h2] at this;exact this.symm
         have hn2:((E2:Int) != 0)=true:=by rw [bne_iff_ne];omega
         clear h2;go_upto_region 12 with (fail)
         go_still_tail 10,(by kernel_rfl)
         change wpList _ _ _ _ _ w4.drew;go_wp2_with fail
         refine MR.out.mono ?_;rintro e w5 ⟨rfl,hb5⟩;have Jq:=hid (aU QE.out hb5);clear MR hb5;go_wp2;go_ret;exact ⟨by rw [QF.out];rfl,aU HB.out Jq.out⟩
       ·have FD:Hid (E=E1):=by
         show _=_;have:=sW.out;rw [if_pos h1] at this;exact this.symm
        have hn1:((E1:Int) != 0)=true:=by rw [bne_iff_ne];omega
        clear h1;go_wp2_with fail
        refine MQ.out.mono ?_;rintro e w4 ⟨rfl,hb4⟩;have yE:=hid (aU lU.out hb4);clear MQ hb4;go_wp2;go_ret;exact ⟨by rw [FD.out];rfl,aU HB.out yE.out⟩
    ·have HE:Hid (E=0):=by
      show E=0;rw [<- bq,List.drop_of_length_le (by omega),ah.aQ]
     clear bq;go_wp2;go_ret;exact ⟨by rw [HE.out];rfl,HB.out⟩
theorem AY (cl:ByteArray->Bool) (l:List ah) (a:Option Addr) (cap:Nat) (w:World) (hsm:ah.fV l) (hm:ah.vZ l=true->qL cl) (h:Rd (·<w.heap.size) w (nR l) [.slice a l.length cap]) : Calls Tryz.prog 54 #[.slice a l.length cap] w (dR (.int .i64 (ah.aQ cl 0 0 l:Nat)) w):=by
 have CK:=hid (rM cl _ l 0 0 a cap w (Nat.le_refl _) (by omega) hsm hm h);generalize ah.aQ cl 0 0 l=E at *;clear h hsm hm;go_enter Tryz.func54,Tryz.ntmps54;go_wp2_with fail
 refine CK.out.mono ?_;rintro e w1 ⟨rfl,hb⟩;go_wp2;go_ret;exact ⟨rfl,hb⟩
theorem qM (cl:ByteArray->Bool) (l:List ah) (a:Option Addr) (cap:Nat) (w:World) (hsm:ah.ay l) (hm:ah.vZ l=true->qL cl) (h:Rd (·<w.heap.size) w (nR l) [.slice a l.length cap]) : Calls Tryz.prog 54 #[.slice a l.length cap] w (dR (.int .i64 (ah.aQ cl 0 0 l:Nat)) w):=AY cl l a cap w (ah.ji l hsm) hm h
open Go.RowKit
def gY (cl:ByteArray->Bool) (me:List Pr) (l:List ah):Nat:=
 if 32768<ah.bJ l\/64<me.length then 3 else if dN [] me≠0 then dN [] me else ah.aQ cl 0 0 l
def O4 (T:TypeId) (p:Nat) (cs:List Value) (w:World) (mb:Nat) (l:List Pr) (E:Nat) (vi:Value) (wr:World):Prop:=
 ∃ k:Nat,k<=l.length/\vi=.int .i64 k/\IZ T p cs w mb k ((l.take k).map Pr.key).reverse wr/\dN ((l.take k).map Pr.key) (l.drop k)=E
theorem Dx (cl:ByteArray->Bool) (me:List Pr) (l:List ah) (am ab:Option Addr) (cm nb cb:Nat) (w:World) (hme:me.length<=1000) (mH:∀ p∈me,p.key.size<=1000/\p.val.size<=1000) (hall:ah.bJ l<=32768) (hsm:ah.ay l) (hm:ah.vZ l=true->qL cl) (h1:Rd (·<w.heap.size) w (bS me) [.slice am me.length cm]) (h2:Rd (·<w.heap.size) w (nR l) [.slice ab nb cb]) : Calls Tryz.prog 65 #[.agg #[.slice am me.length cm,.slice ab nb cb]] w (dR (.int .i64 (gY cl me l:Nat)) w):=by
 obtain ⟨a1,c1,hv1,hs1⟩:=Rd.aC h1;obtain ⟨rfl,rfl⟩:a1=am/\c1=cm:=by simp at hv1;exact ⟨hv1.1.symm,hv1.2.symm⟩
 obtain ⟨a2,c2,hv2,hs2⟩:=Rd.aC h2;obtain ⟨rfl,rfl,rfl⟩:a2=ab/\nb=l.length/\c2=cb:=by simp at hv2;exact ⟨hv2.1.symm,hv2.2.1,hv2.2.2.symm⟩
 have l1:me.length<=c1:=by simpa using hs1.le
 have m1:=hs1.max;unfold maxLen at m1;have HS1:=hid hs1;have SP:=hid mH;have HB:=hid h2;have SM:=hid hsm;have MA:=hid hm;obtain ⟨V,hV⟩:∃ V,V=gY cl me l:=⟨_,rfl⟩;have HE:Hid (V=gY cl me l):=hV;have YF:=hid hall;rw [<- hV];clear hV hs1 mH h2 hsm hm h1 hv1 hv2 hall hs2;obtain ⟨w0,hw0⟩:∃ w0,w0=w.alloc (.cells #[.slice a1 me.length c1,.slice a2 l.length c2] 32):=⟨_,rfl⟩;have hb0:Below w.heap.size w w0:=by rw [hw0];exact (Below.refl _ _).alloc (Nat.le_refl _) _
 have k1:CB 32 w.heap.size [.slice a1 me.length c1,.slice a2 l.length c2] w0:=by rw [hw0];exact CB.new _ _ _
 have SZ:=hid (G6 l a1 a2 me.length c1 l.length c2 w0 (by have:=YF.out;omega) (HB.out.up hb0));have x0:=k1.cell 0 _ rfl;have x1:=k1.cell 1 _ rfl;have HK:=hid k1;have HB0:=hid hb0;have hall:=YF.out;obtain ⟨N,hN⟩:∃ N,N=ah.bJ l:=⟨_,rfl⟩;have HN:Hid (N=ah.bJ l):=hN;rw [<- hN] at SZ hall;have hb3:decide ((32768:Int)<(N:Int))=false:=by simp;omega
 clear k1 hb0 hN hall;go_enter Tryz.func65,Tryz.ntmps65;go_upto_region 1 with (fail)
 rw [<- hw0];clear hw0;go_wp2_with fail
 refine SZ.out.mono ?_;rintro e w1 ⟨rfl,b1⟩;have K1:=hid (HK.out.below b1);have B1:=hid (aU HB0.out b1);have x0:=K1.out.cell 0 _ rfl;have x1:=K1.out.cell 1 _ rfl;have LT:=hid K1.out.lt;clear SZ;by_cases hml:64<me.length
 ·have q1:decide ((64:Int)<(me.length:Int))=true:=by simp;omega
  have HV:Hid (V=3):=by show V=3;rw [HE.out,gY,if_pos (.inr hml)]
  clear b1;go_wp2;go_ret;exact ⟨by rw [HV.out];rfl,B1.out⟩
 ·have q1:decide ((64:Int)<(me.length:Int))=false:=by simp;omega
  have HE2:Hid (V=if dN [] me≠0 then dN [] me else ah.aQ cl 0 0 l):=by show V=_;rw [HE.out,gY,if_neg (by have:=YF.out;omega)]
  obtain ⟨w2,hw2⟩:∃ w2,w2=w1.alloc (.map #[] 0):=⟨_,rfl⟩;have b2:Below w1.heap.size w1 w2:=by rw [hw2];exact (Below.refl _ _).alloc (Nat.le_refl _) _
  have K2:=hid (K1.out.below b2);have R0:Hid (O4 32 w.heap.size [.slice a1 me.length c1,.slice a2 l.length c2] w w1.heap.size me (dN [] me) (.int .i64 0) w2):=by
   refine ⟨0,Nat.zero_le _,rfl,⟨K2.out,?_,aU B1.out b2,B1.out.size,?_,Nat.le_refl _⟩,rfl⟩
   ·rw [hw2];exact dS.made w1
   ·have:=LT.out;omega
  have x0':=K2.out.cell 0 _ rfl;have x1':=K2.out.cell 1 _ rfl;obtain ⟨E1,hE1⟩:∃ E1,E1=dN [] me:=⟨_,rfl⟩;rw [<- hE1] at HE2 R0;have hmm:=@run_makeMap Tryz.prog;clear hE1 hml b1 b2;go_upto_region 4 with (fail)
  rw [<- hw2];clear hmm hw2 x0 x1;go_wp2
  go_loopw [19] (fun i wr=>O4 32 w.heap.size [.slice a1 me.length c1,.slice a2 l.length c2] w w1.heap.size me E1 i wr) (fun i _=>me.length-(intOf i).toNat)
  case atStart=>exact R0.out
  case round=>
   clear R0 x0' x1';obtain ⟨k,hk,rfl,pK,bq⟩:=hrel;have MS:=hid pK;by_cases hlt:k<me.length
   ·obtain ⟨x,hx⟩:∃ x,me[k]?=some x:=⟨_,je6 hlt⟩;obtain ⟨b,off,rfl,-,-,c0,c1'⟩:=pW HS1.out hx;have c0:wr.cell? ⟨b,off+k*2,none⟩=some (.string x.key):=by rw [pK.2.2.1.cell (p:=⟨b,off+k*2,none⟩) (Dc c0)];exact c0
    have c1':wr.cell? ⟨b,off+k*2+1,none⟩=some (.string x.val):=by rw [pK.2.2.1.cell (p:=⟨b,off+k*2+1,none⟩) (Dc c1')];exact c1'
    have hxs:=SP.out x (List.mem_of_getElem? hx);have HX:=hid hx;have eX:Hid (dN ((me.take k).map Pr.key) (x::me.drop (k+1))=E1):=by show _=_;rw [<- MP me k x hx];exact bq
    obtain ⟨key,val⟩:=x;dsimp only at c0 c1' hxs;have CN:=hid (fun w=>IW key w (by omega));have CV:=hid (fun w=>Jd val w (by omega));have CT:=hid (fun w=>iA val w (by omega));have O5:Hid ((me.take (k+1)).map Pr.key=(me.take k).map Pr.key++[key]):=by show _=_;rw [List.take_add_one,HX.out];simp
    obtain ⟨wi,hwi⟩:∃ wi,wi=wr.alloc (.cells #[.string key,.string val] 74):=⟨_,rfl⟩;have zO:=pK.alloc (.cells #[.string key,.string val] 74);rw [<- hwi] at zO;have i0:wi.cell? ⟨wr.heap.size,0,none⟩=some (.string key):=by rw [hwi];exact Du wr [.string key,.string val] _ 0 _ rfl
    have i1:wi.cell? ⟨wr.heap.size,1,none⟩=some (.string val):=by rw [hwi];exact Du wr [.string key,.string val] _ 1 _ rfl
    have Mk:=hid zO;clear bq pK hx;cases hn:je key with
    | false=>
     rw [hn] at CN;have HV:Hid (V=6):=by show V=6;have:=eX.out;rw [dN,if_pos hn] at this;rw [HE2.out,<- this];rfl
     clear hn;go_upto_region 7 with (fail)
     rw [<- hwi];clear hwi zO;go_wp2_with fail
     refine (CN.out _).mono ?_;rintro e w3 ⟨rfl,rfl⟩;go_wp2;go_ret;exact ⟨by rw [HV.out];rfl,Mk.out.2.2.1⟩
    | true=>
     rw [hn] at CN;cases hln:gU val with
     | false=>
      rw [hln] at CV;have HV:Hid (V=17):=by show V=17;have:=eX.out;rw [dN,if_neg (by rw [hn];decide),if_pos (.inl hln)] at this;rw [HE2.out,<- this];rfl
      clear hn hln;go_upto_region 7 with (fail)
      rw [<- hwi];clear hwi zO;go_wp2_with fail
      refine (CN.out _).mono ?_;rintro e w3 ⟨rfl,rfl⟩;go_wp2_with fail
      refine (CV.out _).mono ?_;rintro e w3 ⟨rfl,q,rfl⟩;go_wp2;go_ret;exact ⟨by rw [HV.out];rfl,gV Mk.out.2.2.1 q⟩
     | true=>
      rw [hln] at CV;cases htr:trimS val with
      | false=>
       rw [htr] at CT;have HV:Hid (V=17):=by show V=17;have:=eX.out;rw [dN,if_neg (by rw [hn];decide),if_pos (.inr htr)] at this;rw [HE2.out,<- this];rfl
       clear hn hln htr;go_upto_region 7 with (fail)
       rw [<- hwi];clear hwi zO;go_wp2_with fail
       refine (CN.out _).mono ?_;rintro e w3 ⟨rfl,rfl⟩;go_wp2_with fail
       refine (CV.out _).mono ?_;rintro e w3 ⟨rfl,q,rfl⟩;go_wp2_with fail
       refine (CT.out _).mono ?_;rintro e w3 ⟨rfl,rfl⟩;go_wp2;go_ret;exact ⟨by rw [HV.out];rfl,gV Mk.out.2.2.1 q⟩
      | true=>
       rw [htr] at CT;have Uq:=hid (fun q=>(zO.drewN q).2.1.look key (by unfold maxLen;omega));have QG:=hid (fun q=>(zO.drewN q).2.1.put key (by unfold maxLen;omega) (by unfold maxLen;omega));have hor:¬ (gU val=false\/trimS val=false):=by rw [hln,htr];decide
       cases hb:hasB ((me.take k).map Pr.key) key with
       | true=>
        have HV:Hid (V=7):=by show V=7;have:=eX.out;rw [dN,if_neg (by rw [hn];decide),if_neg hor,if_pos hb] at this;rw [HE2.out,<- this];rfl
        have zP:=hid hb;clear hn hln hb htr hor;go_upto_region 7 with (fail)
        rw [<- hwi];clear hwi zO;go_wp2_with fail
        refine (CN.out _).mono ?_;rintro e w3 ⟨rfl,rfl⟩;go_wp2_with fail
        refine (CV.out _).mono ?_;rintro e w3 ⟨rfl,q,rfl⟩;go_wp2_with fail
        refine (CT.out _).mono ?_;rintro e w3 ⟨rfl,rfl⟩;have hlk:=Uq.out q;rw [kV,zP.out] at hlk;go_wp2;go_ret;exact ⟨by rw [HV.out];rfl,gV Mk.out.2.2.1 q⟩
       | false=>
        have O6:Hid (dN ((me.take (k+1)).map Pr.key) (me.drop (k+1))=E1):=by show _=_;have:=eX.out;rw [dN,if_neg (by rw [hn];decide),if_neg hor,if_neg (by rw [hb];decide)] at this;rw [O5.out];exact this
        have zP:=hid hb;clear hn hln hb htr hor;go_upto_region 7 with (fail)
        rw [<- hwi];clear hwi zO;go_wp2_with fail
        refine (CN.out _).mono ?_;rintro e w3 ⟨rfl,rfl⟩;go_wp2_with fail
        refine (CV.out _).mono ?_;rintro e w3 ⟨rfl,q,rfl⟩;go_wp2_with fail
        refine (CT.out _).mono ?_;rintro e w3 ⟨rfl,rfl⟩;have hlk:=Uq.out q;rw [kV,zP.out] at hlk;obtain ⟨w',hup,hS',hg⟩:=QG.out q;have Ur:=hid ((Mk.out.drewN q).put hg hS');clear hS' hg;go_wp2;go_roundw;case rel=>exact ⟨k+1,by omega,by go_num,by rw [O5.out,List.reverse_append];exact Ur.out,O6.out⟩
        case measure=>simp [intOf];omega
   ·obtain rfl:k=me.length:=by omega
    have HV:Hid (V=ah.aQ cl 0 0 l):=by show V=_;rw [List.drop_length,dN] at bq;rw [HE2.out,<- bq];rfl
    have p1:wr.cell? ⟨w.heap.size,1,none⟩=some (.slice a2 l.length c2):=pK.1.cell 1 _ rfl;have TB:=hid (qM cl l a2 c2 wr SM.out MA.out (HB.out.up pK.2.2.1));rw [<- HV.out] at TB;clear bq pK hk hlt;go_wp2_with fail
    refine TB.out.mono ?_;rintro e w4 ⟨rfl,b4⟩;go_wp2;go_ret;exact ⟨rfl,aU MS.out.2.2.1 b4⟩
end Go.Proofs.YtclikfjalmcoaaaGreatDoor

