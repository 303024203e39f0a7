/- Contracts of tree.checkBlocks and Blocks: the first error of blocks; of a formula's check they ask the contract where there is a formula. The contract of tree.Check: the first error of a document. -/
import Derived.Test.YtkfnkeflalcphaaGreatDoorKRfJ
import Derived.StillTailTactics
set_option maxHeartbeats 8000000
set_option maxRecDepth 100000
open Go.Lib (hid)
namespace Go.Proofs.YtkfnkeflalcphaaGreatDoor
open List renaming getElem?_eq_getElem->jnj
open Go.RowKit
set_option linter.unusedVariables false
set_option linter.unusedSimpArgs false
mutual
def ah.mth:ah->Bool
 | .mk k _ _ _ _ _ _ _ ks=>decide (k=4)||ah.zH ks
def ah.zH:List ah->Bool
 | []=>false
 | x::l=>x.mth||ah.zH l
end
theorem ah.ER:∀ {l:List ah} {k:Nat} {x:ah},l[k]?=some x->x.mth=true->ah.zH l=true
 | [],_,_,h,_=>by simp at h
 | y::l,0,x,h,hx=>by simp at h;subst h;rw [ah.zH,hx];rfl
 | y::l,k+1,x,h,hx=>by rw [ah.zH,ah.ER (l:=l) (k:=k) (by simpa using h) hx,Bool.or_true]
mutual
def ah.mid:ah->Prop
 | .mk k lv i t d ti a li ks=>i.size<=300/\t.size<=300/\d.size<=300/\ti.size<=300/\a.short/\aj.gU li/\ah.gU ks
def ah.gU:List ah->Prop
 | []=>True
 | x::l=>x.mid/\ah.gU l
end
mutual
theorem ah.Hg:∀ (x:ah),x.small->x.mid
 | .mk k lv i t d ti a li ks,h=>by
  rw [ah.small] at h;rw [ah.mid];obtain ⟨h1,h2,h3,h4,h5,h6,h7,h8⟩:=h;exact ⟨h1,h2,h3,h4,h5,aj.kC li h6,ah.kC ks h8⟩
theorem ah.kC:∀ (l:List ah),ah.ay l->ah.gU l
 | [],_=>by rw [ah.gU];trivial
 | x::l,h=>by
  rw [ah.ay] at h;rw [ah.gU];exact ⟨ah.Hg x h.1,ah.kC l h.2⟩
end
theorem ah.nL:∀ {l:List ah} {k:Nat} {x:ah},ah.gU l->l[k]?=some x->x.mid
 | [],_,_,_,h=>by simp at h
 | y::l,0,x,hb,h=>by simp at h;subst h;rw [ah.gU] at hb;exact hb.1
 | y::l,k+1,x,hb,h=>by rw [ah.gU] at hb;exact ah.nL (l:=l) (k:=k) hb.2 (by simpa using h)
theorem WI {k lv:Int} {i t d ti:ByteArray} {a:At} {li:List aj} {ks:List ah} (h:(ah.mk k lv i t d ti a li ks).mid):BlM i t d ti a li/\ah.gU ks:=by unfold ah.mid at h;obtain ⟨h1,h2,h3,h4,h5,h6,h8⟩:=h;exact ⟨⟨h1,h2,h3,h4,h5,h6⟩,h8⟩
theorem Ce (cl:ByteArray->Bool) (par:Int) (dp:Nat) (k lv:Int) (i t d ti:ByteArray) (a:At) (li:List aj) (ks l:List ah) (zI:¬ 15<dp) : ah.aR cl par dp (ah.mk k lv i t d ti a li ks::l)=if D7 k lv i t d ti a li ks=false\/gV k par=false then 5 else if qN cl k lv i t d ti a li ks≠0 then qN cl k lv i t d ti a li ks else if ah.aR cl k (dp+1) ks≠0 then ah.aR cl k (dp+1) ks else ah.aR cl par dp l:=by
 rw [ah.aR,ah.err,if_neg zI];by_cases h1:D7 k lv i t d ti a li ks=false\/gV k par=false
 ·rw [if_pos h1,if_pos h1];rfl
 ·rw [if_neg h1,if_neg h1];by_cases h2:qN cl k lv i t d ti a li ks=0
  ·simp only [h2,ne_eq,not_true_eq_false,if_false]
  ·simp only [ne_eq,h2,not_false_eq_true,if_true]
def Ns (cl:ByteArray->Bool) (l:List ah) (par:Int) (dp:Nat) (E:Nat) (w:World) (vi:Value) (wr:World):Prop:=∃ k:Nat,k<=l.length/\vi=.int .i64 k/\Below w.heap.size w wr/\ah.aR cl par dp (l.drop k)=E
theorem uN (cl:ByteArray->Bool) (n:Nat):∀ (l:List ah) (par:Int) (dp:Nat) (a:Option Addr) (cap:Nat) (w:World),ah.aW l<=n->dp<=1000000->ah.gU l->(ah.zH l=true->tO cl)->Rd (·<w.heap.size) w (bZ l) [.slice a l.length cap] -> Calls Tryz.prog 80 #[.slice a l.length cap,.int .i64 par,.int .i64 (dp:Int)] w (bX (.int .i64 (ah.aR cl par dp l:Nat)) w):=by
 induction n using Nat.strongRecOn with
 | _ n ih=>
  intro l par dp a cap w hn hdp hsm hmt h;obtain ⟨a',c',hv,hs⟩:=Rd.aC h;obtain ⟨rfl,rfl⟩:a'=a/\c'=cap:=by simp at hv;exact ⟨hv.1.symm,hv.2.symm⟩
  have hcap:l.length<=c':=by simpa using hs.le
  have hmx:=hs.max;unfold maxLen at hmx;have HS:=hid hs;have IH:=hid ih;have SM:=hid hsm;have MT:=hid hmt;obtain ⟨E,hE⟩:∃ E,ah.aR cl par dp l=E:=⟨_,rfl⟩;rw [hE];have R0:Hid (Ns cl l par dp E w (.int .i64 0) w):=⟨0,Nat.zero_le _,rfl,Below.refl _ _,hE⟩;clear hs hv h ih hsm hmt hE;by_cases zI:15<dp
  ·have Y2:decide ((15:Int)<(dp:Int))=true:=by simp;omega
   go_enter Tryz.func80,Tryz.ntmps80;go_wp2
   go_loopw [13] (fun i wr=>Ns cl l par dp E w i wr) (fun i _=>l.length-(intOf i).toNat)
   case atStart=>exact R0.out
   case round=>
    clear R0;obtain ⟨k,hk,rfl,hbel,bJ⟩:=hrel;have HB:=hid hbel;by_cases hlt:k<l.length
    ·obtain ⟨x,hx⟩:∃ x,l[k]?=some x:=⟨_,jnj hlt⟩;have HE:Hid (E=11):=by
      show E=11;rw [<- bJ,RO l k x hx,ah.aR];have:x.err cl par dp=11:=by cases x;rw [ah.err,if_pos zI]
      rw [this];rfl
     clear bJ hx;go_wp2;go_ret;exact ⟨by rw [HE.out];rfl,HB.out⟩
    ·have HE:Hid (E=0):=by
      show E=0;rw [<- bJ,List.drop_of_length_le (by omega),ah.aR]
     clear bJ;go_wp2;go_ret;exact ⟨by rw [HE.out];rfl,HB.out⟩
  ·have Y2:decide ((15:Int)<(dp:Int))=false:=by simp;omega
   go_enter Tryz.func80,Tryz.ntmps80;go_wp2
   go_loopw [13] (fun i wr=>Ns cl l par dp E w i wr) (fun i _=>l.length-(intOf i).toNat)
   case atStart=>exact R0.out
   case round=>
    clear R0;obtain ⟨k,hk,rfl,hbel,bJ⟩:=hrel;have HB:=hid hbel;by_cases hlt:k<l.length
    ·obtain ⟨x,hx⟩:∃ x,l[k]?=some x:=⟨_,jnj hlt⟩;have hxs:x.mid:=ah.nL SM.out hx;have hsz:=ah.aZ l k _ hx;have hmg:=ah.ER hx;rw [RO l k x hx] at bJ;obtain ⟨kd,lv,i,t,d,ti,at_,li,ks⟩:=x;rw [ah.sz] at hsz;obtain ⟨hbs,hks⟩:=WI hxs;rw [Ce _ _ _ _ _ _ _ _ _ _ _ _ _ zI] at bJ;have UZ:kd=4->tO cl:=fun e=>MT.out (hmg (by rw [ah.mth,decide_eq_true e];rfl))
     have hmk:ah.zH ks=true->tO cl:=fun e=>MT.out (hmg (by rw [ah.mth,e,Bool.or_true]))
     obtain ⟨b,off,ac,ap,al,ak,cc,cp,cl',ck,rfl,ZO⟩:=Nt HS.out hx;have hP:=ZO.up hbel;have HP:=hid hP;have MS:=hid (uO wr b (off+k*11) kd lv i t d ti at_ li ks ac ap al ak cc cp cl' ck hP);have FT:=hid (fun w=>Nu kd par w);have CI:=hid (fun wx (hb:Below wr.heap.size wr wx) hf=>vY cl wx b (off+k*11) kd lv i t d ti at_ li ks ac ap al ak cc cp cl' ck (hP.up hb) hbs hf UZ);have CK:=hid (fun wx (hb:Below wr.heap.size wr wx)=>IH.out (ah.aW ks) (by omega) ks kd (dp+1) ak ck wx (Nat.le_refl _) (by omega) hks hmk (hP.up hb).rd.kids);have fK:=hid bJ;clear hxs hsz hmg hbs hks UZ hmk hP ZO bJ hx hbel;cases hf:D7 kd lv i t d ti at_ li ks with
     | false=>
      rw [hf] at MS;have HE:Hid (E=5):=by show E=5;have:=fK.out;rw [if_pos (.inl hf)] at this;exact this.symm
      clear hf;go_wp2_with fail
      refine MS.out.mono ?_;rintro e w2 ⟨rfl,hb2⟩;go_wp2;go_ret;exact ⟨by rw [HE.out];rfl,aU HB.out hb2⟩
     | true=>
      rw [hf] at MS;cases hpl:gV kd par with
      | false=>
       rw [hpl] at FT;have HE:Hid (E=5):=by show E=5;have:=fK.out;rw [if_pos (.inr hpl)] at this;exact this.symm
       clear hf hpl;go_wp2_with fail
       refine MS.out.mono ?_;rintro e w2 ⟨rfl,hb2⟩;obtain ⟨p0,p1,p2,p3,p4,p5,p6,p7,p8,p9,Nv⟩:=(HP.out.up hb2).cells;go_wp2_with fail
       refine (FT.out _).mono ?_;rintro e w3 ⟨rfl,hb3⟩;go_wp2;go_ret;exact ⟨by rw [HE.out];rfl,aU HB.out (aU hb2 hb3)⟩
      | true=>
       rw [hpl] at FT;have vZ:Hid ((if qN cl kd lv i t d ti at_ li ks≠0 then qN cl kd lv i t d ti at_ li ks else if ah.aR cl kd (dp+1) ks≠0 then ah.aR cl kd (dp+1) ks else ah.aR cl par dp (l.drop (k+1)))=E):=by show _=_;have:=fK.out;rw [if_neg (by rw [hf,hpl];simp)] at this;exact this
       have Y3:=hid (fun wx hb=>CI.out wx hb hf);clear hf hpl fK CI;generalize qN cl kd lv i t d ti at_ li ks=E1 at *
       generalize ah.aR cl kd (dp+1) ks=E2 at *;obtain ⟨c0,c1,c2,c3,c4,c5,c6,c7,c8,c9,c10⟩:=HP.out.cells;go_wp2_with fail
       refine MS.out.mono ?_;rintro e w2 ⟨rfl,hb2⟩;obtain ⟨p0,p1,p2,p3,p4,p5,p6,p7,p8,p9,Nv⟩:=(HP.out.up hb2).cells;go_wp2_with fail
       refine (FT.out _).mono ?_;rintro e w3 ⟨rfl,hb3⟩;have oz:=hid (aU hb2 hb3);have RP:=hid (Y3.out _ oz.out);clear c0 c1 c2 c3 c4 c5 c6 c7 c8 c9 c10 p0 p1 p2 p3 p4 p5 p6 p7 p8 p9 Nv hb2 hb3 Y3;by_cases h1:E1=0
       ·have JR:Hid ((if E2≠0 then E2 else ah.aR cl par dp (l.drop (k+1)))=E):=by
         show _=_;have:=vZ.out;rw [if_neg (by simpa using h1)] at this;exact this
        subst h1;go_wp2_with fail
        refine RP.out.mono ?_;rintro e w4 ⟨rfl,hb4⟩;have zm:=hid (aU oz.out hb4);obtain ⟨p0,p1,p2,p3,p4,p5,p6,p7,p8,p9,Nv⟩:=(HP.out.up zm.out).cells;have WJ:Hid (Below wr.heap.size wr w4.drew):=gG zm.out 1;have MU:=hid (CK.out _ WJ.out);clear RP hb4 CK vZ;by_cases h2:E2=0
        ·have WK:Hid (ah.aR cl par dp (l.drop (k+1))=E):=by
          show _=_;have:=JR.out;rw [if_neg (by simpa using h2)] at this;exact this
         subst h2;go_upto_region 12 with (fail)
         go_still_tail 10,(by kernel_rfl)
         change wpList _ _ _ _ _ w4.drew;go_wp2_with fail
         refine MU.out.mono ?_;rintro e w5 ⟨rfl,hb5⟩;have Nw:=hid (aU WJ.out hb5);clear MU hb5;go_wp2;go_roundw;case rel=>exact ⟨k+1,by omega,by go_num,aU HB.out Nw.out,WK.out⟩
         case measure=>simp [intOf];omega
        ·have WK:Hid (E=E2):=by
          show _=_;have:=JR.out;rw [if_pos h2] at this;exact this.symm
         have hn2:((E2:Int) != 0)=true:=by rw [bne_iff_ne];omega
         clear h2;go_upto_region 12 with (fail)
         go_still_tail 10,(by kernel_rfl)
         change wpList _ _ _ _ _ w4.drew;go_wp2_with fail
         refine MU.out.mono ?_;rintro e w5 ⟨rfl,hb5⟩;have Nw:=hid (aU WJ.out hb5);clear MU hb5;go_wp2;go_ret;exact ⟨by rw [WK.out];rfl,aU HB.out Nw.out⟩
       ·have JR:Hid (E=E1):=by
         show _=_;have:=vZ.out;rw [if_pos h1] at this;exact this.symm
        have hn1:((E1:Int) != 0)=true:=by rw [bne_iff_ne];omega
        clear h1;go_wp2_with fail
        refine RP.out.mono ?_;rintro e w4 ⟨rfl,hb4⟩;have zm:=hid (aU oz.out hb4);clear RP hb4;go_wp2;go_ret;exact ⟨by rw [JR.out];rfl,aU HB.out zm.out⟩
    ·have HE:Hid (E=0):=by
      show E=0;rw [<- bJ,List.drop_of_length_le (by omega),ah.aR]
     clear bJ;go_wp2;go_ret;exact ⟨by rw [HE.out];rfl,HB.out⟩
theorem ES (cl:ByteArray->Bool) (l:List ah) (a:Option Addr) (cap:Nat) (w:World) (hsm:ah.gU l) (hm:ah.zH l=true->tO cl) (h:Rd (·<w.heap.size) w (bZ l) [.slice a l.length cap]) : Calls Tryz.prog 35 #[.slice a l.length cap] w (bX (.int .i64 (ah.aR cl 0 0 l:Nat)) w):=by
 have CK:=hid (uN cl _ l 0 0 a cap w (Nat.le_refl _) (by omega) hsm hm h);generalize ah.aR cl 0 0 l=E at *;clear h hsm hm;go_enter Tryz.func35,Tryz.ntmps35;go_wp2_with fail
 refine CK.out.mono ?_;rintro e w1 ⟨rfl,hb⟩;go_wp2;go_ret;exact ⟨rfl,hb⟩
theorem tQ (cl:ByteArray->Bool) (l:List ah) (a:Option Addr) (cap:Nat) (w:World) (hsm:ah.ay l) (hm:ah.zH l=true->tO cl) (h:Rd (·<w.heap.size) w (bZ l) [.slice a l.length cap]) : Calls Tryz.prog 35 #[.slice a l.length cap] w (bX (.int .i64 (ah.aR cl 0 0 l:Nat)) w):=ES cl l a cap w (ah.kC l hsm) hm h
open Go.RowKit
def iV (cl:ByteArray->Bool) (me:List Pr) (l:List ah):Nat:=
 if 32768<ah.bS l\/64<me.length then 3 else if eG [] me≠0 then eG [] me else ah.aR cl 0 0 l
def U0 (T:TypeId) (p:Nat) (cs:List Value) (w:World) (mb:Nat) (l:List Pr) (E:Nat) (vi:Value) (wr:World):Prop:=
 ∃ k:Nat,k<=l.length/\vi=.int .i64 k/\MV T p cs w mb k ((l.take k).map Pr.key).reverse wr/\eG ((l.take k).map Pr.key) (l.drop k)=E
theorem Hl (cl:ByteArray->Bool) (me:List Pr) (l:List ah) (am ab:Option Addr) (cm nb cb:Nat) (w:World) (hme:me.length<=1000) (pF:∀ p∈me,p.key.size<=1000/\p.val.size<=1000) (hall:ah.bS l<=32768) (hsm:ah.ay l) (hm:ah.zH l=true->tO cl) (h1:Rd (·<w.heap.size) w (bD me) [.slice am me.length cm]) (h2:Rd (·<w.heap.size) w (bZ l) [.slice ab nb cb]) : Calls Tryz.prog 50 #[.agg #[.slice am me.length cm,.slice ab nb cb]] w (bX (.int .i64 (iV cl me l:Nat)) w):=by
 obtain ⟨a1,c1,hv1,hs1⟩:=Rd.aC h1;obtain ⟨rfl,rfl⟩:a1=am/\c1=cm:=by simp at hv1;exact ⟨hv1.1.symm,hv1.2.symm⟩
 obtain ⟨a2,c2,hv2,hs2⟩:=Rd.aC h2;obtain ⟨rfl,rfl,rfl⟩:a2=ab/\nb=l.length/\c2=cb:=by simp at hv2;exact ⟨hv2.1.symm,hv2.2.1,hv2.2.2.symm⟩
 have l1:me.length<=c1:=by simpa using hs1.le
 have m1:=hs1.max;unfold maxLen at m1;have ET:=hid hs1;have SP:=hid pF;have HB:=hid h2;have SM:=hid hsm;have MA:=hid hm;obtain ⟨V,hV⟩:∃ V,V=iV cl me l:=⟨_,rfl⟩;have HE:Hid (V=iV cl me l):=hV;have ZP:=hid hall;rw [<- hV];clear hV hs1 pF h2 hsm hm h1 hv1 hv2 hall hs2;obtain ⟨w0,hw0⟩:∃ w0,w0=w.alloc (.cells #[.slice a1 me.length c1,.slice a2 l.length c2] 26):=⟨_,rfl⟩;have hb0:Below w.heap.size w w0:=by rw [hw0];exact (Below.refl _ _).alloc (Nat.le_refl _) _
 have k1:CB 26 w.heap.size [.slice a1 me.length c1,.slice a2 l.length c2] w0:=by rw [hw0];exact CB.new _ _ _
 have SZ:=hid (Lp l a1 a2 me.length c1 l.length c2 w0 (by have:=ZP.out;omega) (HB.out.up hb0));have x0:=k1.cell 0 _ rfl;have x1:=k1.cell 1 _ rfl;have HK:=hid k1;have HB0:=hid hb0;have hall:=ZP.out;obtain ⟨N,hN⟩:∃ N,N=ah.bS l:=⟨_,rfl⟩;have HN:Hid (N=ah.bS l):=hN;rw [<- hN] at SZ hall;have hb3:decide ((32768:Int)<(N:Int))=false:=by simp;omega
 clear k1 hb0 hN hall;go_enter Tryz.func50,Tryz.ntmps50;go_upto_region 1 with (fail)
 rw [<- hw0];clear hw0;go_wp2_with fail
 refine SZ.out.mono ?_;rintro e w1 ⟨rfl,b1⟩;have K1:=hid (HK.out.below b1);have B1:=hid (aU HB0.out b1);have x0:=K1.out.cell 0 _ rfl;have x1:=K1.out.cell 1 _ rfl;have LT:=hid K1.out.lt;clear SZ;by_cases hml:64<me.length
 ·have q1:decide ((64:Int)<(me.length:Int))=true:=by simp;omega
  have HV:Hid (V=3):=by show V=3;rw [HE.out,iV,if_pos (.inr hml)]
  clear b1;go_wp2;go_ret;exact ⟨by rw [HV.out];rfl,B1.out⟩
 ·have q1:decide ((64:Int)<(me.length:Int))=false:=by simp;omega
  have HE2:Hid (V=if eG [] me≠0 then eG [] me else ah.aR cl 0 0 l):=by show V=_;rw [HE.out,iV,if_neg (by have:=ZP.out;omega)]
  obtain ⟨w2,hw2⟩:∃ w2,w2=w1.alloc (.map #[] 0):=⟨_,rfl⟩;have b2:Below w1.heap.size w1 w2:=by rw [hw2];exact (Below.refl _ _).alloc (Nat.le_refl _) _
  have K2:=hid (K1.out.below b2);have R0:Hid (U0 26 w.heap.size [.slice a1 me.length c1,.slice a2 l.length c2] w w1.heap.size me (eG [] me) (.int .i64 0) w2):=by
   refine ⟨0,Nat.zero_le _,rfl,⟨K2.out,?_,aU B1.out b2,B1.out.size,?_,Nat.le_refl _⟩,rfl⟩
   ·rw [hw2];exact dx.made w1
   ·have:=LT.out;omega
  have x0':=K2.out.cell 0 _ rfl;have x1':=K2.out.cell 1 _ rfl;obtain ⟨E1,hE1⟩:∃ E1,E1=eG [] me:=⟨_,rfl⟩;rw [<- hE1] at HE2 R0;have hmm:=@run_makeMap Tryz.prog;clear hE1 hml b1 b2;go_upto_region 4 with (fail)
  rw [<- hw2];clear hmm hw2 x0 x1;go_wp2
  go_loopw [19] (fun i wr=>U0 26 w.heap.size [.slice a1 me.length c1,.slice a2 l.length c2] w w1.heap.size me E1 i wr) (fun i _=>me.length-(intOf i).toNat)
  case atStart=>exact R0.out
  case round=>
   clear R0 x0' x1';obtain ⟨k,hk,rfl,rY,bJ⟩:=hrel;have RQ:=hid rY;by_cases hlt:k<me.length
   ·obtain ⟨x,hx⟩:∃ x,me[k]?=some x:=⟨_,jnj hlt⟩;obtain ⟨b,off,rfl,-,-,c0,c1'⟩:=iW ET.out hx;have c0:wr.cell? ⟨b,off+k*2,none⟩=some (.string x.key):=by rw [rY.2.2.1.cell (p:=⟨b,off+k*2,none⟩) (EM c0)];exact c0
    have c1':wr.cell? ⟨b,off+k*2+1,none⟩=some (.string x.val):=by rw [rY.2.2.1.cell (p:=⟨b,off+k*2+1,none⟩) (EM c1')];exact c1'
    have hxs:=SP.out x (List.mem_of_getElem? hx);have HX:=hid hx;have fK:Hid (eG ((me.take k).map Pr.key) (x::me.drop (k+1))=E1):=by show _=_;rw [<- RO me k x hx];exact bJ
    obtain ⟨key,val⟩:=x;dsimp only at c0 c1' hxs;have CN:=hid (fun w=>q22 key w (by omega));have CV:=hid (fun w=>Nh val w (by omega));have CT:=hid (fun w=>jm val w (by omega));have Ho:Hid ((me.take (k+1)).map Pr.key=(me.take k).map Pr.key++[key]):=by show _=_;rw [List.take_add_one,HX.out];simp
    obtain ⟨wi,hwi⟩:∃ wi,wi=wr.alloc (.cells #[.string key,.string val] 61):=⟨_,rfl⟩;have D8:=rY.alloc (.cells #[.string key,.string val] 61);rw [<- hwi] at D8;have i0:wi.cell? ⟨wr.heap.size,0,none⟩=some (.string key):=by rw [hwi];exact GN wr [.string key,.string val] _ 0 _ rfl
    have i1:wi.cell? ⟨wr.heap.size,1,none⟩=some (.string val):=by rw [hwi];exact GN wr [.string key,.string val] _ 1 _ rfl
    have Rh:=hid D8;clear bJ rY hx;cases hn:iU key with
    | false=>
     rw [hn] at CN;have HV:Hid (V=6):=by show V=6;have:=fK.out;rw [eG,if_pos hn] at this;rw [HE2.out,<- this];rfl
     clear hn;go_upto_region 7 with (fail)
     rw [<- hwi];clear hwi D8;go_wp2_with fail
     refine (CN.out _).mono ?_;rintro e w3 ⟨rfl,rfl⟩;go_wp2;go_ret;exact ⟨by rw [HV.out];rfl,Rh.out.2.2.1⟩
    | true=>
     rw [hn] at CN;cases hln:fH val with
     | false=>
      rw [hln] at CV;have HV:Hid (V=17):=by show V=17;have:=fK.out;rw [eG,if_neg (by rw [hn];decide),if_pos (.inl hln)] at this;rw [HE2.out,<- this];rfl
      clear hn hln;go_upto_region 7 with (fail)
      rw [<- hwi];clear hwi D8;go_wp2_with fail
      refine (CN.out _).mono ?_;rintro e w3 ⟨rfl,rfl⟩;go_wp2_with fail
      refine (CV.out _).mono ?_;rintro e w3 ⟨rfl,q,rfl⟩;go_wp2;go_ret;exact ⟨by rw [HV.out];rfl,gG Rh.out.2.2.1 q⟩
     | true=>
      rw [hln] at CV;cases htr:trimS val with
      | false=>
       rw [htr] at CT;have HV:Hid (V=17):=by show V=17;have:=fK.out;rw [eG,if_neg (by rw [hn];decide),if_pos (.inr htr)] at this;rw [HE2.out,<- this];rfl
       clear hn hln htr;go_upto_region 7 with (fail)
       rw [<- hwi];clear hwi D8;go_wp2_with fail
       refine (CN.out _).mono ?_;rintro e w3 ⟨rfl,rfl⟩;go_wp2_with fail
       refine (CV.out _).mono ?_;rintro e w3 ⟨rfl,q,rfl⟩;go_wp2_with fail
       refine (CT.out _).mono ?_;rintro e w3 ⟨rfl,rfl⟩;go_wp2;go_ret;exact ⟨by rw [HV.out];rfl,gG Rh.out.2.2.1 q⟩
      | true=>
       rw [htr] at CT;have ZQ:=hid (fun q=>(D8.drewN q).2.1.look key (by unfold maxLen;omega));have WL:=hid (fun q=>(D8.drewN q).2.1.put key (by unfold maxLen;omega) (by unfold maxLen;omega));have hor:¬ (fH val=false\/trimS val=false):=by rw [hln,htr];decide
       cases hb:hasB ((me.take k).map Pr.key) key with
       | true=>
        have HV:Hid (V=7):=by show V=7;have:=fK.out;rw [eG,if_neg (by rw [hn];decide),if_neg hor,if_pos hb] at this;rw [HE2.out,<- this];rfl
        have D9:=hid hb;clear hn hln hb htr hor;go_upto_region 7 with (fail)
        rw [<- hwi];clear hwi D8;go_wp2_with fail
        refine (CN.out _).mono ?_;rintro e w3 ⟨rfl,rfl⟩;go_wp2_with fail
        refine (CV.out _).mono ?_;rintro e w3 ⟨rfl,q,rfl⟩;go_wp2_with fail
        refine (CT.out _).mono ?_;rintro e w3 ⟨rfl,rfl⟩;have hlk:=ZQ.out q;rw [lq,D9.out] at hlk;go_wp2;go_ret;exact ⟨by rw [HV.out];rfl,gG Rh.out.2.2.1 q⟩
       | false=>
        have uZ:Hid (eG ((me.take (k+1)).map Pr.key) (me.drop (k+1))=E1):=by show _=_;have:=fK.out;rw [eG,if_neg (by rw [hn];decide),if_neg hor,if_neg (by rw [hb];decide)] at this;rw [Ho.out];exact this
        have D9:=hid hb;clear hn hln hb htr hor;go_upto_region 7 with (fail)
        rw [<- hwi];clear hwi D8;go_wp2_with fail
        refine (CN.out _).mono ?_;rintro e w3 ⟨rfl,rfl⟩;go_wp2_with fail
        refine (CV.out _).mono ?_;rintro e w3 ⟨rfl,q,rfl⟩;go_wp2_with fail
        refine (CT.out _).mono ?_;rintro e w3 ⟨rfl,rfl⟩;have hlk:=ZQ.out q;rw [lq,D9.out] at hlk;obtain ⟨w',hup,hS',hg⟩:=WL.out q;have ZR:=hid ((Rh.out.drewN q).put hg hS');clear hS' hg;go_wp2;go_roundw;case rel=>exact ⟨k+1,by omega,by go_num,by rw [Ho.out,List.reverse_append];exact ZR.out,uZ.out⟩
        case measure=>simp [intOf];omega
   ·obtain rfl:k=me.length:=by omega
    have HV:Hid (V=ah.aR cl 0 0 l):=by show V=_;rw [List.drop_length,eG] at bJ;rw [HE2.out,<- bJ];rfl
    have p1:wr.cell? ⟨w.heap.size,1,none⟩=some (.slice a2 l.length c2):=rY.1.cell 1 _ rfl;have TB:=hid (tQ cl l a2 c2 wr SM.out MA.out (HB.out.up rY.2.2.1));rw [<- HV.out] at TB;clear bJ rY hk hlt;go_wp2_with fail
    refine TB.out.mono ?_;rintro e w4 ⟨rfl,b4⟩;go_wp2;go_ret;exact ⟨rfl,aU RQ.out.2.2.1 b4⟩
end Go.Proofs.YtkfnkeflalcphaaGreatDoor

