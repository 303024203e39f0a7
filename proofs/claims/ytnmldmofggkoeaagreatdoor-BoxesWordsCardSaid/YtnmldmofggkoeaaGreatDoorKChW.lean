/- Contracts of tree.checkBlocks and Blocks: the first error of blocks; of a formula's check they ask the contract where there is a formula. The contract of tree.Check: the first error of a document. -/
import Derived.Test.YtnmldmofggkoeaaGreatDoorKChU
import Derived.StillTailTactics
set_option maxHeartbeats 8000000
set_option maxRecDepth 100000
open Go.Lib (hid)
namespace Go.Proofs.YtnmldmofggkoeaaGreatDoor
open List renaming getElem?_eq_getElem->YG
open Nat renaming le_refl->YI
open Go.RowKit
set_option linter.unusedVariables false
set_option linter.unusedSimpArgs false
mutual
def aj.Nw:aj->Bool
 | .mk k _ _ _ _ _ _ _ ks=>decide (k=4)||aj.oL ks
def aj.oL:List aj->Bool
 | []=>false
 | x::l=>x.Nw||aj.oL l
end
theorem aj.vV:∀ {l:List aj} {k:Nat} {x:aj},l[k]?=some x->x.Nw=true->aj.oL l=true
 | [],_,_,h,_=>by simp at h
 | y::l,0,x,h,hx=>by simp at h;subst h;rw [aj.oL,hx];rfl
 | y::l,k+1,x,h,hx=>by rw [aj.oL,aj.vV (l:=l) (k:=k) (by simpa using h) hx,Bool.or_true]
mutual
def aj.mid:aj->Prop
 | .mk k lv i t d ti a li ks=>i.size<=300/\t.size<=300/\d.size<=300/\ti.size<=300/\a.short/\ah.bW li/\aj.bW ks
def aj.bW:List aj->Prop
 | []=>True
 | x::l=>x.mid/\aj.bW l
end
mutual
theorem aj.yH:∀ (x:aj),x.small->x.mid
 | .mk k lv i t d ti a li ks,h=>by
  rw [aj.small] at h;rw [aj.mid];obtain ⟨h1,h2,h3,h4,h5,h6,h7,h8⟩:=h;exact ⟨h1,h2,h3,h4,h5,ah.eu li h6,aj.eu ks h8⟩
theorem aj.eu:∀ (l:List aj),aj.aQ l->aj.bW l
 | [],_=>by rw [aj.bW];trivial
 | x::l,h=>by
  rw [aj.aQ] at h;rw [aj.bW];exact ⟨aj.yH x h.1,aj.eu l h.2⟩
end
theorem aj.ji:∀ {l:List aj} {k:Nat} {x:aj},aj.bW l->l[k]?=some x->x.mid
 | [],_,_,_,h=>by simp at h
 | y::l,0,x,hb,h=>by simp at h;subst h;rw [aj.bW] at hb;exact hb.1
 | y::l,k+1,x,hb,h=>by rw [aj.bW] at hb;exact aj.ji (l:=l) (k:=k) hb.2 (by simpa using h)
theorem KX {k lv:Int} {i t d ti:ByteArray} {a:At} {li:List ah} {ks:List aj} (h:(aj.mk k lv i t d ti a li ks).mid):Ul i t d ti a li/\aj.bW ks:=by unfold aj.mid at h;obtain ⟨h1,h2,h3,h4,h5,h6,h8⟩:=h;exact ⟨⟨h1,h2,h3,h4,h5,h6⟩,h8⟩
theorem sW (cl:ByteArray->Bool) (par:Int) (dp:Nat) (k lv:Int) (i t d ti:ByteArray) (a:At) (li:List ah) (ks l:List aj) (GA:¬ 15<dp) : aj.aN cl par dp (aj.mk k lv i t d ti a li ks::l)=if D9 k lv i t d ti a li ks=false\/jf k par=false then 5 else if dA cl k lv i t d ti a li ks≠0 then dA cl k lv i t d ti a li ks else if aj.aN cl k (dp+1) ks≠0 then aj.aN cl k (dp+1) ks else aj.aN cl par dp l:=by
 rw [aj.aN,aj.err,if_neg GA];by_cases h1:D9 k lv i t d ti a li ks=false\/jf k par=false
 ·rw [if_pos h1,if_pos h1];rfl
 ·rw [if_neg h1,if_neg h1];by_cases h2:dA cl k lv i t d ti a li ks=0
  ·simp only [h2,ne_eq,not_true_eq_false,if_false]
  ·simp only [ne_eq,h2,not_false_eq_true,if_true]
def En (cl:ByteArray->Bool) (l:List aj) (par:Int) (dp:Nat) (E:Nat) (w:World) (vi:Value) (wr:World):Prop:=∃ k:Nat,k<=l.length/\vi=.int .i64 k/\Below w.heap.size w wr/\aj.aN cl par dp (l.drop k)=E
theorem ny (cl:ByteArray->Bool) (n:Nat):∀ (l:List aj) (par:Int) (dp:Nat) (a:Option Addr) (cap:Nat) (w:World),aj.aW l<=n->dp<=1000000->aj.bW l->(aj.oL l=true->pE cl)->Rd (·<w.heap.size) w (aX l) [.slice a l.length cap] -> Calls Tryz.prog 52 #[.slice a l.length cap,.int .i64 par,.int .i64 (dp:Int)] w (dO (.int .i64 (aj.aN cl par dp l:Nat)) w):=by
 induction n using Nat.strongRecOn with
 | _ n ih=>
  intro l par dp a cap w hn hdp hsm hmt h;obtain ⟨a',c',hv,hs⟩:=Rd.aD h;obtain ⟨rfl,rfl⟩:a'=a/\c'=cap:=by simp at hv;exact ⟨hv.1.symm,hv.2.symm⟩
  have hcap:l.length<=c':=by simpa using hs.le
  have hmx:=hs.max;unfold maxLen at hmx;have HS:=hid hs;have IH:=hid ih;have SM:=hid hsm;have MT:=hid hmt;obtain ⟨E,hE⟩:∃ E,aj.aN cl par dp l=E:=⟨_,rfl⟩;rw [hE];have R0:Hid (En cl l par dp E w (.int .i64 0) w):=⟨0,Nat.zero_le _,rfl,Below.refl _ _,hE⟩;clear hs hv h ih hsm hmt hE;by_cases GA:15<dp
  ·have RJ:decide ((15:Int)<(dp:Int))=true:=by simp;omega
   go_enter Tryz.func52,Tryz.ntmps52;go_wp2
   go_loopw [13] (fun i wr=>En cl l par dp E w i wr) (fun i _=>l.length-(intOf i).toNat)
   case atStart=>exact R0.out
   case round=>
    clear R0;obtain ⟨k,hk,rfl,hbel,aH⟩:=hrel;have HB:=hid hbel;by_cases hlt:k<l.length
    ·obtain ⟨x,hx⟩:∃ x,l[k]?=some x:=⟨_,YG hlt⟩;have HE:Hid (E=11):=by
      show E=11;rw [<- aH,Fv l k x hx,aj.aN];have:x.err cl par dp=11:=by cases x;rw [aj.err,if_pos GA]
      rw [this];rfl
     clear aH hx;go_wp2;go_ret;exact ⟨by rw [HE.out];rfl,HB.out⟩
    ·have HE:Hid (E=0):=by
      show E=0;rw [<- aH,List.drop_of_length_le (by omega),aj.aN]
     clear aH;go_wp2;go_ret;exact ⟨by rw [HE.out];rfl,HB.out⟩
  ·have RJ:decide ((15:Int)<(dp:Int))=false:=by simp;omega
   go_enter Tryz.func52,Tryz.ntmps52;go_wp2
   go_loopw [13] (fun i wr=>En cl l par dp E w i wr) (fun i _=>l.length-(intOf i).toNat)
   case atStart=>exact R0.out
   case round=>
    clear R0;obtain ⟨k,hk,rfl,hbel,aH⟩:=hrel;have HB:=hid hbel;by_cases hlt:k<l.length
    ·obtain ⟨x,hx⟩:∃ x,l[k]?=some x:=⟨_,YG hlt⟩;have hxs:x.mid:=aj.ji SM.out hx;have hsz:=aj.cZ l k _ hx;have Nf:=aj.vV hx;rw [Fv l k x hx] at aH;obtain ⟨kd,lv,i,t,d,ti,at_,li,ks⟩:=x;rw [aj.sz] at hsz;obtain ⟨hbs,hks⟩:=KX hxs;rw [sW _ _ _ _ _ _ _ _ _ _ _ _ _ GA] at aH;have LQ:kd=4->pE cl:=fun e=>MT.out (Nf (by rw [aj.Nw,decide_eq_true e];rfl))
     have hmk:aj.oL ks=true->pE cl:=fun e=>MT.out (Nf (by rw [aj.Nw,e,Bool.or_true]))
     obtain ⟨b,off,ac,ap,al,ak,cc,cp,cl',ck,rfl,NU⟩:=Em HS.out hx;have hP:=NU.up hbel;have HP:=hid hP;have Cc:=hid (ng wr b (off+k*11) kd lv i t d ti at_ li ks ac ap al ak cc cp cl' ck hP);have FT:=hid (fun w=>Ec kd par w);have CI:=hid (fun wx (hb:Below wr.heap.size wr wx) hf=>pF cl wx b (off+k*11) kd lv i t d ti at_ li ks ac ap al ak cc cp cl' ck (hP.up hb) hbs hf LQ);have CK:=hid (fun wx (hb:Below wr.heap.size wr wx)=>IH.out (aj.aW ks) (by omega) ks kd (dp+1) ak ck wx (YI _) (by omega) hks hmk (hP.up hb).rd.kids);have bB:=hid aH;clear hxs hsz Nf hbs hks LQ hmk hP NU aH hx hbel;cases hf:D9 kd lv i t d ti at_ li ks with
     | false=>
      rw [hf] at Cc;have HE:Hid (E=5):=by show E=5;have:=bB.out;rw [if_pos (.inl hf)] at this;exact this.symm
      clear hf;go_wp2_with fail
      refine Cc.out.mono ?_;rintro e w2 ⟨rfl,hb2⟩;go_wp2;go_ret;exact ⟨by rw [HE.out];rfl,aM HB.out hb2⟩
     | true=>
      rw [hf] at Cc;cases hpl:jf kd par with
      | false=>
       rw [hpl] at FT;have HE:Hid (E=5):=by show E=5;have:=bB.out;rw [if_pos (.inr hpl)] at this;exact this.symm
       clear hf hpl;go_wp2_with fail
       refine Cc.out.mono ?_;rintro e w2 ⟨rfl,hb2⟩;obtain ⟨p0,p1,p2,p3,p4,p5,p6,p7,p8,p9,Ea⟩:=(HP.out.up hb2).cells;go_wp2_with fail
       refine (FT.out _).mono ?_;rintro e w3 ⟨rfl,hb3⟩;go_wp2;go_ret;exact ⟨by rw [HE.out];rfl,aM HB.out (aM hb2 hb3)⟩
      | true=>
       rw [hpl] at FT;have pq:Hid ((if dA cl kd lv i t d ti at_ li ks≠0 then dA cl kd lv i t d ti at_ li ks else if aj.aN cl kd (dp+1) ks≠0 then aj.aN cl kd (dp+1) ks else aj.aN cl par dp (l.drop (k+1)))=E):=by show _=_;have:=bB.out;rw [if_neg (by rw [hf,hpl];simp)] at this;exact this
       have L8:=hid (fun wx hb=>CI.out wx hb hf);clear hf hpl bB CI;generalize dA cl kd lv i t d ti at_ li ks=E1 at *
       generalize aj.aN cl kd (dp+1) ks=E2 at *;obtain ⟨c0,c1,c2,c3,c4,c5,c6,c7,c8,c9,c10⟩:=HP.out.cells;go_wp2_with fail
       refine Cc.out.mono ?_;rintro e w2 ⟨rfl,hb2⟩;obtain ⟨p0,p1,p2,p3,p4,p5,p6,p7,p8,p9,Ea⟩:=(HP.out.up hb2).cells;go_wp2_with fail
       refine (FT.out _).mono ?_;rintro e w3 ⟨rfl,hb3⟩;have Ce:=hid (aM hb2 hb3);have GH:=hid (L8.out _ Ce.out);clear c0 c1 c2 c3 c4 c5 c6 c7 c8 c9 c10 p0 p1 p2 p3 p4 p5 p6 p7 p8 p9 Ea hb2 hb3 L8;by_cases h1:E1=0
       ·have GI:Hid ((if E2≠0 then E2 else aj.aN cl par dp (l.drop (k+1)))=E):=by
         show _=_;have:=pq.out;rw [if_neg (by simpa using h1)] at this;exact this
        subst h1;go_wp2_with fail
        refine GH.out.mono ?_;rintro e w4 ⟨rfl,hb4⟩;have tV:=hid (aM Ce.out hb4);obtain ⟨p0,p1,p2,p3,p4,p5,p6,p7,p8,p9,Ea⟩:=(HP.out.up tV.out).cells;have KY:Hid (Below wr.heap.size wr w4.drew):=eY tV.out 1;have GJ:=hid (CK.out _ KY.out);clear GH hb4 CK pq;by_cases h2:E2=0
        ·have KV:Hid (aj.aN cl par dp (l.drop (k+1))=E):=by
          show _=_;have:=GI.out;rw [if_neg (by simpa using h2)] at this;exact this
         subst h2;go_upto_region 12 with (fail)
         go_still_tail 10,(by kernel_rfl)
         change wpList _ _ _ _ _ w4.drew;go_wp2_with fail
         refine GJ.out.mono ?_;rintro e w5 ⟨rfl,hb5⟩;have AQ:=hid (aM KY.out hb5);clear GJ hb5;go_wp2;go_roundw;case rel=>exact ⟨k+1,by omega,by go_num,aM HB.out AQ.out,KV.out⟩
         case measure=>simp [intOf];omega
        ·have KV:Hid (E=E2):=by
          show _=_;have:=GI.out;rw [if_pos h2] at this;exact this.symm
         have hn2:((E2:Int) != 0)=true:=by rw [bne_iff_ne];omega
         clear h2;go_upto_region 12 with (fail)
         go_still_tail 10,(by kernel_rfl)
         change wpList _ _ _ _ _ w4.drew;go_wp2_with fail
         refine GJ.out.mono ?_;rintro e w5 ⟨rfl,hb5⟩;have AQ:=hid (aM KY.out hb5);clear GJ hb5;go_wp2;go_ret;exact ⟨by rw [KV.out];rfl,aM HB.out AQ.out⟩
       ·have GI:Hid (E=E1):=by
         show _=_;have:=pq.out;rw [if_pos h1] at this;exact this.symm
        have hn1:((E1:Int) != 0)=true:=by rw [bne_iff_ne];omega
        clear h1;go_wp2_with fail
        refine GH.out.mono ?_;rintro e w4 ⟨rfl,hb4⟩;have tV:=hid (aM Ce.out hb4);clear GH hb4;go_wp2;go_ret;exact ⟨by rw [GI.out];rfl,aM HB.out tV.out⟩
    ·have HE:Hid (E=0):=by
      show E=0;rw [<- aH,List.drop_of_length_le (by omega),aj.aN]
     clear aH;go_wp2;go_ret;exact ⟨by rw [HE.out];rfl,HB.out⟩
theorem vX (cl:ByteArray->Bool) (l:List aj) (a:Option Addr) (cap:Nat) (w:World) (hsm:aj.bW l) (hm:aj.oL l=true->pE cl) (h:Rd (·<w.heap.size) w (aX l) [.slice a l.length cap]) : Calls Tryz.prog 38 #[.slice a l.length cap] w (dO (.int .i64 (aj.aN cl 0 0 l:Nat)) w):=by
 have CK:=hid (ny cl _ l 0 0 a cap w (YI _) (by omega) hsm hm h);generalize aj.aN cl 0 0 l=E at *;clear h hsm hm;go_enter Tryz.func38,Tryz.ntmps38;go_wp2_with fail
 refine CK.out.mono ?_;rintro e w1 ⟨rfl,hb⟩;go_wp2;go_ret;exact ⟨rfl,hb⟩
open Go.RowKit
def dB (cl:ByteArray->Bool) (me:List Pr) (l:List aj):Nat:=
 if 32768<aj.aY l\/64<me.length then 3 else if bD [] me≠0 then bD [] me else aj.aN cl 0 0 l
def IZ (T:TypeId) (p:Nat) (cs:List Value) (w:World) (mb:Nat) (l:List Pr) (E:Nat) (vi:Value) (wr:World):Prop:=
 ∃ k:Nat,k<=l.length/\vi=.int .i64 k/\Cg T p cs w mb k ((l.take k).map Pr.key).reverse wr/\bD ((l.take k).map Pr.key) (l.drop k)=E
theorem yJ (cl:ByteArray->Bool) (me:List Pr) (l:List aj) (am ab:Option Addr) (cm nb cb:Nat) (w:World) (hme:me.length<=1000) (vY:∀ p∈me,p.key.size<=1000/\p.val.size<=1000) (hall:aj.aY l<=32768) (hsm:aj.bW l) (hm:aj.oL l=true->pE cl) (h1:Rd (·<w.heap.size) w (Eo me) [.slice am me.length cm]) (h2:Rd (·<w.heap.size) w (aX l) [.slice ab nb cb]) : Calls Tryz.prog 21 #[.agg #[.slice am me.length cm,.slice ab nb cb]] w (dO (.int .i64 (dB cl me l:Nat)) w):=by
 obtain ⟨a1,c1,hv1,hs1⟩:=Rd.aD h1;obtain ⟨rfl,rfl⟩:a1=am/\c1=cm:=by simp at hv1;exact ⟨hv1.1.symm,hv1.2.symm⟩
 obtain ⟨a2,c2,hv2,hs2⟩:=Rd.aD h2;obtain ⟨rfl,rfl,rfl⟩:a2=ab/\nb=l.length/\c2=cb:=by simp at hv2;exact ⟨hv2.1.symm,hv2.2.1,hv2.2.2.symm⟩
 have l1:me.length<=c1:=by simpa using hs1.le
 have m1:=hs1.max;unfold maxLen at m1;have P6:=hid hs1;have SP:=hid vY;have HB:=hid h2;have SM:=hid hsm;have MA:=hid hm;obtain ⟨V,hV⟩:∃ V,V=dB cl me l:=⟨_,rfl⟩;have HE:Hid (V=dB cl me l):=hV;have JG:=hid hall;rw [<- hV];clear hV hs1 vY h2 hsm hm h1 hv1 hv2 hall hs2;obtain ⟨w0,hw0⟩:∃ w0,w0=w.alloc (.cells #[.slice a1 me.length c1,.slice a2 l.length c2] 30):=⟨_,rfl⟩;have hb0:Below w.heap.size w w0:=by rw [hw0];exact (Below.refl _ _).alloc (YI _) _
 have k1:CB 30 w.heap.size [.slice a1 me.length c1,.slice a2 l.length c2] w0:=by rw [hw0];exact CB.new _ _ _
 have SZ:=hid (Bz l a1 a2 me.length c1 l.length c2 w0 (by have:=JG.out;omega) (HB.out.up hb0));have x0:=k1.cell 0 _ rfl;have x1:=k1.cell 1 _ rfl;have HK:=hid k1;have HB0:=hid hb0;have hall:=JG.out;obtain ⟨N,hN⟩:∃ N,N=aj.aY l:=⟨_,rfl⟩;have HN:Hid (N=aj.aY l):=hN;rw [<- hN] at SZ hall;have hb3:decide ((32768:Int)<(N:Int))=false:=by simp;omega
 clear k1 hb0 hN hall;go_enter Tryz.func21,Tryz.ntmps21;go_upto_region 1 with (fail)
 rw [<- hw0];clear hw0;go_wp2_with fail
 refine SZ.out.mono ?_;rintro e w1 ⟨rfl,b1⟩;have K1:=hid (HK.out.below b1);have B1:=hid (aM HB0.out b1);have x0:=K1.out.cell 0 _ rfl;have x1:=K1.out.cell 1 _ rfl;have LT:=hid K1.out.lt;clear SZ;by_cases hml:64<me.length
 ·have q1:decide ((64:Int)<(me.length:Int))=true:=by simp;omega
  have HV:Hid (V=3):=by show V=3;rw [HE.out,dB,if_pos (.inr hml)]
  clear b1;go_wp2;go_ret;exact ⟨by rw [HV.out];rfl,B1.out⟩
 ·have q1:decide ((64:Int)<(me.length:Int))=false:=by simp;omega
  have HE2:Hid (V=if bD [] me≠0 then bD [] me else aj.aN cl 0 0 l):=by show V=_;rw [HE.out,dB,if_neg (by have:=JG.out;omega)]
  obtain ⟨w2,hw2⟩:∃ w2,w2=w1.alloc (.map #[] 0):=⟨_,rfl⟩;have b2:Below w1.heap.size w1 w2:=by rw [hw2];exact (Below.refl _ _).alloc (YI _) _
  have K2:=hid (K1.out.below b2);have R0:Hid (IZ 30 w.heap.size [.slice a1 me.length c1,.slice a2 l.length c2] w w1.heap.size me (bD [] me) (.int .i64 0) w2):=by
   refine ⟨0,Nat.zero_le _,rfl,⟨K2.out,?_,aM B1.out b2,B1.out.size,?_,YI _⟩,rfl⟩
   ·rw [hw2];exact aV.made w1
   ·have:=LT.out;omega
  have Xl:=K2.out.cell 0 _ rfl;have x1':=K2.out.cell 1 _ rfl;obtain ⟨E1,hE1⟩:∃ E1,E1=bD [] me:=⟨_,rfl⟩;rw [<- hE1] at HE2 R0;have hmm:=@run_makeMap Tryz.prog;clear hE1 hml b1 b2;go_upto_region 4 with (fail)
  rw [<- hw2];clear hmm hw2 x0 x1;go_wp2
  go_loopw [19] (fun i wr=>IZ 30 w.heap.size [.slice a1 me.length c1,.slice a2 l.length c2] w w1.heap.size me E1 i wr) (fun i _=>me.length-(intOf i).toNat)
  case atStart=>exact R0.out
  case round=>
   clear R0 Xl x1';obtain ⟨k,hk,rfl,lM,aH⟩:=hrel;have GL:=hid lM;by_cases hlt:k<me.length
   ·obtain ⟨x,hx⟩:∃ x,me[k]?=some x:=⟨_,YG hlt⟩;obtain ⟨b,off,rfl,-,-,c0,c1'⟩:=Ep P6.out hx;have c0:wr.cell? ⟨b,off+k*2,none⟩=some (.string x.key):=by rw [lM.2.2.1.cell (p:=⟨b,off+k*2,none⟩) (fM c0)];exact c0
    have c1':wr.cell? ⟨b,off+k*2+1,none⟩=some (.string x.val):=by rw [lM.2.2.1.cell (p:=⟨b,off+k*2+1,none⟩) (fM c1')];exact c1'
    have hxs:=SP.out x (List.mem_of_getElem? hx);have HX:=hid hx;have bB:Hid (bD ((me.take k).map Pr.key) (x::me.drop (k+1))=E1):=by show _=_;rw [<- Fv me k x hx];exact aH
    obtain ⟨key,val⟩:=x;dsimp only at c0 c1' hxs;have CN:=hid (fun w=>dH key w (by omega));have CV:=hid (fun w=>D8 val w (by omega));have CT:=hid (fun w=>dZ val w (by omega));have CZ:Hid ((me.take (k+1)).map Pr.key=(me.take k).map Pr.key++[key]):=by show _=_;rw [List.take_add_one,HX.out];simp
    obtain ⟨wi,hwi⟩:∃ wi,wi=wr.alloc (.cells #[.string key,.string val] 57):=⟨_,rfl⟩;have tY:=lM.alloc (.cells #[.string key,.string val] 57);rw [<- hwi] at tY;have i0:wi.cell? ⟨wr.heap.size,0,none⟩=some (.string key):=by rw [hwi];exact bQ wr [.string key,.string val] _ 0 _ rfl
    have i1:wi.cell? ⟨wr.heap.size,1,none⟩=some (.string val):=by rw [hwi];exact bQ wr [.string key,.string val] _ 1 _ rfl
    have FD:=hid tY;clear aH lM hx;cases hn:lJ key with
    | false=>
     rw [hn] at CN;have HV:Hid (V=6):=by show V=6;have:=bB.out;rw [bD,if_pos hn] at this;rw [HE2.out,<- this];rfl
     clear hn;go_upto_region 7 with (fail)
     rw [<- hwi];clear hwi tY;go_wp2_with fail
     refine (CN.out _).mono ?_;rintro e w3 ⟨rfl,rfl⟩;go_wp2;go_ret;exact ⟨by rw [HV.out];rfl,FD.out.2.2.1⟩
    | true=>
     rw [hn] at CN;cases hln:gL val with
     | false=>
      rw [hln] at CV;have HV:Hid (V=17):=by show V=17;have:=bB.out;rw [bD,if_neg (by rw [hn];decide),if_pos (.inl hln)] at this;rw [HE2.out,<- this];rfl
      clear hn hln;go_upto_region 7 with (fail)
      rw [<- hwi];clear hwi tY;go_wp2_with fail
      refine (CN.out _).mono ?_;rintro e w3 ⟨rfl,rfl⟩;go_wp2_with fail
      refine (CV.out _).mono ?_;rintro e w3 ⟨rfl,q,rfl⟩;go_wp2;go_ret;exact ⟨by rw [HV.out];rfl,eY FD.out.2.2.1 q⟩
     | true=>
      rw [hln] at CV;cases htr:trimS val with
      | false=>
       rw [htr] at CT;have HV:Hid (V=17):=by show V=17;have:=bB.out;rw [bD,if_neg (by rw [hn];decide),if_pos (.inr htr)] at this;rw [HE2.out,<- this];rfl
       clear hn hln htr;go_upto_region 7 with (fail)
       rw [<- hwi];clear hwi tY;go_wp2_with fail
       refine (CN.out _).mono ?_;rintro e w3 ⟨rfl,rfl⟩;go_wp2_with fail
       refine (CV.out _).mono ?_;rintro e w3 ⟨rfl,q,rfl⟩;go_wp2_with fail
       refine (CT.out _).mono ?_;rintro e w3 ⟨rfl,rfl⟩;go_wp2;go_ret;exact ⟨by rw [HV.out];rfl,eY FD.out.2.2.1 q⟩
      | true=>
       rw [htr] at CT;have NZ:=hid (fun q=>(tY.drewN q).2.1.look key (by unfold maxLen;omega));have KZ:=hid (fun q=>(tY.drewN q).2.1.put key (by unfold maxLen;omega) (by unfold maxLen;omega));have hor:¬ (gL val=false\/trimS val=false):=by rw [hln,htr];decide
       cases hb:hasB ((me.take k).map Pr.key) key with
       | true=>
        have HV:Hid (V=7):=by show V=7;have:=bB.out;rw [bD,if_neg (by rw [hn];decide),if_neg hor,if_pos hb] at this;rw [HE2.out,<- this];rfl
        have RQ:=hid hb;clear hn hln hb htr hor;go_upto_region 7 with (fail)
        rw [<- hwi];clear hwi tY;go_wp2_with fail
        refine (CN.out _).mono ?_;rintro e w3 ⟨rfl,rfl⟩;go_wp2_with fail
        refine (CV.out _).mono ?_;rintro e w3 ⟨rfl,q,rfl⟩;go_wp2_with fail
        refine (CT.out _).mono ?_;rintro e w3 ⟨rfl,rfl⟩;have hlk:=NZ.out q;rw [gy,RQ.out] at hlk;go_wp2;go_ret;exact ⟨by rw [HV.out];rfl,eY FD.out.2.2.1 q⟩
       | false=>
        have JH:Hid (bD ((me.take (k+1)).map Pr.key) (me.drop (k+1))=E1):=by show _=_;have:=bB.out;rw [bD,if_neg (by rw [hn];decide),if_neg hor,if_neg (by rw [hb];decide)] at this;rw [CZ.out];exact this
        have RQ:=hid hb;clear hn hln hb htr hor;go_upto_region 7 with (fail)
        rw [<- hwi];clear hwi tY;go_wp2_with fail
        refine (CN.out _).mono ?_;rintro e w3 ⟨rfl,rfl⟩;go_wp2_with fail
        refine (CV.out _).mono ?_;rintro e w3 ⟨rfl,q,rfl⟩;go_wp2_with fail
        refine (CT.out _).mono ?_;rintro e w3 ⟨rfl,rfl⟩;have hlk:=NZ.out q;rw [gy,RQ.out] at hlk;obtain ⟨w',hup,hS',hg⟩:=KZ.out q;have N7:=hid ((FD.out.drewN q).put hg hS');clear hS' hg;go_wp2;go_roundw;case rel=>exact ⟨k+1,by omega,by go_num,by rw [CZ.out,List.reverse_append];exact N7.out,JH.out⟩
        case measure=>simp [intOf];omega
   ·obtain rfl:k=me.length:=by omega
    have HV:Hid (V=aj.aN cl 0 0 l):=by show V=_;rw [List.drop_length,bD] at aH;rw [HE2.out,<- aH];rfl
    have p1:wr.cell? ⟨w.heap.size,1,none⟩=some (.slice a2 l.length c2):=lM.1.cell 1 _ rfl;have TB:=hid (vX cl l a2 c2 wr SM.out MA.out (HB.out.up lM.2.2.1));rw [<- HV.out] at TB;clear aH lM hk hlt;go_wp2_with fail
    refine TB.out.mono ?_;rintro e w4 ⟨rfl,b4⟩;go_wp2;go_ret;exact ⟨rfl,aM GL.out.2.2.1 b4⟩
end Go.Proofs.YtnmldmofggkoeaaGreatDoor

