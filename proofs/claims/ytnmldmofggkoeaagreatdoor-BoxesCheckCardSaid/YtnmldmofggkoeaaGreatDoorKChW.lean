/- Contracts of tree.checkBlocks and Blocks: the first error of blocks; of a formula's check they ask the contract where there is a formula. The contract of tree.Check: the first error of a document. -/
import Derived.Test.YtnmldmofggkoeaaGreatDoorKChU
import Derived.StillTailTactics
set_option maxHeartbeats 8000000
set_option maxRecDepth 100000
open Go.Lib (hid)
namespace Go.Proofs.YtnmldmofggkoeaaGreatDoor
open List renaming getElem?_eq_getElem->XR
open Nat renaming le_refl->XU
open Go.RowKit
set_option linter.unusedVariables false
set_option linter.unusedSimpArgs false
mutual
def aj.PG:aj->Bool
 | .mk k _ _ _ _ _ _ _ ks=>decide (k=4)||aj.oo ks
def aj.oo:List aj->Bool
 | []=>false
 | x::l=>x.PG||aj.oo l
end
theorem aj.vR:∀ {l:List aj} {k:Nat} {x:aj},l[k]?=some x->x.PG=true->aj.oo l=true
 | [],_,_,h,_=>by simp at h
 | y::l,0,x,h,hx=>by simp at h;subst h;rw [aj.oo,hx];rfl
 | y::l,k+1,x,h,hx=>by rw [aj.oo,aj.vR (l:=l) (k:=k) (by simpa using h) hx,Bool.or_true]
mutual
def aj.mid:aj->Prop
 | .mk k lv i t d ti a li ks=>i.size<=300/\t.size<=300/\d.size<=300/\ti.size<=300/\a.short/\ah.dG li/\aj.dG ks
def aj.dG:List aj->Prop
 | []=>True
 | x::l=>x.mid/\aj.dG l
end
mutual
theorem aj.yL:∀ (x:aj),x.small->x.mid
 | .mk k lv i t d ti a li ks,h=>by
  rw [aj.small] at h;rw [aj.mid];obtain ⟨h1,h2,h3,h4,h5,h6,h7,h8⟩:=h;exact ⟨h1,h2,h3,h4,h5,ah.gV li h6,aj.gV ks h8⟩
theorem aj.gV:∀ (l:List aj),aj.aK l->aj.dG l
 | [],_=>by rw [aj.dG];trivial
 | x::l,h=>by
  rw [aj.aK] at h;rw [aj.dG];exact ⟨aj.yL x h.1,aj.gV l h.2⟩
end
theorem aj.iY:∀ {l:List aj} {k:Nat} {x:aj},aj.dG l->l[k]?=some x->x.mid
 | [],_,_,_,h=>by simp at h
 | y::l,0,x,hb,h=>by simp at h;subst h;rw [aj.dG] at hb;exact hb.1
 | y::l,k+1,x,hb,h=>by rw [aj.dG] at hb;exact aj.iY (l:=l) (k:=k) hb.2 (by simpa using h)
theorem KF {k lv:Int} {i t d ti:ByteArray} {a:At} {li:List ah} {ks:List aj} (h:(aj.mk k lv i t d ti a li ks).mid):TQ i t d ti a li/\aj.dG ks:=by unfold aj.mid at h;obtain ⟨h1,h2,h3,h4,h5,h6,h8⟩:=h;exact ⟨⟨h1,h2,h3,h4,h5,h6⟩,h8⟩
theorem sM (cl:ByteArray->Bool) (par:Int) (dp:Nat) (k lv:Int) (i t d ti:ByteArray) (a:At) (li:List ah) (ks l:List aj) (Gp:¬ 15<dp) : aj.aQ cl par dp (aj.mk k lv i t d ti a li ks::l)=if bQ k lv i t d ti a li ks=false\/jS k par=false then 5 else if eU cl k lv i t d ti a li ks≠0 then eU cl k lv i t d ti a li ks else if aj.aQ cl k (dp+1) ks≠0 then aj.aQ cl k (dp+1) ks else aj.aQ cl par dp l:=by
 rw [aj.aQ,aj.err,if_neg Gp];by_cases h1:bQ k lv i t d ti a li ks=false\/jS k par=false
 ·rw [if_pos h1,if_pos h1];rfl
 ·rw [if_neg h1,if_neg h1];by_cases h2:eU cl k lv i t d ti a li ks=0
  ·simp only [h2,ne_eq,not_true_eq_false,if_false]
  ·simp only [ne_eq,h2,not_false_eq_true,if_true]
def Eo (cl:ByteArray->Bool) (l:List aj) (par:Int) (dp:Nat) (E:Nat) (w:World) (vi:Value) (wr:World):Prop:=∃ k:Nat,k<=l.length/\vi=.int .i64 k/\Below w.heap.size w wr/\aj.aQ cl par dp (l.drop k)=E
theorem mV (cl:ByteArray->Bool) (n:Nat):∀ (l:List aj) (par:Int) (dp:Nat) (a:Option Addr) (cap:Nat) (w:World),aj.aV l<=n->dp<=1000000->aj.dG l->(aj.oo l=true->mo cl)->Rd (·<w.heap.size) w (aY l) [.slice a l.length cap] -> Calls Tryz.prog 52 #[.slice a l.length cap,.int .i64 par,.int .i64 (dp:Int)] w (dA (.int .i64 (aj.aQ cl par dp l:Nat)) w):=by
 induction n using Nat.strongRecOn with
 | _ n ih=>
  intro l par dp a cap w hn hdp hsm hmt h;obtain ⟨a',c',hv,hs⟩:=Rd.aC h;obtain ⟨rfl,rfl⟩:a'=a/\c'=cap:=by simp at hv;exact ⟨hv.1.symm,hv.2.symm⟩
  have hcap:l.length<=c':=by simpa using hs.le
  have hmx:=hs.max;unfold maxLen at hmx;have HS:=hid hs;have IH:=hid ih;have SM:=hid hsm;have MT:=hid hmt;obtain ⟨E,hE⟩:∃ E,aj.aQ cl par dp l=E:=⟨_,rfl⟩;rw [hE];have R0:Hid (Eo cl l par dp E w (.int .i64 0) w):=⟨0,Nat.zero_le _,rfl,Below.refl _ _,hE⟩;clear hs hv h ih hsm hmt hE;by_cases Gp:15<dp
  ·have Rc:decide ((15:Int)<(dp:Int))=true:=by simp;omega
   go_enter Tryz.func52,Tryz.ntmps52;go_wp2
   go_loopw [13] (fun i wr=>Eo cl l par dp E w i wr) (fun i _=>l.length-(intOf i).toNat)
   case atStart=>exact R0.out
   case round=>
    clear R0;obtain ⟨k,hk,rfl,hbel,aG⟩:=hrel;have HB:=hid hbel;by_cases hlt:k<l.length
    ·obtain ⟨x,hx⟩:∃ x,l[k]?=some x:=⟨_,XR hlt⟩;have HE:Hid (E=11):=by
      show E=11;rw [<- aG,BS l k x hx,aj.aQ];have:x.err cl par dp=11:=by cases x;rw [aj.err,if_pos Gp]
      rw [this];rfl
     clear aG hx;go_wp2;go_ret;exact ⟨by rw [HE.out];rfl,HB.out⟩
    ·have HE:Hid (E=0):=by
      show E=0;rw [<- aG,List.drop_of_length_le (by omega),aj.aQ]
     clear aG;go_wp2;go_ret;exact ⟨by rw [HE.out];rfl,HB.out⟩
  ·have Rc:decide ((15:Int)<(dp:Int))=false:=by simp;omega
   go_enter Tryz.func52,Tryz.ntmps52;go_wp2
   go_loopw [13] (fun i wr=>Eo cl l par dp E w i wr) (fun i _=>l.length-(intOf i).toNat)
   case atStart=>exact R0.out
   case round=>
    clear R0;obtain ⟨k,hk,rfl,hbel,aG⟩:=hrel;have HB:=hid hbel;by_cases hlt:k<l.length
    ·obtain ⟨x,hx⟩:∃ x,l[k]?=some x:=⟨_,XR hlt⟩;have hxs:x.mid:=aj.iY SM.out hx;have hsz:=aj.cZ l k _ hx;have Mv:=aj.vR hx;rw [BS l k x hx] at aG;obtain ⟨kd,lv,i,t,d,ti,at_,li,ks⟩:=x;rw [aj.sz] at hsz;obtain ⟨hbs,hks⟩:=KF hxs;rw [sM _ _ _ _ _ _ _ _ _ _ _ _ _ Gp] at aG;have Li:kd=4->mo cl:=fun e=>MT.out (Mv (by rw [aj.PG,decide_eq_true e];rfl))
     have hmk:aj.oo ks=true->mo cl:=fun e=>MT.out (Mv (by rw [aj.PG,e,Bool.or_true]))
     obtain ⟨b,off,ac,ap,al,ak,cc,cp,cl',ck,rfl,NR⟩:=En HS.out hx;have hP:=NR.up hbel;have HP:=hid hP;have BZ:=hid (mR wr b (off+k*11) kd lv i t d ti at_ li ks ac ap al ak cc cp cl' ck hP);have FT:=hid (fun w=>Ed kd par w);have CI:=hid (fun wx (hb:Below wr.heap.size wr wx) hf=>oQ cl wx b (off+k*11) kd lv i t d ti at_ li ks ac ap al ak cc cp cl' ck (hP.up hb) hbs hf Li);have CK:=hid (fun wx (hb:Below wr.heap.size wr wx)=>IH.out (aj.aV ks) (by omega) ks kd (dp+1) ak ck wx (XU _) (by omega) hks hmk (hP.up hb).rd.kids);have aT:=hid aG;clear hxs hsz Mv hbs hks Li hmk hP NR aG hx hbel;cases hf:bQ kd lv i t d ti at_ li ks with
     | false=>
      rw [hf] at BZ;have HE:Hid (E=5):=by show E=5;have:=aT.out;rw [if_pos (.inl hf)] at this;exact this.symm
      clear hf;go_wp2_with fail
      refine BZ.out.mono ?_;rintro e w2 ⟨rfl,hb2⟩;go_wp2;go_ret;exact ⟨by rw [HE.out];rfl,aL HB.out hb2⟩
     | true=>
      rw [hf] at BZ;cases hpl:jS kd par with
      | false=>
       rw [hpl] at FT;have HE:Hid (E=5):=by show E=5;have:=aT.out;rw [if_pos (.inr hpl)] at this;exact this.symm
       clear hf hpl;go_wp2_with fail
       refine BZ.out.mono ?_;rintro e w2 ⟨rfl,hb2⟩;obtain ⟨p0,p1,p2,p3,p4,p5,p6,p7,p8,p9,Ea⟩:=(HP.out.up hb2).cells;go_wp2_with fail
       refine (FT.out _).mono ?_;rintro e w3 ⟨rfl,hb3⟩;go_wp2;go_ret;exact ⟨by rw [HE.out];rfl,aL HB.out (aL hb2 hb3)⟩
      | true=>
       rw [hpl] at FT;have oO:Hid ((if eU cl kd lv i t d ti at_ li ks≠0 then eU cl kd lv i t d ti at_ li ks else if aj.aQ cl kd (dp+1) ks≠0 then aj.aQ cl kd (dp+1) ks else aj.aQ cl par dp (l.drop (k+1)))=E):=by show _=_;have:=aT.out;rw [if_neg (by rw [hf,hpl];simp)] at this;exact this
       have LG:=hid (fun wx hb=>CI.out wx hb hf);clear hf hpl aT CI;generalize eU cl kd lv i t d ti at_ li ks=E1 at *
       generalize aj.aQ cl kd (dp+1) ks=E2 at *;obtain ⟨c0,c1,c2,c3,c4,c5,c6,c7,c8,c9,c10⟩:=HP.out.cells;go_wp2_with fail
       refine BZ.out.mono ?_;rintro e w2 ⟨rfl,hb2⟩;obtain ⟨p0,p1,p2,p3,p4,p5,p6,p7,p8,p9,Ea⟩:=(HP.out.up hb2).cells;go_wp2_with fail
       refine (FT.out _).mono ?_;rintro e w3 ⟨rfl,hb3⟩;have Ca:=hid (aL hb2 hb3);have Gr:=hid (LG.out _ Ca.out);clear c0 c1 c2 c3 c4 c5 c6 c7 c8 c9 c10 p0 p1 p2 p3 p4 p5 p6 p7 p8 p9 Ea hb2 hb3 LG;by_cases h1:E1=0
       ·have Gs:Hid ((if E2≠0 then E2 else aj.aQ cl par dp (l.drop (k+1)))=E):=by
         show _=_;have:=oO.out;rw [if_neg (by simpa using h1)] at this;exact this
        subst h1;go_wp2_with fail
        refine Gr.out.mono ?_;rintro e w4 ⟨rfl,hb4⟩;have mX:=hid (aL Ca.out hb4);obtain ⟨p0,p1,p2,p3,p4,p5,p6,p7,p8,p9,Ea⟩:=(HP.out.up mX.out).cells;have KG:Hid (Below wr.heap.size wr w4.drew):=q01 mX.out 1;have Gt:=hid (CK.out _ KG.out);clear Gr hb4 CK oO;by_cases h2:E2=0
        ·have Kz:Hid (aj.aQ cl par dp (l.drop (k+1))=E):=by
          show _=_;have:=Gs.out;rw [if_neg (by simpa using h2)] at this;exact this
         subst h2;go_upto_region 12 with (fail)
         go_still_tail 10,(by kernel_rfl)
         change wpList _ _ _ _ _ w4.drew;go_wp2_with fail
         refine Gt.out.mono ?_;rintro e w5 ⟨rfl,hb5⟩;have uh:=hid (aL KG.out hb5);clear Gt hb5;go_wp2;go_roundw;case rel=>exact ⟨k+1,by omega,by go_num,aL HB.out uh.out,Kz.out⟩
         case measure=>simp [intOf];omega
        ·have Kz:Hid (E=E2):=by
          show _=_;have:=Gs.out;rw [if_pos h2] at this;exact this.symm
         have hn2:((E2:Int) != 0)=true:=by rw [bne_iff_ne];omega
         clear h2;go_upto_region 12 with (fail)
         go_still_tail 10,(by kernel_rfl)
         change wpList _ _ _ _ _ w4.drew;go_wp2_with fail
         refine Gt.out.mono ?_;rintro e w5 ⟨rfl,hb5⟩;have uh:=hid (aL KG.out hb5);clear Gt hb5;go_wp2;go_ret;exact ⟨by rw [Kz.out];rfl,aL HB.out uh.out⟩
       ·have Gs:Hid (E=E1):=by
         show _=_;have:=oO.out;rw [if_pos h1] at this;exact this.symm
        have hn1:((E1:Int) != 0)=true:=by rw [bne_iff_ne];omega
        clear h1;go_wp2_with fail
        refine Gr.out.mono ?_;rintro e w4 ⟨rfl,hb4⟩;have mX:=hid (aL Ca.out hb4);clear Gr hb4;go_wp2;go_ret;exact ⟨by rw [Gs.out];rfl,aL HB.out mX.out⟩
    ·have HE:Hid (E=0):=by
      show E=0;rw [<- aG,List.drop_of_length_le (by omega),aj.aQ]
     clear aG;go_wp2;go_ret;exact ⟨by rw [HE.out];rfl,HB.out⟩
theorem vS (cl:ByteArray->Bool) (l:List aj) (a:Option Addr) (cap:Nat) (w:World) (hsm:aj.dG l) (hm:aj.oo l=true->mo cl) (h:Rd (·<w.heap.size) w (aY l) [.slice a l.length cap]) : Calls Tryz.prog 38 #[.slice a l.length cap] w (dA (.int .i64 (aj.aQ cl 0 0 l:Nat)) w):=by
 have CK:=hid (mV cl _ l 0 0 a cap w (XU _) (by omega) hsm hm h);generalize aj.aQ cl 0 0 l=E at *;clear h hsm hm;go_enter Tryz.func38,Tryz.ntmps38;go_wp2_with fail
 refine CK.out.mono ?_;rintro e w1 ⟨rfl,hb⟩;go_wp2;go_ret;exact ⟨rfl,hb⟩
theorem vT (cl:ByteArray->Bool) (l:List aj) (a:Option Addr) (cap:Nat) (w:World) (hsm:aj.aK l) (hm:aj.oo l=true->mo cl) (h:Rd (·<w.heap.size) w (aY l) [.slice a l.length cap]) : Calls Tryz.prog 38 #[.slice a l.length cap] w (dA (.int .i64 (aj.aQ cl 0 0 l:Nat)) w):=vS cl l a cap w (aj.gV l hsm) hm h
open Go.RowKit
def eH (cl:ByteArray->Bool) (me:List Pr) (l:List aj):Nat:=
 if 32768<aj.bB l\/64<me.length then 3 else if bK [] me≠0 then bK [] me else aj.aQ cl 0 0 l
def Iu (T:TypeId) (p:Nat) (cs:List Value) (w:World) (mb:Nat) (l:List Pr) (E:Nat) (vi:Value) (wr:World):Prop:=
 ∃ k:Nat,k<=l.length/\vi=.int .i64 k/\Cb T p cs w mb k ((l.take k).map Pr.key).reverse wr/\bK ((l.take k).map Pr.key) (l.drop k)=E
theorem yj (cl:ByteArray->Bool) (me:List Pr) (l:List aj) (am ab:Option Addr) (cm nb cb:Nat) (w:World) (hme:me.length<=1000) (uS:∀ p∈me,p.key.size<=1000/\p.val.size<=1000) (hall:aj.bB l<=32768) (hsm:aj.aK l) (hm:aj.oo l=true->mo cl) (h1:Rd (·<w.heap.size) w (DN me) [.slice am me.length cm]) (h2:Rd (·<w.heap.size) w (aY l) [.slice ab nb cb]) : Calls Tryz.prog 21 #[.agg #[.slice am me.length cm,.slice ab nb cb]] w (dA (.int .i64 (eH cl me l:Nat)) w):=by
 obtain ⟨a1,c1,hv1,hs1⟩:=Rd.aC h1;obtain ⟨rfl,rfl⟩:a1=am/\c1=cm:=by simp at hv1;exact ⟨hv1.1.symm,hv1.2.symm⟩
 obtain ⟨a2,c2,hv2,hs2⟩:=Rd.aC h2;obtain ⟨rfl,rfl,rfl⟩:a2=ab/\nb=l.length/\c2=cb:=by simp at hv2;exact ⟨hv2.1.symm,hv2.2.1,hv2.2.2.symm⟩
 have l1:me.length<=c1:=by simpa using hs1.le
 have m1:=hs1.max;unfold maxLen at m1;have Wt:=hid hs1;have SP:=hid uS;have HB:=hid h2;have SM:=hid hsm;have MA:=hid hm;obtain ⟨V,hV⟩:∃ V,V=eH cl me l:=⟨_,rfl⟩;have HE:Hid (V=eH cl me l):=hV;have FI:=hid hall;rw [<- hV];clear hV hs1 uS h2 hsm hm h1 hv1 hv2 hall hs2;obtain ⟨w0,hw0⟩:∃ w0,w0=w.alloc (.cells #[.slice a1 me.length c1,.slice a2 l.length c2] 30):=⟨_,rfl⟩;have hb0:Below w.heap.size w w0:=by rw [hw0];exact (Below.refl _ _).alloc (XU _) _
 have k1:CB 30 w.heap.size [.slice a1 me.length c1,.slice a2 l.length c2] w0:=by rw [hw0];exact CB.new _ _ _
 have SZ:=hid (Bp l a1 a2 me.length c1 l.length c2 w0 (by have:=FI.out;omega) (HB.out.up hb0));have x0:=k1.cell 0 _ rfl;have x1:=k1.cell 1 _ rfl;have HK:=hid k1;have HB0:=hid hb0;have hall:=FI.out;obtain ⟨N,hN⟩:∃ N,N=aj.bB l:=⟨_,rfl⟩;have HN:Hid (N=aj.bB l):=hN;rw [<- hN] at SZ hall;have hb3:decide ((32768:Int)<(N:Int))=false:=by simp;omega
 clear k1 hb0 hN hall;go_enter Tryz.func21,Tryz.ntmps21;go_upto_region 1 with (fail)
 rw [<- hw0];clear hw0;go_wp2_with fail
 refine SZ.out.mono ?_;rintro e w1 ⟨rfl,b1⟩;have K1:=hid (HK.out.below b1);have B1:=hid (aL HB0.out b1);have x0:=K1.out.cell 0 _ rfl;have x1:=K1.out.cell 1 _ rfl;have LT:=hid K1.out.lt;clear SZ;by_cases hml:64<me.length
 ·have q1:decide ((64:Int)<(me.length:Int))=true:=by simp;omega
  have HV:Hid (V=3):=by show V=3;rw [HE.out,eH,if_pos (.inr hml)]
  clear b1;go_wp2;go_ret;exact ⟨by rw [HV.out];rfl,B1.out⟩
 ·have q1:decide ((64:Int)<(me.length:Int))=false:=by simp;omega
  have HE2:Hid (V=if bK [] me≠0 then bK [] me else aj.aQ cl 0 0 l):=by show V=_;rw [HE.out,eH,if_neg (by have:=FI.out;omega)]
  obtain ⟨w2,hw2⟩:∃ w2,w2=w1.alloc (.map #[] 0):=⟨_,rfl⟩;have b2:Below w1.heap.size w1 w2:=by rw [hw2];exact (Below.refl _ _).alloc (XU _) _
  have K2:=hid (K1.out.below b2);have R0:Hid (Iu 30 w.heap.size [.slice a1 me.length c1,.slice a2 l.length c2] w w1.heap.size me (bK [] me) (.int .i64 0) w2):=by
   refine ⟨0,Nat.zero_le _,rfl,⟨K2.out,?_,aL B1.out b2,B1.out.size,?_,XU _⟩,rfl⟩
   ·rw [hw2];exact aU.made w1
   ·have:=LT.out;omega
  have Wu:=K2.out.cell 0 _ rfl;have x1':=K2.out.cell 1 _ rfl;obtain ⟨E1,hE1⟩:∃ E1,E1=bK [] me:=⟨_,rfl⟩;rw [<- hE1] at HE2 R0;have hmm:=@run_makeMap Tryz.prog;clear hE1 hml b1 b2;go_upto_region 4 with (fail)
  rw [<- hw2];clear hmm hw2 x0 x1;go_wp2
  go_loopw [19] (fun i wr=>Iu 30 w.heap.size [.slice a1 me.length c1,.slice a2 l.length c2] w w1.heap.size me E1 i wr) (fun i _=>me.length-(intOf i).toNat)
  case atStart=>exact R0.out
  case round=>
   clear R0 Wu x1';obtain ⟨k,hk,rfl,lC,aG⟩:=hrel;have Gv:=hid lC;by_cases hlt:k<me.length
   ·obtain ⟨x,hx⟩:∃ x,me[k]?=some x:=⟨_,XR hlt⟩;obtain ⟨b,off,rfl,-,-,c0,c1'⟩:=Ep Wt.out hx;have c0:wr.cell? ⟨b,off+k*2,none⟩=some (.string x.key):=by rw [lC.2.2.1.cell (p:=⟨b,off+k*2,none⟩) (fJ c0)];exact c0
    have c1':wr.cell? ⟨b,off+k*2+1,none⟩=some (.string x.val):=by rw [lC.2.2.1.cell (p:=⟨b,off+k*2+1,none⟩) (fJ c1')];exact c1'
    have hxs:=SP.out x (List.mem_of_getElem? hx);have HX:=hid hx;have aT:Hid (bK ((me.take k).map Pr.key) (x::me.drop (k+1))=E1):=by show _=_;rw [<- BS me k x hx];exact aG
    obtain ⟨key,val⟩:=x;dsimp only at c0 c1' hxs;have CN:=hid (fun w=>dM key w (by omega));have CV:=hid (fun w=>D9 val w (by omega));have CT:=hid (fun w=>dY val w (by omega));have xD:Hid ((me.take (k+1)).map Pr.key=(me.take k).map Pr.key++[key]):=by show _=_;rw [List.take_add_one,HX.out];simp
    obtain ⟨wi,hwi⟩:∃ wi,wi=wr.alloc (.cells #[.string key,.string val] 57):=⟨_,rfl⟩;have tC:=lC.alloc (.cells #[.string key,.string val] 57);rw [<- hwi] at tC;have i0:wi.cell? ⟨wr.heap.size,0,none⟩=some (.string key):=by rw [hwi];exact Eb wr [.string key,.string val] _ 0 _ rfl
    have i1:wi.cell? ⟨wr.heap.size,1,none⟩=some (.string val):=by rw [hwi];exact Eb wr [.string key,.string val] _ 1 _ rfl
    have Fp:=hid tC;clear aG lC hx;cases hn:iA key with
    | false=>
     rw [hn] at CN;have HV:Hid (V=6):=by show V=6;have:=aT.out;rw [bK,if_pos hn] at this;rw [HE2.out,<- this];rfl
     clear hn;go_upto_region 7 with (fail)
     rw [<- hwi];clear hwi tC;go_wp2_with fail
     refine (CN.out _).mono ?_;rintro e w3 ⟨rfl,rfl⟩;go_wp2;go_ret;exact ⟨by rw [HV.out];rfl,Fp.out.2.2.1⟩
    | true=>
     rw [hn] at CN;cases hln:iw val with
     | false=>
      rw [hln] at CV;have HV:Hid (V=17):=by show V=17;have:=aT.out;rw [bK,if_neg (by rw [hn];decide),if_pos (.inl hln)] at this;rw [HE2.out,<- this];rfl
      clear hn hln;go_upto_region 7 with (fail)
      rw [<- hwi];clear hwi tC;go_wp2_with fail
      refine (CN.out _).mono ?_;rintro e w3 ⟨rfl,rfl⟩;go_wp2_with fail
      refine (CV.out _).mono ?_;rintro e w3 ⟨rfl,q,rfl⟩;go_wp2;go_ret;exact ⟨by rw [HV.out];rfl,q01 Fp.out.2.2.1 q⟩
     | true=>
      rw [hln] at CV;cases htr:trimS val with
      | false=>
       rw [htr] at CT;have HV:Hid (V=17):=by show V=17;have:=aT.out;rw [bK,if_neg (by rw [hn];decide),if_pos (.inr htr)] at this;rw [HE2.out,<- this];rfl
       clear hn hln htr;go_upto_region 7 with (fail)
       rw [<- hwi];clear hwi tC;go_wp2_with fail
       refine (CN.out _).mono ?_;rintro e w3 ⟨rfl,rfl⟩;go_wp2_with fail
       refine (CV.out _).mono ?_;rintro e w3 ⟨rfl,q,rfl⟩;go_wp2_with fail
       refine (CT.out _).mono ?_;rintro e w3 ⟨rfl,rfl⟩;go_wp2;go_ret;exact ⟨by rw [HV.out];rfl,q01 Fp.out.2.2.1 q⟩
      | true=>
       rw [htr] at CT;have NW:=hid (fun q=>(tC.drewN q).2.1.look key (by unfold maxLen;omega));have KJ:=hid (fun q=>(tC.drewN q).2.1.put key (by unfold maxLen;omega) (by unfold maxLen;omega));have hor:¬ (iw val=false\/trimS val=false):=by rw [hln,htr];decide
       cases hb:hasB ((me.take k).map Pr.key) key with
       | true=>
        have HV:Hid (V=7):=by show V=7;have:=aT.out;rw [bK,if_neg (by rw [hn];decide),if_neg hor,if_pos hb] at this;rw [HE2.out,<- this];rfl
        have Rj:=hid hb;clear hn hln hb htr hor;go_upto_region 7 with (fail)
        rw [<- hwi];clear hwi tC;go_wp2_with fail
        refine (CN.out _).mono ?_;rintro e w3 ⟨rfl,rfl⟩;go_wp2_with fail
        refine (CV.out _).mono ?_;rintro e w3 ⟨rfl,q,rfl⟩;go_wp2_with fail
        refine (CT.out _).mono ?_;rintro e w3 ⟨rfl,rfl⟩;have hlk:=NW.out q;rw [fU,Rj.out] at hlk;go_wp2;go_ret;exact ⟨by rw [HV.out];rfl,q01 Fp.out.2.2.1 q⟩
       | false=>
        have FD:Hid (bK ((me.take (k+1)).map Pr.key) (me.drop (k+1))=E1):=by show _=_;have:=aT.out;rw [bK,if_neg (by rw [hn];decide),if_neg hor,if_neg (by rw [hb];decide)] at this;rw [xD.out];exact this
        have Rj:=hid hb;clear hn hln hb htr hor;go_upto_region 7 with (fail)
        rw [<- hwi];clear hwi tC;go_wp2_with fail
        refine (CN.out _).mono ?_;rintro e w3 ⟨rfl,rfl⟩;go_wp2_with fail
        refine (CV.out _).mono ?_;rintro e w3 ⟨rfl,q,rfl⟩;go_wp2_with fail
        refine (CT.out _).mono ?_;rintro e w3 ⟨rfl,rfl⟩;have hlk:=NW.out q;rw [fU,Rj.out] at hlk;obtain ⟨w',hup,hS',hg⟩:=KJ.out q;have NY:=hid ((Fp.out.drewN q).put hg hS');clear hS' hg;go_wp2;go_roundw;case rel=>exact ⟨k+1,by omega,by go_num,by rw [xD.out,List.reverse_append];exact NY.out,FD.out⟩
        case measure=>simp [intOf];omega
   ·obtain rfl:k=me.length:=by omega
    have HV:Hid (V=aj.aQ cl 0 0 l):=by show V=_;rw [List.drop_length,bK] at aG;rw [HE2.out,<- aG];rfl
    have p1:wr.cell? ⟨w.heap.size,1,none⟩=some (.slice a2 l.length c2):=lC.1.cell 1 _ rfl;have TB:=hid (vT cl l a2 c2 wr SM.out MA.out (HB.out.up lC.2.2.1));rw [<- HV.out] at TB;clear aG lC hk hlt;go_wp2_with fail
    refine TB.out.mono ?_;rintro e w4 ⟨rfl,b4⟩;go_wp2;go_ret;exact ⟨rfl,aL Gv.out.2.2.1 b4⟩
end Go.Proofs.YtnmldmofggkoeaaGreatDoor

