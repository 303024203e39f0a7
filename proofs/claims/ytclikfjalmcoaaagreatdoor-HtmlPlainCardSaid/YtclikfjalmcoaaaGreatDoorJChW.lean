/- Contracts of tree.checkBlocks and Blocks: the first error of blocks; of a formula's check they ask the contract where there is a formula. The contract of tree.Check: the first error of a document. -/
import Derived.Test.YtclikfjalmcoaaaGreatDoorJRfJ
import Derived.StillTailTactics
set_option maxHeartbeats 8000000
set_option maxRecDepth 100000
open Go.Lib (hid)
namespace Go.Proofs.YtclikfjalmcoaaaGreatDoor
open List renaming getElem?_eq_getElem->jc6
open Go.RowKit
set_option linter.unusedVariables false
set_option linter.unusedSimpArgs false
mutual
def au.Wu:au->Bool
 | .mk k _ _ _ _ _ _ _ ks=>decide (k=4)||au.wY ks
def au.wY:List au->Bool
 | []=>false
 | x::l=>x.Wu||au.wY l
end
theorem au.BM:∀ {l:List au} {k:Nat} {x:au},l[k]?=some x->x.Wu=true->au.wY l=true
 | [],_,_,h,_=>by simp at h
 | y::l,0,x,h,hx=>by simp at h;subst h;rw [au.wY,hx];rfl
 | y::l,k+1,x,h,hx=>by rw [au.wY,au.BM (l:=l) (k:=k) (by simpa using h) hx,Bool.or_true]
mutual
def au.mid:au->Prop
 | .mk k lv i t d ti a li ks=>i.size<=300/\t.size<=300/\d.size<=300/\ti.size<=300/\a.short/\ah.fT li/\au.fT ks
def au.fT:List au->Prop
 | []=>True
 | x::l=>x.mid/\au.fT l
end
mutual
theorem au.Ej:∀ (x:au),x.small->x.mid
 | .mk k lv i t d ti a li ks,h=>by
  rw [au.small] at h;rw [au.mid];obtain ⟨h1,h2,h3,h4,h5,h6,h7,h8⟩:=h;exact ⟨h1,h2,h3,h4,h5,ah.jq li h6,au.jq ks h8⟩
theorem au.jq:∀ (l:List au),au.aC l->au.fT l
 | [],_=>by rw [au.fT];trivial
 | x::l,h=>by
  rw [au.aC] at h;rw [au.fT];exact ⟨au.Ej x h.1,au.jq l h.2⟩
end
theorem au.lW:∀ {l:List au} {k:Nat} {x:au},au.fT l->l[k]?=some x->x.mid
 | [],_,_,_,h=>by simp at h
 | y::l,0,x,hb,h=>by simp at h;subst h;rw [au.fT] at hb;exact hb.1
 | y::l,k+1,x,hb,h=>by rw [au.fT] at hb;exact au.lW (l:=l) (k:=k) hb.2 (by simpa using h)
theorem Qz {k lv:Int} {i t d ti:ByteArray} {a:At} {li:List ah} {ks:List au} (h:(au.mk k lv i t d ti a li ks).mid):BlM i t d ti a li/\au.fT ks:=by unfold au.mid at h;obtain ⟨h1,h2,h3,h4,h5,h6,h8⟩:=h;exact ⟨⟨h1,h2,h3,h4,h5,h6⟩,h8⟩
theorem zk (cl:ByteArray->Bool) (par:Int) (dp:Nat) (k lv:Int) (i t d ti:ByteArray) (a:At) (li:List ah) (ks l:List au) (xg:¬ 15<dp) : au.aP cl par dp (au.mk k lv i t d ti a li ks::l)=if AQ k lv i t d ti a li ks=false\/fU k par=false then 5 else if sZ cl k lv i t d ti a li ks≠0 then sZ cl k lv i t d ti a li ks else if au.aP cl k (dp+1) ks≠0 then au.aP cl k (dp+1) ks else au.aP cl par dp l:=by
 rw [au.aP,au.err,if_neg xg];by_cases h1:AQ k lv i t d ti a li ks=false\/fU k par=false
 ·rw [if_pos h1,if_pos h1];rfl
 ·rw [if_neg h1,if_neg h1];by_cases h2:sZ cl k lv i t d ti a li ks=0
  ·simp only [h2,ne_eq,not_true_eq_false,if_false]
  ·simp only [ne_eq,h2,not_false_eq_true,if_true]
def JD (cl:ByteArray->Bool) (l:List au) (par:Int) (dp:Nat) (E:Nat) (w:World) (vi:Value) (wr:World):Prop:=∃ k:Nat,k<=l.length/\vi=.int .i64 k/\Below w.heap.size w wr/\au.aP cl par dp (l.drop k)=E
theorem sM (cl:ByteArray->Bool) (n:Nat):∀ (l:List au) (par:Int) (dp:Nat) (a:Option Addr) (cap:Nat) (w:World),au.aU l<=n->dp<=1000000->au.fT l->(au.wY l=true->rO cl)->Rd (·<w.heap.size) w (dB l) [.slice a l.length cap] -> Calls Tryz.prog 105 #[.slice a l.length cap,.int .i64 par,.int .i64 (dp:Int)] w (dJ (.int .i64 (au.aP cl par dp l:Nat)) w):=by
 induction n using Nat.strongRecOn with
 | _ n ih=>
  intro l par dp a cap w hn hdp hsm hmt h;obtain ⟨a',c',hv,hs⟩:=Rd.aD h;obtain ⟨rfl,rfl⟩:a'=a/\c'=cap:=by simp at hv;exact ⟨hv.1.symm,hv.2.symm⟩
  have hcap:l.length<=c':=by simpa using hs.le
  have hmx:=hs.max;unfold maxLen at hmx;have HS:=hid hs;have IH:=hid ih;have SM:=hid hsm;have MT:=hid hmt;obtain ⟨E,hE⟩:∃ E,au.aP cl par dp l=E:=⟨_,rfl⟩;rw [hE];have R0:Hid (JD cl l par dp E w (.int .i64 0) w):=⟨0,Nat.zero_le _,rfl,Below.refl _ _,hE⟩;clear hs hv h ih hsm hmt hE;by_cases xg:15<dp
  ·have SE:decide ((15:Int)<(dp:Int))=true:=by simp;omega
   go_enter Tryz.func105,Tryz.ntmps105;go_wp2
   go_loopw [13] (fun i wr=>JD cl l par dp E w i wr) (fun i _=>l.length-(intOf i).toNat)
   case atStart=>exact R0.out
   case round=>
    clear R0;obtain ⟨k,hk,rfl,hbel,aX⟩:=hrel;have HB:=hid hbel;by_cases hlt:k<l.length
    ·obtain ⟨x,hx⟩:∃ x,l[k]?=some x:=⟨_,jc6 hlt⟩;have HE:Hid (E=11):=by
      show E=11;rw [<- aX,JB l k x hx,au.aP];have:x.err cl par dp=11:=by cases x;rw [au.err,if_pos xg]
      rw [this];rfl
     clear aX hx;go_wp2;go_ret;exact ⟨by rw [HE.out];rfl,HB.out⟩
    ·have HE:Hid (E=0):=by
      show E=0;rw [<- aX,List.drop_of_length_le (by omega),au.aP]
     clear aX;go_wp2;go_ret;exact ⟨by rw [HE.out];rfl,HB.out⟩
  ·have SE:decide ((15:Int)<(dp:Int))=false:=by simp;omega
   go_enter Tryz.func105,Tryz.ntmps105;go_wp2
   go_loopw [13] (fun i wr=>JD cl l par dp E w i wr) (fun i _=>l.length-(intOf i).toNat)
   case atStart=>exact R0.out
   case round=>
    clear R0;obtain ⟨k,hk,rfl,hbel,aX⟩:=hrel;have HB:=hid hbel;by_cases hlt:k<l.length
    ·obtain ⟨x,hx⟩:∃ x,l[k]?=some x:=⟨_,jc6 hlt⟩;have hxs:x.mid:=au.lW SM.out hx;have hsz:=au.bD l k _ hx;have XH:=au.BM hx;rw [JB l k x hx] at aX;obtain ⟨kd,lv,i,t,d,ti,at_,li,ks⟩:=x;rw [au.sz] at hsz;obtain ⟨hbs,hks⟩:=Qz hxs;rw [zk _ _ _ _ _ _ _ _ _ _ _ _ _ xg] at aX;have O5:kd=4->rO cl:=fun e=>MT.out (XH (by rw [au.Wu,decide_eq_true e];rfl))
     have hmk:au.wY ks=true->rO cl:=fun e=>MT.out (XH (by rw [au.Wu,e,Bool.or_true]))
     obtain ⟨b,off,ac,ap,al,ak,cc,cp,cl',ck,rfl,TU⟩:=JE HS.out hx;have hP:=TU.up hbel;have HP:=hid hP;have Jh:=hid (sN wr b (off+k*11) kd lv i t d ti at_ li ks ac ap al ak cc cp cl' ck hP);have FT:=hid (fun w=>JF kd par w);have CI:=hid (fun wx (hb:Below wr.heap.size wr wx) hf=>uy cl wx b (off+k*11) kd lv i t d ti at_ li ks ac ap al ak cc cp cl' ck (hP.up hb) hbs hf O5);have CK:=hid (fun wx (hb:Below wr.heap.size wr wx)=>IH.out (au.aU ks) (by omega) ks kd (dp+1) ak ck wx (Nat.le_refl _) (by omega) hks hmk (hP.up hb).rd.kids);have cZ:=hid aX;clear hxs hsz XH hbs hks O5 hmk hP TU aX hx hbel;cases hf:AQ kd lv i t d ti at_ li ks with
     | false=>
      rw [hf] at Jh;have HE:Hid (E=5):=by show E=5;have:=cZ.out;rw [if_pos (.inl hf)] at this;exact this.symm
      clear hf;go_wp2_with fail
      refine Jh.out.mono ?_;rintro e w2 ⟨rfl,hb2⟩;go_wp2;go_ret;exact ⟨by rw [HE.out];rfl,aQ HB.out hb2⟩
     | true=>
      rw [hf] at Jh;cases hpl:fU kd par with
      | false=>
       rw [hpl] at FT;have HE:Hid (E=5):=by show E=5;have:=cZ.out;rw [if_pos (.inr hpl)] at this;exact this.symm
       clear hf hpl;go_wp2_with fail
       refine Jh.out.mono ?_;rintro e w2 ⟨rfl,hb2⟩;obtain ⟨p0,p1,p2,p3,p4,p5,p6,p7,p8,p9,JG⟩:=(HP.out.up hb2).cells;go_wp2_with fail
       refine (FT.out _).mono ?_;rintro e w3 ⟨rfl,hb3⟩;go_wp2;go_ret;exact ⟨by rw [HE.out];rfl,aQ HB.out (aQ hb2 hb3)⟩
      | true=>
       rw [hpl] at FT;have uz:Hid ((if sZ cl kd lv i t d ti at_ li ks≠0 then sZ cl kd lv i t d ti at_ li ks else if au.aP cl kd (dp+1) ks≠0 then au.aP cl kd (dp+1) ks else au.aP cl par dp (l.drop (k+1)))=E):=by show _=_;have:=cZ.out;rw [if_neg (by rw [hf,hpl];simp)] at this;exact this
       have SG:=hid (fun wx hb=>CI.out wx hb hf);clear hf hpl cZ CI;generalize sZ cl kd lv i t d ti at_ li ks=E1 at *
       generalize au.aP cl kd (dp+1) ks=E2 at *;obtain ⟨c0,c1,c2,c3,c4,c5,c6,c7,c8,c9,c10⟩:=HP.out.cells;go_wp2_with fail
       refine Jh.out.mono ?_;rintro e w2 ⟨rfl,hb2⟩;obtain ⟨p0,p1,p2,p3,p4,p5,p6,p7,p8,p9,JG⟩:=(HP.out.up hb2).cells;go_wp2_with fail
       refine (FT.out _).mono ?_;rintro e w3 ⟨rfl,hb3⟩;have jJ:=hid (aQ hb2 hb3);have MQ:=hid (SG.out _ jJ.out);clear c0 c1 c2 c3 c4 c5 c6 c7 c8 c9 c10 p0 p1 p2 p3 p4 p5 p6 p7 p8 p9 JG hb2 hb3 SG;by_cases h1:E1=0
       ·have Gc:Hid ((if E2≠0 then E2 else au.aP cl par dp (l.drop (k+1)))=E):=by
         show _=_;have:=uz.out;rw [if_neg (by simpa using h1)] at this;exact this
        subst h1;go_wp2_with fail
        refine MQ.out.mono ?_;rintro e w4 ⟨rfl,hb4⟩;have zl:=hid (aQ jJ.out hb4);obtain ⟨p0,p1,p2,p3,p4,p5,p6,p7,p8,p9,JG⟩:=(HP.out.up zl.out).cells;have QA:Hid (Below wr.heap.size wr w4.drew):=eT zl.out 1;have MR:=hid (CK.out _ QA.out);clear MQ hb4 CK uz;by_cases h2:E2=0
        ·have QB:Hid (au.aP cl par dp (l.drop (k+1))=E):=by
          show _=_;have:=Gc.out;rw [if_neg (by simpa using h2)] at this;exact this
         subst h2;go_upto_region 12 with (fail)
         go_still_tail 10,(by kernel_rfl)
         change wpList _ _ _ _ _ w4.drew;go_wp2_with fail
         refine MR.out.mono ?_;rintro e w5 ⟨rfl,hb5⟩;have H9:=hid (aQ QA.out hb5);clear MR hb5;go_wp2;go_roundw;case rel=>exact ⟨k+1,by omega,by go_num,aQ HB.out H9.out,QB.out⟩
         case measure=>simp [intOf];omega
        ·have QB:Hid (E=E2):=by
          show _=_;have:=Gc.out;rw [if_pos h2] at this;exact this.symm
         have hn2:((E2:Int) != 0)=true:=by rw [bne_iff_ne];omega
         clear h2;go_upto_region 12 with (fail)
         go_still_tail 10,(by kernel_rfl)
         change wpList _ _ _ _ _ w4.drew;go_wp2_with fail
         refine MR.out.mono ?_;rintro e w5 ⟨rfl,hb5⟩;have H9:=hid (aQ QA.out hb5);clear MR hb5;go_wp2;go_ret;exact ⟨by rw [QB.out];rfl,aQ HB.out H9.out⟩
       ·have Gc:Hid (E=E1):=by
         show _=_;have:=uz.out;rw [if_pos h1] at this;exact this.symm
        have hn1:((E1:Int) != 0)=true:=by rw [bne_iff_ne];omega
        clear h1;go_wp2_with fail
        refine MQ.out.mono ?_;rintro e w4 ⟨rfl,hb4⟩;have zl:=hid (aQ jJ.out hb4);clear MQ hb4;go_wp2;go_ret;exact ⟨by rw [Gc.out];rfl,aQ HB.out zl.out⟩
    ·have HE:Hid (E=0):=by
      show E=0;rw [<- aX,List.drop_of_length_le (by omega),au.aP]
     clear aX;go_wp2;go_ret;exact ⟨by rw [HE.out];rfl,HB.out⟩
theorem BO (cl:ByteArray->Bool) (l:List au) (a:Option Addr) (cap:Nat) (w:World) (hsm:au.fT l) (hm:au.wY l=true->rO cl) (h:Rd (·<w.heap.size) w (dB l) [.slice a l.length cap]) : Calls Tryz.prog 54 #[.slice a l.length cap] w (dJ (.int .i64 (au.aP cl 0 0 l:Nat)) w):=by
 have CK:=hid (sM cl _ l 0 0 a cap w (Nat.le_refl _) (by omega) hsm hm h);generalize au.aP cl 0 0 l=E at *;clear h hsm hm;go_enter Tryz.func54,Tryz.ntmps54;go_wp2_with fail
 refine CK.out.mono ?_;rintro e w1 ⟨rfl,hb⟩;go_wp2;go_ret;exact ⟨rfl,hb⟩
theorem rP (cl:ByteArray->Bool) (l:List au) (a:Option Addr) (cap:Nat) (w:World) (hsm:au.aC l) (hm:au.wY l=true->rO cl) (h:Rd (·<w.heap.size) w (dB l) [.slice a l.length cap]) : Calls Tryz.prog 54 #[.slice a l.length cap] w (dJ (.int .i64 (au.aP cl 0 0 l:Nat)) w):=BO cl l a cap w (au.jq l hsm) hm h
open Go.RowKit
def iR (cl:ByteArray->Bool) (me:List Pr) (l:List au):Nat:=
 if 32768<au.bY l\/64<me.length then 3 else if dX [] me≠0 then dX [] me else au.aP cl 0 0 l
def O6 (T:TypeId) (p:Nat) (cs:List Value) (w:World) (mb:Nat) (l:List Pr) (E:Nat) (vi:Value) (wr:World):Prop:=
 ∃ k:Nat,k<=l.length/\vi=.int .i64 k/\Ji T p cs w mb k ((l.take k).map Pr.key).reverse wr/\dX ((l.take k).map Pr.key) (l.drop k)=E
theorem El (cl:ByteArray->Bool) (me:List Pr) (l:List au) (am ab:Option Addr) (cm nb cb:Nat) (w:World) (hme:me.length<=1000) (BQ:∀ p∈me,p.key.size<=1000/\p.val.size<=1000) (hall:au.bY l<=32768) (hsm:au.aC l) (hm:au.wY l=true->rO cl) (h1:Rd (·<w.heap.size) w (dQ me) [.slice am me.length cm]) (h2:Rd (·<w.heap.size) w (dB l) [.slice ab nb cb]) : Calls Tryz.prog 65 #[.agg #[.slice am me.length cm,.slice ab nb cb]] w (dJ (.int .i64 (iR cl me l:Nat)) w):=by
 obtain ⟨a1,c1,hv1,hs1⟩:=Rd.aD h1;obtain ⟨rfl,rfl⟩:a1=am/\c1=cm:=by simp at hv1;exact ⟨hv1.1.symm,hv1.2.symm⟩
 obtain ⟨a2,c2,hv2,hs2⟩:=Rd.aD h2;obtain ⟨rfl,rfl,rfl⟩:a2=ab/\nb=l.length/\c2=cb:=by simp at hv2;exact ⟨hv2.1.symm,hv2.2.1,hv2.2.2.symm⟩
 have l1:me.length<=c1:=by simpa using hs1.le
 have m1:=hs1.max;unfold maxLen at m1;have HS1:=hid hs1;have SP:=hid BQ;have HB:=hid h2;have SM:=hid hsm;have MA:=hid hm;obtain ⟨V,hV⟩:∃ V,V=iR cl me l:=⟨_,rfl⟩;have HE:Hid (V=iR cl me l):=hV;have XI:=hid hall;rw [<- hV];clear hV hs1 BQ h2 hsm hm h1 hv1 hv2 hall hs2;obtain ⟨w0,hw0⟩:∃ w0,w0=w.alloc (.cells #[.slice a1 me.length c1,.slice a2 l.length c2] 32):=⟨_,rfl⟩;have hb0:Below w.heap.size w w0:=by rw [hw0];exact (Below.refl _ _).alloc (Nat.le_refl _) _
 have k1:CB 32 w.heap.size [.slice a1 me.length c1,.slice a2 l.length c2] w0:=by rw [hw0];exact CB.new _ _ _
 have SZ:=hid (Ia l a1 a2 me.length c1 l.length c2 w0 (by have:=XI.out;omega) (HB.out.up hb0));have x0:=k1.cell 0 _ rfl;have x1:=k1.cell 1 _ rfl;have HK:=hid k1;have HB0:=hid hb0;have hall:=XI.out;obtain ⟨N,hN⟩:∃ N,N=au.bY l:=⟨_,rfl⟩;have HN:Hid (N=au.bY l):=hN;rw [<- hN] at SZ hall;have hb3:decide ((32768:Int)<(N:Int))=false:=by simp;omega
 clear k1 hb0 hN hall;go_enter Tryz.func65,Tryz.ntmps65;go_upto_region 1 with (fail)
 rw [<- hw0];clear hw0;go_wp2_with fail
 refine SZ.out.mono ?_;rintro e w1 ⟨rfl,b1⟩;have K1:=hid (HK.out.below b1);have B1:=hid (aQ HB0.out b1);have x0:=K1.out.cell 0 _ rfl;have x1:=K1.out.cell 1 _ rfl;have LT:=hid K1.out.lt;clear SZ;by_cases hml:64<me.length
 ·have q1:decide ((64:Int)<(me.length:Int))=true:=by simp;omega
  have HV:Hid (V=3):=by show V=3;rw [HE.out,iR,if_pos (.inr hml)]
  clear b1;go_wp2;go_ret;exact ⟨by rw [HV.out];rfl,B1.out⟩
 ·have q1:decide ((64:Int)<(me.length:Int))=false:=by simp;omega
  have HE2:Hid (V=if dX [] me≠0 then dX [] me else au.aP cl 0 0 l):=by show V=_;rw [HE.out,iR,if_neg (by have:=XI.out;omega)]
  obtain ⟨w2,hw2⟩:∃ w2,w2=w1.alloc (.map #[] 0):=⟨_,rfl⟩;have b2:Below w1.heap.size w1 w2:=by rw [hw2];exact (Below.refl _ _).alloc (Nat.le_refl _) _
  have K2:=hid (K1.out.below b2);have R0:Hid (O6 32 w.heap.size [.slice a1 me.length c1,.slice a2 l.length c2] w w1.heap.size me (dX [] me) (.int .i64 0) w2):=by
   refine ⟨0,Nat.zero_le _,rfl,⟨K2.out,?_,aQ B1.out b2,B1.out.size,?_,Nat.le_refl _⟩,rfl⟩
   ·rw [hw2];exact dU.made w1
   ·have:=LT.out;omega
  have x0':=K2.out.cell 0 _ rfl;have x1':=K2.out.cell 1 _ rfl;obtain ⟨E1,hE1⟩:∃ E1,E1=dX [] me:=⟨_,rfl⟩;rw [<- hE1] at HE2 R0;have hmm:=@run_makeMap Tryz.prog;clear hE1 hml b1 b2;go_upto_region 4 with (fail)
  rw [<- hw2];clear hmm hw2 x0 x1;go_wp2
  go_loopw [19] (fun i wr=>O6 32 w.heap.size [.slice a1 me.length c1,.slice a2 l.length c2] w w1.heap.size me E1 i wr) (fun i _=>me.length-(intOf i).toNat)
  case atStart=>exact R0.out
  case round=>
   clear R0 x0' x1';obtain ⟨k,hk,rfl,iG,aX⟩:=hrel;have BS:=hid iG;by_cases hlt:k<me.length
   ·obtain ⟨x,hx⟩:∃ x,me[k]?=some x:=⟨_,jc6 hlt⟩;obtain ⟨b,off,rfl,-,-,c0,c1'⟩:=qF HS1.out hx;have c0:wr.cell? ⟨b,off+k*2,none⟩=some (.string x.key):=by rw [iG.2.2.1.cell (p:=⟨b,off+k*2,none⟩) (wF c0)];exact c0
    have c1':wr.cell? ⟨b,off+k*2+1,none⟩=some (.string x.val):=by rw [iG.2.2.1.cell (p:=⟨b,off+k*2+1,none⟩) (wF c1')];exact c1'
    have hxs:=SP.out x (List.mem_of_getElem? hx);have HX:=hid hx;have cZ:Hid (dX ((me.take k).map Pr.key) (x::me.drop (k+1))=E1):=by show _=_;rw [<- JB me k x hx];exact aX
    obtain ⟨key,val⟩:=x;dsimp only at c0 c1' hxs;have CN:=hid (fun w=>Gb key w (by omega));have CV:=hid (fun w=>q0z val w (by omega));have CT:=hid (fun w=>ig val w (by omega));have Gd:Hid ((me.take (k+1)).map Pr.key=(me.take k).map Pr.key++[key]):=by show _=_;rw [List.take_add_one,HX.out];simp
    obtain ⟨wi,hwi⟩:∃ wi,wi=wr.alloc (.cells #[.string key,.string val] 74):=⟨_,rfl⟩;have qG:=iG.alloc (.cells #[.string key,.string val] 74);rw [<- hwi] at qG;have i0:wi.cell? ⟨wr.heap.size,0,none⟩=some (.string key):=by rw [hwi];exact BG wr [.string key,.string val] _ 0 _ rfl
    have i1:wi.cell? ⟨wr.heap.size,1,none⟩=some (.string val):=by rw [hwi];exact BG wr [.string key,.string val] _ 1 _ rfl
    have Em:=hid qG;clear aX iG hx;cases hn:iQ key with
    | false=>
     rw [hn] at CN;have HV:Hid (V=6):=by show V=6;have:=cZ.out;rw [dX,if_pos hn] at this;rw [HE2.out,<- this];rfl
     clear hn;go_upto_region 7 with (fail)
     rw [<- hwi];clear hwi qG;go_wp2_with fail
     refine (CN.out _).mono ?_;rintro e w3 ⟨rfl,rfl⟩;go_wp2;go_ret;exact ⟨by rw [HV.out];rfl,Em.out.2.2.1⟩
    | true=>
     rw [hn] at CN;cases hln:fP val with
     | false=>
      rw [hln] at CV;have HV:Hid (V=17):=by show V=17;have:=cZ.out;rw [dX,if_neg (by rw [hn];decide),if_pos (.inl hln)] at this;rw [HE2.out,<- this];rfl
      clear hn hln;go_upto_region 7 with (fail)
      rw [<- hwi];clear hwi qG;go_wp2_with fail
      refine (CN.out _).mono ?_;rintro e w3 ⟨rfl,rfl⟩;go_wp2_with fail
      refine (CV.out _).mono ?_;rintro e w3 ⟨rfl,q,rfl⟩;go_wp2;go_ret;exact ⟨by rw [HV.out];rfl,eT Em.out.2.2.1 q⟩
     | true=>
      rw [hln] at CV;cases htr:trimS val with
      | false=>
       rw [htr] at CT;have HV:Hid (V=17):=by show V=17;have:=cZ.out;rw [dX,if_neg (by rw [hn];decide),if_pos (.inr htr)] at this;rw [HE2.out,<- this];rfl
       clear hn hln htr;go_upto_region 7 with (fail)
       rw [<- hwi];clear hwi qG;go_wp2_with fail
       refine (CN.out _).mono ?_;rintro e w3 ⟨rfl,rfl⟩;go_wp2_with fail
       refine (CV.out _).mono ?_;rintro e w3 ⟨rfl,q,rfl⟩;go_wp2_with fail
       refine (CT.out _).mono ?_;rintro e w3 ⟨rfl,rfl⟩;go_wp2;go_ret;exact ⟨by rw [HV.out];rfl,eT Em.out.2.2.1 q⟩
      | true=>
       rw [htr] at CT;have O7:=hid (fun q=>(qG.drewN q).2.1.look key (by unfold maxLen;omega));have JH:=hid (fun q=>(qG.drewN q).2.1.put key (by unfold maxLen;omega) (by unfold maxLen;omega));have hor:¬ (fP val=false\/trimS val=false):=by rw [hln,htr];decide
       cases hb:hasB ((me.take k).map Pr.key) key with
       | true=>
        have HV:Hid (V=7):=by show V=7;have:=cZ.out;rw [dX,if_neg (by rw [hn];decide),if_neg hor,if_pos hb] at this;rw [HE2.out,<- this];rfl
        have AU:=hid hb;clear hn hln hb htr hor;go_upto_region 7 with (fail)
        rw [<- hwi];clear hwi qG;go_wp2_with fail
        refine (CN.out _).mono ?_;rintro e w3 ⟨rfl,rfl⟩;go_wp2_with fail
        refine (CV.out _).mono ?_;rintro e w3 ⟨rfl,q,rfl⟩;go_wp2_with fail
        refine (CT.out _).mono ?_;rintro e w3 ⟨rfl,rfl⟩;have hlk:=O7.out q;rw [gH,AU.out] at hlk;go_wp2;go_ret;exact ⟨by rw [HV.out];rfl,eT Em.out.2.2.1 q⟩
       | false=>
        have Ib:Hid (dX ((me.take (k+1)).map Pr.key) (me.drop (k+1))=E1):=by show _=_;have:=cZ.out;rw [dX,if_neg (by rw [hn];decide),if_neg hor,if_neg (by rw [hb];decide)] at this;rw [Gd.out];exact this
        have AU:=hid hb;clear hn hln hb htr hor;go_upto_region 7 with (fail)
        rw [<- hwi];clear hwi qG;go_wp2_with fail
        refine (CN.out _).mono ?_;rintro e w3 ⟨rfl,rfl⟩;go_wp2_with fail
        refine (CV.out _).mono ?_;rintro e w3 ⟨rfl,q,rfl⟩;go_wp2_with fail
        refine (CT.out _).mono ?_;rintro e w3 ⟨rfl,rfl⟩;have hlk:=O7.out q;rw [gH,AU.out] at hlk;obtain ⟨w',hup,hS',hg⟩:=JH.out q;have MS:=hid ((Em.out.drewN q).put hg hS');clear hS' hg;go_wp2;go_roundw;case rel=>exact ⟨k+1,by omega,by go_num,by rw [Gd.out,List.reverse_append];exact MS.out,Ib.out⟩
        case measure=>simp [intOf];omega
   ·obtain rfl:k=me.length:=by omega
    have HV:Hid (V=au.aP cl 0 0 l):=by show V=_;rw [List.drop_length,dX] at aX;rw [HE2.out,<- aX];rfl
    have p1:wr.cell? ⟨w.heap.size,1,none⟩=some (.slice a2 l.length c2):=iG.1.cell 1 _ rfl;have TB:=hid (rP cl l a2 c2 wr SM.out MA.out (HB.out.up iG.2.2.1));rw [<- HV.out] at TB;clear aX iG hk hlt;go_wp2_with fail
    refine TB.out.mono ?_;rintro e w4 ⟨rfl,b4⟩;go_wp2;go_ret;exact ⟨rfl,aQ BS.out.2.2.1 b4⟩
end Go.Proofs.YtclikfjalmcoaaaGreatDoor

