/- Contracts of tree.checkBlocks and Blocks: the first error of blocks; of a formula's check they ask the contract where there is a formula. The contract of tree.Check: the first error of a document. -/
import Derived.Test.YtklhajbpfelliaaGreatDoorKRfJ
import Derived.StillTailTactics
set_option maxHeartbeats 8000000
set_option maxRecDepth 100000
open Go.Lib (hid)
namespace Go.Proofs.YtklhajbpfelliaaGreatDoor
open Go.RowKit
set_option linter.unusedVariables false
set_option linter.unusedSimpArgs false
mutual
def ah.mth:ah->Bool
 | .mk k _ _ _ _ _ _ _ ks=>decide (k=4)||ah.BF ks
def ah.BF:List ah->Bool
 | []=>false
 | x::l=>x.mth||ah.BF l
end
theorem ah.Gw:∀ {l:List ah} {k:Nat} {x:ah},l[k]?=some x->x.mth=true->ah.BF l=true
 | [],_,_,h,_=>by simp at h
 | y::l,0,x,h,hx=>by simp at h;subst h;rw [ah.BF,hx];rfl
 | y::l,k+1,x,h,hx=>by rw [ah.BF,ah.Gw (l:=l) (k:=k) (by simpa using h) hx,Bool.or_true]
theorem ah.jA:∀ {l:List ah} {k:Nat} {x:ah},ah.aC l->l[k]?=some x->x.small
 | [],_,_,_,h=>by simp at h
 | y::l,0,x,hb,h=>by simp at h;subst h;rw [ah.aC] at hb;exact hb.1
 | y::l,k+1,x,hb,h=>by rw [ah.aC] at hb;exact ah.jA (l:=l) (k:=k) hb.2 (by simpa using h)
theorem jlq {k lv:Int} {i t d ti:ByteArray} {a:At} {li:List aj} {ks:List ah} (h:(ah.mk k lv i t d ti a li ks).small):BlS i t d ti a li/\ah.aC ks:=by unfold ah.small at h;obtain ⟨h1,h2,h3,h4,h5,h6,h7,h8⟩:=h;exact ⟨⟨h1,h2,h3,h4,h5,h6⟩,h8⟩
mutual
def ah.mid:ah->Prop
 | .mk k lv i t d ti a li ks=>i.size<=300/\t.size<=300/\d.size<=300/\ti.size<=300/\a.short/\aj.iD li/\ah.iD ks
def ah.iD:List ah->Prop
 | []=>True
 | x::l=>x.mid/\ah.iD l
end
mutual
theorem ah.JL:∀ (x:ah),x.small->x.mid
 | .mk k lv i t d ti a li ks,h=>by
  rw [ah.small] at h;rw [ah.mid];obtain ⟨h1,h2,h3,h4,h5,h6,h7,h8⟩:=h;exact ⟨h1,h2,h3,h4,h5,aj.ko li h6,ah.ko ks h8⟩
theorem ah.ko:∀ (l:List ah),ah.aC l->ah.iD l
 | [],_=>by rw [ah.iD];trivial
 | x::l,h=>by
  rw [ah.aC] at h;rw [ah.iD];exact ⟨ah.JL x h.1,ah.ko l h.2⟩
end
theorem ah.nT:∀ {l:List ah} {k:Nat} {x:ah},ah.iD l->l[k]?=some x->x.mid
 | [],_,_,_,h=>by simp at h
 | y::l,0,x,hb,h=>by simp at h;subst h;rw [ah.iD] at hb;exact hb.1
 | y::l,k+1,x,hb,h=>by rw [ah.iD] at hb;exact ah.nT (l:=l) (k:=k) hb.2 (by simpa using h)
theorem jlx {k lv:Int} {i t d ti:ByteArray} {a:At} {li:List aj} {ks:List ah} (h:(ah.mk k lv i t d ti a li ks).mid):BlM i t d ti a li/\ah.iD ks:=by unfold ah.mid at h;obtain ⟨h1,h2,h3,h4,h5,h6,h8⟩:=h;exact ⟨⟨h1,h2,h3,h4,h5,h6⟩,h8⟩
theorem sH (cl:ByteArray->Bool) (par:Int) (dp:Nat) (k lv:Int) (i t d ti:ByteArray) (a:At) (li:List aj) (ks l:List ah) (qE:¬ 15<dp) : ah.aT cl par dp (ah.mk k lv i t d ti a li ks::l)=if yJ k lv i t d ti a li ks=false\/dX k par=false then 5 else if qX cl k lv i t d ti a li ks≠0 then qX cl k lv i t d ti a li ks else if ah.aT cl k (dp+1) ks≠0 then ah.aT cl k (dp+1) ks else ah.aT cl par dp l:=by
 rw [ah.aT,ah.err,if_neg qE];by_cases h1:yJ k lv i t d ti a li ks=false\/dX k par=false
 ·rw [if_pos h1,if_pos h1];rfl
 ·rw [if_neg h1,if_neg h1];by_cases h2:qX cl k lv i t d ti a li ks=0
  ·simp only [h2,ne_eq,not_true_eq_false,if_false]
  ·simp only [ne_eq,h2,not_false_eq_true,if_true]
def Gx (cl:ByteArray->Bool) (l:List ah) (par:Int) (dp:Nat) (E:Nat) (w:World) (vi:Value) (wr:World):Prop:=∃ k:Nat,k<=l.length/\vi=.int .i64 k/\Below w.heap.size w wr/\ah.aT cl par dp (l.drop k)=E
theorem Ri{P:Prop}(h:P:=by
 show E=0;rw [<- bg,List.drop_of_length_le (by omega),ah.aT]):P:=h
theorem wY (cl:ByteArray->Bool) (n:Nat):∀ (l:List ah) (par:Int) (dp:Nat) (a:Option Addr) (cap:Nat) (w:World),ah.aY l<=n->dp<=1000000->ah.iD l->(ah.BF l=true->vQ cl)->Rd (·<w.heap.size) w (lu l) [.slice a l.length cap] -> Calls Tryz.prog 62 #[.slice a l.length cap,.int .i64 par,.int .i64 (dp:Int)] w (dP (.int .i64 (ah.aT cl par dp l:Nat)) w):=by
 induction n using Nat.strongRecOn with
 | _ n ih=>
  intro l par dp a cap w hn hdp hsm hmt h;obtain ⟨a',c',hv,hs⟩:=Rd.ay h;obtain ⟨rfl,rfl⟩:a'=a/\c'=cap:=by simp at hv;exact ⟨hv.1.symm,hv.2.symm⟩
  have hcap:l.length<=c':=by simpa using hs.le
  refine Gy ?_;intro hmx HS IH;have SM:=hid hsm;have MT:=hid hmt;obtain ⟨E,hE⟩:∃ E,ah.aT cl par dp l=E:=⟨_,rfl⟩;rw [hE];have R0:Hid (Gx cl l par dp E w (.int .i64 0) w):=⟨0,Nat.zero_le _,rfl,Below.refl _ _,hE⟩;clear hs hv h ih hsm hmt hE;by_cases qE:15<dp
  ·have QC:decide ((15:Int)<(dp:Int))=true:=by simp;omega
   go_enter Tryz.func62,Tryz.ntmps62;go_wp2
   go_loopw [13] (fun i wr=>Gx cl l par dp E w i wr) (fun i _=>l.length-(intOf i).toNat)
   case atStart=>exact R0.out
   case round=>
    clear R0;obtain ⟨k,hk,rfl,hbel,bg⟩:=hrel;have HB:=hid hbel;by_cases hlt:k<l.length
    ·refine jc ?_;intro x hx;have HE:Hid (E=11):=by
      show E=11;rw [<- bg,Gu l k x hx,ah.aT];have:x.err cl par dp=11:=by cases x;rw [ah.err,if_pos qE]
      rw [this];rfl
     clear bg hx;exact jd
    ·have HE:Hid (E=0):=by
      exact Ri
     clear bg;exact jd
  ·have QC:decide ((15:Int)<(dp:Int))=false:=by simp;omega
   go_enter Tryz.func62,Tryz.ntmps62;go_wp2
   go_loopw [13] (fun i wr=>Gx cl l par dp E w i wr) (fun i _=>l.length-(intOf i).toNat)
   case atStart=>exact R0.out
   case round=>
    clear R0;obtain ⟨k,hk,rfl,hbel,bg⟩:=hrel;have HB:=hid hbel;by_cases hlt:k<l.length
    ·obtain ⟨x,hx⟩:∃ x,l[k]?=some x:=⟨_,List.getElem?_eq_getElem hlt⟩;have hxs:x.mid:=ah.nT SM.out hx;have hsz:=ah.bI l k _ hx;have hmg:=ah.Gw hx;rw [Gu l k x hx] at bg;obtain ⟨kd,lv,i,t,d,ti,at_,li,ks⟩:=x;rw [ah.sz] at hsz;obtain ⟨hbs,hks⟩:=jlx hxs;rw [sH _ _ _ _ _ _ _ _ _ _ _ _ _ qE] at bg;have OI:kd=4->vQ cl:=fun e=>MT.out (hmg (by rw [ah.mth,decide_eq_true e];rfl))
     have hmk:ah.BF ks=true->vQ cl:=fun e=>MT.out (hmg (by rw [ah.mth,e,Bool.or_true]))
     obtain ⟨b,off,ac,ap,al,ak,cc,cp,cl',ck,rfl,Rj⟩:=Ew HS.out hx;have hP:=Rj.up hbel;have HP:=hid hP;have Gz:=hid (xg wr b (off+k*11) kd lv i t d ti at_ li ks ac ap al ak cc cp cl' ck hP);have FT:=hid (fun w=>Rk kd par w);have CI:=hid (fun wx (hb:Below wr.heap.size wr wx) hf=>yL cl wx b (off+k*11) kd lv i t d ti at_ li ks ac ap al ak cc cp cl' ck (hP.up hb) hbs hf OI);have CK:=hid (fun wx (hb:Below wr.heap.size wr wx)=>IH.out (ah.aY ks) (by omega) ks kd (dp+1) ak ck wx (Nat.le_refl _) (by omega) hks hmk (hP.up hb).rd.kids);have bV:=hid bg;clear hxs hsz hmg hbs hks OI hmk hP Rj bg hx hbel;cases hf:yJ kd lv i t d ti at_ li ks with
     | false=>
      rw [hf] at Gz;have HE:Hid (E=5):=by show E=5;have:=bV.out;rw [if_pos (.inl hf)] at this;exact this.symm
      exact ZE
     | true=>
      rw [hf] at Gz;cases hpl:dX kd par with
      | false=>
       rw [hpl] at FT;have HE:Hid (E=5):=by show E=5;have:=bV.out;rw [if_pos (.inr hpl)] at this;exact this.symm
       clear hf hpl;go_wp2_with fail
       refine Gz.out.mono ?_;rintro e w2 ⟨rfl,hb2⟩;obtain ⟨p0,p1,p2,p3,p4,p5,p6,p7,p8,p9,rZ⟩:=(HP.out.up hb2).cells;go_wp2_with fail
       refine (FT.out _).mono ?_;rintro e w3 ⟨rfl,hb3⟩;go_wp2;go_ret;exact ⟨by rw [HE.out];rfl,q01 HB.out (q01 hb2 hb3)⟩
      | true=>
       rw [hpl] at FT;have vR:Hid ((if qX cl kd lv i t d ti at_ li ks≠0 then qX cl kd lv i t d ti at_ li ks else if ah.aT cl kd (dp+1) ks≠0 then ah.aT cl kd (dp+1) ks else ah.aT cl par dp (l.drop (k+1)))=E):=by show _=_;have:=bV.out;rw [if_neg (by rw [hf,hpl];simp)] at this;exact this
       have ZF:=hid (fun wx hb=>CI.out wx hb hf);clear hf hpl bV CI;generalize qX cl kd lv i t d ti at_ li ks=E1 at *
       generalize ah.aT cl kd (dp+1) ks=E2 at *;obtain ⟨c0,c1,c2,c3,c4,c5,c6,c7,c8,c9,c10⟩:=HP.out.cells;go_wp2_with fail
       refine Gz.out.mono ?_;rintro e w2 ⟨rfl,hb2⟩;obtain ⟨p0,p1,p2,p3,p4,p5,p6,p7,p8,p9,rZ⟩:=(HP.out.up hb2).cells;go_wp2_with fail
       refine (FT.out _).mono ?_;rintro e w3 ⟨rfl,hb3⟩;have qw:=hid (q01 hb2 hb3);have CIW:=hid (ZF.out _ qw.out);clear c0 c1 c2 c3 c4 c5 c6 c7 c8 c9 c10 p0 p1 p2 p3 p4 p5 p6 p7 p8 p9 rZ hb2 hb3 ZF;by_cases h1:E1=0
       ·have xI:Hid ((if E2≠0 then E2 else ah.aT cl par dp (l.drop (k+1)))=E):=by
         exact Rl
        subst h1;go_wp2_with fail
        refine CIW.out.mono ?_;rintro e w4 ⟨rfl,hb4⟩;have kS:=hid (q01 qw.out hb4);obtain ⟨p0,p1,p2,p3,p4,p5,p6,p7,p8,p9,rZ⟩:=(HP.out.up kS.out).cells;have jlz:Hid (Below wr.heap.size wr w4.drew):=ig kS.out 1;have WX:=hid (CK.out _ jlz.out);clear CIW hb4 CK vR;by_cases h2:E2=0
        ·have F4:Hid (ah.aT cl par dp (l.drop (k+1))=E):=by
          exact Rm
         subst h2;go_upto_region 12 with (fail)
         go_still_tail 10,(by kernel_rfl)
         change wpList _ _ _ _ _ w4.drew;go_wp2_with fail
         refine WX.out.mono ?_;rintro e w5 ⟨rfl,hb5⟩;have xJ:=hid (q01 jlz.out hb5);clear WX hb5;go_wp2;go_roundw;case rel=>exact ⟨k+1,by omega,by go_num,q01 HB.out xJ.out,F4.out⟩
         case measure=>simp [intOf];omega
        ·refine Rn ?_;intro F4 hn2;clear h2;go_upto_region 12 with (fail)
         go_still_tail 10,(by kernel_rfl)
         change wpList _ _ _ _ _ w4.drew;go_wp2_with fail
         refine WX.out.mono ?_;rintro e w5 ⟨rfl,hb5⟩;have xJ:=hid (q01 jlz.out hb5);clear WX hb5;go_wp2;go_ret;exact ⟨by rw [F4.out];rfl,q01 HB.out xJ.out⟩
       ·exact ZG
    ·have HE:Hid (E=0):=by
      exact Ri
     clear bg;exact jd
theorem GA (cl:ByteArray->Bool) (l:List ah) (a:Option Addr) (cap:Nat) (w:World) (hsm:ah.iD l) (hm:ah.BF l=true->vQ cl) (h:Rd (·<w.heap.size) w (lu l) [.slice a l.length cap]) : Calls Tryz.prog 29 #[.slice a l.length cap] w (dP (.int .i64 (ah.aT cl 0 0 l:Nat)) w):=by have CK:=hid (wY cl _ l 0 0 a cap w (Nat.le_refl _) (by omega) hsm hm h);generalize ah.aT cl 0 0 l=E at *;clear h hsm hm;go_enter Tryz.func29,Tryz.ntmps29;exact Ro
theorem vS (cl:ByteArray->Bool) (l:List ah) (a:Option Addr) (cap:Nat) (w:World) (hsm:ah.aC l) (hm:ah.BF l=true->vQ cl) (h:Rd (·<w.heap.size) w (lu l) [.slice a l.length cap]) : Calls Tryz.prog 29 #[.slice a l.length cap] w (dP (.int .i64 (ah.aT cl 0 0 l:Nat)) w):=GA cl l a cap w (ah.ko l hsm) hm h
open Go.RowKit
def Cw (cl:ByteArray->Bool) (me:List Pr) (l:List ah):Nat:=
 if 32768<ah.bX l\/64<me.length then 3 else if uL [] me≠0 then uL [] me else ah.aT cl 0 0 l
def ZH (T:TypeId) (p:Nat) (cs:List Value) (w:World) (mb:Nat) (l:List Pr) (E:Nat) (vi:Value) (wr:World):Prop:=
 ∃ k:Nat,k<=l.length/\vi=.int .i64 k/\QD T p cs w mb k ((l.take k).map Pr.key).reverse wr/\uL ((l.take k).map Pr.key) (l.drop k)=E
theorem ZI{P Q:Prop}(q:Q)(h:Nonempty Q->P:=by
 intro qQ;obtain ⟨w0,hw0⟩:∃ w0,w0=w.alloc (.cells #[.slice a1 me.length c1,.slice a2 l.length c2] 25):=⟨_,rfl⟩;have hb0:Below w.heap.size w w0:=by rw [hw0];exact (Below.refl _ _).alloc (Nat.le_refl _) _
 have k1:CB 25 w.heap.size [.slice a1 me.length c1,.slice a2 l.length c2] w0:=by rw [hw0];exact CB.new _ _ _
 revert w0 hw0 hb0 k1;exact qQ.elim fun x=>x):P:=h ⟨q⟩
theorem ZJ{P:Prop}(h:P:=by
 show V=17;have:=bV.out;rw [uL,if_neg (by rw [hn];decide),if_pos (.inl hln)] at this;rw [HE2.out,<- this];rfl):P:=h
theorem ZK{P:Prop}(h:P:=by
 show V=17;have:=bV.out;rw [uL,if_neg (by rw [hn];decide),if_pos (.inr htr)] at this;rw [HE2.out,<- this];rfl):P:=h
theorem JM (cl:ByteArray->Bool) (me:List Pr) (l:List ah) (am ab:Option Addr) (cm nb cb:Nat) (w:World) (hme:me.length<=1000) (fQ:∀ p∈me,p.key.size<=1000/\p.val.size<=1000) (hall:ah.bX l<=32768) (hsm:ah.aC l) (hm:ah.BF l=true->vQ cl) (h1:Rd (·<w.heap.size) w (fJ me) [.slice am me.length cm]) (h2:Rd (·<w.heap.size) w (lu l) [.slice ab nb cb]) : Calls Tryz.prog 14 #[.agg #[.slice am me.length cm,.slice ab nb cb]] w (dP (.int .i64 (Cw cl me l:Nat)) w):=by
 obtain ⟨a1,c1,hv1,hs1⟩:=Rd.ay h1;obtain ⟨rfl,rfl⟩:a1=am/\c1=cm:=by simp at hv1;exact ⟨hv1.1.symm,hv1.2.symm⟩
 obtain ⟨a2,c2,hv2,hs2⟩:=Rd.ay h2;obtain ⟨rfl,rfl,rfl⟩:a2=ab/\nb=l.length/\c2=cb:=by simp at hv2;exact ⟨hv2.1.symm,hv2.2.1,hv2.2.2.symm⟩
 have l1:me.length<=c1:=by simpa using hs1.le
 have m1:=hs1.max;unfold maxLen at m1;have HS1:=hid hs1;have SP:=hid fQ;have HB:=hid h2;have SM:=hid hsm;have MA:=hid hm;obtain ⟨V,hV⟩:∃ V,V=Cw cl me l:=⟨_,rfl⟩;have HE:Hid (V=Cw cl me l):=hV;have Bj:=hid hall;rw [<- hV];clear hV hs1 fQ h2 hsm hm h1 hv1 hv2 hall hs2;refine ZI ?_;intro w0 hw0 hb0 k1;have SZ:=hid (OJ l a1 a2 me.length c1 l.length c2 w0 (by have:=Bj.out;omega) (HB.out.up hb0));have x0:=k1.cell 0 _ rfl;have x1:=k1.cell 1 _ rfl;have HK:=hid k1;have HB0:=hid hb0;have hall:=Bj.out;obtain ⟨N,hN⟩:∃ N,N=ah.bX l:=⟨_,rfl⟩;have HN:Hid (N=ah.bX l):=hN;rw [<- hN] at SZ hall;have hb3:decide ((32768:Int)<(N:Int))=false:=by simp;omega
 clear k1 hb0 hN hall;go_enter Tryz.func14,Tryz.ntmps14;go_upto_region 1 with (fail)
 rw [<- hw0];clear hw0;go_wp2_with fail
 refine SZ.out.mono ?_;rintro e w1 ⟨rfl,b1⟩;have K1:=hid (HK.out.below b1);have B1:=hid (q01 HB0.out b1);have x0:=K1.out.cell 0 _ rfl;have x1:=K1.out.cell 1 _ rfl;have LT:=hid K1.out.lt;clear SZ;by_cases hml:64<me.length
 ·have q1:decide ((64:Int)<(me.length:Int))=true:=by simp;omega
  have HV:Hid (V=3):=by show V=3;rw [HE.out,Cw,if_pos (.inr hml)]
  clear b1;exact qF
 ·have q1:decide ((64:Int)<(me.length:Int))=false:=by simp;omega
  have HE2:Hid (V=if uL [] me≠0 then uL [] me else ah.aT cl 0 0 l):=by show V=_;rw [HE.out,Cw,if_neg (by have:=Bj.out;omega)]
  obtain ⟨w2,hw2⟩:∃ w2,w2=w1.alloc (.map #[] 0):=⟨_,rfl⟩;have b2:Below w1.heap.size w1 w2:=by rw [hw2];exact (Below.refl _ _).alloc (Nat.le_refl _) _
  have K2:=hid (K1.out.below b2);have R0:Hid (ZH 25 w.heap.size [.slice a1 me.length c1,.slice a2 l.length c2] w w1.heap.size me (uL [] me) (.int .i64 0) w2):=by
   refine ⟨0,Nat.zero_le _,rfl,⟨K2.out,?_,q01 B1.out b2,B1.out.size,?_,Nat.le_refl _⟩,rfl⟩
   ·rw [hw2];exact fD.made w1
   ·have:=LT.out;omega
  have x0':=K2.out.cell 0 _ rfl;have x1':=K2.out.cell 1 _ rfl;obtain ⟨E1,hE1⟩:∃ E1,E1=uL [] me:=⟨_,rfl⟩;rw [<- hE1] at HE2 R0;have hmm:=@run_makeMap Tryz.prog;clear hE1 hml b1 b2;go_upto_region 4 with (fail)
  rw [<- hw2];clear hmm hw2 x0 x1;go_wp2
  go_loopw [19] (fun i wr=>ZH 25 w.heap.size [.slice a1 me.length c1,.slice a2 l.length c2] w w1.heap.size me E1 i wr) (fun i _=>me.length-(intOf i).toNat)
  case atStart=>exact R0.out
  case round=>
   clear R0 x0' x1';obtain ⟨k,hk,rfl,uF,bg⟩:=hrel;have ZL:=hid uF;by_cases hlt:k<me.length
   ·obtain ⟨x,hx⟩:∃ x,me[k]?=some x:=⟨_,List.getElem?_eq_getElem hlt⟩;obtain ⟨b,off,rfl,-,-,c0,c1'⟩:=jB HS1.out hx;have c0:wr.cell? ⟨b,off+k*2,none⟩=some (.string x.key):=by rw [uF.2.2.1.cell (p:=⟨b,off+k*2,none⟩) (nO c0)];exact c0
    have c1':wr.cell? ⟨b,off+k*2+1,none⟩=some (.string x.val):=by rw [uF.2.2.1.cell (p:=⟨b,off+k*2+1,none⟩) (nO c1')];exact c1'
    have hxs:=SP.out x (List.mem_of_getElem? hx);have HX:=hid hx;have bV:Hid (uL ((me.take k).map Pr.key) (x::me.drop (k+1))=E1):=by show _=_;rw [<- Gu me k x hx];exact bg
    obtain ⟨key,val⟩:=x;dsimp only at c0 c1' hxs;have CN:=hid (fun w=>QA key w (by omega));have CV:=hid (fun w=>Ra val w (by omega));have CT:=hid (fun w=>ji val w (by omega));have QE:Hid ((me.take (k+1)).map Pr.key=(me.take k).map Pr.key++[key]):=by show _=_;rw [List.take_add_one,HX.out];simp
    obtain ⟨wi,hwi⟩:∃ wi,wi=wr.alloc (.cells #[.string key,.string val] 37):=⟨_,rfl⟩;have Ju:=uF.alloc (.cells #[.string key,.string val] 37);rw [<- hwi] at Ju;have i0:wi.cell? ⟨wr.heap.size,0,none⟩=some (.string key):=by rw [hwi];exact Gv wr [.string key,.string val] _ 0 _ rfl
    have i1:wi.cell? ⟨wr.heap.size,1,none⟩=some (.string val):=by rw [hwi];exact Gv wr [.string key,.string val] _ 1 _ rfl
    have HEI:=hid Ju;clear bg uF hx;cases hn:dU key with
    | false=>
     rw [hn] at CN;have HV:Hid (V=6):=by show V=6;have:=bV.out;rw [uL,if_pos hn] at this;rw [HE2.out,<- this];rfl
     clear hn;go_upto_region 7 with (fail)
     exact ZM
    | true=>
     rw [hn] at CN;cases hln:dG val with
     | false=>
      rw [hln] at CV;have HV:Hid (V=17):=by exact ZJ
      clear hn hln;go_upto_region 7 with (fail)
      exact ZO
     | true=>
      rw [hln] at CV;cases htr:trimS val with
      | false=>
       rw [htr] at CT;have HV:Hid (V=17):=by exact ZK
       clear hn hln htr;go_upto_region 7 with (fail)
       rw [<- hwi];clear hwi Ju;go_wp2_with fail
       refine (CN.out _).mono ?_;rintro e w3 ⟨rfl,rfl⟩;go_wp2_with fail
       refine (CV.out _).mono ?_;rintro e w3 ⟨rfl,q,rfl⟩;go_wp2_with fail
       refine (CT.out _).mono ?_;rintro e w3 ⟨rfl,rfl⟩;exact Rp
      | true=>
       rw [htr] at CT;have HLK:=hid (fun q=>(Ju.drewN q).2.1.look key (by unfold maxLen;omega));have jm0:=hid (fun q=>(Ju.drewN q).2.1.put key (by unfold maxLen;omega) (by unfold maxLen;omega));have hor:¬ (dG val=false\/trimS val=false):=by rw [hln,htr];decide
       cases hb:q22 ((me.take k).map Pr.key) key with
       | true=>
        have HV:Hid (V=7):=by show V=7;have:=bV.out;rw [uL,if_neg (by rw [hn];decide),if_neg hor,if_pos hb] at this;rw [HE2.out,<- this];rfl
        have Ey:=hid hb;clear hn hln hb htr hor;go_upto_region 7 with (fail)
        rw [<- hwi];clear hwi Ju;go_wp2_with fail
        refine (CN.out _).mono ?_;rintro e w3 ⟨rfl,rfl⟩;go_wp2_with fail
        refine (CV.out _).mono ?_;rintro e w3 ⟨rfl,q,rfl⟩;go_wp2_with fail
        refine (CT.out _).mono ?_;rintro e w3 ⟨rfl,rfl⟩;have hlk:=HLK.out q;rw [nU,Ey.out] at hlk;exact Rp
       | false=>
        have JO:Hid (uL ((me.take (k+1)).map Pr.key) (me.drop (k+1))=E1):=by show _=_;have:=bV.out;rw [uL,if_neg (by rw [hn];decide),if_neg hor,if_neg (by rw [hb];decide)] at this;rw [QE.out];exact this
        have Ey:=hid hb;clear hn hln hb htr hor;go_upto_region 7 with (fail)
        rw [<- hwi];clear hwi Ju;go_wp2_with fail
        refine (CN.out _).mono ?_;rintro e w3 ⟨rfl,rfl⟩;go_wp2_with fail
        refine (CV.out _).mono ?_;rintro e w3 ⟨rfl,q,rfl⟩;go_wp2_with fail
        refine (CT.out _).mono ?_;rintro e w3 ⟨rfl,rfl⟩;have hlk:=HLK.out q;rw [nU,Ey.out] at hlk;obtain ⟨w',hup,hS',hg⟩:=jm0.out q;have HN':=hid ((HEI.out.drewN q).put hg hS');clear hS' hg;exact Rq
   ·obtain rfl:k=me.length:=by omega
    have HV:Hid (V=ah.aT cl 0 0 l):=by show V=_;rw [List.drop_length,uL] at bg;rw [HE2.out,<- bg];rfl
    have p1:wr.cell? ⟨w.heap.size,1,none⟩=some (.slice a2 l.length c2):=uF.1.cell 1 _ rfl;have TB:=hid (vS cl l a2 c2 wr SM.out MA.out (HB.out.up uF.2.2.1));rw [<- HV.out] at TB;clear bg uF hk hlt;go_wp2_with fail
    refine TB.out.mono ?_;rintro e w4 ⟨rfl,b4⟩;go_wp2;go_ret;exact ⟨rfl,q01 ZL.out.2.2.1 b4⟩
end Go.Proofs.YtklhajbpfelliaaGreatDoor

