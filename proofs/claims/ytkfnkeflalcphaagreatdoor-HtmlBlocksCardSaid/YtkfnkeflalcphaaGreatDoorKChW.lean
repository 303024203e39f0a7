/- Contracts of tree.checkBlocks and Blocks: the first error of blocks; of a formula's check they ask the contract where there is a formula. The contract of tree.Check: the first error of a document. -/
import Derived.Test.YtkfnkeflalcphaaGreatDoorKRfJ
import Derived.StillTailTactics
set_option maxHeartbeats 8000000
set_option maxRecDepth 100000
open Go.Lib (hid)
namespace Go.Proofs.YtkfnkeflalcphaaGreatDoor
open Go.RowKit
set_option linter.unusedVariables false
set_option linter.unusedSimpArgs false
mutual
def ah.mth:ah->Bool
 | .mk k _ _ _ _ _ _ _ ks=>decide (k=4)||ah.Bj ks
def ah.Bj:List ah->Bool
 | []=>false
 | x::l=>x.mth||ah.Bj l
end
theorem ah.F6:∀ {l:List ah} {k:Nat} {x:ah},l[k]?=some x->x.mth=true->ah.Bj l=true
 | [],_,_,h,_=>by simp at h
 | y::l,0,x,h,hx=>by simp at h;subst h;rw [ah.Bj,hx];rfl
 | y::l,k+1,x,h,hx=>by rw [ah.Bj,ah.F6 (l:=l) (k:=k) (by simpa using h) hx,Bool.or_true]
theorem ah.jv:∀ {l:List ah} {k:Nat} {x:ah},ah.aB l->l[k]?=some x->x.small
 | [],_,_,_,h=>by simp at h
 | y::l,0,x,hb,h=>by simp at h;subst h;rw [ah.aB] at hb;exact hb.1
 | y::l,k+1,x,hb,h=>by rw [ah.aB] at hb;exact ah.jv (l:=l) (k:=k) hb.2 (by simpa using h)
theorem jjz {k lv:Int} {i t d ti:ByteArray} {a:At} {li:List aj} {ks:List ah} (h:(ah.mk k lv i t d ti a li ks).small):BlS i t d ti a li/\ah.aB ks:=by unfold ah.small at h;obtain ⟨h1,h2,h3,h4,h5,h6,h7,h8⟩:=h;exact ⟨⟨h1,h2,h3,h4,h5,h6⟩,h8⟩
mutual
def ah.mid:ah->Prop
 | .mk k lv i t d ti a li ks=>i.size<=300/\t.size<=300/\d.size<=300/\ti.size<=300/\a.short/\aj.gX li/\ah.gX ks
def ah.gX:List ah->Prop
 | []=>True
 | x::l=>x.mid/\ah.gX l
end
mutual
theorem ah.Ju:∀ (x:ah),x.small->x.mid
 | .mk k lv i t d ti a li ks,h=>by
  rw [ah.small] at h;rw [ah.mid];obtain ⟨h1,h2,h3,h4,h5,h6,h7,h8⟩:=h;exact ⟨h1,h2,h3,h4,h5,aj.jY li h6,ah.jY ks h8⟩
theorem ah.jY:∀ (l:List ah),ah.aB l->ah.gX l
 | [],_=>by rw [ah.gX];trivial
 | x::l,h=>by
  rw [ah.aB] at h;rw [ah.gX];exact ⟨ah.Ju x h.1,ah.jY l h.2⟩
end
theorem ah.nM:∀ {l:List ah} {k:Nat} {x:ah},ah.gX l->l[k]?=some x->x.mid
 | [],_,_,_,h=>by simp at h
 | y::l,0,x,hb,h=>by simp at h;subst h;rw [ah.gX] at hb;exact hb.1
 | y::l,k+1,x,hb,h=>by rw [ah.gX] at hb;exact ah.nM (l:=l) (k:=k) hb.2 (by simpa using h)
theorem jk0 {k lv:Int} {i t d ti:ByteArray} {a:At} {li:List aj} {ks:List ah} (h:(ah.mk k lv i t d ti a li ks).mid):BlM i t d ti a li/\ah.gX ks:=by unfold ah.mid at h;obtain ⟨h1,h2,h3,h4,h5,h6,h8⟩:=h;exact ⟨⟨h1,h2,h3,h4,h5,h6⟩,h8⟩
theorem rZ (cl:ByteArray->Bool) (par:Int) (dp:Nat) (k lv:Int) (i t d ti:ByteArray) (a:At) (li:List aj) (ks l:List ah) (qy:¬ 15<dp) : ah.aQ cl par dp (ah.mk k lv i t d ti a li ks::l)=if xW k lv i t d ti a li ks=false\/dU k par=false then 5 else if qN cl k lv i t d ti a li ks≠0 then qN cl k lv i t d ti a li ks else if ah.aQ cl k (dp+1) ks≠0 then ah.aQ cl k (dp+1) ks else ah.aQ cl par dp l:=by
 rw [ah.aQ,ah.err,if_neg qy];by_cases h1:xW k lv i t d ti a li ks=false\/dU k par=false
 ·rw [if_pos h1,if_pos h1];rfl
 ·rw [if_neg h1,if_neg h1];by_cases h2:qN cl k lv i t d ti a li ks=0
  ·simp only [h2,ne_eq,not_true_eq_false,if_false]
  ·simp only [ne_eq,h2,not_false_eq_true,if_true]
def F7 (cl:ByteArray->Bool) (l:List ah) (par:Int) (dp:Nat) (E:Nat) (w:World) (vi:Value) (wr:World):Prop:=∃ k:Nat,k<=l.length/\vi=.int .i64 k/\Below w.heap.size w wr/\ah.aQ cl par dp (l.drop k)=E
theorem QG{P:Prop}(h:P:=by
 show E=0;rw [<- bq,List.drop_of_length_le (by omega),ah.aQ]):P:=h
theorem wI (cl:ByteArray->Bool) (n:Nat):∀ (l:List ah) (par:Int) (dp:Nat) (a:Option Addr) (cap:Nat) (w:World),ah.aY l<=n->dp<=1000000->ah.gX l->(ah.Bj l=true->vE cl)->Rd (·<w.heap.size) w (nN l) [.slice a l.length cap] -> Calls Tryz.prog 80 #[.slice a l.length cap,.int .i64 par,.int .i64 (dp:Int)] w (eX (.int .i64 (ah.aQ cl par dp l:Nat)) w):=by
 induction n using Nat.strongRecOn with
 | _ n ih=>
  intro l par dp a cap w hn hdp hsm hmt h;obtain ⟨a',c',hv,hs⟩:=Rd.ay h;obtain ⟨rfl,rfl⟩:a'=a/\c'=cap:=by simp at hv;exact ⟨hv.1.symm,hv.2.symm⟩
  have hcap:l.length<=c':=by simpa using hs.le
  refine F8 ?_;intro hmx HS IH;have SM:=hid hsm;have MT:=hid hmt;obtain ⟨E,hE⟩:∃ E,ah.aQ cl par dp l=E:=⟨_,rfl⟩;rw [hE];have R0:Hid (F7 cl l par dp E w (.int .i64 0) w):=⟨0,Nat.zero_le _,rfl,Below.refl _ _,hE⟩;clear hs hv h ih hsm hmt hE;by_cases qy:15<dp
  ·have Qb:decide ((15:Int)<(dp:Int))=true:=by simp;omega
   go_enter Tryz.func80,Tryz.ntmps80;go_wp2
   go_loopw [13] (fun i wr=>F7 cl l par dp E w i wr) (fun i _=>l.length-(intOf i).toNat)
   case atStart=>exact R0.out
   case round=>
    clear R0;obtain ⟨k,hk,rfl,hbel,bq⟩:=hrel;have HB:=hid hbel;by_cases hlt:k<l.length
    ·refine iX ?_;intro x hx;have HE:Hid (E=11):=by
      show E=11;rw [<- bq,I9 l k x hx,ah.aQ];have:x.err cl par dp=11:=by cases x;rw [ah.err,if_pos qy]
      rw [this];rfl
     clear bq hx;exact jr
    ·have HE:Hid (E=0):=by
      exact QG
     clear bq;exact jr
  ·have Qb:decide ((15:Int)<(dp:Int))=false:=by simp;omega
   go_enter Tryz.func80,Tryz.ntmps80;go_wp2
   go_loopw [13] (fun i wr=>F7 cl l par dp E w i wr) (fun i _=>l.length-(intOf i).toNat)
   case atStart=>exact R0.out
   case round=>
    clear R0;obtain ⟨k,hk,rfl,hbel,bq⟩:=hrel;have HB:=hid hbel;by_cases hlt:k<l.length
    ·obtain ⟨x,hx⟩:∃ x,l[k]?=some x:=⟨_,List.getElem?_eq_getElem hlt⟩;have hxs:x.mid:=ah.nM SM.out hx;have hsz:=ah.bE l k _ hx;have hmg:=ah.F6 hx;rw [I9 l k x hx] at bq;obtain ⟨kd,lv,i,t,d,ti,at_,li,ks⟩:=x;rw [ah.sz] at hsz;obtain ⟨hbs,hks⟩:=jk0 hxs;rw [rZ _ _ _ _ _ _ _ _ _ _ _ _ _ qy] at bq;have Oc:kd=4->vE cl:=fun e=>MT.out (hmg (by rw [ah.mth,decide_eq_true e];rfl))
     have hmk:ah.Bj ks=true->vE cl:=fun e=>MT.out (hmg (by rw [ah.mth,e,Bool.or_true]))
     obtain ⟨b,off,ac,ap,al,ak,cc,cp,cl',ck,rfl,QH⟩:=Ec HS.out hx;have hP:=QH.up hbel;have HP:=hid hP;have F9:=hid (wJ wr b (off+k*11) kd lv i t d ti at_ li ks ac ap al ak cc cp cl' ck hP);have FT:=hid (fun w=>QI kd par w);have CI:=hid (fun wx (hb:Below wr.heap.size wr wx) hf=>xX cl wx b (off+k*11) kd lv i t d ti at_ li ks ac ap al ak cc cp cl' ck (hP.up hb) hbs hf Oc);have CK:=hid (fun wx (hb:Below wr.heap.size wr wx)=>IH.out (ah.aY ks) (by omega) ks kd (dp+1) ak ck wx (Nat.le_refl _) (by omega) hks hmk (hP.up hb).rd.kids);have bX:=hid bq;clear hxs hsz hmg hbs hks Oc hmk hP QH bq hx hbel;cases hf:xW kd lv i t d ti at_ li ks with
     | false=>
      rw [hf] at F9;have HE:Hid (E=5):=by show E=5;have:=bX.out;rw [if_pos (.inl hf)] at this;exact this.symm
      exact Y9
     | true=>
      rw [hf] at F9;cases hpl:dU kd par with
      | false=>
       rw [hpl] at FT;have HE:Hid (E=5):=by show E=5;have:=bX.out;rw [if_pos (.inr hpl)] at this;exact this.symm
       clear hf hpl;go_wp2_with fail
       refine F9.out.mono ?_;rintro e w2 ⟨rfl,hb2⟩;obtain ⟨p0,p1,p2,p3,p4,p5,p6,p7,p8,p9,sj⟩:=(HP.out.up hb2).cells;go_wp2_with fail
       refine (FT.out _).mono ?_;rintro e w3 ⟨rfl,hb3⟩;go_wp2;go_ret;exact ⟨by rw [HE.out];rfl,q01 HB.out (q01 hb2 hb3)⟩
      | true=>
       rw [hpl] at FT;have vF:Hid ((if qN cl kd lv i t d ti at_ li ks≠0 then qN cl kd lv i t d ti at_ li ks else if ah.aQ cl kd (dp+1) ks≠0 then ah.aQ cl kd (dp+1) ks else ah.aQ cl par dp (l.drop (k+1)))=E):=by show _=_;have:=bX.out;rw [if_neg (by rw [hf,hpl];simp)] at this;exact this
       have Za:=hid (fun wx hb=>CI.out wx hb hf);clear hf hpl bX CI;generalize qN cl kd lv i t d ti at_ li ks=E1 at *
       generalize ah.aQ cl kd (dp+1) ks=E2 at *;obtain ⟨c0,c1,c2,c3,c4,c5,c6,c7,c8,c9,c10⟩:=HP.out.cells;go_wp2_with fail
       refine F9.out.mono ?_;rintro e w2 ⟨rfl,hb2⟩;obtain ⟨p0,p1,p2,p3,p4,p5,p6,p7,p8,p9,sj⟩:=(HP.out.up hb2).cells;go_wp2_with fail
       refine (FT.out _).mono ?_;rintro e w3 ⟨rfl,hb3⟩;have pY:=hid (q01 hb2 hb3);have CIW:=hid (Za.out _ pY.out);clear c0 c1 c2 c3 c4 c5 c6 c7 c8 c9 c10 p0 p1 p2 p3 p4 p5 p6 p7 p8 p9 sj hb2 hb3 Za;by_cases h1:E1=0
       ·have wX:Hid ((if E2≠0 then E2 else ah.aQ cl par dp (l.drop (k+1)))=E):=by
         exact QJ
        subst h1;go_wp2_with fail
        refine CIW.out.mono ?_;rintro e w4 ⟨rfl,hb4⟩;have kM:=hid (q01 pY.out hb4);obtain ⟨p0,p1,p2,p3,p4,p5,p6,p7,p8,p9,sj⟩:=(HP.out.up kM.out).cells;have jk1:Hid (Below wr.heap.size wr w4.drew):=iR kM.out 1;have Wh:=hid (CK.out _ jk1.out);clear CIW hb4 CK vF;by_cases h2:E2=0
        ·have Fv:Hid (ah.aQ cl par dp (l.drop (k+1))=E):=by
          exact QK
         subst h2;go_upto_region 12 with (fail)
         go_still_tail 10,(by kernel_rfl)
         change wpList _ _ _ _ _ w4.drew;go_wp2_with fail
         refine Wh.out.mono ?_;rintro e w5 ⟨rfl,hb5⟩;have wY:=hid (q01 jk1.out hb5);clear Wh hb5;go_wp2;go_roundw;case rel=>exact ⟨k+1,by omega,by go_num,q01 HB.out wY.out,Fv.out⟩
         case measure=>simp [intOf];omega
        ·refine QL ?_;intro Fv hn2;clear h2;go_upto_region 12 with (fail)
         go_still_tail 10,(by kernel_rfl)
         change wpList _ _ _ _ _ w4.drew;go_wp2_with fail
         refine Wh.out.mono ?_;rintro e w5 ⟨rfl,hb5⟩;have wY:=hid (q01 jk1.out hb5);clear Wh hb5;go_wp2;go_ret;exact ⟨by rw [Fv.out];rfl,q01 HB.out wY.out⟩
       ·exact Zb
    ·have HE:Hid (E=0):=by
      exact QG
     clear bq;exact jr
theorem Ga (cl:ByteArray->Bool) (l:List ah) (a:Option Addr) (cap:Nat) (w:World) (hsm:ah.gX l) (hm:ah.Bj l=true->vE cl) (h:Rd (·<w.heap.size) w (nN l) [.slice a l.length cap]) : Calls Tryz.prog 35 #[.slice a l.length cap] w (eX (.int .i64 (ah.aQ cl 0 0 l:Nat)) w):=by have CK:=hid (wI cl _ l 0 0 a cap w (Nat.le_refl _) (by omega) hsm hm h);generalize ah.aQ cl 0 0 l=E at *;clear h hsm hm;go_enter Tryz.func35,Tryz.ntmps35;exact QM
theorem vG (cl:ByteArray->Bool) (l:List ah) (a:Option Addr) (cap:Nat) (w:World) (hsm:ah.aB l) (hm:ah.Bj l=true->vE cl) (h:Rd (·<w.heap.size) w (nN l) [.slice a l.length cap]) : Calls Tryz.prog 35 #[.slice a l.length cap] w (eX (.int .i64 (ah.aQ cl 0 0 l:Nat)) w):=Ga cl l a cap w (ah.jY l hsm) hm h
open Go.RowKit
def jw (cl:ByteArray->Bool) (me:List Pr) (l:List ah):Nat:=
 if 32768<ah.dA l\/64<me.length then 3 else if eG [] me≠0 then eG [] me else ah.aQ cl 0 0 l
def Zc (T:TypeId) (p:Nat) (cs:List Value) (w:World) (mb:Nat) (l:List Pr) (E:Nat) (vi:Value) (wr:World):Prop:=
 ∃ k:Nat,k<=l.length/\vi=.int .i64 k/\Qc T p cs w mb k ((l.take k).map Pr.key).reverse wr/\eG ((l.take k).map Pr.key) (l.drop k)=E
theorem Jv (cl:ByteArray->Bool) (me:List Pr) (l:List ah) (am ab:Option Addr) (cm nb cb:Nat) (w:World) (hme:me.length<=1000) (xY:∀ p∈me,p.key.size<=1000/\p.val.size<=1000) (hall:ah.dA l<=32768) (hsm:ah.aB l) (hm:ah.Bj l=true->vE cl) (h1:Rd (·<w.heap.size) w (q32 me) [.slice am me.length cm]) (h2:Rd (·<w.heap.size) w (nN l) [.slice ab nb cb]) : Calls Tryz.prog 50 #[.agg #[.slice am me.length cm,.slice ab nb cb]] w (eX (.int .i64 (jw cl me l:Nat)) w):=by
 obtain ⟨a1,c1,hv1,hs1⟩:=Rd.ay h1;obtain ⟨rfl,rfl⟩:a1=am/\c1=cm:=by simp at hv1;exact ⟨hv1.1.symm,hv1.2.symm⟩
 obtain ⟨a2,c2,hv2,hs2⟩:=Rd.ay h2;obtain ⟨rfl,rfl,rfl⟩:a2=ab/\nb=l.length/\c2=cb:=by simp at hv2;exact ⟨hv2.1.symm,hv2.2.1,hv2.2.2.symm⟩
 have l1:me.length<=c1:=by simpa using hs1.le
 have m1:=hs1.max;unfold maxLen at m1;have HS1:=hid hs1;have SP:=hid xY;have HB:=hid h2;have SM:=hid hsm;have MA:=hid hm;obtain ⟨V,hV⟩:∃ V,V=jw cl me l:=⟨_,rfl⟩;have HE:Hid (V=jw cl me l):=hV;have Fw:=hid hall;rw [<- hV];clear hV hs1 xY h2 hsm hm h1 hv1 hv2 hall hs2;obtain ⟨w0,hw0⟩:∃ w0,w0=w.alloc (.cells #[.slice a1 me.length c1,.slice a2 l.length c2] 26):=⟨_,rfl⟩;refine QN ?_;intro hb0;have k1:CB 26 w.heap.size [.slice a1 me.length c1,.slice a2 l.length c2] w0:=by rw [hw0];exact CB.new _ _ _
 have SZ:=hid (Od l a1 a2 me.length c1 l.length c2 w0 (by have:=Fw.out;omega) (HB.out.up hb0));have x0:=k1.cell 0 _ rfl;have x1:=k1.cell 1 _ rfl;have HK:=hid k1;have HB0:=hid hb0;have hall:=Fw.out;obtain ⟨N,hN⟩:∃ N,N=ah.dA l:=⟨_,rfl⟩;have HN:Hid (N=ah.dA l):=hN;rw [<- hN] at SZ hall;have hb3:decide ((32768:Int)<(N:Int))=false:=by simp;omega
 clear k1 hb0 hN hall;go_enter Tryz.func50,Tryz.ntmps50;go_upto_region 1 with (fail)
 rw [<- hw0];clear hw0;go_wp2_with fail
 refine SZ.out.mono ?_;rintro e w1 ⟨rfl,b1⟩;have K1:=hid (HK.out.below b1);have B1:=hid (q01 HB0.out b1);have x0:=K1.out.cell 0 _ rfl;have x1:=K1.out.cell 1 _ rfl;have LT:=hid K1.out.lt;clear SZ;by_cases hml:64<me.length
 ·have q1:decide ((64:Int)<(me.length:Int))=true:=by simp;omega
  have HV:Hid (V=3):=by show V=3;rw [HE.out,jw,if_pos (.inr hml)]
  clear b1;exact su
 ·have q1:decide ((64:Int)<(me.length:Int))=false:=by simp;omega
  have HE2:Hid (V=if eG [] me≠0 then eG [] me else ah.aQ cl 0 0 l):=by show V=_;rw [HE.out,jw,if_neg (by have:=Fw.out;omega)]
  obtain ⟨w2,hw2⟩:∃ w2,w2=w1.alloc (.map #[] 0):=⟨_,rfl⟩;have b2:Below w1.heap.size w1 w2:=by rw [hw2];exact (Below.refl _ _).alloc (Nat.le_refl _) _
  have K2:=hid (K1.out.below b2);have R0:Hid (Zc 26 w.heap.size [.slice a1 me.length c1,.slice a2 l.length c2] w w1.heap.size me (eG [] me) (.int .i64 0) w2):=by
   refine ⟨0,Nat.zero_le _,rfl,⟨K2.out,?_,q01 B1.out b2,B1.out.size,?_,Nat.le_refl _⟩,rfl⟩
   ·rw [hw2];exact fA.made w1
   ·have:=LT.out;omega
  have x0':=K2.out.cell 0 _ rfl;have x1':=K2.out.cell 1 _ rfl;obtain ⟨E1,hE1⟩:∃ E1,E1=eG [] me:=⟨_,rfl⟩;rw [<- hE1] at HE2 R0;have hmm:=@run_makeMap Tryz.prog;clear hE1 hml b1 b2;go_upto_region 4 with (fail)
  rw [<- hw2];clear hmm hw2 x0 x1;go_wp2
  go_loopw [19] (fun i wr=>Zc 26 w.heap.size [.slice a1 me.length c1,.slice a2 l.length c2] w w1.heap.size me E1 i wr) (fun i _=>me.length-(intOf i).toNat)
  case atStart=>exact R0.out
  case round=>
   clear R0 x0' x1';obtain ⟨k,hk,rfl,uq,bq⟩:=hrel;have Zd:=hid uq;by_cases hlt:k<me.length
   ·obtain ⟨x,hx⟩:∃ x,me[k]?=some x:=⟨_,List.getElem?_eq_getElem hlt⟩;obtain ⟨b,off,rfl,-,-,c0,c1'⟩:=lU HS1.out hx;have c0:wr.cell? ⟨b,off+k*2,none⟩=some (.string x.key):=by rw [uq.2.2.1.cell (p:=⟨b,off+k*2,none⟩) (qw c0)];exact c0
    have c1':wr.cell? ⟨b,off+k*2+1,none⟩=some (.string x.val):=by rw [uq.2.2.1.cell (p:=⟨b,off+k*2+1,none⟩) (qw c1')];exact c1'
    have hxs:=SP.out x (List.mem_of_getElem? hx);have HX:=hid hx;have bX:Hid (eG ((me.take k).map Pr.key) (x::me.drop (k+1))=E1):=by show _=_;rw [<- I9 me k x hx];exact bq
    obtain ⟨key,val⟩:=x;dsimp only at c0 c1' hxs;have CN:=hid (fun w=>P9 key w (by omega));have CV:=hid (fun w=>QB val w (by omega));have CT:=hid (fun w=>je val w (by omega));have Wi:Hid ((me.take (k+1)).map Pr.key=(me.take k).map Pr.key++[key]):=by show _=_;rw [List.take_add_one,HX.out];simp
    obtain ⟨wi,hwi⟩:∃ wi,wi=wr.alloc (.cells #[.string key,.string val] 61):=⟨_,rfl⟩;have Ja:=uq.alloc (.cells #[.string key,.string val] 61);rw [<- hwi] at Ja;have i0:wi.cell? ⟨wr.heap.size,0,none⟩=some (.string key):=by rw [hwi];exact F5 wr [.string key,.string val] _ 0 _ rfl
    have i1:wi.cell? ⟨wr.heap.size,1,none⟩=some (.string val):=by rw [hwi];exact F5 wr [.string key,.string val] _ 1 _ rfl
    have HEI:=hid Ja;clear bq uq hx;cases hn:dZ key with
    | false=>
     rw [hn] at CN;have HV:Hid (V=6):=by show V=6;have:=bX.out;rw [eG,if_pos hn] at this;rw [HE2.out,<- this];rfl
     clear hn;go_upto_region 7 with (fail)
     exact Ze
    | true=>
     rw [hn] at CN;cases hln:dG val with
     | false=>
      rw [hln] at CV;have HV:Hid (V=17):=by show V=17;have:=bX.out;rw [eG,if_neg (by rw [hn];decide),if_pos (.inl hln)] at this;rw [HE2.out,<- this];rfl
      clear hn hln;go_upto_region 7 with (fail)
      exact Zf
     | true=>
      rw [hln] at CV;cases htr:trimS val with
      | false=>
       rw [htr] at CT;have HV:Hid (V=17):=by show V=17;have:=bX.out;rw [eG,if_neg (by rw [hn];decide),if_pos (.inr htr)] at this;rw [HE2.out,<- this];rfl
       clear hn hln htr;go_upto_region 7 with (fail)
       rw [<- hwi];clear hwi Ja;go_wp2_with fail
       refine (CN.out _).mono ?_;rintro e w3 ⟨rfl,rfl⟩;go_wp2_with fail
       refine (CV.out _).mono ?_;rintro e w3 ⟨rfl,q,rfl⟩;go_wp2_with fail
       refine (CT.out _).mono ?_;rintro e w3 ⟨rfl,rfl⟩;exact QO
      | true=>
       rw [htr] at CT;have HLK:=hid (fun q=>(Ja.drewN q).2.1.look key (by unfold maxLen;omega));have jk2:=hid (fun q=>(Ja.drewN q).2.1.put key (by unfold maxLen;omega) (by unfold maxLen;omega));have hor:¬ (dG val=false\/trimS val=false):=by rw [hln,htr];decide
       cases hb:dS ((me.take k).map Pr.key) key with
       | true=>
        have HV:Hid (V=7):=by show V=7;have:=bX.out;rw [eG,if_neg (by rw [hn];decide),if_neg hor,if_pos hb] at this;rw [HE2.out,<- this];rfl
        have Ed:=hid hb;clear hn hln hb htr hor;go_upto_region 7 with (fail)
        rw [<- hwi];clear hwi Ja;go_wp2_with fail
        refine (CN.out _).mono ?_;rintro e w3 ⟨rfl,rfl⟩;go_wp2_with fail
        refine (CV.out _).mono ?_;rintro e w3 ⟨rfl,q,rfl⟩;go_wp2_with fail
        refine (CT.out _).mono ?_;rintro e w3 ⟨rfl,rfl⟩;have hlk:=HLK.out q;rw [nO,Ed.out] at hlk;exact QO
       | false=>
        have Oe:Hid (eG ((me.take (k+1)).map Pr.key) (me.drop (k+1))=E1):=by show _=_;have:=bX.out;rw [eG,if_neg (by rw [hn];decide),if_neg hor,if_neg (by rw [hb];decide)] at this;rw [Wi.out];exact this
        have Ed:=hid hb;clear hn hln hb htr hor;go_upto_region 7 with (fail)
        rw [<- hwi];clear hwi Ja;go_wp2_with fail
        refine (CN.out _).mono ?_;rintro e w3 ⟨rfl,rfl⟩;go_wp2_with fail
        refine (CV.out _).mono ?_;rintro e w3 ⟨rfl,q,rfl⟩;go_wp2_with fail
        refine (CT.out _).mono ?_;rintro e w3 ⟨rfl,rfl⟩;have hlk:=HLK.out q;rw [nO,Ed.out] at hlk;obtain ⟨w',hup,hS',hg⟩:=jk2.out q;have HN':=hid ((HEI.out.drewN q).put hg hS');clear hS' hg;exact QS
   ·obtain rfl:k=me.length:=by omega
    have HV:Hid (V=ah.aQ cl 0 0 l):=by show V=_;rw [List.drop_length,eG] at bq;rw [HE2.out,<- bq];rfl
    have p1:wr.cell? ⟨w.heap.size,1,none⟩=some (.slice a2 l.length c2):=uq.1.cell 1 _ rfl;have TB:=hid (vG cl l a2 c2 wr SM.out MA.out (HB.out.up uq.2.2.1));rw [<- HV.out] at TB;clear bq uq hk hlt;go_wp2_with fail
    refine TB.out.mono ?_;rintro e w4 ⟨rfl,b4⟩;go_wp2;go_ret;exact ⟨rfl,q01 Zd.out.2.2.1 b4⟩
end Go.Proofs.YtkfnkeflalcphaaGreatDoor

