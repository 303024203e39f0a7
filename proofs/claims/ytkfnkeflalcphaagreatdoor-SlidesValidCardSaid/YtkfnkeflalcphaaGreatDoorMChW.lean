/- Contracts of tree.checkBlocks and Blocks: the first error of blocks; of a formula's check they ask the contract where there is a formula. The contract of tree.Check: the first error of a document. -/
import Derived.Test.YtkfnkeflalcphaaGreatDoorMChU
import Derived.StillTailTactics
set_option maxHeartbeats 8000000
set_option maxRecDepth 100000
open Go.Lib (hid)
namespace Go.Proofs.YtkfnkeflalcphaaGreatDoor
open Tryz
open Go.RowKit
set_option linter.unusedVariables false
set_option linter.unusedSimpArgs false
mutual
def ah.mth:ah->Bool
 | .mk k _ _ _ _ _ _ _ ks=>decide (k=4)||ah.Dm ks
def ah.Dm:List ah->Bool
 | []=>false
 | x::l=>x.mth||ah.Dm l
end
theorem ah.I5:∀ {l:List ah} {k:Nat} {x:ah},l[k]?=some x->x.mth=true->ah.Dm l=true
 | [],_,_,h,_=>by simp at h
 | y::l,0,x,h,hx=>by simp at h;subst h;rw [ah.Dm,hx];rfl
 | y::l,k+1,x,h,hx=>by rw [ah.Dm,ah.I5 (l:=l) (k:=k) (by simpa using h) hx,Bool.or_true]
theorem ah.jT:∀ {l:List ah} {k:Nat} {x:ah},ah.ay l->l[k]?=some x->x.small
 | [],_,_,_,h=>by simp at h
 | y::l,0,x,hb,h=>by simp at h;subst h;rw [ah.ay] at hb;exact hb.1
 | y::l,k+1,x,hb,h=>by rw [ah.ay] at hb;exact ah.jT (l:=l) (k:=k) hb.2 (by simpa using h)
theorem jqk {k lv:Int} {i t d ti:ByteArray} {a:At} {li:List aj} {ks:List ah} (h:(ah.mk k lv i t d ti a li ks).small):BlS i t d ti a li/\ah.ay ks:=by unfold ah.small at h;obtain ⟨h1,h2,h3,h4,h5,h6,h7,h8⟩:=h;exact ⟨⟨h1,h2,h3,h4,h5,h6⟩,h8⟩
mutual
def ah.mid:ah->Prop
 | .mk k lv i t d ti a li ks=>i.size<=300/\t.size<=300/\d.size<=300/\ti.size<=300/\a.short/\aj.iA li/\ah.iA ks
def ah.iA:List ah->Prop
 | []=>True
 | x::l=>x.mid/\ah.iA l
end
mutual
theorem ah.Mk:∀ (x:ah),x.small->x.mid
 | .mk k lv i t d ti a li ks,h=>by
  rw [ah.small] at h;rw [ah.mid];obtain ⟨h1,h2,h3,h4,h5,h6,h7,h8⟩:=h;exact ⟨h1,h2,h3,h4,h5,aj.mF li h6,ah.mF ks h8⟩
theorem ah.mF:∀ (l:List ah),ah.ay l->ah.iA l
 | [],_=>by rw [ah.iA];trivial
 | x::l,h=>by
  rw [ah.ay] at h;rw [ah.iA];exact ⟨ah.Mk x h.1,ah.mF l h.2⟩
end
theorem ah.oh:∀ {l:List ah} {k:Nat} {x:ah},ah.iA l->l[k]?=some x->x.mid
 | [],_,_,_,h=>by simp at h
 | y::l,0,x,hb,h=>by simp at h;subst h;rw [ah.iA] at hb;exact hb.1
 | y::l,k+1,x,hb,h=>by rw [ah.iA] at hb;exact ah.oh (l:=l) (k:=k) hb.2 (by simpa using h)
theorem jqq {k lv:Int} {i t d ti:ByteArray} {a:At} {li:List aj} {ks:List ah} (h:(ah.mk k lv i t d ti a li ks).mid):BlM i t d ti a li/\ah.iA ks:=by unfold ah.mid at h;obtain ⟨h1,h2,h3,h4,h5,h6,h8⟩:=h;exact ⟨⟨h1,h2,h3,h4,h5,h6⟩,h8⟩
theorem tF (cl:ByteArray->Bool) (par:Int) (dp:Nat) (k lv:Int) (i t d ti:ByteArray) (a:At) (li:List aj) (ks l:List ah) (qF:¬ 15<dp) : ah.aQ cl par dp (ah.mk k lv i t d ti a li ks::l)=if zP k lv i t d ti a li ks=false\/dX k par=false then 5 else if nO cl k lv i t d ti a li ks≠0 then nO cl k lv i t d ti a li ks else if ah.aQ cl k (dp+1) ks≠0 then ah.aQ cl k (dp+1) ks else ah.aQ cl par dp l:=by
 rw [ah.aQ,ah.err,if_neg qF];by_cases h1:zP k lv i t d ti a li ks=false\/dX k par=false
 ·rw [if_pos h1,if_pos h1];rfl
 ·rw [if_neg h1,if_neg h1];by_cases h2:nO cl k lv i t d ti a li ks=0
  ·simp only [h2,ne_eq,not_true_eq_false,if_false]
  ·simp only [ne_eq,h2,not_false_eq_true,if_true]
def I6 (cl:ByteArray->Bool) (l:List ah) (par:Int) (dp:Nat) (E:Nat) (w:World) (vi:Value) (wr:World):Prop:=∃ k:Nat,k<=l.length/\vi=.int .i64 k/\Below w.heap.size w wr/\ah.aQ cl par dp (l.drop k)=E
theorem Ur{P:Prop}(h:P:=by
 show E=0;rw [<- aX,List.drop_of_length_le (by omega),ah.aQ]):P:=h
theorem yA (cl:ByteArray->Bool) (n:Nat):∀ (l:List ah) (par:Int) (dp:Nat) (a:Option Addr) (cap:Nat) (w:World),ah.aU l<=n->dp<=1000000->ah.iA l->(ah.Dm l=true->xC cl)->Rd (·<w.heap.size) w (iC l) [.slice a l.length cap] -> Calls prog 80 #[.slice a l.length cap,.int .i64 par,.int .i64 (dp:Int)] w (dF (.int .i64 (ah.aQ cl par dp l:Nat)) w):=by
 induction n using Nat.strongRecOn with
 | _ n ih=>
  intro l par dp a cap w hn hdp hsm hmt h;obtain ⟨a',c',hv,hs⟩:=Rd.aB h;obtain ⟨rfl,rfl⟩:a'=a/\c'=cap:=by simp at hv;exact ⟨hv.1.symm,hv.2.symm⟩
  have hcap:l.length<=c':=by simpa using hs.le
  refine IZ ?_;intro hmx HS IH;have SM:=hid hsm;have MT:=hid hmt;obtain ⟨E,hE⟩:∃ E,ah.aQ cl par dp l=E:=⟨_,rfl⟩;rw [hE];have R0:Hid (I6 cl l par dp E w (.int .i64 0) w):=⟨0,Nat.zero_le _,rfl,Below.refl _ _,hE⟩;clear hs hv h ih hsm hmt hE;by_cases qF:15<dp
  ·have Tt:decide ((15:Int)<(dp:Int))=true:=by simp;omega
   go_enter func80,ntmps80;go_wp2
   go_loopw [13] (fun i wr=>I6 cl l par dp E w i wr) (fun i _=>l.length-(intOf i).toNat)
   case atStart=>exact R0.out
   case round=>
    clear R0;obtain ⟨k,hk,rfl,hbel,aX⟩:=hrel;have HB:=hid hbel;by_cases hlt:k<l.length
    ·refine kK ?_;intro x hx;have HE:Hid (E=11):=by
      show E=11;rw [<- aX,IU l k x hx,ah.aQ];have:x.err cl par dp=11:=by cases x;rw [ah.err,if_pos qF]
      rw [this];rfl
     clear aX hx;exact jy
    ·have HE:Hid (E=0):=by
      exact Ur
     clear aX;exact jy
  ·have Tt:decide ((15:Int)<(dp:Int))=false:=by simp;omega
   go_enter func80,ntmps80;go_wp2
   go_loopw [13] (fun i wr=>I6 cl l par dp E w i wr) (fun i _=>l.length-(intOf i).toNat)
   case atStart=>exact R0.out
   case round=>
    clear R0;obtain ⟨k,hk,rfl,hbel,aX⟩:=hrel;have HB:=hid hbel;by_cases hlt:k<l.length
    ·obtain ⟨x,hx⟩:∃ x,l[k]?=some x:=⟨_,List.getElem?_eq_getElem hlt⟩;have hxs:x.mid:=ah.oh SM.out hx;have hsz:=ah.bK l k _ hx;have hmg:=ah.I5 hx;rw [IU l k x hx] at aX;obtain ⟨kd,lv,i,t,d,ti,at_,li,ks⟩:=x;rw [ah.sz] at hsz;obtain ⟨hbs,hks⟩:=jqq hxs;rw [tF _ _ _ _ _ _ _ _ _ _ _ _ _ qF] at aX;have YV:kd=4->xC cl:=fun e=>MT.out (hmg (by rw [ah.mth,decide_eq_true e];rfl))
     have hmk:ah.Dm ks=true->xC cl:=fun e=>MT.out (hmg (by rw [ah.mth,e,Bool.or_true]))
     obtain ⟨b,off,ac,ap,al,ak,cc,cp,cl',ck,rfl,Uo⟩:=Gd HS.out hx;have hP:=Uo.up hbel;have HP:=hid hP;have IY:=hid (yD wr b (off+k*11) kd lv i t d ti at_ li ks ac ap al ak cc cp cl' ck hP);have FT:=hid (fun w=>Us kd par w);have CI:=hid (fun wx (hb:Below wr.heap.size wr wx) hf=>zR cl wx b (off+k*11) kd lv i t d ti at_ li ks ac ap al ak cc cp cl' ck (hP.up hb) hbs hf YV);have CK:=hid (fun wx (hb:Below wr.heap.size wr wx)=>IH.out (ah.aU ks) (by omega) ks kd (dp+1) ak ck wx (Nat.le_refl _) (by omega) hks hmk (hP.up hb).rd.kids);have bS:=hid aX;clear hxs hsz hmg hbs hks YV hmk hP Uo aX hx hbel;cases hf:zP kd lv i t d ti at_ li ks with
     | false=>
      rw [hf] at IY;have HE:Hid (E=5):=by show E=5;have:=bS.out;rw [if_pos (.inl hf)] at this;exact this.symm
      exact je4
     | true=>
      rw [hf] at IY;cases hpl:dX kd par with
      | false=>
       rw [hpl] at FT;have HE:Hid (E=5):=by show E=5;have:=bS.out;rw [if_pos (.inr hpl)] at this;exact this.symm
       clear hf hpl;go_wp2_with fail
       refine IY.out.mono ?_;rintro e w2 ⟨rfl,hb2⟩;obtain ⟨p0,p1,p2,p3,p4,p5,p6,p7,p8,p9,sM⟩:=(HP.out.up hb2).cells;go_wp2_with fail
       refine (FT.out _).mono ?_;rintro e w3 ⟨rfl,hb3⟩;go_wp2;go_ret;exact ⟨by rw [HE.out];rfl,q01 HB.out (q01 hb2 hb3)⟩
      | true=>
       rw [hpl] at FT;have zM:Hid ((if nO cl kd lv i t d ti at_ li ks≠0 then nO cl kd lv i t d ti at_ li ks else if ah.aQ cl kd (dp+1) ks≠0 then ah.aQ cl kd (dp+1) ks else ah.aQ cl par dp (l.drop (k+1)))=E):=by show _=_;have:=bS.out;rw [if_neg (by rw [hf,hpl];simp)] at this;exact this
       have CI2:=hid (fun wx hb=>CI.out wx hb hf);clear hf hpl bS CI;generalize nO cl kd lv i t d ti at_ li ks=E1 at *
       generalize ah.aQ cl kd (dp+1) ks=E2 at *;obtain ⟨c0,c1,c2,c3,c4,c5,c6,c7,c8,c9,c10⟩:=HP.out.cells;go_wp2_with fail
       refine IY.out.mono ?_;rintro e w2 ⟨rfl,hb2⟩;obtain ⟨p0,p1,p2,p3,p4,p5,p6,p7,p8,p9,sM⟩:=(HP.out.up hb2).cells;go_wp2_with fail
       refine (FT.out _).mono ?_;rintro e w3 ⟨rfl,hb3⟩;have lK:=hid (q01 hb2 hb3);have CIW:=hid (CI2.out _ lK.out);clear c0 c1 c2 c3 c4 c5 c6 c7 c8 c9 c10 p0 p1 p2 p3 p4 p5 p6 p7 p8 p9 sM hb2 hb3 CI2;by_cases h1:E1=0
       ·have yw:Hid ((if E2≠0 then E2 else ah.aQ cl par dp (l.drop (k+1)))=E):=by
         exact Uj
        subst h1;go_wp2_with fail
        refine CIW.out.mono ?_;rintro e w4 ⟨rfl,hb4⟩;have lC:=hid (q01 lK.out hb4);obtain ⟨p0,p1,p2,p3,p4,p5,p6,p7,p8,p9,sM⟩:=(HP.out.up lC.out).cells;have jqx:Hid (Below wr.heap.size wr w4.drew):=gQ lC.out 1;have Zh:=hid (CK.out _ jqx.out);clear CIW hb4 CK zM;by_cases h2:E2=0
        ·have LD:Hid (ah.aQ cl par dp (l.drop (k+1))=E):=by
          exact Uk
         subst h2;go_upto_region 12 with (fail)
         go_still_tail 10,(by kernel_rfl)
         change wpList _ _ _ _ _ w4.drew;go_wp2_with fail
         refine Zh.out.mono ?_;rintro e w5 ⟨rfl,hb5⟩;have pJ:=hid (q01 jqx.out hb5);clear Zh hb5;go_wp2;go_roundw;case rel=>exact ⟨k+1,by omega,by go_num,q01 HB.out pJ.out,LD.out⟩
         case measure=>simp [intOf];omega
        ·have LD:Hid (E=E2):=by
          exact Un
         have hn2:((E2:Int) != 0)=true:=by rw [bne_iff_ne];omega
         clear h2;go_upto_region 12 with (fail)
         go_still_tail 10,(by kernel_rfl)
         change wpList _ _ _ _ _ w4.drew;go_wp2_with fail
         refine Zh.out.mono ?_;rintro e w5 ⟨rfl,hb5⟩;have pJ:=hid (q01 jqx.out hb5);clear Zh hb5;go_wp2;go_ret;exact ⟨by rw [LD.out];rfl,q01 HB.out pJ.out⟩
       ·have yw:Hid (E=E1):=by
         exact Um
        exact je3
    ·have HE:Hid (E=0):=by
      exact Ur
     clear aX;exact jy
theorem I7 (cl:ByteArray->Bool) (l:List ah) (a:Option Addr) (cap:Nat) (w:World) (hsm:ah.iA l) (hm:ah.Dm l=true->xC cl) (h:Rd (·<w.heap.size) w (iC l) [.slice a l.length cap]) : Calls prog 35 #[.slice a l.length cap] w (dF (.int .i64 (ah.aQ cl 0 0 l:Nat)) w):=by have CK:=hid (yA cl _ l 0 0 a cap w (Nat.le_refl _) (by omega) hsm hm h);generalize ah.aQ cl 0 0 l=E at *;clear h hsm hm;go_enter func35,ntmps35;exact Uq
theorem xD (cl:ByteArray->Bool) (l:List ah) (a:Option Addr) (cap:Nat) (w:World) (hsm:ah.ay l) (hm:ah.Dm l=true->xC cl) (h:Rd (·<w.heap.size) w (iC l) [.slice a l.length cap]) : Calls prog 35 #[.slice a l.length cap] w (dF (.int .i64 (ah.aQ cl 0 0 l:Nat)) w):=I7 cl l a cap w (ah.mF l hsm) hm h
open Go.RowKit
def Ei (cl:ByteArray->Bool) (me:List Pr) (l:List ah):Nat:=
 if 32768<ah.bU l\/64<me.length then 3 else if vJ [] me≠0 then vJ [] me else ah.aQ cl 0 0 l
def je8 (T:TypeId) (p:Nat) (cs:List Value) (w:World) (mb:Nat) (l:List Pr) (E:Nat) (vi:Value) (wr:World):Prop:=
 ∃ k:Nat,k<=l.length/\vi=.int .i64 k/\Tw T p cs w mb k ((l.take k).map Pr.key).reverse wr/\vJ ((l.take k).map Pr.key) (l.drop k)=E
theorem je9{P Q:Prop}(q:Q)(h:Nonempty Q->P:=by
 intro qQ;obtain ⟨w0,hw0⟩:∃ w0,w0=w.alloc (.cells #[.slice a1 me.length c1,.slice a2 l.length c2] 26):=⟨_,rfl⟩;have hb0:Below w.heap.size w w0:=by rw [hw0];exact (Below.refl _ _).alloc (Nat.le_refl _) _
 have k1:CB 26 w.heap.size [.slice a1 me.length c1,.slice a2 l.length c2] w0:=by rw [hw0];exact CB.new _ _ _
 revert w0 hw0 hb0 k1;exact qQ.elim fun x=>x):P:=h ⟨q⟩
theorem jej{P:Prop}(h:P:=by
 show V=17;have:=bS.out;rw [vJ,if_neg (by rw [hn];decide),if_pos (.inl hln)] at this;rw [HE2.out,<- this];rfl):P:=h
theorem jek{P:Prop}(h:P:=by
 show V=17;have:=bS.out;rw [vJ,if_neg (by rw [hn];decide),if_pos (.inr htr)] at this;rw [HE2.out,<- this];rfl):P:=h
theorem Mt (cl:ByteArray->Bool) (me:List Pr) (l:List ah) (am ab:Option Addr) (cm nb cb:Nat) (w:World) (hme:me.length<=1000) (gU:∀ p∈me,p.key.size<=1000/\p.val.size<=1000) (hall:ah.bU l<=32768) (hsm:ah.ay l) (hm:ah.Dm l=true->xC cl) (h1:Rd (·<w.heap.size) w (dx me) [.slice am me.length cm]) (h2:Rd (·<w.heap.size) w (iC l) [.slice ab nb cb]) : Calls prog 50 #[.agg #[.slice am me.length cm,.slice ab nb cb]] w (dF (.int .i64 (Ei cl me l:Nat)) w):=by
 obtain ⟨a1,c1,hv1,hs1⟩:=Rd.aB h1;obtain ⟨rfl,rfl⟩:a1=am/\c1=cm:=by simp at hv1;exact ⟨hv1.1.symm,hv1.2.symm⟩
 obtain ⟨a2,c2,hv2,hs2⟩:=Rd.aB h2;obtain ⟨rfl,rfl,rfl⟩:a2=ab/\nb=l.length/\c2=cb:=by simp at hv2;exact ⟨hv2.1.symm,hv2.2.1,hv2.2.2.symm⟩
 have l1:me.length<=c1:=by simpa using hs1.le
 have m1:=hs1.max;unfold maxLen at m1;have HS1:=hid hs1;have SP:=hid gU;have HB:=hid h2;have SM:=hid hsm;have MA:=hid hm;obtain ⟨V,hV⟩:∃ V,V=Ei cl me l:=⟨_,rfl⟩;have HE:Hid (V=Ei cl me l):=hV;have Dn:=hid hall;rw [<- hV];clear hV hs1 gU h2 hsm hm h1 hv1 hv2 hall hs2;refine je9 ?_;intro w0 hw0 hb0 k1;have SZ:=hid (QU l a1 a2 me.length c1 l.length c2 w0 (by have:=Dn.out;omega) (HB.out.up hb0));have x0:=k1.cell 0 _ rfl;have x1:=k1.cell 1 _ rfl;have HK:=hid k1;have HB0:=hid hb0;have hall:=Dn.out;obtain ⟨N,hN⟩:∃ N,N=ah.bU l:=⟨_,rfl⟩;have HN:Hid (N=ah.bU l):=hN;rw [<- hN] at SZ hall;have hb3:decide ((32768:Int)<(N:Int))=false:=by simp;omega
 clear k1 hb0 hN hall;go_enter func50,ntmps50;go_upto_region 1 with (fail)
 rw [<- hw0];clear hw0;go_wp2_with fail
 refine SZ.out.mono ?_;rintro e w1 ⟨rfl,b1⟩;have K1:=hid (HK.out.below b1);have B1:=hid (q01 HB0.out b1);have x0:=K1.out.cell 0 _ rfl;have x1:=K1.out.cell 1 _ rfl;have LT:=hid K1.out.lt;clear SZ;by_cases hml:64<me.length
 ·have q1:decide ((64:Int)<(me.length:Int))=true:=by simp;omega
  have HV:Hid (V=3):=by show V=3;rw [HE.out,Ei,if_pos (.inr hml)]
  clear b1;exact qH
 ·have q1:decide ((64:Int)<(me.length:Int))=false:=by simp;omega
  have HE2:Hid (V=if vJ [] me≠0 then vJ [] me else ah.aQ cl 0 0 l):=by show V=_;rw [HE.out,Ei,if_neg (by have:=Dn.out;omega)]
  obtain ⟨w2,hw2⟩:∃ w2,w2=w1.alloc (.map #[] 0):=⟨_,rfl⟩;have b2:Below w1.heap.size w1 w2:=by rw [hw2];exact (Below.refl _ _).alloc (Nat.le_refl _) _
  have K2:=hid (K1.out.below b2);have R0:Hid (je8 26 w.heap.size [.slice a1 me.length c1,.slice a2 l.length c2] w w1.heap.size me (vJ [] me) (.int .i64 0) w2):=by
   refine ⟨0,Nat.zero_le _,rfl,⟨K2.out,?_,q01 B1.out b2,B1.out.size,?_,Nat.le_refl _⟩,rfl⟩
   ·rw [hw2];exact fB.made w1
   ·have:=LT.out;omega
  have x0':=K2.out.cell 0 _ rfl;have x1':=K2.out.cell 1 _ rfl;obtain ⟨E1,hE1⟩:∃ E1,E1=vJ [] me:=⟨_,rfl⟩;rw [<- hE1] at HE2 R0;have hmm:=@run_makeMap prog;clear hE1 hml b1 b2;go_upto_region 4 with (fail)
  rw [<- hw2];clear hmm hw2 x0 x1;go_wp2
  go_loopw [19] (fun i wr=>je8 26 w.heap.size [.slice a1 me.length c1,.slice a2 l.length c2] w w1.heap.size me E1 i wr) (fun i _=>me.length-(intOf i).toNat)
  case atStart=>exact R0.out
  case round=>
   clear R0 x0' x1';obtain ⟨k,hk,rfl,vC,aX⟩:=hrel;have HET:=hid vC;by_cases hlt:k<me.length
   ·obtain ⟨x,hx⟩:∃ x,me[k]?=some x:=⟨_,List.getElem?_eq_getElem hlt⟩;obtain ⟨b,off,rfl,-,-,c0,c1'⟩:=jU HS1.out hx;have c0:wr.cell? ⟨b,off+k*2,none⟩=some (.string x.key):=by rw [vC.2.2.1.cell (p:=⟨b,off+k*2,none⟩) (nX c0)];exact c0
    have c1':wr.cell? ⟨b,off+k*2+1,none⟩=some (.string x.val):=by rw [vC.2.2.1.cell (p:=⟨b,off+k*2+1,none⟩) (nX c1')];exact c1'
    have hxs:=SP.out x (List.mem_of_getElem? hx);have HX:=hid hx;have bS:Hid (vJ ((me.take k).map Pr.key) (x::me.drop (k+1))=E1):=by show _=_;rw [<- IU me k x hx];exact aX
    obtain ⟨key,val⟩:=x;dsimp only at c0 c1' hxs;have CN:=hid (fun w=>Tm key w (by omega));have CV:=hid (fun w=>Ue val w (by omega));have CT:=hid (fun w=>jF val w (by omega));have Tx:Hid ((me.take (k+1)).map Pr.key=(me.take k).map Pr.key++[key]):=by show _=_;rw [List.take_add_one,HX.out];simp
    obtain ⟨wi,hwi⟩:∃ wi,wi=wr.alloc (.cells #[.string key,.string val] 61):=⟨_,rfl⟩;have LH:=vC.alloc (.cells #[.string key,.string val] 61);rw [<- hwi] at LH;have i0:wi.cell? ⟨wr.heap.size,0,none⟩=some (.string key):=by rw [hwi];exact IV wr [.string key,.string val] _ 0 _ rfl
    have i1:wi.cell? ⟨wr.heap.size,1,none⟩=some (.string val):=by rw [hwi];exact IV wr [.string key,.string val] _ 1 _ rfl
    have HEI:=hid LH;clear aX vC hx;cases hn:dQ key with
    | false=>
     rw [hn] at CN;have HV:Hid (V=6):=by show V=6;have:=bS.out;rw [vJ,if_pos hn] at this;rw [HE2.out,<- this];rfl
     clear hn;go_upto_region 7 with (fail)
     exact jeq
    | true=>
     rw [hn] at CN;cases hln:cZ val with
     | false=>
      rw [hln] at CV;have HV:Hid (V=17):=by exact jej
      clear hn hln;go_upto_region 7 with (fail)
      exact jex
     | true=>
      rw [hln] at CV;cases htr:trimS val with
      | false=>
       rw [htr] at CT;have HV:Hid (V=17):=by exact jek
       clear hn hln htr;go_upto_region 7 with (fail)
       rw [<- hwi];clear hwi LH;go_wp2_with fail
       refine (CN.out _).mono ?_;rintro e w3 ⟨rfl,rfl⟩;go_wp2_with fail
       refine (CV.out _).mono ?_;rintro e w3 ⟨rfl,q,rfl⟩;go_wp2_with fail
       refine (CT.out _).mono ?_;rintro e w3 ⟨rfl,rfl⟩;exact Ut
      | true=>
       rw [htr] at CT;have HLK:=hid (fun q=>(LH.drewN q).2.1.look key (by unfold maxLen;omega));have jqz:=hid (fun q=>(LH.drewN q).2.1.put key (by unfold maxLen;omega) (by unfold maxLen;omega));have hor:¬ (cZ val=false\/trimS val=false):=by rw [hln,htr];decide
       cases hb:dO ((me.take k).map Pr.key) key with
       | true=>
        have HV:Hid (V=7):=by show V=7;have:=bS.out;rw [vJ,if_neg (by rw [hn];decide),if_neg hor,if_pos hb] at this;rw [HE2.out,<- this];rfl
        have zS:=hid hb;clear hn hln hb htr hor;go_upto_region 7 with (fail)
        rw [<- hwi];clear hwi LH;go_wp2_with fail
        refine (CN.out _).mono ?_;rintro e w3 ⟨rfl,rfl⟩;go_wp2_with fail
        refine (CV.out _).mono ?_;rintro e w3 ⟨rfl,q,rfl⟩;go_wp2_with fail
        refine (CT.out _).mono ?_;rintro e w3 ⟨rfl,rfl⟩;have hlk:=HLK.out q;rw [oq,zS.out] at hlk;exact Ut
       | false=>
        have Ej:Hid (vJ ((me.take (k+1)).map Pr.key) (me.drop (k+1))=E1):=by show _=_;have:=bS.out;rw [vJ,if_neg (by rw [hn];decide),if_neg hor,if_neg (by rw [hb];decide)] at this;rw [Tx.out];exact this
        have zS:=hid hb;clear hn hln hb htr hor;go_upto_region 7 with (fail)
        rw [<- hwi];clear hwi LH;go_wp2_with fail
        refine (CN.out _).mono ?_;rintro e w3 ⟨rfl,rfl⟩;go_wp2_with fail
        refine (CV.out _).mono ?_;rintro e w3 ⟨rfl,q,rfl⟩;go_wp2_with fail
        refine (CT.out _).mono ?_;rintro e w3 ⟨rfl,rfl⟩;have hlk:=HLK.out q;rw [oq,zS.out] at hlk;obtain ⟨w',hup,hS',hg⟩:=jqz.out q;have HN':=hid ((HEI.out.drewN q).put hg hS');clear hS' hg;exact Uu
   ·obtain rfl:k=me.length:=by omega
    have HV:Hid (V=ah.aQ cl 0 0 l):=by show V=_;rw [List.drop_length,vJ] at aX;rw [HE2.out,<- aX];rfl
    have p1:wr.cell? ⟨w.heap.size,1,none⟩=some (.slice a2 l.length c2):=vC.1.cell 1 _ rfl;have TB:=hid (xD cl l a2 c2 wr SM.out MA.out (HB.out.up vC.2.2.1));rw [<- HV.out] at TB;clear aX vC hk hlt;go_wp2_with fail
    refine TB.out.mono ?_;rintro e w4 ⟨rfl,b4⟩;go_wp2;go_ret;exact ⟨rfl,q01 HET.out.2.2.1 b4⟩
end Go.Proofs.YtkfnkeflalcphaaGreatDoor

