/- Contracts of tree.checkBlocks and Blocks: the first error of blocks; of a formula's check they ask the contract where there is a formula. The contract of tree.Check: the first error of a document. -/
import Derived.Test.YtlbioncagkkkoaaGreatDoorKChU
import Derived.StillTailTactics
import Derived.Test.YtlbioncagkkkoaaGreatDoorKPaE
set_option maxHeartbeats 8000000
set_option maxRecDepth 100000
open Go.Lib (hid)
namespace Go.Proofs.YtlbioncagkkkoaaGreatDoor
open Go.RowKit
set_option linter.unusedVariables false
set_option linter.unusedSimpArgs false
mutual
def Blk.mth:Blk->Bool
 | .mk k _ _ _ _ _ _ _ ks=>decide (k=4)||Blk.mthL ks
def Blk.mthL:List Blk->Bool
 | []=>false
 | x::l=>x.mth||Blk.mthL l
end
theorem Blk.mthL_get:∀ {l:List Blk} {k:Nat} {x:Blk},l[k]?=some x->x.mth=true->Blk.mthL l=true
 | [],_,_,h,_=>by simp at h
 | y::l,0,x,h,hx=>by simp at h;subst h;rw [Blk.mthL,hx];rfl
 | y::l,k+1,x,h,hx=>by rw [Blk.mthL,Blk.mthL_get (l:=l) (k:=k) (by simpa using h) hx,Bool.or_true]
theorem Blk.smallL_get:∀ {l:List Blk} {k:Nat} {x:Blk},Blk.smallL l->l[k]?=some x->x.small
 | [],_,_,_,h=>by simp at h
 | y::l,0,x,hb,h=>by simp at h;subst h;rw [Blk.smallL] at hb;exact hb.1
 | y::l,k+1,x,hb,h=>by rw [Blk.smallL] at hb;exact Blk.smallL_get (l:=l) (k:=k) hb.2 (by simpa using h)
theorem blS_of {k lv:Int} {i t d ti:ByteArray} {a:At} {li:List Inl} {ks:List Blk} (h:(Blk.mk k lv i t d ti a li ks).small):BlS i t d ti a li/\Blk.smallL ks:=by
 unfold Blk.small at h
 obtain ⟨h1,h2,h3,h4,h5,h6,h7,h8⟩:=h
 exact ⟨⟨h1,h2,h3,h4,h5,h6⟩,h8⟩
mutual
def Blk.mid:Blk->Prop
 | .mk k lv i t d ti a li ks=>i.size<=300/\t.size<=300/\d.size<=300/\ti.size<=300/\a.short/\Inl.midL li/\Blk.midL ks
def Blk.midL:List Blk->Prop
 | []=>True
 | x::l=>x.mid/\Blk.midL l
end
theorem Blk.midL_get:∀ {l:List Blk} {k:Nat} {x:Blk},Blk.midL l->l[k]?=some x->x.mid
 | [],_,_,_,h=>by simp at h
 | y::l,0,x,hb,h=>by simp at h;subst h;rw [Blk.midL] at hb;exact hb.1
 | y::l,k+1,x,hb,h=>by rw [Blk.midL] at hb;exact Blk.midL_get (l:=l) (k:=k) hb.2 (by simpa using h)
theorem blM_of {k lv:Int} {i t d ti:ByteArray} {a:At} {li:List Inl} {ks:List Blk} (h:(Blk.mk k lv i t d ti a li ks).mid):BlM i t d ti a li/\Blk.midL ks:=by
 unfold Blk.mid at h
 obtain ⟨h1,h2,h3,h4,h5,h6,h8⟩:=h
 exact ⟨⟨h1,h2,h3,h4,h5,h6⟩,h8⟩
theorem bl_errL_cons (cl:ByteArray->Bool) (par:Int) (dp:Nat) (k lv:Int) (i t d ti:ByteArray) (a:At) (li:List Inl) (ks l:List Blk) (h15:¬ 15<dp) :
  Blk.errL cl par dp (Blk.mk k lv i t d ti a li ks::l)=if q0q k lv i t d ti a li ks=false\/placeB k par=false then 5
   else if q1z cl k lv i t d ti a li ks≠0 then q1z cl k lv i t d ti a li ks else if Blk.errL cl k (dp+1) ks≠0 then Blk.errL cl k (dp+1) ks else Blk.errL cl par dp l:=by
 rw [Blk.errL,Blk.err,if_neg h15]
 by_cases h1:q0q k lv i t d ti a li ks=false\/placeB k par=false
 ·rw [if_pos h1,if_pos h1];rfl
 ·rw [if_neg h1,if_neg h1]
  by_cases h2:q1z cl k lv i t d ti a li ks=0
  ·simp only [h2,ne_eq,not_true_eq_false,if_false]
  ·simp only [ne_eq,h2,not_false_eq_true,if_true]
def CbRel (cl:ByteArray->Bool) (l:List Blk) (par:Int) (dp:Nat) (E:Nat) (w:World) (vi:Value) (wr:World):Prop:=∃ k:Nat,k<=l.length/\vi=.int .i64 k/\Below w.heap.size w wr/\Blk.errL cl par dp (l.drop k)=E
theorem checkBlocks_mid (cl:ByteArray->Bool) (n:Nat):∀ (l:List Blk) (par:Int) (dp:Nat) (a:Option Addr) (cap:Nat) (w:World),Blk.szL l<=n->dp<=1000000->Blk.midL l->(Blk.mthL l=true->MathC cl)->Rd (·<w.heap.size) w (q0x l) [.slice a l.length cap] ->
  Calls Tryz.prog 53 #[.slice a l.length cap,.int .i64 par,.int .i64 (dp:Int)] w (RetB (.int .i64 (Blk.errL cl par dp l:Nat)) w):=by
 induction n using Nat.strongRecOn with
 | _ n ih=>
  intro l par dp a cap w hn hdp hsm hmt h
  obtain ⟨a',c',hv,hs⟩:=Rd.sl_open h
  obtain ⟨rfl,rfl⟩:a'=a/\c'=cap:=by simp at hv;exact ⟨hv.1.symm,hv.2.symm⟩
  have hcap:l.length<=c':=by simpa using hs.le
  have hmx:=hs.max
  unfold maxLen at hmx
  have HS:=hid hs
  have IH:=hid ih
  have SM:=hid hsm
  have MT:=hid hmt
  obtain ⟨E,hE⟩:∃ E,Blk.errL cl par dp l=E:=⟨_,rfl⟩
  rw [hE]
  have R0:Hid (CbRel cl l par dp E w (.int .i64 0) w):=⟨0,Nat.zero_le _,rfl,Below.refl _ _,hE⟩
  clear hs hv h ih hsm hmt hE
  by_cases h15:15<dp
  ·have q15:decide ((15:Int)<(dp:Int))=true:=by simp;omega
   go_enter Tryz.func53,Tryz.ntmps53
   go_wp2
   go_loopw [13] (fun i wr=>CbRel cl l par dp E w i wr) (fun i _=>l.length-(intOf i).toNat)
   case atStart=>exact R0.out
   case round=>
    clear R0
    obtain ⟨k,hk,rfl,hbel,herr⟩:=hrel
    have HB:=hid hbel
    by_cases hlt:k<l.length
    ·obtain ⟨x,hx⟩:∃ x,l[k]?=some x:=⟨_,List.getElem?_eq_getElem hlt⟩
     have HE:Hid (E=11):=by
      show E=11
      rw [<- herr,q0s l k x hx,Blk.errL]
      have:x.err cl par dp=11:=by cases x;rw [Blk.err,if_pos h15]
      rw [this];rfl
     clear herr hx
     go_wp2
     go_ret
     exact ⟨by rw [HE.out];rfl,HB.out⟩
    ·have HE:Hid (E=0):=by
      show E=0
      rw [<- herr,List.drop_of_length_le (by omega),Blk.errL]
     clear herr
     go_wp2
     go_ret
     exact ⟨by rw [HE.out];rfl,HB.out⟩
  ·have q15:decide ((15:Int)<(dp:Int))=false:=by simp;omega
   go_enter Tryz.func53,Tryz.ntmps53
   go_wp2
   go_loopw [13] (fun i wr=>CbRel cl l par dp E w i wr) (fun i _=>l.length-(intOf i).toNat)
   case atStart=>exact R0.out
   case round=>
    clear R0
    obtain ⟨k,hk,rfl,hbel,herr⟩:=hrel
    have HB:=hid hbel
    by_cases hlt:k<l.length
    ·obtain ⟨x,hx⟩:∃ x,l[k]?=some x:=⟨_,List.getElem?_eq_getElem hlt⟩
     have hxs:x.mid:=Blk.midL_get SM.out hx
     have hsz:=Blk.szL_get l k _ hx
     have hmg:=Blk.mthL_get hx
     rw [q0s l k x hx] at herr
     obtain ⟨kd,lv,i,t,d,ti,at_,li,ks⟩:=x
     rw [Blk.sz] at hsz
     obtain ⟨hbs,hks⟩:=blM_of hxs
     rw [bl_errL_cons _ _ _ _ _ _ _ _ _ _ _ _ _ h15] at herr
     have hm4:kd=4->MathC cl:=fun e=>MT.out (hmg (by rw [Blk.mth,decide_eq_true e];rfl))
     have hmk:Blk.mthL ks=true->MathC cl:=fun e=>MT.out (hmg (by rw [Blk.mth,e,Bool.or_true]))
     obtain ⟨b,off,ac,ap,al,ak,cc,cp,cl',ck,rfl,hP0⟩:=blP_at HS.out hx
     have hP:=hP0.up hbel
     have HP:=hid hP
     have IFD:=hid (blockFields_any wr b (off+k*11) kd lv i t d ti at_ li ks ac ap al ak cc cp cl' ck hP)
     have FT:=hid (fun w=>fits_any kd par w)
     have CI:=hid (fun wx (hb:Below wr.heap.size wr wx) hf=>checkBlock_any cl wx b (off+k*11) kd lv i t d ti at_ li ks ac ap al ak cc cp cl' ck (hP.up hb) hbs hf hm4)
     have CK:=hid (fun wx (hb:Below wr.heap.size wr wx)=>IH.out (Blk.szL ks) (by omega) ks kd (dp+1) ak ck wx (Nat.le_refl _) (by omega) hks hmk (hP.up hb).rd.kids)
     have HERR:=hid herr
     clear hxs hsz hmg hbs hks hm4 hmk hP hP0 herr hx hbel
     cases hf:q0q kd lv i t d ti at_ li ks with
     | false=>
      rw [hf] at IFD
      have HE:Hid (E=5):=by
       show E=5
       have:=HERR.out
       rw [if_pos (.inl hf)] at this;exact this.symm
      clear hf
      go_wp2_with fail
      refine IFD.out.mono ?_
      rintro e w2 ⟨rfl,hb2⟩
      go_wp2
      go_ret
      exact ⟨by rw [HE.out];rfl,q01 HB.out hb2⟩
     | true=>
      rw [hf] at IFD
      cases hpl:placeB kd par with
      | false=>
       rw [hpl] at FT
       have HE:Hid (E=5):=by
        show E=5
        have:=HERR.out
        rw [if_pos (.inr hpl)] at this;exact this.symm
       clear hf hpl
       go_wp2_with fail
       refine IFD.out.mono ?_
       rintro e w2 ⟨rfl,hb2⟩
       obtain ⟨p0,p1,p2,p3,p4,p5,p6,p7,p8,p9,p10⟩:=(HP.out.up hb2).cells
       go_wp2_with fail
       refine (FT.out _).mono ?_
       rintro e w3 ⟨rfl,hb3⟩
       go_wp2
       go_ret
       exact ⟨by rw [HE.out];rfl,q01 HB.out (q01 hb2 hb3)⟩
      | true=>
       rw [hpl] at FT
       have HERR3:Hid ((if q1z cl kd lv i t d ti at_ li ks≠0 then q1z cl kd lv i t d ti at_ li ks else if Blk.errL cl kd (dp+1) ks≠0 then Blk.errL cl kd (dp+1) ks else Blk.errL cl par dp (l.drop (k+1)))=E):=by
        show _=_
        have:=HERR.out
        rw [if_neg (by rw [hf,hpl];simp)] at this;exact this
       have CI2:=hid (fun wx hb=>CI.out wx hb hf)
       clear hf hpl HERR CI
       generalize q1z cl kd lv i t d ti at_ li ks=E1 at *
       generalize Blk.errL cl kd (dp+1) ks=E2 at *
       obtain ⟨c0,c1,c2,c3,c4,c5,c6,c7,c8,c9,c10⟩:=HP.out.cells
       go_wp2_with fail
       refine IFD.out.mono ?_
       rintro e w2 ⟨rfl,hb2⟩
       obtain ⟨p0,p1,p2,p3,p4,p5,p6,p7,p8,p9,p10⟩:=(HP.out.up hb2).cells
       go_wp2_with fail
       refine (FT.out _).mono ?_
       rintro e w3 ⟨rfl,hb3⟩
       have HBX:=hid (q01 hb2 hb3)
       have CIW:=hid (CI2.out _ HBX.out)
       clear c0 c1 c2 c3 c4 c5 c6 c7 c8 c9 c10 p0 p1 p2 p3 p4 p5 p6 p7 p8 p9 p10 hb2 hb3 CI2
       by_cases h1:E1=0
       ·have HE3:Hid ((if E2≠0 then E2 else Blk.errL cl par dp (l.drop (k+1)))=E):=by
         show _=_
         have:=HERR3.out
         rw [if_neg (by simpa using h1)] at this;exact this
        subst h1
        go_wp2_with fail
        refine CIW.out.mono ?_
        rintro e w4 ⟨rfl,hb4⟩
        have HB4:=hid (q01 HBX.out hb4)
        obtain ⟨p0,p1,p2,p3,p4,p5,p6,p7,p8,p9,p10⟩:=(HP.out.up HB4.out).cells
        have HB4d:Hid (Below wr.heap.size wr w4.drew):=q03 HB4.out 1
        have CKW:=hid (CK.out _ HB4d.out)
        clear CIW hb4 CK HERR3
        by_cases h2:E2=0
        ·have HE4:Hid (Blk.errL cl par dp (l.drop (k+1))=E):=by
          show _=_
          have:=HE3.out
          rw [if_neg (by simpa using h2)] at this;exact this
         subst h2
         go_upto_region 12 with (fail)
         go_still_tail 10,(by kernel_rfl)
         change wpList _ _ _ _ _ w4.drew
         go_wp2_with fail
         refine CKW.out.mono ?_
         rintro e w5 ⟨rfl,hb5⟩
         have HB5:=hid (q01 HB4d.out hb5)
         clear CKW hb5
         go_wp2
         go_roundw
         case rel=>exact ⟨k+1,by omega,by go_num,q01 HB.out HB5.out,HE4.out⟩
         case measure=>simp [intOf];omega
        ·have HE4:Hid (E=E2):=by
          show _=_
          have:=HE3.out
          rw [if_pos h2] at this;exact this.symm
         have hn2:((E2:Int) != 0)=true:=by rw [bne_iff_ne];omega
         clear h2
         go_upto_region 12 with (fail)
         go_still_tail 10,(by kernel_rfl)
         change wpList _ _ _ _ _ w4.drew
         go_wp2_with fail
         refine CKW.out.mono ?_
         rintro e w5 ⟨rfl,hb5⟩
         have HB5:=hid (q01 HB4d.out hb5)
         clear CKW hb5
         go_wp2
         go_ret
         exact ⟨by rw [HE4.out];rfl,q01 HB.out HB5.out⟩
       ·have HE3:Hid (E=E1):=by
         show _=_
         have:=HERR3.out
         rw [if_pos h1] at this;exact this.symm
        have hn1:((E1:Int) != 0)=true:=by rw [bne_iff_ne];omega
        clear h1
        go_wp2_with fail
        refine CIW.out.mono ?_
        rintro e w4 ⟨rfl,hb4⟩
        have HB4:=hid (q01 HBX.out hb4)
        clear CIW hb4
        go_wp2
        go_ret
        exact ⟨by rw [HE3.out];rfl,q01 HB.out HB4.out⟩
    ·have HE:Hid (E=0):=by
      show E=0
      rw [<- herr,List.drop_of_length_le (by omega),Blk.errL]
     clear herr
     go_wp2
     go_ret
     exact ⟨by rw [HE.out];rfl,HB.out⟩
theorem tBlocks_mid (cl:ByteArray->Bool) (l:List Blk) (a:Option Addr) (cap:Nat) (w:World) (hsm:Blk.midL l) (hm:Blk.mthL l=true->MathC cl) (h:Rd (·<w.heap.size) w (q0x l) [.slice a l.length cap]) :
  Calls Tryz.prog 19 #[.slice a l.length cap] w (RetB (.int .i64 (Blk.errL cl 0 0 l:Nat)) w):=by
 have CK:=hid (checkBlocks_mid cl _ l 0 0 a cap w (Nat.le_refl _) (by omega) hsm hm h)
 generalize Blk.errL cl 0 0 l=E at *
 clear h hsm hm
 go_enter Tryz.func19,Tryz.ntmps19
 go_wp2_with fail
 refine CK.out.mono ?_
 rintro e w1 ⟨rfl,hb⟩
 go_wp2
 go_ret
 exact ⟨rfl,hb⟩
open Go.RowKit
def docErr (cl:ByteArray->Bool) (me:List Pr) (l:List Blk):Nat:=
 if 32768<Blk.allL l\/64<me.length then 3 else if metErr [] me≠0 then metErr [] me else Blk.errL cl 0 0 l
end Go.Proofs.YtlbioncagkkkoaaGreatDoor
