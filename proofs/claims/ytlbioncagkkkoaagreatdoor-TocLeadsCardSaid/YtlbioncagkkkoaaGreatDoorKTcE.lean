/- Contract of toc.entryLine. -/
import Derived.Test.YtlbioncagkkkoaaGreatDoorKTcJ
import Derived.Test.YtlbioncagkkkoaaGreatDoorKTcM
set_option maxHeartbeats 8000000
set_option maxRecDepth 100000
open Go.Lib (hid)
namespace Go.Proofs.YtlbioncagkkkoaaGreatDoor
open Go.RowKit
set_option linter.unusedVariables false
set_option linter.unusedSimpArgs false
mutual
def Inl.wt:Inl->Nat
 | .mk _ t d _ _ _ _ ks=>t.size+d.size+1+Inl.wtL ks
def Inl.wtL:List Inl->Nat
 | []=>0
 | x::l=>x.wt+Inl.wtL l
end
mutual
def Inl.kdw:Inl->Prop
 | .mk k _ _ _ _ _ _ ks=>(-9223372036854775808<=k/\k<=9223372036854775807)/\Inl.kdwL ks
def Inl.kdwL:List Inl->Prop
 | []=>True
 | x::l=>x.kdw/\Inl.kdwL l
end
theorem Inl.kdwL_get:∀ (l:List Inl) (k:Nat) (x:Inl),Inl.kdwL l->l[k]?=some x->x.kdw
 | [],_,_,_,h=>by simp at h
 | y::l,0,x,hb,h=>by simp at h;subst h;rw [Inl.kdwL] at hb;exact hb.1
 | y::l,k+1,x,hb,h=>by rw [Inl.kdwL] at hb;exact Inl.kdwL_get l k x hb.2 (by simpa using h)
theorem Inl.wtL_get:∀ (l:List Inl) (k:Nat) (x:Inl),l[k]?=some x->x.wt<=Inl.wtL l
 | [],_,_,h=>by simp at h
 | y::l,0,x,h=>by simp at h;subst h;rw [Inl.wtL];omega
 | y::l,k+1,x,h=>by have:=Inl.wtL_get l k x (by simpa using h);rw [Inl.wtL];omega
theorem addK_ttop (q:Int) (out:List Inl) (x:Inl):ttop (addK q out x)<=ttop out+x.tx.size:=by
 unfold addK
 split
 ·split
  ·rename_i y hg
   split
   ·conv=>rhs;rw [q1s hg]
    rw [ttop_app,ttop_app,ttop,ttop,ttop]
    obtain ⟨k,t,d,ti,a,ar,ci,ks⟩:=y
    show _+((t++x.tx).size+0)<=_+(t.size+0)+_
    rw [ByteArray.size_append];omega
   ·rw [ttop_app,ttop,ttop];omega
  ·rw [ttop_app,ttop,ttop];omega
 ·rw [ttop_app,ttop,ttop];omega
theorem foldK_ttop (q:Int):∀ (l out:List Inl),ttop (l.foldl (addK q) out)<=ttop out+ttop l
 | [],out=>by simp [ttop]
 | x::l,out=>by
  have h1:=addK_ttop q out x
  have h2:=foldK_ttop q l (addK q out x)
  rw [List.foldl_cons,ttop];omega
theorem joinK_ttop (q:Int) (l:List Inl):ttop (q1k q l)<=ttop l:=by
 have:=foldK_ttop q l []
 unfold q1k;simpa [ttop] using this
theorem fullL_ttop:∀ (l:List Inl),ttop (fullL l)<=ttop l
 | []=>by simp [fullL,ttop]
 | x::l=>by
  have:=fullL_ttop l
  unfold fullL at this ⊢
  rw [List.filter_cons]
  split
  ·rw [ttop,ttop];omega
  ·rw [ttop];omega
theorem entL_le (l:List Inl):ttop (entL l)<=ttop (l.flatMap Inl.entY)/\(entL l).length<=(l.flatMap Inl.entY).length:=by
 rw [entL_prog]
 exact ⟨Nat.le_trans (joinK_ttop _ _) (Nat.le_trans (joinK_ttop _ _) (fullL_ttop _)),Nat.le_trans (joinK_len _ _) (Nat.le_trans (joinK_len _ _) (fullL_len _))⟩
theorem entY_of (k:Int) (t d ti:ByteArray) (a:At) (ar:List ByteArray) (ci:List Ci) (ks:List Inl) (h1:ttop (entL ks)<=Inl.wtL ks) (h2:(entL ks).length<=Inl.szL ks) :
  ttop (Inl.entY (.mk k t d ti a ar ci ks))<=(Inl.mk k t d ti a ar ci ks).wt/\(Inl.entY (.mk k t d ti a ar ci ks)).length<=(Inl.mk k t d ti a ar ci ks).sz:=by
 rw [Inl.entY,Inl.wt,Inl.sz]
 split
 ·exact ⟨by omega,by omega⟩
 split
 ·exact ⟨by simp [ttop],by simp⟩
 split
 ·refine ⟨?_,by simp⟩
  show d.size+0<=_;omega
 split
 ·refine ⟨?_,by simp⟩
  show 1+0<=_;omega
 split
 ·refine ⟨?_,by simp⟩
  show t.size+0<=_;omega
 split
 ·split
  ·exact ⟨by simp [ttop],by simp⟩
  ·refine ⟨?_,by simp⟩
   show t.size+0<=_;omega
 ·refine ⟨?_,by simp⟩
  show t.size+0<=_;omega
mutual
theorem Inl.entY_bd:∀ (x:Inl),ttop x.entY<=x.wt/\x.entY.length<=x.sz
 | .mk k t d ti a ar ci ks=>by
  have h:=Inl.entYL_bd ks
  have h2:=entL_le ks
  exact entY_of k t d ti a ar ci ks (by omega) (by omega)
theorem Inl.entYL_bd:∀ (l:List Inl),ttop (l.flatMap Inl.entY)<=Inl.wtL l/\(l.flatMap Inl.entY).length<=Inl.szL l
 | []=>by simp [ttop]
 | x::l=>by
  have h1:=Inl.entY_bd x
  have h2:=Inl.entYL_bd l
  rw [List.flatMap_cons,ttop_app,List.length_append,Inl.wtL,Inl.szL];omega
end
theorem entYs_snoc (l:List Inl) (k:Nat) (x:Inl) (h:l[k]?=some x):(l.take (k+1)).flatMap Inl.entY=(l.take k).flatMap Inl.entY++x.entY:=by
 rw [List.take_add_one,h,List.flatMap_append];simp
theorem Inl.szL_take_le (l:List Inl) (k:Nat):Inl.szL (l.take k)<=Inl.szL l:=by
 conv=>rhs;rw [<- List.take_append_drop k l]
 induction (l.take k) with
 | nil=>rw [List.nil_append,Inl.szL];omega
 | cons x m ih=>rw [List.cons_append,Inl.szL,Inl.szL];omega
theorem tx_nil (ok:Nat->Prop) (w:World) (t:ByteArray):Rd ok w (txI t).d [.int .i64 1,.string t,.string ⟨#[]⟩,.string ⟨#[]⟩,.string ⟨#[]⟩,.slice none 0 0,.slice none 0 0,.slice none 0 0,.slice none 0 0,.slice none 0 0]:=
 Inl.mk_ 1 t ⟨#[]⟩ ⟨#[]⟩ (a:=at0) ⟨⟨Rd.nil_mk _ _ _,Rd.nil_mk _ _ _⟩,Rd.nil_mk _ _ _,Rd.nil_mk _ _ _,Rd.nil_mk _ _ _⟩
theorem one_inls (l:List Inl) (rs:List (List Value)) (ok:Nat->Prop) (w:World) (h:RdL ok w (l.map Inl.d) rs):∀ u∈rs.flatten,u.oneCell'=true:=by
 intro u hu
 obtain ⟨r,hr,hu⟩:=List.mem_flatten.1 hu
 obtain ⟨j,hj,rfl⟩:=List.mem_iff_getElem.1 hr
 have hj2:j<(l.map Inl.d).length:=by rw [<- h.len];exact hj
 obtain ⟨r',hr',hd⟩:=h.get j _ (List.getElem?_eq_getElem hj2)
 rw [List.getElem?_eq_getElem hj] at hr'
 obtain rfl:=Option.some.inj hr'
 rw [List.getElem_map] at hd
 generalize l[j]'(by simpa using hj2)=x at hd
 obtain ⟨k,t,d,ti,a,ar,ci,ks⟩:=x
 obtain ⟨vc,vp,va,vi,vk,he,hR⟩:=Inl.open_ hd
 obtain ⟨a1,n1,c1,rfl⟩:=Rd.sl_form hR.at_.cls
 obtain ⟨a2,n2,c2,rfl⟩:=Rd.sl_form hR.at_.prs
 obtain ⟨a3,n3,c3,rfl⟩:=Rd.sl_form hR.args
 obtain ⟨a4,n4,c4,rfl⟩:=Rd.sl_form hR.cites
 obtain ⟨a5,n5,c5,rfl⟩:=Rd.sl_form hR.kids
 rw [he] at hu
 exact q2c u hu
theorem entLine_any (n:Nat):∀ (l:List Inl) (B:Nat) (v:Value) (b nb:Nat) (w:World),Inl.szL l<=n->n<=1000000->Rd (·<B) w (q0w l) [v]->B<=w.heap.size->Inl.bdL l->Inl.txBL l->Inl.kdwL l->Inl.wtL l<=100000000000->IntAt w b nb howF ->
  Calls Tryz.prog 28 #[v,.map (some b)] w (LcPost w (entL l)):=by
 induction n using Nat.strongRecOn with
 | _ n ih=>
  intro l B v mb nb w hn hnm hrd hB hbd htx hkw hwt hmap
  obtain ⟨iI,hiI,hzI0,hzI1,hzI2⟩:=info_parts infoIn
  obtain ⟨a,cap,hv,hs⟩:=Rd.sl_open hrd
  obtain rfl:v=.slice a l.length cap:=by simpa using hv
  have hcap:l.length<=cap:=by simpa using hs.le
  have hll:=Inl.len_le l
  have hmx:=hs.max
  have HS:=hid hs
  have IH:=hid ih
  have HBD:=hid hbd
  have HTX:=hid htx
  have HKW:=hid hkw
  have HMAP:=hid hmap
  have HYB:=hid (Inl.entYL_bd l)
  have HPR:=hid (entL_prog l)
  have hmlt:=hmap.lt
  have R0:=hid (show FuRel (fun l=>l.flatMap Inl.entY) (fun _=>False) w w l (.slice none 0 0) (.int .i64 0) from ⟨0,[],Nat.zero_le _,rfl,RowU.nil _ _ _ _⟩)
  clear hs hv hrd ih hbd htx hkw hmap
  unfold maxLen at hmx
  generalize entL l=RES at *
  go_enter Tryz.func28,Tryz.ntmps28
  go_wp2
  go_loopw [5,10] (fun v vi wr=>FuRel (fun l=>l.flatMap Inl.entY) (fun _=>False) w wr l v vi) (fun _ i _=>l.length-(intOf i).toNat)
  case atStart=>exact R0.out
  case round=>
   clear R0
   obtain ⟨k,rows,hk,rfl,hrow⟩:=hrel
   obtain ⟨raw,hraw⟩:∃ raw,raw=(l.take k).flatMap Inl.entY:=⟨_,rfl⟩
   change RowU _ _ _ _ _ (((l.take k).flatMap Inl.entY).map Inl.d) _ _ _ at hrow
   rw [<- hraw] at hrow
   obtain ⟨m,hm⟩:∃ m,m=(raw.map Inl.d).length:=⟨_,rfl⟩
   have hmk:m<=Inl.szL (l.take k):=by rw [hm,hraw,List.length_map];exact (Inl.entYL_bd (l.take k)).2
   have hmk2:=Inl.szL_take_le l k
   have HDN:=hid hm.symm
   have HRAW:=hid hraw
   obtain ⟨av,cv,rfl,-,-⟩:=hrow.cap hm.symm
   have HROW:=hid hrow
   have hbel:=hrow.bel
   clear hrow hm hraw
   by_cases hlt:k<l.length
   ·obtain ⟨x,hx⟩:∃ x,l[k]?=some x:=⟨_,List.getElem?_eq_getElem hlt⟩
    have hsn:=entYs_snoc l k x hx
    rw [<- HRAW.out] at hsn
    have HSN:=hid (show ((l.take (k+1)).flatMap Inl.entY).map Inl.d=raw.map Inl.d++x.entY.map Inl.d by rw [hsn,List.map_append])
    have hkb:=Inl.kdwL_get l k x HKW.out hx
    have hb1:=Inl.bdL_get l k x HBD.out hx
    have ht1:=Inl.txBL_get l k x HTX.out hx
    have hsz:=Inl.szL_get l k x hx
    have hw1:=Inl.wtL_get l k x hx
    obtain ⟨kd,t,d,ti,at_,ar,ci,ks⟩:=x
    rw [Inl.kdw] at hkb
    rw [Inl.bd] at hb1
    rw [Inl.txB] at ht1
    rw [Inl.sz] at hsz
    rw [Inl.wt] at hw1
    obtain ⟨hk1,hk2⟩:=hkb
    obtain ⟨hn1,hn2,hn3,hn4,hn5⟩:=hb1
    have hwf:(Lit.int .i64 kd).wf=true:=WalkArith.wf_i64 ⟨hk1.1,hk1.2⟩
    obtain ⟨g,off,vc,vp,va,vi,vk,rfl,hok,hbl,hc,hR⟩:=q1b (HS.out.below (hbel.mono hB)) hx
    obtain ⟨c0,c1,c2,c3,c4,c5,c6,c7,c8,c9⟩:=hc
    obtain ⟨ac,nc,cc,rfl⟩:=Rd.sl_form hR.at_.cls
    obtain ⟨ap,np,cp,rfl⟩:=Rd.sl_form hR.at_.prs
    obtain ⟨aa,na,ca,rfl⟩:=Rd.sl_form hR.args
    obtain ⟨ai,ni,ci',rfl⟩:=Rd.sl_form hR.cites
    obtain ⟨ak,nk,ck,rfl⟩:=Rd.sl_form hR.kids
    obtain ⟨p,hp⟩:∃ p,p=wr.heap.size:=⟨_,rfl⟩
    obtain ⟨wA,hwA⟩:∃ wA,wA=wr.alloc (.cells #[.int .i64 kd,.string t,.string d,.string ti,.string at_.id,.slice ac nc cc,.slice ap np cp,.slice aa na ca,.slice ai ni ci',.slice ak nk ck] 47):=⟨_,rfl⟩
    have PA:PB p [.int .i64 kd,.string t,.string d,.string ti,.string at_.id,.slice ac nc cc,.slice ap np cp,.slice aa na ca,.slice ai ni ci',.slice ak nk ck] wA:=by rw [hwA,hp];exact heap_alloc_new wr _
    have UA:=hid (show RowU 47 10 (fun _=>False) p w (raw.map Inl.d) rows (.slice av m cv) wA by rw [hwA,hp];exact HROW.out.alloc _)
    have HIN:=hid (show InR (·<B) wA at_ ar ci ks (.slice ac nc cc) (.slice ap np cp) (.slice aa na ca) (.slice ai ni ci') (.slice ak nk ck) from inR_keep hR (fun b hb hlt=>⟨hb,by rw [hwA];exact Below.heap_alloc _ _ b hlt⟩))
    have zA:wA.heap.size=p+1:=by rw [hwA,hp];simp
    have ZA:=hid zA
    have hpw:w.heap.size<=p:=by rw [hp];exact hbel.size
    have HBp:Hid (B<=p):=by show B<=p;omega
    have HPA:=hid PA
    have HWT:Hid (Inl.wtL ks<=100000000000):=by show _<=_;omega
    have HKS:=hid (show Inl.szL ks<n by omega)
    have MA:=hid (HMAP.out.below UA.out.bel)
    have hlk:=MA.out.look kd hwf
    clear hR hx hbel hok hbl hsn zA hk1 hwf hw1
    go_upto_region 5 with (fail)
    rw [<- hwA,<- hp]
    obtain ⟨e0,e1,e2,e3,e4,e5,e6,e7,e8,e9,ef⟩:=PA.all
    clear hwA hp HROW c0 c1 c2 c3 c4 c5 c6 c7 c8 c9 PA
    have hdl:m<=10000000:=by omega
    by_cases h1:kd=9\/kd=11
    ·rw [show howF kd=1 by unfold howF;rw [if_pos h1]] at hlk
     have HX2:=hid (show ((l.take (k+1)).flatMap Inl.entY).map Inl.d=raw.map Inl.d++(entL ks).map Inl.d by rw [HSN.out,Inl.entY,if_pos h1])
     have hel:=(Inl.entYL_bd ks).2
     have hel2:=(entL_le ks).2
     have IK:=hid (IH.out (Inl.szL ks) HKS.out ks B (.slice ak nk ck) mb nb wA (Nat.le_refl _) (by have:=HKS.out;omega) HIN.out.kids (by have:=HBp.out;have:=ZA.out;omega) hn5 ht1.2 hk2 HWT.out MA.out)
     obtain ⟨me,hme⟩:∃ me,me=((entL ks).map Inl.d).length:=⟨_,rfl⟩
     have hme2:me<=Inl.szL ks:=by rw [hme,List.length_map];omega
     have HME:=hid hme.symm
     have OI:=hid (fun (rs:List (List Value)) (ok':Nat->Prop) (wz:World) (h:RdL ok' wz ((entL ks).map Inl.d) rs)=>one_inls (entL ks) rs ok' wz h)
     clear h1 hel hel2 hme
     go_wp2_with fail
     (with_reducible refine IK.out.mono ?_)
     rintro e w1 ⟨vk1,rfl,hk1,b1⟩
     obtain ⟨ak1,ck1,hvk1,hsk1⟩:=Rd.sl_open hk1
     obtain rfl:vk1=.slice ak1 me ck1:=by rw [HME.out] at hvk1;simpa using hvk1
     have U1:=hid (UA.out.below b1)
     have HK1:=hid (show Rd (fun b=>False\/p<=b) w1 (.sl 10 ((entL ks).map Inl.d)) [.slice ak1 me ck1] from hk1.weaken (fun b hb=>.inr (by have:=ZA.out;omega)))
     have hsk:=HKS.out
     clear hk1 b1 IK hvk1 hsk1
     go_wp2_with (at_builtin;refine wpList_puts rfl _ _ 38 rfl iI _ 192 Tryz.underlying38 hiI hzI0 hzI1 hzI2 rfl (by decide) U1.out (fun _=>False.elim) (.slice ak1 me ck1) HK1.out (fun rs ok' h=>OI.out rs ok' w1 h) HDN.out HME.out (by omega) (by decide) rfl rfl ?_)
     intro a' c' rows' w9 hrow hg9
     have HROW:=hid hrow
     rw [<- HX2.out] at HROW
     clear hrow hg9
     go_wp2
     go_roundw
     case rel=>exact ⟨k+1,_,by omega,by go_num,HROW.out⟩
     case measure=>simp [intOf];omega
    by_cases h2:kd=12\/kd=14\/kd=13
    ·rw [show howF kd=2 by unfold howF;rw [if_neg h1,if_pos h2]] at hlk
     have HX2:=hid (show ((l.take (k+1)).flatMap Inl.entY).map Inl.d=raw.map Inl.d by rw [HSN.out,Inl.entY,if_neg h1,if_pos h2];simp)
     have HROW:=hid UA.out.top
     rw [<- HX2.out] at HROW
     clear h1 h2
     go_wp2
     go_roundw
     case rel=>exact ⟨k+1,_,by omega,by go_num,HROW.out⟩
     case measure=>simp [intOf];omega
    by_cases h3:kd=2\/kd=3
    ·rw [show howF kd=3 by unfold howF;rw [if_neg h1,if_neg h2,if_pos h3]] at hlk
     have HX2:=hid (show ((l.take (k+1)).flatMap Inl.entY).map Inl.d=raw.map Inl.d++[(txI ⟨#[32]⟩).d] by rw [HSN.out,Inl.entY,if_neg h1,if_neg h2,if_neg (by omega),if_pos h3];rfl)
     clear h1 h2 h3
     go_wp2_with (at_builtin;refine q0p rfl _ _ 38 rfl iI _ 192 Tryz.underlying38 hiI hzI0 hzI1 hzI2 rfl (by decide) UA.out (fun _=>False.elim) (txI ⟨#[32]⟩).d [.int .i64 1,.string ⟨#[32]⟩,.string ⟨#[]⟩,.string ⟨#[]⟩,.string ⟨#[]⟩,.slice none 0 0,.slice none 0 0,.slice none 0 0,.slice none 0 0,.slice none 0 0] (tx_nil _ _ _) rfl q2c HDN.out hdl (by decide) rfl rfl ?_)
     intro a' c' w9 hrow hg9
     have HROW:=hid hrow
     rw [<- HX2.out] at HROW
     clear hrow hg9
     go_wp2
     go_roundw
     case rel=>exact ⟨k+1,_,by omega,by go_num,HROW.out⟩
     case measure=>simp [intOf];omega
    by_cases h4:kd=16
    ·rw [show howF kd=4 by unfold howF;rw [if_neg h1,if_neg h2,if_neg h3,if_pos h4]] at hlk
     have HX2:=hid (show ((l.take (k+1)).flatMap Inl.entY).map Inl.d=raw.map Inl.d++[(txI d).d] by rw [HSN.out,Inl.entY,if_neg h1,if_neg h2,if_pos h4];rfl)
     clear h1 h2 h3 h4
     go_wp2_with (at_builtin;refine q0p rfl _ _ 38 rfl iI _ 192 Tryz.underlying38 hiI hzI0 hzI1 hzI2 rfl (by decide) UA.out (fun _=>False.elim) (txI d).d [.int .i64 1,.string d,.string ⟨#[]⟩,.string ⟨#[]⟩,.string ⟨#[]⟩,.slice none 0 0,.slice none 0 0,.slice none 0 0,.slice none 0 0,.slice none 0 0] (tx_nil _ _ _) rfl q2c HDN.out hdl (by decide) rfl rfl ?_)
     intro a' c' w9 hrow hg9
     have HROW:=hid hrow
     rw [<- HX2.out] at HROW
     clear hrow hg9
     go_wp2
     go_roundw
     case rel=>exact ⟨k+1,_,by omega,by go_num,HROW.out⟩
     case measure=>simp [intOf];omega
    by_cases h5:kd=10
    ·rw [show howF kd=5 by unfold howF;rw [if_neg h1,if_neg h2,if_neg h3,if_neg h4,if_pos h5]] at hlk
     have HX2:=hid (show ((l.take (k+1)).flatMap Inl.entY).map Inl.d=raw.map Inl.d++[(Inl.mk kd t d ti at0 ar ci (entL ks)).d] by rw [HSN.out,Inl.entY,if_neg h1,if_neg h2,if_neg h4,if_neg h3,if_pos h5];rfl)
     clear h1 h2 h3 h4 h5
     have OA:=hid (tocOne_any kd t d ti at_ ar ci (.slice ac nc cc) (.slice ap np cp) (.slice aa na ca) (.slice ai ni ci') ak nk ck B wA HIN.out.at_ HIN.out.args HIN.out.cites (by have:=HBp.out;have:=ZA.out;omega) hn1 hn2 hn3 hn4)
     go_wp2_with fail
     (with_reducible refine OA.out.mono ?_)
     rintro e w1 ⟨vc',vp',va',vi',rfl,hA1,hA2,hA3,b1⟩
     obtain ⟨ac1,nc1,cc1,rfl⟩:=Rd.sl_form hA1.cls
     obtain ⟨ap1,np1,cp1,rfl⟩:=Rd.sl_form hA1.prs
     obtain ⟨aa1,na1,ca1,rfl⟩:=Rd.sl_form hA2
     obtain ⟨ai1,ni1,ci1,rfl⟩:=Rd.sl_form hA3
     have PA1:=HPA.out.grown (q02 b1)
     have U1:=hid (UA.out.below b1)
     have T1:=hid (hA1.weaken (ok':=(p<·)) (fun b hb=>by have:=ZA.out;omega))
     have T2:=hid (hA2.weaken (ok':=(p<·)) (fun b hb=>by have:=ZA.out;omega))
     have T3:=hid (hA3.weaken (ok':=(p<·)) (fun b hb=>by have:=ZA.out;omega))
     have T4:=hid (HIN.out.kids.below (show Below B wA w1 from b1.mono (by have:=HBp.out;have:=ZA.out;omega)))
     have HPA1:=hid PA1
     clear e0 e1 e2 e3 e4 e5 e6 e7 e8 e9 ef
     obtain ⟨e0,e1,e2,e3,e4,e5,e6,e7,e8,e9,ef⟩:=PA1.all
     clear hA1 hA2 hA3 b1 PA1 HPA UA OA hlk
     go_upto_region 18 with (fail)
     obtain ⟨w2,hw2⟩:∃ w2,w2=ten w1 p 0 (.int .i64 kd) (.string t) (.string d) (.string ti) (.string at_.id) (.slice ac1 nc1 cc1) (.slice ap1 np1 cp1) (.slice aa1 na1 ca1) (.slice ai1 ni1 ci1) (.slice ak nk ck):=⟨_,rfl⟩
     have U2:RowU 47 10 (fun _=>False) p w (raw.map Inl.d) rows (.slice av m cv) w2:=by rw [hw2];exact U1.out.ten (Nat.le_refl _) _ _ _ _ _ _ _ _ _ _
     have P2:PB p [.int .i64 kd,.string t,.string d,.string ti,.string at_.id,.slice ac1 nc1 cc1,.slice ap1 np1 cp1,.slice aa1 na1 ca1,.slice ai1 ni1 ci1,.slice ak nk ck] w2:=by rw [hw2];exact HPA1.out.ten rfl _ _ _ _ _ _ _ _ _ _
     have D1:AtR (p<·) w2 at_ (.slice ac1 nc1 cc1) (.slice ap1 np1 cp1):=by rw [hw2];exact ⟨T1.out.cls.ten (Nat.le_refl _) _ _ _ _ _ _ _ _ _ _,T1.out.prs.ten (Nat.le_refl _) _ _ _ _ _ _ _ _ _ _⟩
     have D2:Rd (p<·) w2 (strsD ar) [.slice aa1 na1 ca1]:=by rw [hw2];exact T2.out.ten (Nat.le_refl _) _ _ _ _ _ _ _ _ _ _
     have D3:Rd (p<·) w2 (cisD ci) [.slice ai1 ni1 ci1]:=by rw [hw2];exact T3.out.ten (Nat.le_refl _) _ _ _ _ _ _ _ _ _ _
     have D4:Rd (·<B) w2 (q0w ks) [.slice ak nk ck]:=Rd.keep (fun b (hb:b<B) hlt=>⟨hb,by rw [hw2];exact ten_heap _ _ _ _ _ _ _ _ _ _ _ _ _ b (by have:=HBp.out;omega)⟩) _ _ T4.out
     simp only [ten,Nat.zero_add] at hw2
     rw [<- hw2]
     clear hw2 e0 e1 e2 e3 e4 e5 e6 e7 e8 e9 ef T1 T2 T3 T4 U1 HPA1
     have HU2:=hid U2
     have HP2:=hid P2
     have HD1:=hid D1
     have HD2:=hid D2
     have HD3:=hid D3
     have HD4:=hid D4
     clear U2 P2 D1 D2 D3 D4
     obtain ⟨z0,z1,z2,z3,z4,z5,z6,z7,z8,z9,zf⟩:=HP2.out.all
     go_upto_region 19 with (fail)
     obtain ⟨w2z,hw2z⟩:∃ w2z,w2z=((w2.setCell ⟨p,4,none⟩ (.string ⟨#[]⟩)).setCell ⟨p,5,none⟩ (.slice none 0 0)).setCell ⟨p,6,none⟩ (.slice none 0 0):=⟨_,rfl⟩
     have HU2z:Hid (RowU 47 10 (fun _=>False) p w (raw.map Inl.d) rows (.slice av m cv) w2z):=by
      show RowU _ _ _ _ _ _ _ _ _
      rw [hw2z];exact ((HU2.out.set (Nat.le_refl _) 4 _).set (Nat.le_refl _) 5 _).set (Nat.le_refl _) 6 _
     have HP2z:Hid (PB p [.int .i64 kd,.string t,.string d,.string ti,.string ⟨#[]⟩,.slice none 0 0,.slice none 0 0,.slice aa1 na1 ca1,.slice ai1 ni1 ci1,.slice ak nk ck] w2z):=by
      show PB _ _ _
      rw [hw2z];exact ((HP2.out.set 4 _).set 5 _).set 6 _
     have HD1z:Hid (AtR (p<·) w2z at0 (.slice none 0 0) (.slice none 0 0)):=⟨Rd.nil_mk _ _ _,Rd.nil_mk _ _ _⟩
     have HD2z:Hid (Rd (p<·) w2z (strsD ar) [.slice aa1 na1 ca1]):=by
      show Rd _ _ _ _
      rw [hw2z];exact ((HD2.out.far (Nat.le_refl _) 4 _).far (Nat.le_refl _) 5 _).far (Nat.le_refl _) 6 _
     have HD3z:Hid (Rd (p<·) w2z (cisD ci) [.slice ai1 ni1 ci1]):=by
      show Rd _ _ _ _
      rw [hw2z];exact ((HD3.out.far (Nat.le_refl _) 4 _).far (Nat.le_refl _) 5 _).far (Nat.le_refl _) 6 _
     have HD4z:Hid (Rd (·<B) w2z (q0w ks) [.slice ak nk ck]):=by
      refine Rd.keep (fun b (hb:b<B) hlt=>⟨hb,?_⟩) _ _ HD4.out
      have hne:b≠p:=by have:=HBp.out;omega
      rw [hw2z,Below.heap_setCell _ ⟨p,6,none⟩ _ b hne,Below.heap_setCell _ ⟨p,5,none⟩ _ b hne,Below.heap_setCell _ ⟨p,4,none⟩ _ b hne]
     rw [<- hw2z]
     clear hw2z z0 z1 z2 z3 z4 z5 z6 z7 z8 z9 zf HU2 HP2 HD1 HD2 HD3 HD4
     have hz2:=HP2z.out.lt
     have e9:=HP2z.out.cell 9 _ rfl
     have IK:=hid (IH.out (Inl.szL ks) HKS.out ks B (.slice ak nk ck) mb nb w2z (Nat.le_refl _) (by have:=HKS.out;omega) HD4z.out (by have:=HBp.out;omega) hn5 ht1.2 hk2 HWT.out (HMAP.out.below HU2z.out.bel))
     go_wp2_with fail
     (with_reducible refine IK.out.mono ?_)
     rintro e w3 ⟨vk1,rfl,hk1,b3⟩
     obtain ⟨ak1,nk1,ck1,rfl⟩:=Rd.sl_form hk1
     have P3:=HP2z.out.grown (q02 b3)
     have HU3:=hid (HU2z.out.below b3)
     have HI3:=hid (show InR (p<·) w3 at0 ar ci (entL ks) (.slice none 0 0) (.slice none 0 0) (.slice aa1 na1 ca1) (.slice ai1 ni1 ci1) (.slice ak1 nk1 ck1) from ⟨HD1z.out.keepG (q02 b3),HD2z.out.keepG (q02 b3),HD3z.out.keepG (q02 b3),hk1.weaken (fun b hb=>by omega)⟩)
     clear e9
     have e9:=P3.cell 9 _ rfl
     have f9:=P3.free 9
     have HP3:=hid P3
     clear P3 hk1 b3 IK HD1z HD2z HD3z HU2z HP2z hz2 HD4z
     go_upto_region 20 with (fail)
     obtain ⟨w4,hw4⟩:∃ w4,w4=w3.setCell ⟨p,9,none⟩ (.slice ak1 nk1 ck1):=⟨_,rfl⟩
     have HU4:Hid (RowU 47 10 (fun _=>False) p w (raw.map Inl.d) rows (.slice av m cv) w4):=by
      show RowU _ _ _ _ _ _ _ _ _
      rw [hw4];exact HU3.out.set (Nat.le_refl _) 9 _
     have P4:PB p [.int .i64 kd,.string t,.string d,.string ti,.string ⟨#[]⟩,.slice none 0 0,.slice none 0 0,.slice aa1 na1 ca1,.slice ai1 ni1 ci1,.slice ak1 nk1 ck1] w4:=by rw [hw4];exact HP3.out.set 9 _
     have HI4:Hid (InR (p<·) w4 at0 ar ci (entL ks) (.slice none 0 0) (.slice none 0 0) (.slice aa1 na1 ca1) (.slice ai1 ni1 ci1) (.slice ak1 nk1 ck1)):=by
      show InR _ _ _ _ _ _ _ _ _ _ _
      rw [hw4];exact ⟨HI3.out.at_.far (Nat.le_refl _) 9 _,HI3.out.args.far (Nat.le_refl _) 9 _,HI3.out.cites.far (Nat.le_refl _) 9 _,HI3.out.kids.far (Nat.le_refl _) 9 _⟩
     rw [<- hw4]
     clear e9
     obtain ⟨e0,e1,e2,e3,e4,e5,e6,e7,e8,e9,ef⟩:=P4.all
     clear hw4 P4 HU3 HP3 HI3 f9
     go_wp2_with (at_builtin;refine q0p rfl _ _ 38 rfl iI _ 192 Tryz.underlying38 hiI hzI0 hzI1 hzI2 rfl (by decide) HU4.out (fun _=>False.elim) (Inl.mk kd t d ti at0 ar ci (entL ks)).d [.int .i64 kd,.string t,.string d,.string ti,.string ⟨#[]⟩,.slice none 0 0,.slice none 0 0,.slice aa1 na1 ca1,.slice ai1 ni1 ci1,.slice ak1 nk1 ck1] ((Inl.mk_ kd t d ti (a:=at0) HI4.out).weaken (fun b hb=>.inr (Nat.le_of_lt hb))) rfl q2c HDN.out hdl (by decide) rfl rfl ?_)
     intro a' c' w9 hrow hg9
     have HROW:=hid hrow
     rw [<- HX2.out] at HROW
     clear hrow hg9
     go_wp2
     go_roundw
     case rel=>exact ⟨k+1,_,by omega,by go_num,HROW.out⟩
     case measure=>simp [intOf];omega
    by_cases h6:kd=6\/kd=7\/kd=8
    ·rw [show howF kd=6 by unfold howF;rw [if_neg h1,if_neg h2,if_neg h3,if_neg h4,if_neg h5,if_pos h6]] at hlk
     have HX3:=hid (show ((l.take (k+1)).flatMap Inl.entY).map Inl.d=raw.map Inl.d++(if (entL ks).isEmpty=true then [] else [Inl.mk kd t d ti at_ ar ci (entL ks)]).map Inl.d by rw [HSN.out,Inl.entY,if_neg h1,if_neg h2,if_neg h4,if_neg h3,if_neg h5,if_pos h6])
     clear h1 h2 h3 h4 h5 h6
     have OA:=hid (tocOne_any kd t d ti at_ ar ci (.slice ac nc cc) (.slice ap np cp) (.slice aa na ca) (.slice ai ni ci') ak nk ck B wA HIN.out.at_ HIN.out.args HIN.out.cites (by have:=HBp.out;have:=ZA.out;omega) hn1 hn2 hn3 hn4)
     go_wp2_with fail
     (with_reducible refine OA.out.mono ?_)
     rintro e w1 ⟨vc',vp',va',vi',rfl,hA1,hA2,hA3,b1⟩
     obtain ⟨ac1,nc1,cc1,rfl⟩:=Rd.sl_form hA1.cls
     obtain ⟨ap1,np1,cp1,rfl⟩:=Rd.sl_form hA1.prs
     obtain ⟨aa1,na1,ca1,rfl⟩:=Rd.sl_form hA2
     obtain ⟨ai1,ni1,ci1,rfl⟩:=Rd.sl_form hA3
     have PA1:=HPA.out.grown (q02 b1)
     have U1:=hid (UA.out.below b1)
     have T1:=hid (hA1.weaken (ok':=(p<·)) (fun b hb=>by have:=ZA.out;omega))
     have T2:=hid (hA2.weaken (ok':=(p<·)) (fun b hb=>by have:=ZA.out;omega))
     have T3:=hid (hA3.weaken (ok':=(p<·)) (fun b hb=>by have:=ZA.out;omega))
     have T4:=hid (HIN.out.kids.below (show Below B wA w1 from b1.mono (by have:=HBp.out;have:=ZA.out;omega)))
     have HPA1:=hid PA1
     clear e0 e1 e2 e3 e4 e5 e6 e7 e8 e9 ef
     obtain ⟨e0,e1,e2,e3,e4,e5,e6,e7,e8,e9,ef⟩:=PA1.all
     clear hA1 hA2 hA3 b1 PA1 HPA UA OA hlk
     go_upto_region 23 with (fail)
     obtain ⟨w2,hw2⟩:∃ w2,w2=ten w1 p 0 (.int .i64 kd) (.string t) (.string d) (.string ti) (.string at_.id) (.slice ac1 nc1 cc1) (.slice ap1 np1 cp1) (.slice aa1 na1 ca1) (.slice ai1 ni1 ci1) (.slice ak nk ck):=⟨_,rfl⟩
     have U2:RowU 47 10 (fun _=>False) p w (raw.map Inl.d) rows (.slice av m cv) w2:=by rw [hw2];exact U1.out.ten (Nat.le_refl _) _ _ _ _ _ _ _ _ _ _
     have P2:PB p [.int .i64 kd,.string t,.string d,.string ti,.string at_.id,.slice ac1 nc1 cc1,.slice ap1 np1 cp1,.slice aa1 na1 ca1,.slice ai1 ni1 ci1,.slice ak nk ck] w2:=by rw [hw2];exact HPA1.out.ten rfl _ _ _ _ _ _ _ _ _ _
     have D1:AtR (p<·) w2 at_ (.slice ac1 nc1 cc1) (.slice ap1 np1 cp1):=by rw [hw2];exact ⟨T1.out.cls.ten (Nat.le_refl _) _ _ _ _ _ _ _ _ _ _,T1.out.prs.ten (Nat.le_refl _) _ _ _ _ _ _ _ _ _ _⟩
     have D2:Rd (p<·) w2 (strsD ar) [.slice aa1 na1 ca1]:=by rw [hw2];exact T2.out.ten (Nat.le_refl _) _ _ _ _ _ _ _ _ _ _
     have D3:Rd (p<·) w2 (cisD ci) [.slice ai1 ni1 ci1]:=by rw [hw2];exact T3.out.ten (Nat.le_refl _) _ _ _ _ _ _ _ _ _ _
     have D4:Rd (·<B) w2 (q0w ks) [.slice ak nk ck]:=Rd.keep (fun b (hb:b<B) hlt=>⟨hb,by rw [hw2];exact ten_heap _ _ _ _ _ _ _ _ _ _ _ _ _ b (by have:=HBp.out;omega)⟩) _ _ T4.out
     simp only [ten,Nat.zero_add] at hw2
     rw [<- hw2]
     clear hw2 e0 e1 e2 e3 e4 e5 e6 e7 e8 e9 ef T1 T2 T3 T4 U1 HPA1
     have HU2:=hid U2
     have HP2:=hid P2
     have HD1:=hid D1
     have HD2:=hid D2
     have HD3:=hid D3
     have HD4:=hid D4
     clear U2 P2 D1 D2 D3 D4
     have hz2:=HP2.out.lt
     have e9:=HP2.out.cell 9 _ rfl
     have IK:=hid (IH.out (Inl.szL ks) HKS.out ks B (.slice ak nk ck) mb nb w2 (Nat.le_refl _) (by have:=HKS.out;omega) HD4.out (by have:=HBp.out;omega) hn5 ht1.2 hk2 HWT.out (HMAP.out.below HU2.out.bel))
     go_wp2_with fail
     (with_reducible refine IK.out.mono ?_)
     rintro e w3 ⟨vk1,rfl,hk1,b3⟩
     obtain ⟨ak1,nk1,ck1,rfl⟩:=Rd.sl_form hk1
     have HNK:Hid (nk1=(entL ks).length):=by
      show nk1=_
      obtain ⟨_,_,h,_⟩:=Rd.sl_open hk1
      simp at h
      exact h.2.1
     have P3:=HP2.out.grown (q02 b3)
     have HU3:=hid (HU2.out.below b3)
     have HI3:=hid (show InR (p<·) w3 at_ ar ci (entL ks) (.slice ac1 nc1 cc1) (.slice ap1 np1 cp1) (.slice aa1 na1 ca1) (.slice ai1 ni1 ci1) (.slice ak1 nk1 ck1) from ⟨HD1.out.keepG (q02 b3),HD2.out.keepG (q02 b3),HD3.out.keepG (q02 b3),hk1.weaken (fun b hb=>by omega)⟩)
     clear e9
     have e9:=P3.cell 9 _ rfl
     have f9:=P3.free 9
     have HP3:=hid P3
     clear P3 hk1 b3 IK HD1 HD2 HD3 HU2 HP2 hz2 HD4
     go_upto_region 24 with (fail)
     obtain ⟨w4,hw4⟩:∃ w4,w4=w3.setCell ⟨p,9,none⟩ (.slice ak1 nk1 ck1):=⟨_,rfl⟩
     have HU4:Hid (RowU 47 10 (fun _=>False) p w (raw.map Inl.d) rows (.slice av m cv) w4):=by
      show RowU _ _ _ _ _ _ _ _ _
      rw [hw4];exact HU3.out.set (Nat.le_refl _) 9 _
     have P4:PB p [.int .i64 kd,.string t,.string d,.string ti,.string at_.id,.slice ac1 nc1 cc1,.slice ap1 np1 cp1,.slice aa1 na1 ca1,.slice ai1 ni1 ci1,.slice ak1 nk1 ck1] w4:=by rw [hw4];exact HP3.out.set 9 _
     have HI4:Hid (InR (p<·) w4 at_ ar ci (entL ks) (.slice ac1 nc1 cc1) (.slice ap1 np1 cp1) (.slice aa1 na1 ca1) (.slice ai1 ni1 ci1) (.slice ak1 nk1 ck1)):=by
      show InR _ _ _ _ _ _ _ _ _ _ _
      rw [hw4];exact ⟨HI3.out.at_.far (Nat.le_refl _) 9 _,HI3.out.args.far (Nat.le_refl _) 9 _,HI3.out.cites.far (Nat.le_refl _) 9 _,HI3.out.kids.far (Nat.le_refl _) 9 _⟩
     rw [<- hw4]
     clear e9
     obtain ⟨e0,e1,e2,e3,e4,e5,e6,e7,e8,e9,ef⟩:=P4.all
     clear hw4 P4 HU3 HP3 HI3 f9
     by_cases h0:nk1=0
     ·have HX2:=hid (show ((l.take (k+1)).flatMap Inl.entY).map Inl.d=raw.map Inl.d by rw [HX3.out,if_pos (by rw [List.isEmpty_iff];exact List.eq_nil_of_length_eq_zero (by rw [<- HNK.out];exact h0))];simp)
      have HROW:=hid HU4.out.top
      rw [<- HX2.out] at HROW
      have q1:decide ((0:Int)<(nk1:Int))=false:=by simp;omega
      have q2:decide (0<nk1)=false:=by simp;omega
      clear h0
      go_wp2
      go_roundw
      case rel=>exact ⟨k+1,_,by omega,by go_num,HROW.out⟩
      case measure=>simp [intOf];omega
     ·have HX2:=hid (show ((l.take (k+1)).flatMap Inl.entY).map Inl.d=raw.map Inl.d++[(Inl.mk kd t d ti at_ ar ci (entL ks)).d] by rw [HX3.out,if_neg (by rw [List.isEmpty_iff];intro h;have:=HNK.out;rw [h] at this;simp at this;omega)];rfl)
      have q1:decide ((0:Int)<(nk1:Int))=true:=by simp;omega
      have q2:decide (0<nk1)=true:=by simp;omega
      clear h0
      go_wp2_with (at_builtin;refine q0p rfl _ _ 38 rfl iI _ 192 Tryz.underlying38 hiI hzI0 hzI1 hzI2 rfl (by decide) HU4.out (fun _=>False.elim) (Inl.mk kd t d ti at_ ar ci (entL ks)).d [.int .i64 kd,.string t,.string d,.string ti,.string at_.id,.slice ac1 nc1 cc1,.slice ap1 np1 cp1,.slice aa1 na1 ca1,.slice ai1 ni1 ci1,.slice ak1 nk1 ck1] ((Inl.mk_ kd t d ti HI4.out).weaken (fun b hb=>.inr (Nat.le_of_lt hb))) rfl q2c HDN.out hdl (by decide) rfl rfl ?_)
      intro a' c' w9 hrow hg9
      have HROW:=hid hrow
      rw [<- HX2.out] at HROW
      clear hrow hg9
      go_wp2
      go_roundw
      case rel=>exact ⟨k+1,_,by omega,by go_num,HROW.out⟩
      case measure=>simp [intOf];omega
    rw [show howF kd=0 by unfold howF;rw [if_neg h1,if_neg h2,if_neg h3,if_neg h4,if_neg h5,if_neg h6]] at hlk
    have HX2:=hid (show ((l.take (k+1)).flatMap Inl.entY).map Inl.d=raw.map Inl.d++[(Inl.mk kd t d ti at_ ar ci (Inl.mergeL ks)).d] by rw [HSN.out,Inl.entY,if_neg h1,if_neg h2,if_neg h4,if_neg h3,if_neg h5,if_neg h6];rfl)
    clear h1 h2 h3 h4 h5 h6
    have OA:=hid (tocOne_any kd t d ti at_ ar ci (.slice ac nc cc) (.slice ap np cp) (.slice aa na ca) (.slice ai ni ci') ak nk ck B wA HIN.out.at_ HIN.out.args HIN.out.cites (by have:=HBp.out;have:=ZA.out;omega) hn1 hn2 hn3 hn4)
    go_wp2_with fail
    (with_reducible refine OA.out.mono ?_)
    rintro e w1 ⟨vc',vp',va',vi',rfl,hA1,hA2,hA3,b1⟩
    obtain ⟨ac1,nc1,cc1,rfl⟩:=Rd.sl_form hA1.cls
    obtain ⟨ap1,np1,cp1,rfl⟩:=Rd.sl_form hA1.prs
    obtain ⟨aa1,na1,ca1,rfl⟩:=Rd.sl_form hA2
    obtain ⟨ai1,ni1,ci1,rfl⟩:=Rd.sl_form hA3
    have PA1:=HPA.out.grown (q02 b1)
    have U1:=hid (UA.out.below b1)
    have T1:=hid (hA1.weaken (ok':=(p<·)) (fun b hb=>by have:=ZA.out;omega))
    have T2:=hid (hA2.weaken (ok':=(p<·)) (fun b hb=>by have:=ZA.out;omega))
    have T3:=hid (hA3.weaken (ok':=(p<·)) (fun b hb=>by have:=ZA.out;omega))
    have T4:=hid (HIN.out.kids.below (show Below B wA w1 from b1.mono (by have:=HBp.out;have:=ZA.out;omega)))
    have HPA1:=hid PA1
    clear e0 e1 e2 e3 e4 e5 e6 e7 e8 e9 ef
    obtain ⟨e0,e1,e2,e3,e4,e5,e6,e7,e8,e9,ef⟩:=PA1.all
    clear hA1 hA2 hA3 b1 PA1 HPA UA OA hlk
    go_upto_region 7 with (fail)
    obtain ⟨w2,hw2⟩:∃ w2,w2=ten w1 p 0 (.int .i64 kd) (.string t) (.string d) (.string ti) (.string at_.id) (.slice ac1 nc1 cc1) (.slice ap1 np1 cp1) (.slice aa1 na1 ca1) (.slice ai1 ni1 ci1) (.slice ak nk ck):=⟨_,rfl⟩
    have U2:RowU 47 10 (fun _=>False) p w (raw.map Inl.d) rows (.slice av m cv) w2:=by rw [hw2];exact U1.out.ten (Nat.le_refl _) _ _ _ _ _ _ _ _ _ _
    have P2:PB p [.int .i64 kd,.string t,.string d,.string ti,.string at_.id,.slice ac1 nc1 cc1,.slice ap1 np1 cp1,.slice aa1 na1 ca1,.slice ai1 ni1 ci1,.slice ak nk ck] w2:=by rw [hw2];exact HPA1.out.ten rfl _ _ _ _ _ _ _ _ _ _
    have D1:AtR (p<·) w2 at_ (.slice ac1 nc1 cc1) (.slice ap1 np1 cp1):=by rw [hw2];exact ⟨T1.out.cls.ten (Nat.le_refl _) _ _ _ _ _ _ _ _ _ _,T1.out.prs.ten (Nat.le_refl _) _ _ _ _ _ _ _ _ _ _⟩
    have D2:Rd (p<·) w2 (strsD ar) [.slice aa1 na1 ca1]:=by rw [hw2];exact T2.out.ten (Nat.le_refl _) _ _ _ _ _ _ _ _ _ _
    have D3:Rd (p<·) w2 (cisD ci) [.slice ai1 ni1 ci1]:=by rw [hw2];exact T3.out.ten (Nat.le_refl _) _ _ _ _ _ _ _ _ _ _
    have D4:Rd (·<B) w2 (q0w ks) [.slice ak nk ck]:=Rd.keep (fun b (hb:b<B) hlt=>⟨hb,by rw [hw2];exact ten_heap _ _ _ _ _ _ _ _ _ _ _ _ _ b (by have:=HBp.out;omega)⟩) _ _ T4.out
    simp only [ten,Nat.zero_add] at hw2
    rw [<- hw2]
    clear hw2 e0 e1 e2 e3 e4 e5 e6 e7 e8 e9 ef T1 T2 T3 T4 U1 HPA1
    have HU2:=hid U2
    have HP2:=hid P2
    have HD1:=hid D1
    have HD2:=hid D2
    have HD3:=hid D3
    have HD4:=hid D4
    clear U2 P2 D1 D2 D3 D4
    have hz2:=HP2.out.lt
    have e9:=HP2.out.cell 9 _ rfl
    have IK:=hid (tMerge_any _ ks B (.slice ak nk ck) w2 (Nat.le_refl _) (by have:=HKS.out;omega) HD4.out (by have:=HBp.out;omega) hn5 ht1.2)
    go_wp2_with fail
    (with_reducible refine IK.out.mono ?_)
    rintro e w3 ⟨vk1,rfl,hk1,b3⟩
    obtain ⟨ak1,nk1,ck1,rfl⟩:=Rd.sl_form hk1
    have P3:=HP2.out.grown (q02 b3)
    have HU3:=hid (HU2.out.below b3)
    have HI3:=hid (show InR (p<·) w3 at_ ar ci (Inl.mergeL ks) (.slice ac1 nc1 cc1) (.slice ap1 np1 cp1) (.slice aa1 na1 ca1) (.slice ai1 ni1 ci1) (.slice ak1 nk1 ck1) from ⟨HD1.out.keepG (q02 b3),HD2.out.keepG (q02 b3),HD3.out.keepG (q02 b3),hk1.weaken (fun b hb=>by omega)⟩)
    clear e9
    have e9:=P3.cell 9 _ rfl
    have f9:=P3.free 9
    have HP3:=hid P3
    clear P3 hk1 b3 IK HD1 HD2 HD3 HU2 HP2 hz2 HD4
    go_upto_region 8 with (fail)
    obtain ⟨w4,hw4⟩:∃ w4,w4=w3.setCell ⟨p,9,none⟩ (.slice ak1 nk1 ck1):=⟨_,rfl⟩
    have HU4:Hid (RowU 47 10 (fun _=>False) p w (raw.map Inl.d) rows (.slice av m cv) w4):=by
     show RowU _ _ _ _ _ _ _ _ _
     rw [hw4];exact HU3.out.set (Nat.le_refl _) 9 _
    have P4:PB p [.int .i64 kd,.string t,.string d,.string ti,.string at_.id,.slice ac1 nc1 cc1,.slice ap1 np1 cp1,.slice aa1 na1 ca1,.slice ai1 ni1 ci1,.slice ak1 nk1 ck1] w4:=by rw [hw4];exact HP3.out.set 9 _
    have HI4:Hid (InR (p<·) w4 at_ ar ci (Inl.mergeL ks) (.slice ac1 nc1 cc1) (.slice ap1 np1 cp1) (.slice aa1 na1 ca1) (.slice ai1 ni1 ci1) (.slice ak1 nk1 ck1)):=by
     show InR _ _ _ _ _ _ _ _ _ _ _
     rw [hw4];exact ⟨HI3.out.at_.far (Nat.le_refl _) 9 _,HI3.out.args.far (Nat.le_refl _) 9 _,HI3.out.cites.far (Nat.le_refl _) 9 _,HI3.out.kids.far (Nat.le_refl _) 9 _⟩
    rw [<- hw4]
    clear e9
    obtain ⟨e0,e1,e2,e3,e4,e5,e6,e7,e8,e9,ef⟩:=P4.all
    clear hw4 P4 HU3 HP3 HI3 f9
    go_wp2_with (at_builtin;refine q0p rfl _ _ 38 rfl iI _ 192 Tryz.underlying38 hiI hzI0 hzI1 hzI2 rfl (by decide) HU4.out (fun _=>False.elim) (Inl.mk kd t d ti at_ ar ci (Inl.mergeL ks)).d [.int .i64 kd,.string t,.string d,.string ti,.string at_.id,.slice ac1 nc1 cc1,.slice ap1 np1 cp1,.slice aa1 na1 ca1,.slice ai1 ni1 ci1,.slice ak1 nk1 ck1] ((Inl.mk_ kd t d ti HI4.out).weaken (fun b hb=>.inr (Nat.le_of_lt hb))) rfl q2c HDN.out hdl (by decide) rfl rfl ?_)
    intro a' c' w9 hrow hg9
    have HROW:=hid hrow
    rw [<- HX2.out] at HROW
    clear hrow hg9
    go_wp2
    go_roundw
    case rel=>exact ⟨k+1,_,by omega,by go_num,HROW.out⟩
    case measure=>simp [intOf];omega
   ·have hkl:k=l.length:=by omega
    subst hkl
    rw [List.take_length] at HRAW hmk
    have hyb:=HYB.out
    have HPR2:=HPR.out
    rw [<- HRAW.out] at hyb HPR2
    have HPR3:=hid HPR2
    have RAW:=hid HROW.out.rd0
    have HB0:=hid hbel
    have FU:=hid (full_any raw (w.heap.size<=·) (.slice av m cv) wr (by omega) HROW.out.rd0)
    have hz:=hbel.size
    have hfl:=fullL_len raw
    have hft:=fullL_ttop raw
    clear HROW HRAW HYB HPR HPR2 hbel RAW
    go_wp2_with fail
    (with_reducible refine FU.out.mono ?_)
    rintro e w1 ⟨v1,rfl,h1,b1⟩
    obtain ⟨a1,n1,c1,rfl⟩:=Rd.sl_form h1
    have J1:=hid (join_toc 1 (fullL raw) (w.heap.size<=·) (.slice a1 n1 c1) w1 (by omega) (by omega) (h1.weaken (fun b hb=>by rcases hb with hb | hb<;>omega)))
    have HB1:=hid (q01 HB0.out b1)
    have hz1:=HB1.out.size
    have hjl:=joinK_len 1 (fullL raw)
    have hjt:=joinK_ttop 1 (fullL raw)
    clear h1 b1 FU
    go_wp2_with fail
    (with_reducible refine J1.out.mono ?_)
    rintro e w2 ⟨v2,rfl,h2,b2⟩
    obtain ⟨a2,n2,c2,rfl⟩:=Rd.sl_form h2
    have J2:=hid (join_toc 4 (q1k 1 (fullL raw)) (w.heap.size<=·) (.slice a2 n2 c2) w2 (by omega) (by omega) (h2.weaken (fun b hb=>by rcases hb with hb | hb<;>omega)))
    have HB2:=hid (q01 HB1.out b2)
    have hz2:=HB2.out.size
    clear h2 b2 J1
    go_wp2_with fail
    (with_reducible refine J2.out.mono ?_)
    rintro e w3 ⟨v3,rfl,h3,b3⟩
    obtain ⟨a3,n3,c3,rfl⟩:=Rd.sl_form h3
    have H3:=hid (h3.weaken (ok':=(w.heap.size<=·)) (fun b hb=>by rcases hb with hb | hb<;>omega))
    have HB3:=hid (q01 HB2.out b3)
    clear h3 b3 J2
    go_wp2
    go_ret
    exact ⟨_,rfl,by rw [HPR3.out];exact H3.out,HB3.out⟩
end Go.Proofs.YtlbioncagkkkoaaGreatDoor
