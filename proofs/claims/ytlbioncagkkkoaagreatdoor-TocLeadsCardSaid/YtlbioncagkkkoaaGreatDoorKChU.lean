/- The contract of tree.checkInlines and Line: the first error of inlines. Contracts of tree.Line, checkUnbroken, checkHead, checkTable. Contracts of tree.checkTable, checkBlock. The contract of tree.checkBlock; of a formula's check it asks the contract. -/
import Derived.Test.YtlbioncagkkkoaaGreatDoorKChQ
import Derived.Shelf.Strings.SlTrimAscii
set_option maxHeartbeats 8000000
set_option maxRecDepth 100000
open Go.Lib (hid)
namespace Go.Proofs.YtlbioncagkkkoaaGreatDoor
open Go.RowKit
set_option linter.unusedVariables false
set_option linter.unusedSimpArgs false
def edge (k:Int) (first last:Bool):Bool:=(decide (k=2)&&first)||((decide (k=2)||decide (k=3))&&last)
theorem oneErr_edge (bf:Int) (first last:Bool) (k:Int) (t d ti:ByteArray) (a:At) (ar:List ByteArray) (ci:List Ci) (ks:List Inl) (hf:q0b k t d ti a ar ci ks=true) :
  q0l bf first last k t d ti a ar ci ks=if edge k first last=true then 5 else q0l bf false false k t d ti a ar ci ks:=by
 unfold q0l edge
 rw [hf]
 simp only [Bool.true_eq_false,if_false]
 by_cases h1:k=1\/k=4\/k=5
 ·have h2:k≠2:=by omega
  have h3:k≠3:=by omega
  simp [h1,h2,h3]
 ·by_cases h2:k=2
  ·subst h2
   cases first<;>cases last<;>simp
  ·by_cases h3:k=3
   ·subst h3
    cases first<;>cases last<;>simp
   ·simp [h1,h2,h3]
theorem oneErr_fields (bf:Int) (first last:Bool) (k:Int) (t d ti:ByteArray) (a:At) (ar:List ByteArray) (ci:List Ci) (ks:List Inl) (hf:q0b k t d ti a ar ci ks=false):q0l bf first last k t d ti a ar ci ks=5:=by
 unfold q0l;rw [if_pos hf]
def befK (l:List Inl) (k:Nat):Int:=if k=0 then 0 else match l[k-1]? with | some x=>x.kd | none=>0
def CiRel (l:List Inl) (dp:Nat) (E:Nat) (w:World) (vi:Value) (wr:World):Prop:=∃ k:Nat,k<=l.length/\vi=.int .i64 k/\Below w.heap.size w wr/\Inl.errL (befK l k) (decide (k=0)) dp (l.drop k)=E
theorem befK_succ {l:List Inl} {k:Nat} {x:Inl} (h:l[k]?=some x):befK l (k+1)=x.kd:=by
 unfold befK
 rw [if_neg (by omega),Nat.add_sub_cancel,h]
theorem Inl.smallL_get:∀ {l:List Inl} {k:Nat} {x:Inl},Inl.smallL l->l[k]?=some x->x.small
 | [],_,_,_,h=>by simp at h
 | y::l,0,x,hb,h=>by simp at h;subst h;rw [Inl.smallL] at hb;exact hb.1
 | y::l,k+1,x,hb,h=>by rw [Inl.smallL] at hb;exact Inl.smallL_get (l:=l) (k:=k) hb.2 (by simpa using h)
mutual
def Inl.mid:Inl->Prop
 | .mk k t d ti a ar ci ks=>t.size<=1000000/\d.size<=1000000/\ti.size<=1000000/\a.short/\(∀ c∈ar,c.size<=5000)/\(∀ c∈ci,c.key.size<=5000/\c.pre.size<=5000/\c.suf.size<=5000)/\Inl.midL ks
def Inl.midL:List Inl->Prop
 | []=>True
 | x::l=>x.mid/\Inl.midL l
end
theorem Inl.midL_get:∀ {l:List Inl} {k:Nat} {x:Inl},Inl.midL l->l[k]?=some x->x.mid
 | [],_,_,_,h=>by simp at h
 | y::l,0,x,hb,h=>by simp at h;subst h;rw [Inl.midL] at hb;exact hb.1
 | y::l,k+1,x,hb,h=>by rw [Inl.midL] at hb;exact Inl.midL_get (l:=l) (k:=k) hb.2 (by simpa using h)
theorem inS_mid {kd:Int} {t d ti:ByteArray} {at_:At} {ar:List ByteArray} {ci:List Ci} {ks:List Inl} (h:(Inl.mk kd t d ti at_ ar ci ks).mid):InS t d ti at_ ar ci/\Inl.midL ks:=by
 unfold Inl.mid at h
 obtain ⟨h1,h2,h3,h4,h7,h8,h9⟩:=h
 exact ⟨⟨h1,h2,h3,h4,h7,h8⟩,h9⟩
theorem errL_cons (bf:Int) (st:Bool) (dp:Nat) (k:Int) (t d ti:ByteArray) (a:At) (ar:List ByteArray) (ci:List Ci) (ks:List Inl) (l:List Inl) (h15:¬ 15<dp) :
  Inl.errL bf st dp (Inl.mk k t d ti a ar ci ks::l)=if q0b k t d ti a ar ci ks=false then 5 else if edge k (decide (dp=0)&&st) (decide (dp=0)&&l.isEmpty)=true then 5
   else if q0l bf false false k t d ti a ar ci ks≠0 then q0l bf false false k t d ti a ar ci ks else if Inl.errL 0 true (dp+1) ks≠0 then Inl.errL 0 true (dp+1) ks else Inl.errL k false dp l:=by
 rw [Inl.errL,if_neg h15,Inl.err]
 cases hf:q0b k t d ti a ar ci ks with
 | false=>rw [oneErr_fields _ _ _ _ _ _ _ _ _ _ _ hf];simp
 | true=>
  rw [oneErr_edge bf _ _ k t d ti a ar ci ks hf]
  cases he:edge k (decide (dp=0)&&st) (decide (dp=0)&&l.isEmpty) with
  | true=>simp
  | false=>
   simp only [Bool.true_eq_false,Bool.false_eq_true,if_false]
   by_cases h1:q0l bf false false k t d ti a ar ci ks=0
   ·simp only [h1,ne_eq,not_true_eq_false,if_false]
    rfl
   ·simp only [ne_eq,h1,not_false_eq_true,if_true]
theorem edge_eq (k:Int) (zd st lb:Bool):edge k (zd&&st) (zd&&lb)=(zd&&((k==2)&&st||((k==2)||(k==3))&&lb)):=by
 unfold edge
 have h2:decide (k=2)=(k==2):=by rw [Bool.eq_iff_iff];simp
 have h3:decide (k=3)=(k==3):=by rw [Bool.eq_iff_iff];simp
 rw [h2,h3]
 cases (k==2)<;>cases (k==3)<;>cases zd<;>cases st<;>cases lb<;>rfl
theorem inP_at {w:World} {l:List Inl} {a:Option Addr} {cap:Nat} (h:SlAt (·<w.heap.size) w 10 (l.map Inl.d) a cap) {k:Nat} {kd:Int} {t d ti:ByteArray} {at_:At} {ar:List ByteArray} {ci:List Ci} {ks:List Inl} (hk:l[k]?=some (.mk kd t d ti at_ ar ci ks)) :
  ∃ b off ac ap aa ai ak cc cp ca cai ck,a=some ⟨b,off,none⟩/\InP w b (off+k*10) kd t d ti at_ ar ci ks ac ap aa ai ak cc cp ca cai ck:=by
 obtain ⟨b,off,vc,vp,va,vi,vk,rfl,hok,hbl,hc,hR⟩:=q1b h hk
 obtain ⟨a1,c1,h1,-⟩:=hR.at_.cls.sl_open
 obtain ⟨a2,c2,h2,-⟩:=hR.at_.prs.sl_open
 obtain ⟨a3,c3,h3,-⟩:=hR.args.sl_open
 obtain ⟨a4,c4,h4,-⟩:=hR.cites.sl_open
 obtain ⟨a5,c5,h5,-⟩:=hR.kids.sl_open
 simp only [List.length_map,List.cons.injEq,and_true] at h1 h2 h3 h4 h5
 subst h1 h2 h3 h4 h5
 exact ⟨b,off,a1,a2,a3,a4,a5,c1,c2,c3,c4,c5,rfl,hc,hR,hbl⟩
theorem inS_of {kd:Int} {t d ti:ByteArray} {at_:At} {ar:List ByteArray} {ci:List Ci} {ks:List Inl} (h:(Inl.mk kd t d ti at_ ar ci ks).small):InS t d ti at_ ar ci/\Inl.smallL ks:=by
 unfold Inl.small at h
 obtain ⟨h1,h2,h3,h4,h5,h6,h7,h8,h9⟩:=h
 exact ⟨⟨by omega,by omega,by omega,h4,h7,h8⟩,h9⟩
theorem checkInlines_mid (n:Nat):∀ (l:List Inl) (dp:Nat) (a:Option Addr) (cap:Nat) (w:World),Inl.szL l<=n->dp<=1000000->Inl.midL l->Rd (·<w.heap.size) w (q0w l) [.slice a l.length cap] ->
  Calls Tryz.prog 149 #[.slice a l.length cap,.int .i64 (dp:Int)] w (RetB (.int .i64 (Inl.errL 0 true dp l:Nat)) w):=by
 induction n using Nat.strongRecOn with
 | _ n ih=>
  intro l dp a cap w hn hdp hsm h
  obtain ⟨a',c',hv,hs⟩:=Rd.sl_open h
  obtain ⟨rfl,rfl⟩:a'=a/\c'=cap:=by simp at hv;exact ⟨hv.1.symm,hv.2.symm⟩
  have hcap:l.length<=c':=by simpa using hs.le
  have hmx:=hs.max
  unfold maxLen at hmx
  have HS:=hid hs
  have IH:=hid ih
  have SM:=hid hsm
  obtain ⟨E,hE⟩:∃ E,Inl.errL 0 true dp l=E:=⟨_,rfl⟩
  rw [hE]
  have R0:Hid (CiRel l dp E w (.int .i64 0) w):=⟨0,Nat.zero_le _,rfl,Below.refl _ _,hE⟩
  clear hs hv h ih hsm hE
  by_cases h15:15<dp
  ·have q15:decide ((15:Int)<(dp:Int))=true:=by simp;omega
   go_enter Tryz.func149,Tryz.ntmps149
   go_wp2
   go_loopw [12] (fun i wr=>CiRel l dp E w i wr) (fun i _=>l.length-(intOf i).toNat)
   case atStart=>exact R0.out
   case round=>
    clear R0
    obtain ⟨k,hk,rfl,hbel,herr⟩:=hrel
    have HB:=hid hbel
    by_cases hlt:k<l.length
    ·obtain ⟨x,hx⟩:∃ x,l[k]?=some x:=⟨_,List.getElem?_eq_getElem hlt⟩
     have HE:Hid (E=11):=by
      show E=11
      rw [<- herr,q0s l k x hx,Inl.errL,if_pos h15]
     clear herr hx
     go_wp2
     go_ret
     exact ⟨by rw [HE.out];rfl,HB.out⟩
    ·have HE:Hid (E=0):=by
      show E=0
      rw [<- herr,List.drop_of_length_le (by omega),Inl.errL]
     clear herr
     go_wp2
     go_ret
     exact ⟨by rw [HE.out];rfl,HB.out⟩
  ·have q15:decide ((15:Int)<(dp:Int))=false:=by simp;omega
   go_enter Tryz.func149,Tryz.ntmps149
   go_wp2
   go_loopw [12] (fun i wr=>CiRel l dp E w i wr) (fun i _=>l.length-(intOf i).toNat)
   case atStart=>exact R0.out
   case round=>
    clear R0
    obtain ⟨k,hk,rfl,hbel,herr⟩:=hrel
    have HB:=hid hbel
    by_cases hlt:k<l.length
    ·obtain ⟨x,hx⟩:∃ x,l[k]?=some x:=⟨_,List.getElem?_eq_getElem hlt⟩
     have hbs:=befK_succ hx
     have hxs:x.mid:=Inl.midL_get SM.out hx
     have hsz:=Inl.szL_get l k _ hx
     rw [q0s l k x hx] at herr
     have hle:(l.drop (k+1)).isEmpty=((k:Int)==(l.length:Int)-1):=by
      rw [Bool.eq_iff_iff];simp;omega
     obtain ⟨kd,t,d,ti,at_,ar,ci,ks⟩:=x
     rw [Inl.sz] at hsz
     obtain ⟨hins,hks⟩:=inS_mid hxs
     rw [errL_cons _ _ _ _ _ _ _ _ _ _ _ _ h15,edge_eq,hle] at herr
     have hbk:befK l (k+1)=kd:=hbs
     obtain ⟨b,off,ac,ap,aa,ai,ak,cc,cp,ca,cai,ck,ha,hP0⟩:=inP_at HS.out hx
     have hP:=hP0.up hbel
     have HPR:Hid (k≠0->∃ kv,wr.cell? ⟨b,off+(k-1)*10,none⟩=some (.int .i64 kv)/\befK l k=kv):=by
      intro hk0
      obtain ⟨y,hy⟩:∃ y,l[k-1]?=some y:=⟨_,List.getElem?_eq_getElem (show k-1<l.length by omega)⟩
      obtain ⟨kv,t',d',ti',at',ar',ci',ks'⟩:=y
      obtain ⟨b',off',ac',ap',aa',ai',ak',cc',cp',ca',cai',ck',ha',hP'⟩:=inP_at HS.out hy
      rw [ha] at ha'
      injection ha' with ha'
      injection ha' with e1 e2 e3
      subst e1 e2
      refine ⟨kv,(hP'.up hbel).cells.c0,?_⟩
      unfold befK;rw [if_neg hk0,hy];rfl
     subst ha
     have HBK:=hid hbk
     have HZ0:Hid (k=0->befK l k=0):=fun h=>by unfold befK;rw [if_pos h]
     obtain ⟨bf,hbf⟩:∃ bf,befK l k=bf:=⟨_,rfl⟩
     rw [hbf] at herr HPR HZ0
     have HP:=hid hP
     have IFD:=hid (inlineFields_any wr b (off+k*10) kd t d ti at_ ar ci ks ac ap aa ai ak cc cp ca cai ck hP)
     have CI:=hid (fun wx (hb:Below wr.heap.size wr wx) hf=>checkInline_any wx b (off+k*10) kd bf t d ti at_ ar ci ks ac ap aa ai ak cc cp ca cai ck (hP.up hb) hins hf)
     have CK:=hid (fun wx (hb:Below wr.heap.size wr wx)=>IH.out (Inl.szL ks) (by omega) ks (dp+1) ak ck wx (Nat.le_refl _) (by omega) hks (hP.up hb).rd.kids)
     have HERR:=hid herr
     clear hbs hxs hsz hle hins hks hbk hP hP0 hbf herr hx hbel
     have OO:=hid (fun wx:World=>oneOf_any kd [2,3] wx.heap.size 2 _ (by simp) (ints2 wx 3 2 3))
     simp only [List.length_cons,List.length_nil,Nat.reduceAdd] at OO
     have hoo:([2,3]:List Int).contains kd=((kd==2)||(kd==3)):=by rw [Bool.eq_iff_iff];simp
     rw [hoo] at OO
     obtain ⟨ed,hed⟩:∃ ed,(decide (dp=0)&&((kd==2)&&decide (k=0)||((kd==2)||(kd==3))&&((k:Int)==(l.length:Int)-1)))=ed:=⟨_,rfl⟩
     rw [hed] at HERR
     have HED:=hid hed
     have z1:((dp:Int)==0)=decide (dp=0):=by rw [Bool.eq_iff_iff];simp
     have z3:((k:Int)==0)=decide (k=0):=by rw [Bool.eq_iff_iff];simp
     have Z1:=hid z1
     have Z3:=hid z3
     clear hoo hed z1 z3
     go_upto_if 18 with (fail)
     go_cut [6] (fun s6 wx=>s6=.int .i64 bf/\wr=wx)
     case first=>
      clear OO HED HERR CK CI IFD HP Z1 Z3
      cases k with
      | zero=>
       have hb0:=HZ0.out rfl
       have HB0:=hid hb0
       clear hb0 HPR HZ0
       go_wp2_with fail
       go_meet
       exact ⟨by rw [HB0.out],rfl⟩
      | succ j=>
       obtain ⟨kv,hcell,hkv⟩:=HPR.out (by omega)
       rw [Nat.add_sub_cancel] at hcell
       have HKV:=hid hkv
       clear hkv HPR HZ0
       go_wp2_with fail
       go_meet
       exact ⟨by rw [HKV.out],rfl⟩
     case rest=>
      obtain ⟨rfl,rfl⟩:=hcut
      clear HPR HZ0
      cases hf:q0b kd t d ti at_ ar ci ks with
      | false=>
       rw [hf] at IFD
       have HE:Hid (E=5):=by
        show E=5
        have:=HERR.out
        rw [if_pos hf] at this;exact this.symm
       clear hf
       go_wp2_with fail
       refine IFD.out.mono ?_
       rintro e w2 ⟨rfl,hb2⟩
       go_wp2
       go_ret
       exact ⟨by rw [HE.out];rfl,q01 HB.out hb2⟩
      | true=>
       rw [hf] at IFD
       have HERR2:Hid ((if ed=true then 5 else if q0l bf false false kd t d ti at_ ar ci ks≠0 then q0l bf false false kd t d ti at_ ar ci ks else if Inl.errL 0 true (dp+1) ks≠0 then Inl.errL 0 true (dp+1) ks else Inl.errL kd false dp (l.drop (k+1)))=E):=by
        show _=_
        have:=HERR.out
        rw [if_neg (by rw [hf];decide)] at this;exact this
       have CI2:=hid (fun wx hb=>CI.out wx hb hf)
       clear hf HERR CI
       go_wp2_with fail
       refine IFD.out.mono ?_
       rintro e w2 ⟨rfl,hb2⟩
       have HB2:=hid hb2
       obtain ⟨p0,p1,p2,p3,p4,p5,p6,p7,p8,p9⟩:=(HP.out.up hb2).cells
       go_upto_region 12 with (fail)
       go_cut [58] (fun s58 wx=>s58=.bool ed/\Below w2.heap.size w2 wx)
       case first=>
        have z1:=Z1.out
        have z3:=Z3.out
        have OW:=hid (OO.out w2)
        have HED2:=HED.out
        obtain ⟨zd,hzd⟩:∃ zd,decide (dp=0)=zd:=⟨_,rfl⟩
        obtain ⟨st,hst⟩:∃ st,decide (k=0)=st:=⟨_,rfl⟩
        obtain ⟨b2,hb2'⟩:∃ b2,(kd==2)=b2:=⟨_,rfl⟩
        obtain ⟨b3,hb3'⟩:∃ b3,(kd==3)=b3:=⟨_,rfl⟩
        obtain ⟨lb,hlb⟩:∃ lb,((k:Int)==(l.length:Int)-1)=lb:=⟨_,rfl⟩
        rw [hzd,hst,hb2',hb3',hlb] at HED2
        rw [hzd] at z1
        rw [hst] at z3
        rw [hb2',hb3'] at OW
        have HED3:=hid HED2
        clear HED2 hzd hst hb3' OO HED HERR2 CK CI2 IFD Z1 Z3 hb2
        cases zd<;>cases b2<;>cases st<;>cases b3<;>cases lb
        all_goals
         go_wp2_with (go_at_call 119;refine OW.out.mono ?_;rintro e w3 ⟨rfl,rfl⟩)
         go_meet
         exact ⟨by rw [<- HED3.out];rfl,by first | exact (Below.refl _ _).alloc (Nat.le_refl _) _ | exact Below.refl _ _⟩
       case rest=>
        obtain ⟨rfl,hbx⟩:=hcut
        have HBX:=hid (q01 HB2.out hbx)
        clear p0 p1 p2 p3 p4 p5 p6 p7 p8 p9 hbx hb2
        cases ed with
        | true=>
         have HE:Hid (E=5):=by
          show E=5
          have:=HERR2.out
          rw [if_pos rfl] at this;exact this.symm
         go_wp2
         go_ret
         exact ⟨by rw [HE.out];rfl,q01 HB.out HBX.out⟩
        | false=>
         have HERR3:Hid ((if q0l bf false false kd t d ti at_ ar ci ks≠0 then q0l bf false false kd t d ti at_ ar ci ks else if Inl.errL 0 true (dp+1) ks≠0 then Inl.errL 0 true (dp+1) ks else Inl.errL kd false dp (l.drop (k+1)))=E):=by
          show _=_
          have:=HERR2.out
          rw [if_neg (by decide)] at this;exact this
         have CIW:=hid (CI2.out _ HBX.out)
         clear HERR2 CI2
         generalize q0l bf false false kd t d ti at_ ar ci ks=E1 at *
         generalize Inl.errL 0 true (dp+1) ks=E2 at *
         by_cases h1:E1=0
         ·have HE3:Hid ((if E2≠0 then E2 else Inl.errL kd false dp (l.drop (k+1)))=E):=by
           show _=_
           have:=HERR3.out
           rw [if_neg (by simpa using h1)] at this;exact this
          subst h1
          go_wp2_with fail
          refine CIW.out.mono ?_
          rintro e w4 ⟨rfl,hb4⟩
          have HB4:=hid (q01 HBX.out hb4)
          obtain ⟨p0,p1,p2,p3,p4,p5,p6,p7,p8,p9⟩:=(HP.out.up HB4.out).cells
          have CKW:=hid (CK.out _ HB4.out)
          clear CIW hb4 CK HERR3
          by_cases h2:E2=0
          ·have HE4:Hid (Inl.errL kd false dp (l.drop (k+1))=E):=by
            show _=_
            have:=HE3.out
            rw [if_neg (by simpa using h2)] at this;exact this
           subst h2
           go_wp2_with fail
           refine CKW.out.mono ?_
           rintro e w5 ⟨rfl,hb5⟩
           have HB5:=hid (q01 HB4.out hb5)
           clear CKW hb5
           go_wp2
           go_roundw
           case rel=>exact ⟨k+1,by omega,by go_num,q01 HB.out HB5.out,by rw [HBK.out,decide_eq_false (by omega)];exact HE4.out⟩
           case measure=>simp [intOf];omega
          ·have HE4:Hid (E=E2):=by
            show _=_
            have:=HE3.out
            rw [if_pos h2] at this;exact this.symm
           have hn2:((E2:Int) != 0)=true:=by rw [bne_iff_ne];omega
           clear h2
           go_wp2_with fail
           refine CKW.out.mono ?_
           rintro e w5 ⟨rfl,hb5⟩
           have HB5:=hid (q01 HB4.out hb5)
           clear CKW hb5
           go_wp2
           go_ret
           exact ⟨by rw [HE4.out];rfl,q01 HB.out HB5.out⟩
         ·have HE3:Hid (E=E1):=by
           show _=_
           have:=HERR3.out
           rw [if_pos h1] at this;exact this.symm
          have hn1:((E1:Int) != 0)=true:=by rw [bne_iff_ne];omega
          clear h1
          go_wp2_with fail
          refine CIW.out.mono ?_
          rintro e w4 ⟨rfl,hb4⟩
          have HB4:=hid (q01 HBX.out hb4)
          clear CIW hb4
          go_wp2
          go_ret
          exact ⟨by rw [HE3.out];rfl,q01 HB.out HB4.out⟩
    ·have HE:Hid (E=0):=by
      show E=0
      rw [<- herr,List.drop_of_length_le (by omega),Inl.errL]
     clear herr
     go_wp2
     go_ret
     exact ⟨by rw [HE.out];rfl,HB.out⟩
open Go.RowKit
theorem tLineErr_mid (l:List Inl) (a:Option Addr) (cap:Nat) (w:World) (hsm:Inl.midL l) (h:Rd (·<w.heap.size) w (q0w l) [.slice a l.length cap]) :
  Calls Tryz.prog 120 #[.slice a l.length cap] w (RetB (.int .i64 (q18 l:Nat)) w):=by
 have CK:=hid (checkInlines_mid _ l 0 a cap w (Nat.le_refl _) (by omega) hsm h)
 change Hid (Calls _ _ _ _ (RetB (.int .i64 (q18 l:Nat)) w)) at CK
 generalize q18 l=E at *
 clear h hsm
 go_enter Tryz.func120,Tryz.ntmps120
 go_wp2_with fail
 refine CK.out.mono ?_
 rintro e w1 ⟨rfl,hb⟩
 go_wp2
 go_ret
 exact ⟨rfl,hb⟩
def unbErr (l:List Inl):Nat:=if Inl.anyL brkKinds l=true then 5 else q18 l
theorem checkUnbroken_any (l:List Inl) (a:Option Addr) (cap:Nat) (w:World) (hsm:Inl.midL l) (h:Rd (·<w.heap.size) w (q0w l) [.slice a l.length cap]) :
  Calls Tryz.prog 127 #[.slice a l.length cap] w (RetB (.int .i64 (unbErr l:Nat)) w):=by
 have hb0:Below w.heap.size w (w.alloc (.cells #[.int .i64 2,.int .i64 3] 3)):=(Below.refl _ _).alloc (Nat.le_refl _) _
 have AK:=hid (anyKind_any _ l _ _ [2,3] w.heap.size 2 _ (Nat.le_refl _) (h.up hb0) (by simp) (ints2 w 3 2 3))
 simp only [List.length_cons,List.length_nil,Nat.reduceAdd] at AK
 have hrk:Inl.anyL [2,3] l=Inl.anyL brkKinds l:=rfl
 rw [hrk] at AK
 have LE:=hid (tLineErr_mid l a cap _ hsm (h.up hb0))
 have HE:Hid (unbErr l=if Inl.anyL brkKinds l=true then 5 else q18 l):=rfl
 generalize unbErr l=V at *
 generalize q18 l=E at *
 generalize Inl.anyL brkKinds l=K at *
 have HB:=hid hb0
 clear h hsm hrk hb0
 cases K
 all_goals
  go_enter Tryz.func127,Tryz.ntmps127
  go_wp2_with (first | (go_at_call 155;refine AK.out.mono ?_;rintro e w2 ⟨rfl,rfl⟩) | (go_at_call 120;refine LE.out.mono ?_;rintro e w2 ⟨rfl,hb2⟩))
  go_ret
  refine ⟨by rw [HE.out];rfl,?_⟩
  first | exact q01 HB.out hb2 | exact HB.out
def headErr (lv:Int) (a:At) (li:List Inl):Nat:=if lv<1\/6<lv then 9 else if a.err≠0 then a.err else unbErr li
theorem checkHead_any (w:World) (b o:Nat) (k lv:Int) (i t d ti:ByteArray) (at_:At) (li:List Inl) (ks:List Blk) (ac ap al ak:Option Addr) (cc cp cl ck:Nat)
  (h:BlP w b o k lv i t d ti at_ li ks ac ap al ak cc cp cl ck) (ha:at_.short) (hsm:Inl.midL li) :
  Calls Tryz.prog 121 #[.pointer (some ⟨b,o,none⟩)] w (RetB (.int .i64 (headErr lv at_ li:Nat)) w):=by
 have HP:=hid h
 have AC:=hid (aCheck_any at_ ac ap cc cp w h.rd.at_ ha)
 have UE:=hid (fun wx (hb:Below w.heap.size w wx)=>checkUnbroken_any li al cl wx hsm (h.rd.line.up hb))
 obtain ⟨c0,c1,c2,c3,c4,c5,c6,c7,c8,c9,c10⟩:=h.cells
 have HE:Hid (headErr lv at_ li=if lv<1\/6<lv then 9 else if at_.err≠0 then at_.err else unbErr li):=rfl
 generalize headErr lv at_ li=V at *
 generalize at_.err=E at *
 generalize unbErr li=U at *
 clear h ha hsm
 by_cases hlv:lv<1\/6<lv
 ·have HV:Hid (V=9):=by show V=9;rw [HE.out,if_pos hlv]
  clear HE
  rcases hlv with hlv | hlv
  all_goals
   go_enter Tryz.func121,Tryz.ntmps121
   go_wp2
   go_ret
   exact ⟨by rw [HV.out];rfl,Below.refl _ _⟩
 ·have HV:Hid (V=if E≠0 then E else U):=by show V=_;rw [HE.out,if_neg hlv]
  have g1:1<=lv:=by omega
  have g2:lv<=6:=by omega
  clear hlv HE
  by_cases h1:E=0
  ·subst h1
   go_enter Tryz.func121,Tryz.ntmps121
   go_wp2_with fail
   refine AC.out.mono ?_
   rintro e w2 ⟨rfl,hb2⟩
   obtain ⟨p0,p1,p2,p3,p4,p5,p6,p7,p8,p9,p10⟩:=(HP.out.up hb2).cells
   go_wp2_with fail
   refine (UE.out _ hb2).mono ?_
   rintro e w3 ⟨rfl,hb3⟩
   go_wp2
   go_ret
   exact ⟨by rw [HV.out];rfl,q01 hb2 hb3⟩
  ·have hn:((E:Int) != 0)=true:=by rw [bne_iff_ne];omega
   have HV2:Hid (V=E):=by show V=E;rw [HV.out,if_pos h1]
   clear h1 HV
   go_enter Tryz.func121,Tryz.ntmps121
   go_wp2_with fail
   refine AC.out.mono ?_
   rintro e w2 ⟨rfl,hb2⟩
   go_wp2
   go_ret
   exact ⟨by rw [HV2.out];rfl,hb2⟩
theorem dw_all (p:UInt8->Bool):∀ l:List UInt8,l.dropWhile p=[]↔l.all p=true
 | []=>by simp
 | x::l=>by
  rw [List.dropWhile_cons,List.all_cons]
  cases p x with
  | true=>simpa using dw_all p l
  | false=>simp
theorem tw_all' (p:UInt8->Bool) (l:List UInt8):∀ x∈l.takeWhile p,p x=true:=by
 induction l with
 | nil=>simp
 | cons y l ih=>
  intro x hx
  rw [List.takeWhile_cons] at hx
  cases h:p y with
  | true=>
   rw [h] at hx
   simp at hx
   rcases hx with rfl | hx
   ·exact h
   ·exact ih x hx
  | false=>rw [h] at hx;simp at hx
theorem trimS_nil (l cs:List UInt8):Lib.trimS l cs=[]↔l.all (fun c=>cs.contains c)=true:=by
 unfold Lib.trimS Lib.trimLeftS Lib.trimRightS
 rw [dw_all]
 constructor
 ·intro h
  rw [List.all_reverse] at h
  have h2:=(List.takeWhile_append_dropWhile (p:=fun c=>cs.contains c) (l:=l.reverse))
  have h3:(l.reverse).all (fun c=>cs.contains c)=true:=by
   rw [<- h2,List.all_append,Bool.and_eq_true]
   exact ⟨List.all_eq_true.2 (fun x hx=>(tw_all' _ _ x hx)),h⟩
  rwa [List.all_reverse] at h3
 ·intro h
  have h3:(l.reverse).all (fun c=>cs.contains c)=true:=by rwa [List.all_reverse]
  rw [(dw_all _ _).2 h3]
  rfl
open Go.RowKit
def colBs:List UInt8:=[45,108,99,114]
def TbRel (ks:List Blk) (n:Nat) (w:World) (vi:Value) (wr:World):Prop:=∃ k:Nat,k<=ks.length/\vi=.int .i64 k/\Below w.heap.size w wr/\(ks.take k).any (fun b=>!decide (b.kidN=n))=false
theorem blP_at {w:World} {l:List Blk} {a:Option Addr} {cap:Nat} (h:SlAt (·<w.heap.size) w 11 (l.map Blk.d) a cap) {k:Nat} {kd lv:Int} {i t d ti:ByteArray} {at_:At} {li:List Inl} {ks:List Blk} (hk:l[k]?=some (.mk kd lv i t d ti at_ li ks)) :
  ∃ b off ac ap al ak cc cp cl ck,a=some ⟨b,off,none⟩/\BlP w b (off+k*11) kd lv i t d ti at_ li ks ac ap al ak cc cp cl ck:=by
 obtain ⟨b,off,vc,vp,vl,vk,rfl,hok,hbl,hc,hR⟩:=q1w h hk
 obtain ⟨a1,c1,h1,-⟩:=hR.at_.cls.sl_open
 obtain ⟨a2,c2,h2,-⟩:=hR.at_.prs.sl_open
 obtain ⟨a3,c3,h3,-⟩:=hR.line.sl_open
 obtain ⟨a5,c5,h5,-⟩:=hR.kids.sl_open
 simp only [List.length_map,List.cons.injEq,and_true] at h1 h2 h3 h5
 subst h1 h2 h3 h5
 exact ⟨b,off,a1,a2,a3,a5,c1,c2,c3,c5,rfl,hc,hR,hbl⟩
theorem bs_nil (l:List UInt8):(⟨l.toArray⟩:ByteArray)=ByteArray.empty↔l=[]:=by
 constructor
 ·intro h
  have:=congrArg (fun b:ByteArray=>b.data.toList) h
  simpa using this
 ·rintro rfl;rfl
theorem checkTable_any (w:World) (b o:Nat) (k lv:Int) (i t d ti:ByteArray) (at_:At) (li:List Inl) (ks:List Blk) (ac ap al ak:Option Addr) (cc cp cl ck:Nat)
  (h:BlP w b o k lv i t d ti at_ li ks ac ap al ak cc cp cl ck) (hi:i.size<=1000000000) :
  Calls Tryz.prog 126 #[.pointer (some ⟨b,o,none⟩)] w (RetB (.int .i64 (q2k i ks:Nat)) w):=by
 have HP:=hid h
 obtain ⟨a',c',hv,hs⟩:=Rd.sl_open h.rd.kids
 obtain ⟨rfl,rfl⟩:a'=ak/\c'=ck:=by simp at hv;exact ⟨hv.1.symm,hv.2.symm⟩
 have hcap:ks.length<=c':=by simpa using hs.le
 have hmx:=hs.max
 unfold maxLen at hmx
 have HS:=hid hs
 have e3:=len0 ks
 have h116:(Tryz.prog.info? 194).map (fun i=>(i.zero,i.size))=some (some (.agg (Array.replicate 256 (.bool false))),256):=by kernel_rfl
 have TR:=hid (fun w=>Any.strings_Trim_laid Tryz.lays160 h116 i ⟨#[45,108,99,114]⟩ w (by omega) (by decide) (ascii_of_all (by decide)))
 have HTR:Hid (∀ w,Calls Tryz.prog 154 #[.string i,.string ⟨#[45,108,99,114]⟩] w fun e w'=>e=.returned (.string ⟨(Lib.trimS i.data.toList colBs).toArray⟩)/\Below w.heap.size w w'):=TR.out
 have HN:=hid (trimS_nil i.data.toList colBs)
 have HBN:=hid (bs_nil (Lib.trimS i.data.toList colBs))
 have HE:Hid (q2k i ks=if 32<i.size then 3 else if q06 i=true then 5 else if i.data.toList.any (fun c=>!(colBs:List UInt8).contains c) then 5
   else if ks.isEmpty=true then 8 else if ks.any (fun b=>!decide (b.kidN=i.size)) then 15 else 0):=rfl
 obtain ⟨c0,c1,c2,c3,c4,c5,c6,c7,c8,c9,c10⟩:=h.cells
 generalize q2k i ks=V at *
 obtain ⟨trs,htrs⟩:∃ trs,trs=(⟨(Lib.trimS i.data.toList colBs).toArray⟩:ByteArray):=⟨_,rfl⟩
 rw [<- htrs] at HTR HBN
 clear hv hs h TR htrs h116
 by_cases h32:32<i.size
 ·have HV:Hid (V=3):=by show V=3;rw [HE.out,if_pos h32]
  have q:decide ((32:Int)<(i.size:Int))=true:=by simp;omega
  clear HE
  go_enter Tryz.func126,Tryz.ntmps126
  go_wp2
  go_ret
  exact ⟨by rw [HV.out];rfl,Below.refl _ _⟩
 have q:decide ((32:Int)<(i.size:Int))=false:=by simp;omega
 rcases emp_part i with rfl | ⟨i1,i2,i3,i4⟩
 ·have HV:Hid (V=5):=by show V=5;rw [HE.out,if_neg h32,if_pos (by decide)]
  clear HE
  go_enter Tryz.func126,Tryz.ntmps126
  go_wp2
  go_ret
  exact ⟨by rw [HV.out];rfl,Below.refl _ _⟩
 have hany:(i.data.toList.any fun c=>!(colBs:List UInt8).contains c)=!(i.data.toList.all fun c=>(colBs:List UInt8).contains c):=by
  rw [List.all_eq_not_any_not];simp
 cases hal:i.data.toList.all fun c=>(colBs:List UInt8).contains c with
 | false=>
  have HV:Hid (V=5):=by show V=5;rw [HE.out,if_neg h32,if_neg (by rw [i4];decide),if_pos (by rw [hany,hal];rfl)]
  have hne:trs≠ByteArray.empty:=fun e=>by
   have:=HN.out.1 (HBN.out.1 e)
   rw [hal] at this;cases this
  rcases emp_part trs with e | ⟨t1,t2,t3,t4⟩
  ·exact absurd e hne
  clear HE HN HBN hne hany hal
  go_enter Tryz.func126,Tryz.ntmps126
  go_wp2_with fail
  refine (HTR.out _).mono ?_
  rintro e w2 ⟨rfl,hb2⟩
  go_wp2
  go_ret
  exact ⟨by rw [HV.out];rfl,hb2⟩
 | true=>
  have he:trs=ByteArray.empty:=HBN.out.2 (HN.out.2 hal)
  subst he
  have HV:Hid (V=if ks.isEmpty=true then 8 else if ks.any (fun b=>!decide (b.kidN=i.size)) then 15 else 0):=by
   show V=_;rw [HE.out,if_neg h32,if_neg (by rw [i4];decide),if_neg (by rw [hany,hal];decide)]
  clear HE HN HBN hany hal
  cases hk0:ks.isEmpty with
  | true=>
   rw [hk0] at e3
   have HV2:Hid (V=8):=by show V=8;rw [HV.out,if_pos hk0]
   clear hk0
   go_enter Tryz.func126,Tryz.ntmps126
   go_wp2_with fail
   refine (HTR.out _).mono ?_
   rintro e w2 ⟨rfl,hb2⟩
   obtain ⟨p0,p1,p2,p3,p4,p5,p6,p7,p8,p9,p10⟩:=(HP.out.up hb2).cells
   go_wp2
   go_ret
   exact ⟨by rw [HV2.out];rfl,hb2⟩
  | false=>
   rw [hk0] at e3
   have HV2:Hid (V=if ks.any (fun b=>!decide (b.kidN=i.size)) then 15 else 0):=by show V=_;rw [HV.out,if_neg (by rw [hk0];decide)]
   clear hk0 HV
   go_enter Tryz.func126,Tryz.ntmps126
   go_wp2_with fail
   refine (HTR.out _).mono ?_
   rintro e w2 ⟨rfl,hb2⟩
   obtain ⟨p0,p1,p2,p3,p4,p5,p6,p7,p8,p9,p10⟩:=(HP.out.up hb2).cells
   have R0:Hid (TbRel ks i.size w (.int .i64 0) w2):=⟨0,Nat.zero_le _,rfl,hb2,by simp⟩
   clear hb2
   go_wp2
   go_loopw [34] (fun i' wr=>TbRel ks i.size w i' wr) (fun i' _=>ks.length-(intOf i').toNat)
   case atStart=>exact R0.out
   case round=>
    clear R0 p0 p1 p2 p3 p4 p5 p6 p7 p8 p9 p10
    obtain ⟨j,hj,rfl,hbel,hno⟩:=hrel
    have HB:=hid hbel
    have HNO:=hid hno
    by_cases hlt:j<ks.length
    ·obtain ⟨x,hx⟩:∃ x,ks[j]?=some x:=⟨_,List.getElem?_eq_getElem hlt⟩
     have HSN:=hid (any_snoc (fun b:Blk=>!decide (b.kidN=i.size)) hx)
     have HAT:=hid (any_at (fun b:Blk=>!decide (b.kidN=i.size)) hx)
     obtain ⟨kd',lv',i',t',d',ti',at',li',ks'⟩:=x
     obtain ⟨b',off',ac',ap',al',ak',cc',cp',cl',ck',ha',hP'⟩:=blP_at HS.out hx
     have k10:=(hP'.up hbel).cells.c10
     obtain ⟨p0,p1,p2,p3,p4,p5,p6,p7,p8,p9,p10⟩:=(HP.out.up hbel).cells
     subst ha'
     have HKN:Hid ((Blk.mk kd' lv' i' t' d' ti' at' li' ks').kidN=ks'.length):=rfl
     clear hP' hx hno hbel
     by_cases hq:ks'.length=i.size
     ·have q1:((ks'.length:Int) != (i.size:Int))=false:=by rw [bne_eq_false_iff_eq];omega
      have HQ:=hid hq
      clear hq
      go_wp2_with fail
      go_quiet (fail)
      go_wp2
      go_roundw
      case rel=>exact ⟨j+1,by omega,by go_num,q03 HB.out _,by rw [HSN.out,HNO.out,HKN.out,HQ.out];simp⟩
      case measure=>simp [intOf];omega
     ·have q1:((ks'.length:Int) != (i.size:Int))=true:=by rw [bne_iff_ne];omega
      have hv:V=15:=by rw [HV2.out,if_pos (HAT.out (by rw [HKN.out];simp [hq]))]
      have HV3:=hid hv
      clear hq hv
      go_wp2_with fail
      go_quiet (fail)
      go_wp2
      go_ret
      exact ⟨by rw [HV3.out];rfl,q03 HB.out _⟩
    ·have hv:V=0:=by
      have:=HNO.out
      rw [List.take_of_length_le (by omega)] at this
      rw [HV2.out,if_neg (by rw [this];decide)]
     have HV3:=hid hv
     clear hv hno hbel
     go_wp2
     go_ret
     exact ⟨by rw [HV3.out];rfl,HB.out⟩
open Go.RowKit
def mathErr (cl:ByteArray->Bool) (t:ByteArray) (a:At):Nat:=if bodyS t=false then 17 else if cl t=true then 5 else a.err
def MathC (cl:ByteArray->Bool):Prop:=∀ (w:World) (b o:Nat) (k lv:Int) (i t d ti:ByteArray) (at_:At) (li:List Inl) (ks:List Blk) (ac ap al ak:Option Addr) (cc cp cl' ck:Nat),
 BlP w b o k lv i t d ti at_ li ks ac ap al ak cc cp cl' ck->t.size<=300->at_.short->Calls Tryz.prog 125 #[.pointer (some ⟨b,o,none⟩)] w (RetB (.int .i64 (mathErr cl t at_:Nat)) w)
structure BlS (i t d ti:ByteArray) (a:At) (li:List Inl):Prop where
 i:i.size<=300
 t:t.size<=300
 d:d.size<=300
 ti:ti.size<=300
 at_:a.short
 li:Inl.smallL li
structure BlM (i t d ti:ByteArray) (a:At) (li:List Inl):Prop where
 i:i.size<=300
 t:t.size<=300
 d:d.size<=300
 ti:ti.size<=300
 at_:a.short
 li:Inl.midL li
theorem blfields_and {k lv:Int} {i t d ti:ByteArray} {a:At} {li:List Inl} {ks:List Blk} (h:q0q k lv i t d ti a li ks=true):1<=k/\k<=15/\(k=2\/k=8\/lv=0):=by
 unfold q0q at h
 simp only [Bool.and_eq_true,Bool.or_eq_true,decide_eq_true_eq] at h
 obtain ⟨⟨⟨⟨⟨⟨⟨⟨h1,h2⟩,h3⟩,-⟩,-⟩,-⟩,-⟩,-⟩,-⟩:=h
 refine ⟨h1,h2,?_⟩
 rcases h3 with h | h
 ·simp at h;omega
 ·exact .inr (.inr h)
theorem checkBlock_any (cl:ByteArray->Bool) (w:World) (b o:Nat) (k lv:Int) (i t d ti:ByteArray) (at_:At) (li:List Inl) (ks:List Blk) (ac ap al ak:Option Addr) (cc cp cl' ck:Nat)
  (h:BlP w b o k lv i t d ti at_ li ks ac ap al ak cc cp cl' ck) (hs:BlM i t d ti at_ li) (hf:q0q k lv i t d ti at_ li ks=true) (hm:k=4->MathC cl) :
  Calls Tryz.prog 86 #[.pointer (some ⟨b,o,none⟩)] w (RetB (.int .i64 (q1z cl k lv i t d ti at_ li ks:Nat)) w):=by
 have HP:=hid h
 obtain ⟨f1,f2,f3⟩:=blfields_and hf
 obtain ⟨-,l4,m4⟩:=q1f h.rd.line
 obtain ⟨-,l5,m5⟩:=q1f h.rd.kids
 unfold maxLen at m4 m5
 have LE:=hid (tLineErr_mid li al cl' w hs.li h.rd.line)
 have UE:=hid (checkUnbroken_any li al cl' w hs.li h.rd.line)
 have HDE:=hid (checkHead_any w b o k lv i t d ti at_ li ks ac ap al ak cc cp cl' ck h hs.at_ hs.li)
 have TBE:=hid (checkTable_any w b o k lv i t d ti at_ li ks ac ap al ak cc cp cl' ck h (by have:=hs.i;omega))
 have MTE:=hid (fun hk=>hm hk w b o k lv i t d ti at_ li ks ac ap al ak cc cp cl' ck h hs.t hs.at_)
 have CLI:=hid (fun w=>q1n i w (by have:=hs.i;omega))
 have CTR:=hid (fun w=>tTrimmed_any i w (by have:=hs.i;omega))
 have CTX:=hid (fun w=>cleanText_any t w (by have:=hs.t;omega))
 have CNM:=hid (fun w=>name_any i w (by have:=hs.i;omega))
 have CLB:=hid (label_any i w (by have:=hs.i;omega))
 have CLD:=hid (fun w=>q1n d w (by have:=hs.d;omega))
 have CLT:=hid (fun w=>q1n ti w (by have:=hs.ti;omega))
 have AC:=hid (aCheck_any at_ ac ap cc cp w h.rd.at_ hs.at_)
 obtain ⟨c0,c1,c2,c3,c4,c5,c6,c7,c8,c9,c10⟩:=h.cells
 have e2:=len0 li
 have e3:=len0 ks
 have HE:Hid (q1z cl k lv i t d ti at_ li ks=if k=1 then (if li.isEmpty=true then 8 else q18 li)
 else if k=2 then headErr lv at_ li
 else if k=12 then unbErr li
 else if k=3 then (if q0d i=false\/trimS i=false\/bodyS t=false then 17 else 0)
 else if k=4 then mathErr cl t at_
 else if k=7\/k=8 then (if ks.isEmpty=true then 8 else if k=8/\(lv<0\/999999999<lv) then 9 else 0)
 else if k=10 then q2k i ks
 else if k=13\/k=14 then (if q0a i=false then 6 else at_.err)
 else if k=15 then (if q1i i=false then 6 else if q0d d=false\/q0d ti=false then 17 else 0)
 else 0):=rfl
 generalize q1z cl k lv i t d ti at_ li ks=V at *
 generalize q18 li=E1 at *
 generalize headErr lv at_ li=E2 at *
 generalize unbErr li=E3 at *
 generalize mathErr cl t at_=E4 at *
 generalize q2k i ks=E5 at *
 generalize at_.err=E6 at *
 generalize q0d i=b1 at *
 generalize trimS i=b2 at *
 generalize bodyS t=b3 at *
 generalize q0a i=b4 at *
 generalize q1i i=b5 at *
 generalize q0d d=b6 at *
 generalize q0d ti=b7 at *
 generalize li.isEmpty=bl at *
 generalize ks.isEmpty=bk at *
 clear h hs hf hm
 rcases bl_kinds k with rfl | rfl | rfl | rfl | rfl | rfl | rfl | rfl | rfl | rfl | rfl | rfl | rfl | rfl | rfl | hk
 case inr.inr.inr.inr.inr.inr.inr.inr.inr.inr.inr.inr.inr.inr.inr=>omega
 case inr.inr.inr.inr.inr.inr.inl=>
  have hlv:lv=0:=by omega
  subst hlv
  clear f1 f2 f3
  go_enter Tryz.func86,Tryz.ntmps86
  go_wp2
  all_goals
   go_ret
   refine ⟨q1x ?_,Below.refl _ _⟩
   (try simp only [Bool.not_eq_true',Bool.not_eq_false'] at *)
   rw [HE.out]
   simp [*]
 case inr.inr.inr.inr.inr.inr.inr.inl=>
  clear f1 f2 f3
  by_cases hlv:lv<0\/999999999<lv
  ·rcases hlv with hlv | hlv
   all_goals
    go_enter Tryz.func86,Tryz.ntmps86
    go_wp2
    all_goals
     go_ret
     refine ⟨q1x ?_,Below.refl _ _⟩
     (try simp only [Bool.not_eq_true',Bool.not_eq_false'] at *)
     rw [HE.out]
     simp [*]
  ·have g1:0<=lv:=by omega
   have g2:lv<=999999999:=by omega
   have HG:Hid (¬ (lv<0\/999999999<lv)):=hlv
   clear hlv
   go_enter Tryz.func86,Tryz.ntmps86
   go_wp2
   all_goals
    go_ret
    refine ⟨q1x ?_,Below.refl _ _⟩
    (try simp only [Bool.not_eq_true',Bool.not_eq_false'] at *)
    rw [HE.out]
    simp [*,HG.out]
 all_goals
  clear f1 f2 f3
  go_enter Tryz.func86,Tryz.ntmps86
  go_wp2_with (first | (go_at_call 120;refine LE.out.mono ?_;rintro e w2 ⟨rfl,hb3⟩) | (go_at_call 121;refine HDE.out.mono ?_;rintro e w2 ⟨rfl,hb3⟩) | (go_at_call 125;refine (MTE.out (by simp)).mono ?_;rintro e w2 ⟨rfl,hb3⟩) | (go_at_call 126;refine TBE.out.mono ?_;rintro e w2 ⟨rfl,hb3⟩) | (go_at_call 127;refine UE.out.mono ?_;rintro e w2 ⟨rfl,hb3⟩) | (go_at_call 129;refine AC.out.mono ?_;rintro e w2 ⟨rfl,hb3⟩) | (go_at_call 128;refine (CNM.out _).mono ?_;rintro e w2 ⟨rfl,rfl⟩) | (go_at_call 130;refine CLB.out.mono ?_;rintro e w2 ⟨rfl,hb1⟩;obtain ⟨p0,p1,p2,p3,p4,p5,p6,p7,p8,p9,p10⟩:=(HP.out.up hb1).cells) | (go_at_call 123;refine (CTR.out _).mono ?_;rintro e w2 ⟨rfl,rfl⟩) | (go_at_call 124;refine (CTX.out _).mono ?_;rintro e w2 ⟨rfl,q3,rfl⟩) | (go_at_call 122;(with_reducible refine (CLI.out _).mono ?_);rintro e w2 ⟨rfl,q,rfl⟩) | (go_at_call 122;(with_reducible refine (CLD.out _).mono ?_);rintro e w2 ⟨rfl,q,rfl⟩) | (go_at_call 122;(with_reducible refine (CLT.out _).mono ?_);rintro e w2 ⟨rfl,q2,rfl⟩))
  all_goals
   go_ret
   refine ⟨q1x ?_,?_⟩
   ·(try simp only [Bool.not_eq_true',Bool.not_eq_false'] at *)
    rw [HE.out]
    simp [*]
   ·first
    | exact hb3 | exact q03 hb1 _ | exact hb1 | exact q03 (Below.refl _ _) _ | exact Below.refl _ _
end Go.Proofs.YtlbioncagkkkoaaGreatDoor
