/- The contract of tree.checkInlines and Line: the first error of inlines. Contracts of tree.Line, checkUnbroken, checkHead, checkTable. Contracts of tree.checkTable, checkBlock. The contract of tree.checkBlock; of a formula's check it asks the contract. Contracts of publisherref01.Next and publisherref04.Label. Contracts of publisherref04.cites, named. Contracts of publisherref04.target, one. Contracts of publisherref04.list, Line: the first error of inlines. -/
import Derived.Test.YtkfnkeflalcphaaGreatDoorKChQ
import Derived.Shelf.Strings.SlTrimAscii
set_option maxHeartbeats 8000000
set_option maxRecDepth 100000
open Go.Lib (hid)
namespace Go.Proofs.YtkfnkeflalcphaaGreatDoor
open List renaming getElem?_eq_getElem->jnj
open Go.RowKit.Below renaming refl->jnk
open Bool renaming eq_iff_iff->jo0
open Go.RowKit
set_option linter.unusedVariables false
set_option linter.unusedSimpArgs false
def edge (k:Int) (first last:Bool):Bool:=(decide (k=2)&&first)||((decide (k=2)||decide (k=3))&&last)
theorem Gv (bf:Int) (first last:Bool) (k:Int) (t d ti:ByteArray) (a:At) (ar:List ByteArray) (ci:List Ci) (ks:List aj) (hf:D6 k t d ti a ar ci ks=true) : sF bf first last k t d ti a ar ci ks=if edge k first last=true then 5 else sF bf false false k t d ti a ar ci ks:=by
 unfold sF edge;rw [hf];simp only [Bool.true_eq_false,if_false];by_cases h1:k=1\/k=4\/k=5
 ·have h2:k≠2:=by omega
  have h3:k≠3:=by omega
  simp [h1,h2,h3]
 ·by_cases h2:k=2
  ·subst h2;cases first<;>cases last<;>simp
  ·by_cases h3:k=3
   ·subst h3;cases first<;>cases last<;>simp
   ·simp [h1,h2,h3]
theorem zY (bf:Int) (first last:Bool) (k:Int) (t d ti:ByteArray) (a:At) (ar:List ByteArray) (ci:List Ci) (ks:List aj) (hf:D6 k t d ti a ar ci ks=false):sF bf first last k t d ti a ar ci ks=5:=by unfold sF;rw [if_pos hf]
def DN (l:List aj) (k:Nat):Int:=if k=0 then 0 else match l[k-1]? with | some x=>x.kd | none=>0
def QJ (l:List aj) (dp:Nat) (E:Nat) (w:World) (vi:Value) (wr:World):Prop:=∃ k:Nat,k<=l.length/\vi=.int .i64 k/\Below w.heap.size w wr/\aj.aR (DN l k) (decide (k=0)) dp (l.drop k)=E
theorem MB {l:List aj} {k:Nat} {x:aj} (h:l[k]?=some x):DN l (k+1)=x.kd:=by unfold DN;rw [if_neg (by omega),Nat.add_sub_cancel,h]
mutual
def aj.mid:aj->Prop
 | .mk k t d ti a ar ci ks=>t.size<=1000000/\d.size<=1000000/\ti.size<=1000000/\a.short/\(∀ c∈ar,c.size<=5000)/\(∀ c∈ci,c.key.size<=5000/\c.pre.size<=5000/\c.suf.size<=5000)/\aj.gU ks
def aj.gU:List aj->Prop
 | []=>True
 | x::l=>x.mid/\aj.gU l
end
mutual
theorem aj.Hg:∀ (x:aj),x.small->x.mid
 | .mk k t d ti a ar ci ks,h=>by
  rw [aj.small] at h;rw [aj.mid];obtain ⟨h1,h2,h3,h4,h5,h6,h7,h8,h9⟩:=h;exact ⟨by omega,by omega,by omega,h4,h7,h8,aj.kC ks h9⟩
theorem aj.kC:∀ (l:List aj),aj.ay l->aj.gU l
 | [],_=>by rw [aj.gU];trivial
 | x::l,h=>by
  rw [aj.ay] at h;rw [aj.gU];exact ⟨aj.Hg x h.1,aj.kC l h.2⟩
end
theorem aj.nL:∀ {l:List aj} {k:Nat} {x:aj},aj.gU l->l[k]?=some x->x.mid
 | [],_,_,_,h=>by simp at h
 | y::l,0,x,hb,h=>by simp at h;subst h;rw [aj.gU] at hb;exact hb.1
 | y::l,k+1,x,hb,h=>by rw [aj.gU] at hb;exact aj.nL (l:=l) (k:=k) hb.2 (by simpa using h)
theorem Ut {kd:Int} {t d ti:ByteArray} {at_:At} {ar:List ByteArray} {ci:List Ci} {ks:List aj} (h:(aj.mk kd t d ti at_ ar ci ks).mid):InS t d ti at_ ar ci/\aj.gU ks:=by unfold aj.mid at h;obtain ⟨h1,h2,h3,h4,h7,h8,h9⟩:=h;exact ⟨⟨h1,h2,h3,h4,h7,h8⟩,h9⟩
theorem MC (bf:Int) (st:Bool) (dp:Nat) (k:Int) (t d ti:ByteArray) (a:At) (ar:List ByteArray) (ci:List Ci) (ks:List aj) (l:List aj) (zI:¬ 15<dp) : aj.aR bf st dp (aj.mk k t d ti a ar ci ks::l)=if D6 k t d ti a ar ci ks=false then 5 else if edge k (decide (dp=0)&&st) (decide (dp=0)&&l.isEmpty)=true then 5 else if sF bf false false k t d ti a ar ci ks≠0 then sF bf false false k t d ti a ar ci ks else if aj.aR 0 true (dp+1) ks≠0 then aj.aR 0 true (dp+1) ks else aj.aR k false dp l:=by
 rw [aj.aR,if_neg zI,aj.err];cases hf:D6 k t d ti a ar ci ks with
 | false=>rw [zY _ _ _ _ _ _ _ _ _ _ _ hf];simp
 | true=>
  rw [Gv bf _ _ k t d ti a ar ci ks hf];cases he:edge k (decide (dp=0)&&st) (decide (dp=0)&&l.isEmpty) with
  | true=>simp
  | false=>
   simp only [Bool.true_eq_false,Bool.false_eq_true,if_false];by_cases h1:sF bf false false k t d ti a ar ci ks=0
   ·simp only [h1,ne_eq,not_true_eq_false,if_false];rfl
   ·simp only [ne_eq,h1,not_false_eq_true,if_true]
theorem Uu (k:Int) (zd st lb:Bool):edge k (zd&&st) (zd&&lb)=(zd&&((k==2)&&st||((k==2)||(k==3))&&lb)):=by
 unfold edge;have h2:decide (k=2)=(k==2):=by rw [jo0];simp
 have h3:decide (k=3)=(k==3):=by rw [jo0];simp
 rw [h2,h3];cases (k==2)<;>cases (k==3)<;>cases zd<;>cases st<;>cases lb<;>rfl
theorem QK {w:World} {l:List aj} {a:Option Addr} {cap:Nat} (h:mo (·<w.heap.size) w 10 (l.map aj.d) a cap) {k:Nat} {kd:Int} {t d ti:ByteArray} {at_:At} {ar:List ByteArray} {ci:List Ci} {ks:List aj} (hk:l[k]?=some (.mk kd t d ti at_ ar ci ks)) : ∃ b off ac ap aa ai ak cc cp ca tL ck,a=some ⟨b,off,none⟩/\UY w b (off+k*10) kd t d ti at_ ar ci ks ac ap aa ai ak cc cp ca tL ck:=by
 obtain ⟨b,off,vc,vp,va,vi,vk,rfl,hok,hbl,hc,hR⟩:=jl h hk;obtain ⟨a1,c1,h1,-⟩:=hR.at_.cls.aC
 obtain ⟨a2,c2,h2,-⟩:=hR.at_.aP.aC
 obtain ⟨a3,c3,h3,-⟩:=hR.args.aC;obtain ⟨a4,c4,h4,-⟩:=hR.jh.aC;obtain ⟨a5,c5,h5,-⟩:=hR.kids.aC;simp only [List.length_map,List.cons.injEq,and_true] at h1 h2 h3 h4 h5;subst h1 h2 h3 h4 h5;exact ⟨b,off,a1,a2,a3,a4,a5,c1,c2,c3,c4,c5,rfl,hc,hR,hbl⟩
theorem tC (n:Nat):∀ (l:List aj) (dp:Nat) (a:Option Addr) (cap:Nat) (w:World),aj.aW l<=n->dp<=1000000->aj.gU l->Rd (·<w.heap.size) w (bq l) [.slice a l.length cap] -> Calls Tryz.prog 127 #[.slice a l.length cap,.int .i64 (dp:Int)] w (bX (.int .i64 (aj.aR 0 true dp l:Nat)) w):=by
 induction n using Nat.strongRecOn with
 | _ n ih=>
  intro l dp a cap w hn hdp hsm h;obtain ⟨a',c',hv,hs⟩:=Rd.aC h;obtain ⟨rfl,rfl⟩:a'=a/\c'=cap:=by simp at hv;exact ⟨hv.1.symm,hv.2.symm⟩
  have hcap:l.length<=c':=by simpa using hs.le
  have hmx:=hs.max;unfold maxLen at hmx;have HS:=hid hs;have IH:=hid ih;have SM:=hid hsm;obtain ⟨E,hE⟩:∃ E,aj.aR 0 true dp l=E:=⟨_,rfl⟩;rw [hE];have R0:Hid (QJ l dp E w (.int .i64 0) w):=⟨0,Nat.zero_le _,rfl,jnk _ _,hE⟩;clear hs hv h ih hsm hE;by_cases zI:15<dp
  ·have Y2:decide ((15:Int)<(dp:Int))=true:=by simp;omega
   go_enter Tryz.func127,Tryz.ntmps127;go_wp2
   go_loopw [12] (fun i wr=>QJ l dp E w i wr) (fun i _=>l.length-(intOf i).toNat)
   case atStart=>exact R0.out
   case round=>
    clear R0;obtain ⟨k,hk,rfl,hbel,bJ⟩:=hrel;have HB:=hid hbel;by_cases hlt:k<l.length
    ·obtain ⟨x,hx⟩:∃ x,l[k]?=some x:=⟨_,jnj hlt⟩;have HE:Hid (E=11):=by
      show E=11;rw [<- bJ,RO l k x hx,aj.aR,if_pos zI]
     clear bJ hx;go_wp2;go_ret;exact ⟨by rw [HE.out];rfl,HB.out⟩
    ·have HE:Hid (E=0):=by
      show E=0;rw [<- bJ,List.drop_of_length_le (by omega),aj.aR]
     clear bJ;go_wp2;go_ret;exact ⟨by rw [HE.out];rfl,HB.out⟩
  ·have Y2:decide ((15:Int)<(dp:Int))=false:=by simp;omega
   go_enter Tryz.func127,Tryz.ntmps127;go_wp2
   go_loopw [12] (fun i wr=>QJ l dp E w i wr) (fun i _=>l.length-(intOf i).toNat)
   case atStart=>exact R0.out
   case round=>
    clear R0;obtain ⟨k,hk,rfl,hbel,bJ⟩:=hrel;have HB:=hid hbel;by_cases hlt:k<l.length
    ·obtain ⟨x,hx⟩:∃ x,l[k]?=some x:=⟨_,jnj hlt⟩;have hbs:=MB hx;have hxs:x.mid:=aj.nL SM.out hx;have hsz:=aj.aZ l k _ hx;rw [RO l k x hx] at bJ;have hle:(l.drop (k+1)).isEmpty=((k:Int)==(l.length:Int)-1):=by
      rw [jo0];simp;omega
     obtain ⟨kd,t,d,ti,at_,ar,ci,ks⟩:=x;rw [aj.sz] at hsz;obtain ⟨hins,hks⟩:=Ut hxs;rw [MC _ _ _ _ _ _ _ _ _ _ _ _ zI,Uu,hle] at bJ;have hbk:DN l (k+1)=kd:=hbs;obtain ⟨b,off,ac,ap,aa,ai,ak,cc,cp,ca,tL,ck,ha,ZO⟩:=QK HS.out hx;have hP:=ZO.up hbel;have HPR:Hid (k≠0->∃ kv,wr.cell? ⟨b,off+(k-1)*10,none⟩=some (.int .i64 kv)/\DN l k=kv):=by
      intro hk0;obtain ⟨y,hy⟩:∃ y,l[k-1]?=some y:=⟨_,jnj (show k-1<l.length by omega)⟩;obtain ⟨kv,t',d',ti',at',ar',uP,ks'⟩:=y;obtain ⟨b',off',ac',ap',aa',ai',ak',cc',cp',ca',jn0,ck',ha',hP'⟩:=QK HS.out hy;rw [ha] at ha';injection ha' with ha'
      injection ha' with e1 e2 e3
      subst e1 e2;refine ⟨kv,(hP'.up hbel).cells.c0,?_⟩;unfold DN;rw [if_neg hk0,hy];rfl
     subst ha;have HBK:=hid hbk;have HZ0:Hid (k=0->DN l k=0):=fun h=>by unfold DN;rw [if_pos h]
     obtain ⟨bf,hbf⟩:∃ bf,DN l k=bf:=⟨_,rfl⟩;rw [hbf] at bJ HPR HZ0;have HP:=hid hP;have MS:=hid (tu wr b (off+k*10) kd t d ti at_ ar ci ks ac ap aa ai ak cc cp ca tL ck hP);have CI:=hid (fun wx (hb:Below wr.heap.size wr wx) hf=>uM wx b (off+k*10) kd bf t d ti at_ ar ci ks ac ap aa ai ak cc cp ca tL ck (hP.up hb) hins hf);have CK:=hid (fun wx (hb:Below wr.heap.size wr wx)=>IH.out (aj.aW ks) (by omega) ks (dp+1) ak ck wx (Nat.le_refl _) (by omega) hks (hP.up hb).rd.kids);have fK:=hid bJ;clear hbs hxs hsz hle hins hks hbk hP ZO hbf bJ hx hbel;have OO:=hid (fun wx:World=>kZ kd [2,3] wx.heap.size 2 _ (by simp) (Nr wx 3 2 3));simp only [List.length_cons,List.length_nil,Nat.reduceAdd] at OO;have ZM:([2,3]:List Int).contains kd=((kd==2)||(kd==3)):=by rw [jo0];simp
     rw [ZM] at OO;obtain ⟨ed,hed⟩:∃ ed,(decide (dp=0)&&((kd==2)&&decide (k=0)||((kd==2)||(kd==3))&&((k:Int)==(l.length:Int)-1)))=ed:=⟨_,rfl⟩;rw [hed] at fK;have HED:=hid hed;have z1:((dp:Int)==0)=decide (dp=0):=by rw [jo0];simp
     have z3:((k:Int)==0)=decide (k=0):=by rw [jo0];simp
     have Z1:=hid z1;have Z3:=hid z3;clear ZM hed z1 z3
     go_upto_if 18 with (fail)
     go_cut [6] (fun s6 wx=>s6=.int .i64 bf/\wr=wx)
     case first=>
      clear OO HED fK CK CI MS HP Z1 Z3;cases k with
      | zero=>
       have hb0:=HZ0.out rfl;have HB0:=hid hb0;clear hb0 HPR HZ0;go_wp2_with fail
       go_meet
       exact ⟨by rw [HB0.out],rfl⟩
      | succ j=>
       obtain ⟨kv,hcell,hkv⟩:=HPR.out (by omega);rw [Nat.add_sub_cancel] at hcell;have HKV:=hid hkv;clear hkv HPR HZ0;go_wp2_with fail
       go_meet
       exact ⟨by rw [HKV.out],rfl⟩
     case rest=>
      obtain ⟨rfl,rfl⟩:=hcut;clear HPR HZ0;cases hf:D6 kd t d ti at_ ar ci ks with
      | false=>
       rw [hf] at MS;have HE:Hid (E=5):=by show E=5;have:=fK.out;rw [if_pos hf] at this;exact this.symm
       clear hf;go_wp2_with fail
       refine MS.out.mono ?_;rintro e w2 ⟨rfl,hb2⟩;go_wp2;go_ret;exact ⟨by rw [HE.out];rfl,aU HB.out hb2⟩
      | true=>
       rw [hf] at MS;have tK:Hid ((if ed=true then 5 else if sF bf false false kd t d ti at_ ar ci ks≠0 then sF bf false false kd t d ti at_ ar ci ks else if aj.aR 0 true (dp+1) ks≠0 then aj.aR 0 true (dp+1) ks else aj.aR kd false dp (l.drop (k+1)))=E):=by show _=_;have:=fK.out;rw [if_neg (by rw [hf];decide)] at this;exact this
       have Y3:=hid (fun wx hb=>CI.out wx hb hf);clear hf fK CI;go_wp2_with fail
       refine MS.out.mono ?_;rintro e w2 ⟨rfl,hb2⟩;have HB2:=hid hb2;obtain ⟨p0,p1,p2,p3,p4,p5,p6,p7,p8,p9⟩:=(HP.out.up hb2).cells;go_upto_region 12 with (fail)
       go_cut [58] (fun s58 wx=>s58=.bool ed/\Below w2.heap.size w2 wx)
       case first=>
        have z1:=Z1.out;have z3:=Z3.out;have OW:=hid (OO.out w2);have YJ:=HED.out;obtain ⟨zd,hzd⟩:∃ zd,decide (dp=0)=zd:=⟨_,rfl⟩;obtain ⟨st,hst⟩:∃ st,decide (k=0)=st:=⟨_,rfl⟩;obtain ⟨b2,hb2'⟩:∃ b2,(kd==2)=b2:=⟨_,rfl⟩;obtain ⟨b3,YK⟩:∃ b3,(kd==3)=b3:=⟨_,rfl⟩;obtain ⟨lb,hlb⟩:∃ lb,((k:Int)==(l.length:Int)-1)=lb:=⟨_,rfl⟩;rw [hzd,hst,hb2',YK,hlb] at YJ;rw [hzd] at z1;rw [hst] at z3;rw [hb2',YK] at OW;have jj4:=hid YJ;clear YJ hzd hst YK OO HED tK CK Y3 MS Z1 Z3 hb2;cases zd<;>cases b2<;>cases st<;>cases b3<;>cases lb
        all_goals
         go_wp2_with (go_at_call 161;refine OW.out.mono ?_;rintro e w3 ⟨rfl,rfl⟩)
         go_meet
         exact ⟨by rw [<- jj4.out];rfl,by first | exact (jnk _ _).alloc (Nat.le_refl _) _ | exact jnk _ _⟩
       case rest=>
        obtain ⟨rfl,hbx⟩:=hcut;have oz:=hid (aU HB2.out hbx);clear p0 p1 p2 p3 p4 p5 p6 p7 p8 p9 hbx hb2;cases ed with
        | true=>
         have HE:Hid (E=5):=by show E=5;have:=tK.out;rw [if_pos rfl] at this;exact this.symm
         go_wp2;go_ret;exact ⟨by rw [HE.out];rfl,aU HB.out oz.out⟩
        | false=>
         have vZ:Hid ((if sF bf false false kd t d ti at_ ar ci ks≠0 then sF bf false false kd t d ti at_ ar ci ks else if aj.aR 0 true (dp+1) ks≠0 then aj.aR 0 true (dp+1) ks else aj.aR kd false dp (l.drop (k+1)))=E):=by show _=_;have:=tK.out;rw [if_neg (by decide)] at this;exact this
         have RP:=hid (Y3.out _ oz.out);clear tK Y3;generalize sF bf false false kd t d ti at_ ar ci ks=E1 at *
         generalize aj.aR 0 true (dp+1) ks=E2 at *;by_cases h1:E1=0
         ·have JR:Hid ((if E2≠0 then E2 else aj.aR kd false dp (l.drop (k+1)))=E):=by
           show _=_;have:=vZ.out;rw [if_neg (by simpa using h1)] at this;exact this
          subst h1;go_wp2_with fail
          refine RP.out.mono ?_;rintro e w4 ⟨rfl,hb4⟩;have zm:=hid (aU oz.out hb4);obtain ⟨p0,p1,p2,p3,p4,p5,p6,p7,p8,p9⟩:=(HP.out.up zm.out).cells;have MU:=hid (CK.out _ zm.out);clear RP hb4 CK vZ;by_cases h2:E2=0
          ·have WK:Hid (aj.aR kd false dp (l.drop (k+1))=E):=by
            show _=_;have:=JR.out;rw [if_neg (by simpa using h2)] at this;exact this
           subst h2;go_wp2_with fail
           refine MU.out.mono ?_;rintro e w5 ⟨rfl,hb5⟩;have Nw:=hid (aU zm.out hb5);clear MU hb5;go_wp2;go_roundw;case rel=>exact ⟨k+1,by omega,by go_num,aU HB.out Nw.out,by rw [HBK.out,decide_eq_false (by omega)];exact WK.out⟩
           case measure=>simp [intOf];omega
          ·have WK:Hid (E=E2):=by
            show _=_;have:=JR.out;rw [if_pos h2] at this;exact this.symm
           have hn2:((E2:Int) != 0)=true:=by rw [bne_iff_ne];omega
           clear h2;go_wp2_with fail
           refine MU.out.mono ?_;rintro e w5 ⟨rfl,hb5⟩;have Nw:=hid (aU zm.out hb5);clear MU hb5;go_wp2;go_ret;exact ⟨by rw [WK.out];rfl,aU HB.out Nw.out⟩
         ·have JR:Hid (E=E1):=by
           show _=_;have:=vZ.out;rw [if_pos h1] at this;exact this.symm
          have hn1:((E1:Int) != 0)=true:=by rw [bne_iff_ne];omega
          clear h1;go_wp2_with fail
          refine RP.out.mono ?_;rintro e w4 ⟨rfl,hb4⟩;have zm:=hid (aU oz.out hb4);clear RP hb4;go_wp2;go_ret;exact ⟨by rw [JR.out];rfl,aU HB.out zm.out⟩
    ·have HE:Hid (E=0):=by
      show E=0;rw [<- bJ,List.drop_of_length_le (by omega),aj.aR]
     clear bJ;go_wp2;go_ret;exact ⟨by rw [HE.out];rfl,HB.out⟩
open Go.RowKit
theorem mV (l:List aj) (a:Option Addr) (cap:Nat) (w:World) (hsm:aj.gU l) (h:Rd (·<w.heap.size) w (bq l) [.slice a l.length cap]) : Calls Tryz.prog 77 #[.slice a l.length cap] w (bX (.int .i64 (vF l:Nat)) w):=by
 have CK:=hid (tC _ l 0 a cap w (Nat.le_refl _) (by omega) hsm h);change Hid (Calls _ _ _ _ (bX (.int .i64 (vF l:Nat)) w)) at CK;generalize vF l=E at *;clear h hsm;go_enter Tryz.func77,Tryz.ntmps77;go_wp2_with fail
 refine CK.out.mono ?_;rintro e w1 ⟨rfl,hb⟩;go_wp2;go_ret;exact ⟨rfl,hb⟩
theorem DK (l:List aj) (a:Option Addr) (cap:Nat) (w:World) (hsm:aj.ay l) (h:Rd (·<w.heap.size) w (bq l) [.slice a l.length cap]) : Calls Tryz.prog 77 #[.slice a l.length cap] w (bX (.int .i64 (vF l:Nat)) w):=mV l a cap w (aj.kC l hsm) h
def oq (l:List aj):Nat:=if aj.eF l7 l=true then 5 else vF l
theorem kL (l:List aj) (a:Option Addr) (cap:Nat) (w:World) (hsm:aj.gU l) (h:Rd (·<w.heap.size) w (bq l) [.slice a l.length cap]) : Calls Tryz.prog 170 #[.slice a l.length cap] w (bX (.int .i64 (oq l:Nat)) w):=by
 have hb0:Below w.heap.size w (w.alloc (.cells #[.int .i64 2,.int .i64 3] 3)):=(jnk _ _).alloc (Nat.le_refl _) _;have AK:=hid (tN _ l _ _ [2,3] w.heap.size 2 _ (Nat.le_refl _) (h.up hb0) (by simp) (Nr w 3 2 3));simp only [List.length_cons,List.length_nil,Nat.reduceAdd] at AK;have ZK:aj.eF [2,3] l=aj.eF l7 l:=rfl;rw [ZK] at AK;have LE:=hid (mV l a cap _ hsm (h.up hb0));have HE:Hid (oq l=if aj.eF l7 l=true then 5 else vF l):=rfl;generalize oq l=V at *;generalize vF l=E at *;generalize aj.eF l7 l=K at *;have HB:=hid hb0;clear h hsm ZK hb0;cases K
 all_goals
  go_enter Tryz.func170,Tryz.ntmps170;go_wp2_with (first | (go_at_call 203;refine AK.out.mono ?_;rintro e w2 ⟨rfl,rfl⟩) | (go_at_call 77;refine LE.out.mono ?_;rintro e w2 ⟨rfl,hb2⟩))
  go_ret;refine ⟨by rw [HE.out];rfl,?_⟩;first | exact aU HB.out hb2 | exact HB.out
def rR (lv:Int) (a:At) (li:List aj):Nat:=if lv<1\/6<lv then 9 else if a.err≠0 then a.err else oq li
theorem zZ (w:World) (b o:Nat) (k lv:Int) (i t d ti:ByteArray) (at_:At) (li:List aj) (ks:List ah) (ac ap al ak:Option Addr) (cc cp cl ck:Nat) (h:RD w b o k lv i t d ti at_ li ks ac ap al ak cc cp cl ck) (ha:at_.short) (hsm:aj.gU li) : Calls Tryz.prog 166 #[.pointer (some ⟨b,o,none⟩)] w (bX (.int .i64 (rR lv at_ li:Nat)) w):=by
 have HP:=hid h;have AC:=hid (gT at_ ac ap cc cp w h.rd.at_ ha);have UE:=hid (fun wx (hb:Below w.heap.size w wx)=>kL li al cl wx hsm (h.rd.line.up hb));obtain ⟨c0,c1,c2,c3,c4,c5,c6,c7,c8,c9,c10⟩:=h.cells;have HE:Hid (rR lv at_ li=if lv<1\/6<lv then 9 else if at_.err≠0 then at_.err else oq li):=rfl;generalize rR lv at_ li=V at *
 generalize at_.err=E at *
 generalize oq li=U at *;clear h ha hsm;by_cases hlv:lv<1\/6<lv
 ·have HV:Hid (V=9):=by show V=9;rw [HE.out,if_pos hlv]
  clear HE;rcases hlv with hlv | hlv
  all_goals
   go_enter Tryz.func166,Tryz.ntmps166;go_wp2;go_ret;exact ⟨by rw [HV.out];rfl,jnk _ _⟩
 ·have HV:Hid (V=if E≠0 then E else U):=by show V=_;rw [HE.out,if_neg hlv]
  have g1:1<=lv:=by omega
  have g2:lv<=6:=by omega
  clear hlv HE;by_cases h1:E=0
  ·subst h1;go_enter Tryz.func166,Tryz.ntmps166;go_wp2_with fail
   refine AC.out.mono ?_;rintro e w2 ⟨rfl,hb2⟩;obtain ⟨p0,p1,p2,p3,p4,p5,p6,p7,p8,p9,Nv⟩:=(HP.out.up hb2).cells;go_wp2_with fail
   refine (UE.out _ hb2).mono ?_;rintro e w3 ⟨rfl,hb3⟩;go_wp2;go_ret;exact ⟨by rw [HV.out];rfl,aU hb2 hb3⟩
  ·have hn:((E:Int) != 0)=true:=by rw [bne_iff_ne];omega
   have Zw:Hid (V=E):=by show V=E;rw [HV.out,if_pos h1]
   clear h1 HV;go_enter Tryz.func166,Tryz.ntmps166;go_wp2_with fail
   refine AC.out.mono ?_;rintro e w2 ⟨rfl,hb2⟩;go_wp2;go_ret;exact ⟨by rw [Zw.out];rfl,hb2⟩
theorem Jo (p:UInt8->Bool):∀ l:List UInt8,l.dropWhile p=[]↔l.all p=true
 | []=>by simp
 | x::l=>by
  rw [List.dropWhile_cons,List.all_cons];cases p x with
  | true=>simpa using Jo p l
  | false=>simp
theorem Uv (p:UInt8->Bool) (l:List UInt8):∀ x∈l.takeWhile p,p x=true:=by
 induction l with
 | nil=>simp
 | cons y l ih=>
  intro x hx;rw [List.takeWhile_cons] at hx;cases h:p y with
  | true=>
   rw [h] at hx;simp at hx;rcases hx with rfl | hx
   ·exact h
   ·exact ih x hx
  | false=>rw [h] at hx;simp at hx
theorem ME (l cs:List UInt8):Lib.trimS l cs=[]↔l.all (fun c=>cs.contains c)=true:=by
 unfold Lib.trimS Lib.trimLeftS Lib.trimRightS;rw [Jo];constructor
 ·intro h;rw [List.all_reverse] at h;have h2:=(List.takeWhile_append_dropWhile (p:=fun c=>cs.contains c) (l:=l.reverse));have h3:(l.reverse).all (fun c=>cs.contains c)=true:=by
   rw [<- h2,List.all_append,Bool.and_eq_true];exact ⟨List.all_eq_true.2 (fun x hx=>(Uv _ _ x hx)),h⟩
  rwa [List.all_reverse] at h3
 ·intro h;have h3:(l.reverse).all (fun c=>cs.contains c)=true:=by rwa [List.all_reverse]
  rw [(Jo _ _).2 h3];rfl
open Go.RowKit
def uJ:List UInt8:=[45,108,99,114]
def V9 (ks:List ah) (n:Nat) (w:World) (vi:Value) (wr:World):Prop:=∃ k:Nat,k<=ks.length/\vi=.int .i64 k/\Below w.heap.size w wr/\(ks.take k).any (fun b=>!decide (b.xW=n))=false
theorem Nt {w:World} {l:List ah} {a:Option Addr} {cap:Nat} (h:mo (·<w.heap.size) w 11 (l.map ah.d) a cap) {k:Nat} {kd lv:Int} {i t d ti:ByteArray} {at_:At} {li:List aj} {ks:List ah} (hk:l[k]?=some (.mk kd lv i t d ti at_ li ks)) : ∃ b off ac ap al ak cc cp cl ck,a=some ⟨b,off,none⟩/\RD w b (off+k*11) kd lv i t d ti at_ li ks ac ap al ak cc cp cl ck:=by
 obtain ⟨b,off,vc,vp,vl,vk,rfl,hok,hbl,hc,hR⟩:=iA h hk;obtain ⟨a1,c1,h1,-⟩:=hR.at_.cls.aC
 obtain ⟨a2,c2,h2,-⟩:=hR.at_.aP.aC
 obtain ⟨a3,c3,h3,-⟩:=hR.line.aC;obtain ⟨a5,c5,h5,-⟩:=hR.kids.aC;simp only [List.length_map,List.cons.injEq,and_true] at h1 h2 h3 h5;subst h1 h2 h3 h5;exact ⟨b,off,a1,a2,a3,a5,c1,c2,c3,c5,rfl,hc,hR,hbl⟩
theorem YL (l:List UInt8):(⟨l.toArray⟩:ByteArray)=ByteArray.empty↔l=[]:=by
 constructor
 ·intro h;have:=congrArg (fun b:ByteArray=>b.data.toList) h;simpa using this
 ·rintro rfl;rfl
theorem yY (w:World) (b o:Nat) (k lv:Int) (i t d ti:ByteArray) (at_:At) (li:List aj) (ks:List ah) (ac ap al ak:Option Addr) (cc cp cl ck:Nat) (h:RD w b o k lv i t d ti at_ li ks ac ap al ak cc cp cl ck) (hi:i.size<=1000000000) : Calls Tryz.prog 169 #[.pointer (some ⟨b,o,none⟩)] w (bX (.int .i64 (jT i ks:Nat)) w):=by
 have HP:=hid h;obtain ⟨a',c',hv,hs⟩:=Rd.aC h.rd.kids;obtain ⟨rfl,rfl⟩:a'=ak/\c'=ck:=by simp at hv;exact ⟨hv.1.symm,hv.2.symm⟩
 have hcap:ks.length<=c':=by simpa using hs.le
 have hmx:=hs.max;unfold maxLen at hmx;have HS:=hid hs;have e3:=vX ks;have h116:(Tryz.prog.info? 206).map (fun i=>(i.zero,i.size))=some (some (.agg (Array.replicate 256 (.bool false))),256):=by kernel_rfl
 have TR:=hid (fun w=>Any.strings_Trim_laid Tryz.lays160 h116 i ⟨#[45,108,99,114]⟩ w (by omega) (by decide) (ascii_of_all (by decide)));have Zo:Hid (∀ w,Calls Tryz.prog 202 #[.string i,.string ⟨#[45,108,99,114]⟩] w fun e w'=>e=.returned (.string ⟨(Lib.trimS i.data.toList uJ).toArray⟩)/\Below w.heap.size w w'):=TR.out;have HN:=hid (ME i.data.toList uJ);have HBN:=hid (YL (Lib.trimS i.data.toList uJ));have HE:Hid (jT i ks=if 32<i.size then 3 else if q01 i=true then 5 else if i.data.toList.any (fun c=>!(uJ:List UInt8).contains c) then 5
   else if ks.isEmpty=true then 8 else if ks.any (fun b=>!decide (b.xW=i.size)) then 15 else 0):=rfl
 obtain ⟨c0,c1,c2,c3,c4,c5,c6,c7,c8,c9,c10⟩:=h.cells;generalize jT i ks=V at *;obtain ⟨trs,jdz⟩:∃ trs,trs=(⟨(Lib.trimS i.data.toList uJ).toArray⟩:ByteArray):=⟨_,rfl⟩;rw [<- jdz] at Zo HBN;clear hv hs h TR jdz h116;by_cases h32:32<i.size
 ·have HV:Hid (V=3):=by show V=3;rw [HE.out,if_pos h32]
  have q:decide ((32:Int)<(i.size:Int))=true:=by simp;omega
  clear HE;go_enter Tryz.func169,Tryz.ntmps169;go_wp2;go_ret;exact ⟨by rw [HV.out];rfl,jnk _ _⟩
 have q:decide ((32:Int)<(i.size:Int))=false:=by simp;omega
 rcases jI i with rfl | ⟨i1,i2,i3,i4⟩
 ·have HV:Hid (V=5):=by show V=5;rw [HE.out,if_neg h32,if_pos (by decide)]
  clear HE;go_enter Tryz.func169,Tryz.ntmps169;go_wp2;go_ret;exact ⟨by rw [HV.out];rfl,jnk _ _⟩
 have hany:(i.data.toList.any fun c=>!(uJ:List UInt8).contains c)=!(i.data.toList.all fun c=>(uJ:List UInt8).contains c):=by rw [List.all_eq_not_any_not];simp
 cases hal:i.data.toList.all fun c=>(uJ:List UInt8).contains c with
 | false=>
  have HV:Hid (V=5):=by show V=5;rw [HE.out,if_neg h32,if_neg (by rw [i4];decide),if_pos (by rw [hany,hal];rfl)]
  have hne:trs≠ByteArray.empty:=fun e=>by
   have:=HN.out.1 (HBN.out.1 e);rw [hal] at this;cases this
  rcases jI trs with e | ⟨t1,t2,t3,t4⟩
  ·exact absurd e hne
  clear HE HN HBN hne hany hal;go_enter Tryz.func169,Tryz.ntmps169;go_wp2_with fail
  refine (Zo.out _).mono ?_;rintro e w2 ⟨rfl,hb2⟩;go_wp2;go_ret;exact ⟨by rw [HV.out];rfl,hb2⟩
 | true=>
  have he:trs=ByteArray.empty:=HBN.out.2 (HN.out.2 hal);subst he;have HV:Hid (V=if ks.isEmpty=true then 8 else if ks.any (fun b=>!decide (b.xW=i.size)) then 15 else 0):=by show V=_;rw [HE.out,if_neg h32,if_neg (by rw [i4];decide),if_neg (by rw [hany,hal];decide)]
  clear HE HN HBN hany hal;cases hk0:ks.isEmpty with
  | true=>
   rw [hk0] at e3;have Zw:Hid (V=8):=by show V=8;rw [HV.out,if_pos hk0]
   clear hk0;go_enter Tryz.func169,Tryz.ntmps169;go_wp2_with fail
   refine (Zo.out _).mono ?_;rintro e w2 ⟨rfl,hb2⟩;obtain ⟨p0,p1,p2,p3,p4,p5,p6,p7,p8,p9,Nv⟩:=(HP.out.up hb2).cells;go_wp2;go_ret;exact ⟨by rw [Zw.out];rfl,hb2⟩
  | false=>
   rw [hk0] at e3;have Zw:Hid (V=if ks.any (fun b=>!decide (b.xW=i.size)) then 15 else 0):=by show V=_;rw [HV.out,if_neg (by rw [hk0];decide)]
   clear hk0 HV;go_enter Tryz.func169,Tryz.ntmps169;go_wp2_with fail
   refine (Zo.out _).mono ?_;rintro e w2 ⟨rfl,hb2⟩;obtain ⟨p0,p1,p2,p3,p4,p5,p6,p7,p8,p9,Nv⟩:=(HP.out.up hb2).cells;have R0:Hid (V9 ks i.size w (.int .i64 0) w2):=⟨0,Nat.zero_le _,rfl,hb2,by simp⟩;clear hb2;go_wp2
   go_loopw [34] (fun i' wr=>V9 ks i.size w i' wr) (fun i' _=>ks.length-(intOf i').toNat)
   case atStart=>exact R0.out
   case round=>
    clear R0 p0 p1 p2 p3 p4 p5 p6 p7 p8 p9 Nv;obtain ⟨j,hj,rfl,hbel,hno⟩:=hrel;have HB:=hid hbel;have Rf:=hid hno;by_cases hlt:j<ks.length
    ·obtain ⟨x,hx⟩:∃ x,ks[j]?=some x:=⟨_,jnj hlt⟩;have rX:=hid (EN (fun b:ah=>!decide (b.xW=i.size)) hx);have HAT:=hid (Nq (fun b:ah=>!decide (b.xW=i.size)) hx);obtain ⟨kd',lv',i',t',d',ti',at',li',ks'⟩:=x;obtain ⟨b',off',ac',ap',al',ak',cc',cp',cl',ck',ha',hP'⟩:=Nt HS.out hx;have k10:=(hP'.up hbel).cells.c10;obtain ⟨p0,p1,p2,p3,p4,p5,p6,p7,p8,p9,Nv⟩:=(HP.out.up hbel).cells;subst ha';have HKN:Hid ((ah.mk kd' lv' i' t' d' ti' at' li' ks').xW=ks'.length):=rfl;clear hP' hx hno hbel;by_cases hq:ks'.length=i.size
     ·have q1:((ks'.length:Int) != (i.size:Int))=false:=by rw [bne_eq_false_iff_eq];omega
      have HQ:=hid hq;clear hq;go_wp2_with fail
      go_quiet (fail)
      go_wp2;go_roundw;case rel=>exact ⟨j+1,by omega,by go_num,gG HB.out _,by rw [rX.out,Rf.out,HKN.out,HQ.out];simp⟩
      case measure=>simp [intOf];omega
     ·have q1:((ks'.length:Int) != (i.size:Int))=true:=by rw [bne_iff_ne];omega
      have hv:V=15:=by rw [Zw.out,if_pos (HAT.out (by rw [HKN.out];simp [hq]))]
      have HV3:=hid hv;clear hq hv;go_wp2_with fail
      go_quiet (fail)
      go_wp2;go_ret;exact ⟨by rw [HV3.out];rfl,gG HB.out _⟩
    ·have hv:V=0:=by
      have:=Rf.out;rw [List.take_of_length_le (by omega)] at this;rw [Zw.out,if_neg (by rw [this];decide)]
     have HV3:=hid hv;clear hv hno hbel;go_wp2;go_ret;exact ⟨by rw [HV3.out];rfl,HB.out⟩
open Go.RowKit
def rT (cl:ByteArray->Bool) (t:ByteArray) (a:At):Nat:=if jJ t=false then 17 else if cl t=true then 5 else a.err
def tO (cl:ByteArray->Bool):Prop:=∀ (w:World) (b o:Nat) (k lv:Int) (i t d ti:ByteArray) (at_:At) (li:List aj) (ks:List ah) (ac ap al ak:Option Addr) (cc cp cl' ck:Nat),
 RD w b o k lv i t d ti at_ li ks ac ap al ak cc cp cl' ck->t.size<=300->at_.short->Calls Tryz.prog 168 #[.pointer (some ⟨b,o,none⟩)] w (bX (.int .i64 (rT cl t at_:Nat)) w)
structure BlM (i t d ti:ByteArray) (a:At) (li:List aj):Prop where
 i:i.size<=300
 t:t.size<=300
 d:d.size<=300
 ti:ti.size<=300
 at_:a.short
 li:aj.gU li
theorem DR {k lv:Int} {i t d ti:ByteArray} {a:At} {li:List aj} {ks:List ah} (h:D7 k lv i t d ti a li ks=true):1<=k/\k<=15/\(k=2\/k=8\/lv=0):=by
 unfold D7 at h;simp only [Bool.and_eq_true,Bool.or_eq_true,decide_eq_true_eq] at h;obtain ⟨⟨⟨⟨⟨⟨⟨⟨h1,h2⟩,h3⟩,-⟩,-⟩,-⟩,-⟩,-⟩,-⟩:=h;refine ⟨h1,h2,?_⟩;rcases h3 with h | h
 ·simp at h;omega
 ·exact .inr (.inr h)
theorem vY (cl:ByteArray->Bool) (w:World) (b o:Nat) (k lv:Int) (i t d ti:ByteArray) (at_:At) (li:List aj) (ks:List ah) (ac ap al ak:Option Addr) (cc cp cl' ck:Nat) (h:RD w b o k lv i t d ti at_ li ks ac ap al ak cc cp cl' ck) (hs:BlM i t d ti at_ li) (hf:D7 k lv i t d ti at_ li ks=true) (hm:k=4->tO cl) : Calls Tryz.prog 134 #[.pointer (some ⟨b,o,none⟩)] w (bX (.int .i64 (qN cl k lv i t d ti at_ li ks:Nat)) w):=by
 have HP:=hid h;obtain ⟨f1,f2,f3⟩:=DR hf;obtain ⟨-,l4,m4⟩:=fM h.rd.line;obtain ⟨-,l5,m5⟩:=fM h.rd.kids;unfold maxLen at m4 m5;have LE:=hid (mV li al cl' w hs.li h.rd.line);have UE:=hid (kL li al cl' w hs.li h.rd.line);have HDE:=hid (zZ w b o k lv i t d ti at_ li ks ac ap al ak cc cp cl' ck h hs.at_ hs.li);have TBE:=hid (yY w b o k lv i t d ti at_ li ks ac ap al ak cc cp cl' ck h (by have:=hs.i;omega));have MTE:=hid (fun hk=>hm hk w b o k lv i t d ti at_ li ks ac ap al ak cc cp cl' ck h hs.t hs.at_);have CLI:=hid (fun w=>Nh i w (by have:=hs.i;omega));have CTR:=hid (fun w=>jm i w (by have:=hs.i;omega));have CTX:=hid (fun w=>pq t w (by have:=hs.t;omega));have CNM:=hid (fun w=>q22 i w (by have:=hs.i;omega));have CLB:=hid (Ak i w (by have:=hs.i;omega));have CLD:=hid (fun w=>Nh d w (by have:=hs.d;omega));have CLT:=hid (fun w=>Nh ti w (by have:=hs.ti;omega));have AC:=hid (gT at_ ac ap cc cp w h.rd.at_ hs.at_);obtain ⟨c0,c1,c2,c3,c4,c5,c6,c7,c8,c9,c10⟩:=h.cells;have e2:=vX li;have e3:=vX ks;have HE:Hid (qN cl k lv i t d ti at_ li ks=if k=1 then (if li.isEmpty=true then 8 else vF li)
 else if k=2 then rR lv at_ li
 else if k=12 then oq li
 else if k=3 then (if fH i=false\/trimS i=false\/jJ t=false then 17 else 0)
 else if k=4 then rT cl t at_
 else if k=7\/k=8 then (if ks.isEmpty=true then 8 else if k=8/\(lv<0\/999999999<lv) then 9 else 0)
 else if k=10 then jT i ks
 else if k=13\/k=14 then (if iU i=false then 6 else at_.err)
 else if k=15 then (if eU i=false then 6 else if fH d=false\/fH ti=false then 17 else 0)
 else 0):=rfl
 generalize qN cl k lv i t d ti at_ li ks=V at *
 generalize vF li=E1 at *;generalize rR lv at_ li=E2 at *
 generalize oq li=E3 at *;generalize rT cl t at_=E4 at *
 generalize jT i ks=E5 at *;generalize at_.err=E6 at *
 generalize fH i=b1 at *;generalize trimS i=b2 at *;generalize jJ t=b3 at *;generalize iU i=b4 at *;generalize eU i=b5 at *;generalize fH d=b6 at *;generalize fH ti=b7 at *;generalize li.isEmpty=bl at *;generalize ks.isEmpty=bk at *;clear h hs hf hm;rcases Gu k with rfl | rfl | rfl | rfl | rfl | rfl | rfl | rfl | rfl | rfl | rfl | rfl | rfl | rfl | rfl | hk
 case inr.inr.inr.inr.inr.inr.inr.inr.inr.inr.inr.inr.inr.inr.inr=>omega
 case inr.inr.inr.inr.inr.inr.inl=>
  have hlv:lv=0:=by omega
  subst hlv;clear f1 f2 f3;go_enter Tryz.func134,Tryz.ntmps134;go_wp2;all_goals
   go_ret;refine ⟨ku ?_,jnk _ _⟩
   (try simp only [Bool.not_eq_true',Bool.not_eq_false'] at *)
   rw [HE.out];simp [*]
 case inr.inr.inr.inr.inr.inr.inr.inl=>
  clear f1 f2 f3;by_cases hlv:lv<0\/999999999<lv
  ·rcases hlv with hlv | hlv
   all_goals
    go_enter Tryz.func134,Tryz.ntmps134;go_wp2;all_goals
     go_ret;refine ⟨ku ?_,jnk _ _⟩
     (try simp only [Bool.not_eq_true',Bool.not_eq_false'] at *)
     rw [HE.out];simp [*]
  ·have g1:0<=lv:=by omega
   have g2:lv<=999999999:=by omega
   have HG:Hid (¬ (lv<0\/999999999<lv)):=hlv;clear hlv;go_enter Tryz.func134,Tryz.ntmps134;go_wp2;all_goals
    go_ret;refine ⟨ku ?_,jnk _ _⟩
    (try simp only [Bool.not_eq_true',Bool.not_eq_false'] at *)
    rw [HE.out];simp [*,HG.out]
 all_goals
  clear f1 f2 f3;go_enter Tryz.func134,Tryz.ntmps134;go_wp2_with (first | (go_at_call 77;refine LE.out.mono ?_;rintro e w2 ⟨rfl,hb3⟩) | (go_at_call 166;refine HDE.out.mono ?_;rintro e w2 ⟨rfl,hb3⟩) | (go_at_call 168;refine (MTE.out (by simp)).mono ?_;rintro e w2 ⟨rfl,hb3⟩) | (go_at_call 169;refine TBE.out.mono ?_;rintro e w2 ⟨rfl,hb3⟩) | (go_at_call 170;refine UE.out.mono ?_;rintro e w2 ⟨rfl,hb3⟩) | (go_at_call 95;refine AC.out.mono ?_;rintro e w2 ⟨rfl,hb3⟩) | (go_at_call 52;refine (CNM.out _).mono ?_;rintro e w2 ⟨rfl,rfl⟩) | (go_at_call 171;refine CLB.out.mono ?_;rintro e w2 ⟨rfl,hb1⟩;obtain ⟨p0,p1,p2,p3,p4,p5,p6,p7,p8,p9,Nv⟩:=(HP.out.up hb1).cells) | (go_at_call 94;refine (CTR.out _).mono ?_;rintro e w2 ⟨rfl,rfl⟩) | (go_at_call 167;refine (CTX.out _).mono ?_;rintro e w2 ⟨rfl,q3,rfl⟩) | (go_at_call 93;(with_reducible refine (CLI.out _).mono ?_);rintro e w2 ⟨rfl,q,rfl⟩) | (go_at_call 93;(with_reducible refine (CLD.out _).mono ?_);rintro e w2 ⟨rfl,q,rfl⟩) | (go_at_call 93;(with_reducible refine (CLT.out _).mono ?_);rintro e w2 ⟨rfl,q2,rfl⟩))
  all_goals
   go_ret;refine ⟨ku ?_,?_⟩
   ·(try simp only [Bool.not_eq_true',Bool.not_eq_false'] at *)
    rw [HE.out];simp [*]
   ·first
    | exact hb3 | exact gG hb1 _ | exact hb1 | exact gG (jnk _ _) _ | exact jnk _ _
open Go.RowKit
open Go.RowKit
open Go.RowKit
open Go.RowKit
end Go.Proofs.YtkfnkeflalcphaaGreatDoor

