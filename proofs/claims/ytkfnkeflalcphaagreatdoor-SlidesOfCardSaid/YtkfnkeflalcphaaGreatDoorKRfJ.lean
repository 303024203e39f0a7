/- The contract of tree.checkInlines and Line: the first error of inlines. Contracts of tree.Line, checkUnbroken, checkHead, checkTable. Contracts of tree.checkTable, checkBlock. The contract of tree.checkBlock; of a formula's check it asks the contract. Contracts of publisherref01.Next and publisherref04.Label. Contracts of publisherref04.cites, named. Contracts of publisherref04.target, one. Contracts of publisherref04.list, Line: the first error of inlines. -/
import Derived.Test.YtkfnkeflalcphaaGreatDoorKChQ
import Derived.Shelf.Strings.SlTrimAscii
set_option maxHeartbeats 8000000
set_option maxRecDepth 100000
open Go.Lib (hid)
namespace Go.Proofs.YtkfnkeflalcphaaGreatDoor
open List renaming getElem?_eq_getElem->jk5
open Go.RowKit.Below renaming refl->jk6
open Bool renaming eq_iff_iff->jkj
open Go.RowKit
set_option linter.unusedVariables false
set_option linter.unusedSimpArgs false
def edge (k:Int) (first last:Bool):Bool:=(decide (k=2)&&first)||((decide (k=2)||decide (k=3))&&last)
theorem EL (bf:Int) (first last:Bool) (k:Int) (t d ti:ByteArray) (a:At) (ar:List ByteArray) (ci:List Ci) (ks:List aj) (hf:q0z k t d ti a ar ci ks=true) : tF bf first last k t d ti a ar ci ks=if edge k first last=true then 5 else tF bf false false k t d ti a ar ci ks:=by
 unfold tF edge;rw [hf];simp only [Bool.true_eq_false,if_false];by_cases h1:k=1\/k=4\/k=5
 ·have h2:k≠2:=by omega
  have h3:k≠3:=by omega
  simp [h1,h2,h3]
 ·by_cases h2:k=2
  ·subst h2;cases first<;>cases last<;>simp
  ·by_cases h3:k=3
   ·subst h3;cases first<;>cases last<;>simp
   ·simp [h1,h2,h3]
theorem yL (bf:Int) (first last:Bool) (k:Int) (t d ti:ByteArray) (a:At) (ar:List ByteArray) (ci:List Ci) (ks:List aj) (hf:q0z k t d ti a ar ci ks=false):tF bf first last k t d ti a ar ci ks=5:=by unfold tF;rw [if_pos hf]
def BX (l:List aj) (k:Nat):Int:=if k=0 then 0 else match l[k-1]? with | some x=>x.kd | none=>0
def Oo (l:List aj) (dp:Nat) (E:Nat) (w:World) (vi:Value) (wr:World):Prop:=∃ k:Nat,k<=l.length/\vi=.int .i64 k/\Below w.heap.size w wr/\aj.aR (BX l k) (decide (k=0)) dp (l.drop k)=E
theorem KU {l:List aj} {k:Nat} {x:aj} (h:l[k]?=some x):BX l (k+1)=x.kd:=by unfold BX;rw [if_neg (by omega),Nat.add_sub_cancel,h]
mutual
def aj.mid:aj->Prop
 | .mk k t d ti a ar ci ks=>t.size<=1000000/\d.size<=1000000/\ti.size<=1000000/\a.short/\(∀ c∈ar,c.size<=5000)/\(∀ c∈ci,c.key.size<=5000/\c.pre.size<=5000/\c.suf.size<=5000)/\aj.gJ ks
def aj.gJ:List aj->Prop
 | []=>True
 | x::l=>x.mid/\aj.gJ l
end
mutual
theorem aj.FV:∀ (x:aj),x.small->x.mid
 | .mk k t d ti a ar ci ks,h=>by
  rw [aj.small] at h;rw [aj.mid];obtain ⟨h1,h2,h3,h4,h5,h6,h7,h8,h9⟩:=h;exact ⟨by omega,by omega,by omega,h4,h7,h8,aj.lu ks h9⟩
theorem aj.lu:∀ (l:List aj),aj.aF l->aj.gJ l
 | [],_=>by rw [aj.gJ];trivial
 | x::l,h=>by
  rw [aj.aF] at h;rw [aj.gJ];exact ⟨aj.FV x h.1,aj.lu l h.2⟩
end
theorem aj.mq:∀ {l:List aj} {k:Nat} {x:aj},aj.gJ l->l[k]?=some x->x.mid
 | [],_,_,_,h=>by simp at h
 | y::l,0,x,hb,h=>by simp at h;subst h;rw [aj.gJ] at hb;exact hb.1
 | y::l,k+1,x,hb,h=>by rw [aj.gJ] at hb;exact aj.mq (l:=l) (k:=k) hb.2 (by simpa using h)
theorem Ry {kd:Int} {t d ti:ByteArray} {at_:At} {ar:List ByteArray} {ci:List Ci} {ks:List aj} (h:(aj.mk kd t d ti at_ ar ci ks).mid):InS t d ti at_ ar ci/\aj.gJ ks:=by unfold aj.mid at h;obtain ⟨h1,h2,h3,h4,h7,h8,h9⟩:=h;exact ⟨⟨h1,h2,h3,h4,h7,h8⟩,h9⟩
theorem KV (bf:Int) (st:Bool) (dp:Nat) (k:Int) (t d ti:ByteArray) (a:At) (ar:List ByteArray) (ci:List Ci) (ks:List aj) (l:List aj) (xX:¬ 15<dp) : aj.aR bf st dp (aj.mk k t d ti a ar ci ks::l)=if q0z k t d ti a ar ci ks=false then 5 else if edge k (decide (dp=0)&&st) (decide (dp=0)&&l.isEmpty)=true then 5 else if tF bf false false k t d ti a ar ci ks≠0 then tF bf false false k t d ti a ar ci ks else if aj.aR 0 true (dp+1) ks≠0 then aj.aR 0 true (dp+1) ks else aj.aR k false dp l:=by
 rw [aj.aR,if_neg xX,aj.err];cases hf:q0z k t d ti a ar ci ks with
 | false=>rw [yL _ _ _ _ _ _ _ _ _ _ _ hf];simp
 | true=>
  rw [EL bf _ _ k t d ti a ar ci ks hf];cases he:edge k (decide (dp=0)&&st) (decide (dp=0)&&l.isEmpty) with
  | true=>simp
  | false=>
   simp only [Bool.true_eq_false,Bool.false_eq_true,if_false];by_cases h1:tF bf false false k t d ti a ar ci ks=0
   ·simp only [h1,ne_eq,not_true_eq_false,if_false];rfl
   ·simp only [ne_eq,h1,not_false_eq_true,if_true]
theorem Rz (k:Int) (zd st lb:Bool):edge k (zd&&st) (zd&&lb)=(zd&&((k==2)&&st||((k==2)||(k==3))&&lb)):=by
 unfold edge;have h2:decide (k=2)=(k==2):=by rw [jkj];simp
 have h3:decide (k=3)=(k==3):=by rw [jkj];simp
 rw [h2,h3];cases (k==2)<;>cases (k==3)<;>cases zd<;>cases st<;>cases lb<;>rfl
theorem Oq {w:World} {l:List aj} {a:Option Addr} {cap:Nat} (h:l9 (·<w.heap.size) w 10 (l.map aj.d) a cap) {k:Nat} {kd:Int} {t d ti:ByteArray} {at_:At} {ar:List ByteArray} {ci:List Ci} {ks:List aj} (hk:l[k]?=some (.mk kd t d ti at_ ar ci ks)) : ∃ b off ac ap aa ai ak cc cp ca oG ck,a=some ⟨b,off,none⟩/\SH w b (off+k*10) kd t d ti at_ ar ci ks ac ap aa ai ak cc cp ca oG ck:=by
 obtain ⟨b,off,vc,vp,va,vi,vk,rfl,hok,hbl,hc,hR⟩:=fF h hk;obtain ⟨a1,c1,h1,-⟩:=hR.at_.cls.ay
 obtain ⟨a2,c2,h2,-⟩:=hR.at_.aI.ay
 obtain ⟨a3,c3,h3,-⟩:=hR.args.ay;obtain ⟨a4,c4,h4,-⟩:=hR.dD.ay;obtain ⟨a5,c5,h5,-⟩:=hR.kids.ay;simp only [List.length_map,List.cons.injEq,and_true] at h1 h2 h3 h4 h5;subst h1 h2 h3 h4 h5;exact ⟨b,off,a1,a2,a3,a4,a5,c1,c2,c3,c4,c5,rfl,hc,hR,hbl⟩
theorem rH (n:Nat):∀ (l:List aj) (dp:Nat) (a:Option Addr) (cap:Nat) (w:World),aj.aU l<=n->dp<=1000000->aj.gJ l->Rd (·<w.heap.size) w (aV l) [.slice a l.length cap] -> Calls Tryz.prog 127 #[.slice a l.length cap,.int .i64 (dp:Int)] w (dH (.int .i64 (aj.aR 0 true dp l:Nat)) w):=by
 induction n using Nat.strongRecOn with
 | _ n ih=>
  intro l dp a cap w hn hdp hsm h;obtain ⟨a',c',hv,hs⟩:=Rd.ay h;obtain ⟨rfl,rfl⟩:a'=a/\c'=cap:=by simp at hv;exact ⟨hv.1.symm,hv.2.symm⟩
  have hcap:l.length<=c':=by simpa using hs.le
  have hmx:=hs.max;unfold maxLen at hmx;have HS:=hid hs;have IH:=hid ih;have SM:=hid hsm;obtain ⟨E,hE⟩:∃ E,aj.aR 0 true dp l=E:=⟨_,rfl⟩;rw [hE];have R0:Hid (Oo l dp E w (.int .i64 0) w):=⟨0,Nat.zero_le _,rfl,jk6 _ _,hE⟩;clear hs hv h ih hsm hE;by_cases xX:15<dp
  ·have XJ:decide ((15:Int)<(dp:Int))=true:=by simp;omega
   go_enter Tryz.func127,Tryz.ntmps127;go_wp2
   go_loopw [12] (fun i wr=>Oo l dp E w i wr) (fun i _=>l.length-(intOf i).toNat)
   case atStart=>exact R0.out
   case round=>
    clear R0;obtain ⟨k,hk,rfl,hbel,bK⟩:=hrel;have HB:=hid hbel;by_cases hlt:k<l.length
    ·obtain ⟨x,hx⟩:∃ x,l[k]?=some x:=⟨_,jk5 hlt⟩;have HE:Hid (E=11):=by
      show E=11;rw [<- bK,Qc l k x hx,aj.aR,if_pos xX]
     clear bK hx;go_wp2;go_ret;exact ⟨by rw [HE.out];rfl,HB.out⟩
    ·have HE:Hid (E=0):=by
      show E=0;rw [<- bK,List.drop_of_length_le (by omega),aj.aR]
     clear bK;go_wp2;go_ret;exact ⟨by rw [HE.out];rfl,HB.out⟩
  ·have XJ:decide ((15:Int)<(dp:Int))=false:=by simp;omega
   go_enter Tryz.func127,Tryz.ntmps127;go_wp2
   go_loopw [12] (fun i wr=>Oo l dp E w i wr) (fun i _=>l.length-(intOf i).toNat)
   case atStart=>exact R0.out
   case round=>
    clear R0;obtain ⟨k,hk,rfl,hbel,bK⟩:=hrel;have HB:=hid hbel;by_cases hlt:k<l.length
    ·obtain ⟨x,hx⟩:∃ x,l[k]?=some x:=⟨_,jk5 hlt⟩;have hbs:=KU hx;have hxs:x.mid:=aj.mq SM.out hx;have hsz:=aj.bq l k _ hx;rw [Qc l k x hx] at bK;have hle:(l.drop (k+1)).isEmpty=((k:Int)==(l.length:Int)-1):=by
      rw [jkj];simp;omega
     obtain ⟨kd,t,d,ti,at_,ar,ci,ks⟩:=x;rw [aj.sz] at hsz;obtain ⟨hins,hks⟩:=Ry hxs;rw [KV _ _ _ _ _ _ _ _ _ _ _ _ xX,Rz,hle] at bK;have hbk:BX l (k+1)=kd:=hbs;obtain ⟨b,off,ac,ap,aa,ai,ak,cc,cp,ca,oG,ck,ha,YJ⟩:=Oq HS.out hx;have hP:=YJ.up hbel;have HPR:Hid (k≠0->∃ kv,wr.cell? ⟨b,off+(k-1)*10,none⟩=some (.int .i64 kv)/\BX l k=kv):=by
      intro hk0;obtain ⟨y,hy⟩:∃ y,l[k-1]?=some y:=⟨_,jk5 (show k-1<l.length by omega)⟩;obtain ⟨kv,t',d',KJ,at',ar',jT,ks'⟩:=y;obtain ⟨b',off',WC,WG,aa',ai',WH,cc',cp',ca',Ot,WI,ha',hP'⟩:=Oq HS.out hy;rw [ha] at ha';injection ha' with ha'
      injection ha' with e1 e2 e3
      subst e1 e2;refine ⟨kv,(hP'.up hbel).cells.c0,?_⟩;unfold BX;rw [if_neg hk0,hy];rfl
     subst ha;have HBK:=hid hbk;have HZ0:Hid (k=0->BX l k=0):=fun h=>by unfold BX;rw [if_pos h]
     obtain ⟨bf,hbf⟩:∃ bf,BX l k=bf:=⟨_,rfl⟩;rw [hbf] at bK HPR HZ0;have HP:=hid hP;have LA:=hid (rG wr b (off+k*10) kd t d ti at_ ar ci ks ac ap aa ai ak cc cp ca oG ck hP);have CI:=hid (fun wx (hb:Below wr.heap.size wr wx) hf=>tC wx b (off+k*10) kd bf t d ti at_ ar ci ks ac ap aa ai ak cc cp ca oG ck (hP.up hb) hins hf);have CK:=hid (fun wx (hb:Below wr.heap.size wr wx)=>IH.out (aj.aU ks) (by omega) ks (dp+1) ak ck wx (Nat.le_refl _) (by omega) hks (hP.up hb).rd.kids);have fH:=hid bK;clear hbs hxs hsz hle hins hks hbk hP YJ hbf bK hx hbel;have OO:=hid (fun wx:World=>j6 kd [2,3] wx.heap.size 2 _ (by simp) (Md wx 3 2 3));simp only [List.length_cons,List.length_nil,Nat.reduceAdd] at OO;have YI:([2,3]:List Int).contains kd=((kd==2)||(kd==3)):=by rw [jkj];simp
     rw [YI] at OO;obtain ⟨ed,hed⟩:∃ ed,(decide (dp=0)&&((kd==2)&&decide (k=0)||((kd==2)||(kd==3))&&((k:Int)==(l.length:Int)-1)))=ed:=⟨_,rfl⟩;rw [hed] at fH;have HED:=hid hed;have z1:((dp:Int)==0)=decide (dp=0):=by rw [jkj];simp
     have z3:((k:Int)==0)=decide (k=0):=by rw [jkj];simp
     have Z1:=hid z1;have Z3:=hid z3;clear YI hed z1 z3
     go_upto_if 18 with (fail)
     go_cut [6] (fun s6 wx=>s6=.int .i64 bf/\wr=wx)
     case first=>
      clear OO HED fH CK CI LA HP Z1 Z3;cases k with
      | zero=>
       have hb0:=HZ0.out rfl;have HB0:=hid hb0;clear hb0 HPR HZ0;go_wp2_with fail
       go_meet
       exact ⟨by rw [HB0.out],rfl⟩
      | succ j=>
       obtain ⟨kv,hcell,hkv⟩:=HPR.out (by omega);rw [Nat.add_sub_cancel] at hcell;have HKV:=hid hkv;clear hkv HPR HZ0;go_wp2_with fail
       go_meet
       exact ⟨by rw [HKV.out],rfl⟩
     case rest=>
      obtain ⟨rfl,rfl⟩:=hcut;clear HPR HZ0;cases hf:q0z kd t d ti at_ ar ci ks with
      | false=>
       rw [hf] at LA;have HE:Hid (E=5):=by show E=5;have:=fH.out;rw [if_pos hf] at this;exact this.symm
       clear hf;go_wp2_with fail
       refine LA.out.mono ?_;rintro e w2 ⟨rfl,hb2⟩;go_wp2;go_ret;exact ⟨by rw [HE.out];rfl,aQ HB.out hb2⟩
      | true=>
       rw [hf] at LA;have rW:Hid ((if ed=true then 5 else if tF bf false false kd t d ti at_ ar ci ks≠0 then tF bf false false kd t d ti at_ ar ci ks else if aj.aR 0 true (dp+1) ks≠0 then aj.aR 0 true (dp+1) ks else aj.aR kd false dp (l.drop (k+1)))=E):=by show _=_;have:=fH.out;rw [if_neg (by rw [hf];decide)] at this;exact this
       have XM:=hid (fun wx hb=>CI.out wx hb hf);clear hf fH CI;go_wp2_with fail
       refine LA.out.mono ?_;rintro e w2 ⟨rfl,hb2⟩;have HB2:=hid hb2;obtain ⟨p0,p1,p2,p3,p4,p5,p6,p7,p8,p9⟩:=(HP.out.up hb2).cells;go_upto_region 12 with (fail)
       go_cut [58] (fun s58 wx=>s58=.bool ed/\Below w2.heap.size w2 wx)
       case first=>
        have z1:=Z1.out;have z3:=Z3.out;have OW:=hid (OO.out w2);have WJ:=HED.out;obtain ⟨zd,hzd⟩:∃ zd,decide (dp=0)=zd:=⟨_,rfl⟩;obtain ⟨st,hst⟩:∃ st,decide (k=0)=st:=⟨_,rfl⟩;obtain ⟨b2,hb2'⟩:∃ b2,(kd==2)=b2:=⟨_,rfl⟩;obtain ⟨b3,WK⟩:∃ b3,(kd==3)=b3:=⟨_,rfl⟩;obtain ⟨lb,hlb⟩:∃ lb,((k:Int)==(l.length:Int)-1)=lb:=⟨_,rfl⟩;rw [hzd,hst,hb2',WK,hlb] at WJ;rw [hzd] at z1;rw [hst] at z3;rw [hb2',WK] at OW;have jf6:=hid WJ;clear WJ hzd hst WK OO HED rW CK XM LA Z1 Z3 hb2;cases zd<;>cases b2<;>cases st<;>cases b3<;>cases lb
        all_goals
         go_wp2_with (go_at_call 161;refine OW.out.mono ?_;rintro e w3 ⟨rfl,rfl⟩)
         go_meet
         exact ⟨by rw [<- jf6.out];rfl,by first | exact (jk6 _ _).alloc (Nat.le_refl _) _ | exact jk6 _ _⟩
       case rest=>
        obtain ⟨rfl,hbx⟩:=hcut;have jX:=hid (aQ HB2.out hbx);clear p0 p1 p2 p3 p4 p5 p6 p7 p8 p9 hbx hb2;cases ed with
        | true=>
         have HE:Hid (E=5):=by show E=5;have:=rW.out;rw [if_pos rfl] at this;exact this.symm
         go_wp2;go_ret;exact ⟨by rw [HE.out];rfl,aQ HB.out jX.out⟩
        | false=>
         have uU:Hid ((if tF bf false false kd t d ti at_ ar ci ks≠0 then tF bf false false kd t d ti at_ ar ci ks else if aj.aR 0 true (dp+1) ks≠0 then aj.aR 0 true (dp+1) ks else aj.aR kd false dp (l.drop (k+1)))=E):=by show _=_;have:=rW.out;rw [if_neg (by decide)] at this;exact this
         have Qd:=hid (XM.out _ jX.out);clear rW XM;generalize tF bf false false kd t d ti at_ ar ci ks=E1 at *
         generalize aj.aR 0 true (dp+1) ks=E2 at *;by_cases h1:E1=0
         ·have Io:Hid ((if E2≠0 then E2 else aj.aR kd false dp (l.drop (k+1)))=E):=by
           show _=_;have:=uU.out;rw [if_neg (by simpa using h1)] at this;exact this
          subst h1;go_wp2_with fail
          refine Qd.out.mono ?_;rintro e w4 ⟨rfl,hb4⟩;have AO:=hid (aQ jX.out hb4);obtain ⟨p0,p1,p2,p3,p4,p5,p6,p7,p8,p9⟩:=(HP.out.up AO.out).cells;have Qe:=hid (CK.out _ AO.out);clear Qd hb4 CK uU;by_cases h2:E2=0
          ·have UY:Hid (aj.aR kd false dp (l.drop (k+1))=E):=by
            show _=_;have:=Io.out;rw [if_neg (by simpa using h2)] at this;exact this
           subst h2;go_wp2_with fail
           refine Qe.out.mono ?_;rintro e w5 ⟨rfl,hb5⟩;have xY:=hid (aQ AO.out hb5);clear Qe hb5;go_wp2;go_roundw;case rel=>exact ⟨k+1,by omega,by go_num,aQ HB.out xY.out,by rw [HBK.out,decide_eq_false (by omega)];exact UY.out⟩
           case measure=>simp [intOf];omega
          ·have UY:Hid (E=E2):=by
            show _=_;have:=Io.out;rw [if_pos h2] at this;exact this.symm
           have hn2:((E2:Int) != 0)=true:=by rw [bne_iff_ne];omega
           clear h2;go_wp2_with fail
           refine Qe.out.mono ?_;rintro e w5 ⟨rfl,hb5⟩;have xY:=hid (aQ AO.out hb5);clear Qe hb5;go_wp2;go_ret;exact ⟨by rw [UY.out];rfl,aQ HB.out xY.out⟩
         ·have Io:Hid (E=E1):=by
           show _=_;have:=uU.out;rw [if_pos h1] at this;exact this.symm
          have hn1:((E1:Int) != 0)=true:=by rw [bne_iff_ne];omega
          clear h1;go_wp2_with fail
          refine Qd.out.mono ?_;rintro e w4 ⟨rfl,hb4⟩;have AO:=hid (aQ jX.out hb4);clear Qd hb4;go_wp2;go_ret;exact ⟨by rw [Io.out];rfl,aQ HB.out AO.out⟩
    ·have HE:Hid (E=0):=by
      show E=0;rw [<- bK,List.drop_of_length_le (by omega),aj.aR]
     clear bK;go_wp2;go_ret;exact ⟨by rw [HE.out];rfl,HB.out⟩
open Go.RowKit
theorem qo (l:List aj) (a:Option Addr) (cap:Nat) (w:World) (hsm:aj.gJ l) (h:Rd (·<w.heap.size) w (aV l) [.slice a l.length cap]) : Calls Tryz.prog 77 #[.slice a l.length cap] w (dH (.int .i64 (Fz l:Nat)) w):=by
 have CK:=hid (rH _ l 0 a cap w (Nat.le_refl _) (by omega) hsm h);change Hid (Calls _ _ _ _ (dH (.int .i64 (Fz l:Nat)) w)) at CK;generalize Fz l=E at *;clear h hsm;go_enter Tryz.func77,Tryz.ntmps77;go_wp2_with fail
 refine CK.out.mono ?_;rintro e w1 ⟨rfl,hb⟩;go_wp2;go_ret;exact ⟨rfl,hb⟩
def ny (l:List aj):Nat:=if aj.dZ kR l=true then 5 else Fz l
theorem jO (l:List aj) (a:Option Addr) (cap:Nat) (w:World) (hsm:aj.gJ l) (h:Rd (·<w.heap.size) w (aV l) [.slice a l.length cap]) : Calls Tryz.prog 170 #[.slice a l.length cap] w (dH (.int .i64 (ny l:Nat)) w):=by
 have hb0:Below w.heap.size w (w.alloc (.cells #[.int .i64 2,.int .i64 3] 3)):=(jk6 _ _).alloc (Nat.le_refl _) _;have AK:=hid (rY _ l _ _ [2,3] w.heap.size 2 _ (Nat.le_refl _) (h.up hb0) (by simp) (Md w 3 2 3));simp only [List.length_cons,List.length_nil,Nat.reduceAdd] at AK;have YG:aj.dZ [2,3] l=aj.dZ kR l:=rfl;rw [YG] at AK;have LE:=hid (qo l a cap _ hsm (h.up hb0));have HE:Hid (ny l=if aj.dZ kR l=true then 5 else Fz l):=rfl;generalize ny l=V at *;generalize Fz l=E at *;generalize aj.dZ kR l=K at *;have HB:=hid hb0;clear h hsm YG hb0;cases K
 all_goals
  go_enter Tryz.func170,Tryz.ntmps170;go_wp2_with (first | (go_at_call 203;refine AK.out.mono ?_;rintro e w2 ⟨rfl,rfl⟩) | (go_at_call 77;refine LE.out.mono ?_;rintro e w2 ⟨rfl,hb2⟩))
  go_ret;refine ⟨by rw [HE.out];rfl,?_⟩;first | exact aQ HB.out hb2 | exact HB.out
def qp (lv:Int) (a:At) (li:List aj):Nat:=if lv<1\/6<lv then 9 else if a.err≠0 then a.err else ny li
theorem yM (w:World) (b o:Nat) (k lv:Int) (i t d ti:ByteArray) (at_:At) (li:List aj) (ks:List ah) (ac ap al ak:Option Addr) (cc cp cl ck:Nat) (h:P7 w b o k lv i t d ti at_ li ks ac ap al ak cc cp cl ck) (ha:at_.short) (hsm:aj.gJ li) : Calls Tryz.prog 166 #[.pointer (some ⟨b,o,none⟩)] w (dH (.int .i64 (qp lv at_ li:Nat)) w):=by
 have HP:=hid h;have AC:=hid (gI at_ ac ap cc cp w h.rd.at_ ha);have UE:=hid (fun wx (hb:Below w.heap.size w wx)=>jO li al cl wx hsm (h.rd.line.up hb));obtain ⟨c0,c1,c2,c3,c4,c5,c6,c7,c8,c9,c10⟩:=h.cells;have HE:Hid (qp lv at_ li=if lv<1\/6<lv then 9 else if at_.err≠0 then at_.err else ny li):=rfl;generalize qp lv at_ li=V at *
 generalize at_.err=E at *
 generalize ny li=U at *;clear h ha hsm;by_cases hlv:lv<1\/6<lv
 ·have HV:Hid (V=9):=by show V=9;rw [HE.out,if_pos hlv]
  clear HE;rcases hlv with hlv | hlv
  all_goals
   go_enter Tryz.func166,Tryz.ntmps166;go_wp2;go_ret;exact ⟨by rw [HV.out];rfl,jk6 _ _⟩
 ·have HV:Hid (V=if E≠0 then E else U):=by show V=_;rw [HE.out,if_neg hlv]
  have g1:1<=lv:=by omega
  have g2:lv<=6:=by omega
  clear hlv HE;by_cases h1:E=0
  ·subst h1;go_enter Tryz.func166,Tryz.ntmps166;go_wp2_with fail
   refine AC.out.mono ?_;rintro e w2 ⟨rfl,hb2⟩;obtain ⟨p0,p1,p2,p3,p4,p5,p6,p7,p8,p9,J3⟩:=(HP.out.up hb2).cells;go_wp2_with fail
   refine (UE.out _ hb2).mono ?_;rintro e w3 ⟨rfl,hb3⟩;go_wp2;go_ret;exact ⟨by rw [HV.out];rfl,aQ hb2 hb3⟩
  ·have hn:((E:Int) != 0)=true:=by rw [bne_iff_ne];omega
   have Yo:Hid (V=E):=by show V=E;rw [HV.out,if_pos h1]
   clear h1 HV;go_enter Tryz.func166,Tryz.ntmps166;go_wp2_with fail
   refine AC.out.mono ?_;rintro e w2 ⟨rfl,hb2⟩;go_wp2;go_ret;exact ⟨by rw [Yo.out];rfl,hb2⟩
theorem GU (p:UInt8->Bool):∀ l:List UInt8,l.dropWhile p=[]↔l.all p=true
 | []=>by simp
 | x::l=>by
  rw [List.dropWhile_cons,List.all_cons];cases p x with
  | true=>simpa using GU p l
  | false=>simp
theorem RD (p:UInt8->Bool) (l:List UInt8):∀ x∈l.takeWhile p,p x=true:=by
 induction l with
 | nil=>simp
 | cons y l ih=>
  intro x hx;rw [List.takeWhile_cons] at hx;cases h:p y with
  | true=>
   rw [h] at hx;simp at hx;rcases hx with rfl | hx
   ·exact h
   ·exact ih x hx
  | false=>rw [h] at hx;simp at hx
theorem KW (l cs:List UInt8):Lib.trimS l cs=[]↔l.all (fun c=>cs.contains c)=true:=by
 unfold Lib.trimS Lib.trimLeftS Lib.trimRightS;rw [GU];constructor
 ·intro h;rw [List.all_reverse] at h;have h2:=(List.takeWhile_append_dropWhile (p:=fun c=>cs.contains c) (l:=l.reverse));have h3:(l.reverse).all (fun c=>cs.contains c)=true:=by
   rw [<- h2,List.all_append,Bool.and_eq_true];exact ⟨List.all_eq_true.2 (fun x hx=>(RD _ _ x hx)),h⟩
  rwa [List.all_reverse] at h3
 ·intro h;have h3:(l.reverse).all (fun c=>cs.contains c)=true:=by rwa [List.all_reverse]
  rw [(GU _ _).2 h3];rfl
open Go.RowKit
def sW:List UInt8:=[45,108,99,114]
def Ug (ks:List ah) (n:Nat) (w:World) (vi:Value) (wr:World):Prop:=∃ k:Nat,k<=ks.length/\vi=.int .i64 k/\Below w.heap.size w wr/\(ks.take k).any (fun b=>!decide (b.wL=n))=false
theorem Mf {w:World} {l:List ah} {a:Option Addr} {cap:Nat} (h:l9 (·<w.heap.size) w 11 (l.map ah.d) a cap) {k:Nat} {kd lv:Int} {i t d ti:ByteArray} {at_:At} {li:List aj} {ks:List ah} (hk:l[k]?=some (.mk kd lv i t d ti at_ li ks)) : ∃ b off ac ap al ak cc cp cl ck,a=some ⟨b,off,none⟩/\P7 w b (off+k*11) kd lv i t d ti at_ li ks ac ap al ak cc cp cl ck:=by
 obtain ⟨b,off,vc,vp,vl,vk,rfl,hok,hbl,hc,hR⟩:=F6 h hk;obtain ⟨a1,c1,h1,-⟩:=hR.at_.cls.ay
 obtain ⟨a2,c2,h2,-⟩:=hR.at_.aI.ay
 obtain ⟨a3,c3,h3,-⟩:=hR.line.ay;obtain ⟨a5,c5,h5,-⟩:=hR.kids.ay;simp only [List.length_map,List.cons.injEq,and_true] at h1 h2 h3 h5;subst h1 h2 h3 h5;exact ⟨b,off,a1,a2,a3,a5,c1,c2,c3,c5,rfl,hc,hR,hbl⟩
theorem WL (l:List UInt8):(⟨l.toArray⟩:ByteArray)=ByteArray.empty↔l=[]:=by
 constructor
 ·intro h;have:=congrArg (fun b:ByteArray=>b.data.toList) h;simpa using this
 ·rintro rfl;rfl
theorem xg (w:World) (b o:Nat) (k lv:Int) (i t d ti:ByteArray) (at_:At) (li:List aj) (ks:List ah) (ac ap al ak:Option Addr) (cc cp cl ck:Nat) (h:P7 w b o k lv i t d ti at_ li ks ac ap al ak cc cp cl ck) (hi:i.size<=1000000000) : Calls Tryz.prog 169 #[.pointer (some ⟨b,o,none⟩)] w (dH (.int .i64 (jo i ks:Nat)) w):=by
 have HP:=hid h;obtain ⟨a',c',hv,hs⟩:=Rd.ay h.rd.kids;obtain ⟨rfl,rfl⟩:a'=ak/\c'=ck:=by simp at hv;exact ⟨hv.1.symm,hv.2.symm⟩
 have hcap:ks.length<=c':=by simpa using hs.le
 have hmx:=hs.max;unfold maxLen at hmx;have HS:=hid hs;have e3:=uS ks;have h116:(Tryz.prog.info? 206).map (fun i=>(i.zero,i.size))=some (some (.agg (Array.replicate 256 (.bool false))),256):=by kernel_rfl
 have TR:=hid (fun w=>Any.strings_Trim_laid Tryz.lays160 h116 i ⟨#[45,108,99,114]⟩ w (by omega) (by decide) (ascii_of_all (by decide)));have Yj:Hid (∀ w,Calls Tryz.prog 202 #[.string i,.string ⟨#[45,108,99,114]⟩] w fun e w'=>e=.returned (.string ⟨(Lib.trimS i.data.toList sW).toArray⟩)/\Below w.heap.size w w'):=TR.out;have HN:=hid (KW i.data.toList sW);have HBN:=hid (WL (Lib.trimS i.data.toList sW));have HE:Hid (jo i ks=if 32<i.size then 3 else if aZ i=true then 5 else if i.data.toList.any (fun c=>!(sW:List UInt8).contains c) then 5
   else if ks.isEmpty=true then 8 else if ks.any (fun b=>!decide (b.wL=i.size)) then 15 else 0):=rfl
 obtain ⟨c0,c1,c2,c3,c4,c5,c6,c7,c8,c9,c10⟩:=h.cells;generalize jo i ks=V at *;obtain ⟨trs,ja4⟩:∃ trs,trs=(⟨(Lib.trimS i.data.toList sW).toArray⟩:ByteArray):=⟨_,rfl⟩;rw [<- ja4] at Yj HBN;clear hv hs h TR ja4 h116;by_cases h32:32<i.size
 ·have HV:Hid (V=3):=by show V=3;rw [HE.out,if_pos h32]
  have q:decide ((32:Int)<(i.size:Int))=true:=by simp;omega
  clear HE;go_enter Tryz.func169,Tryz.ntmps169;go_wp2;go_ret;exact ⟨by rw [HV.out];rfl,jk6 _ _⟩
 have q:decide ((32:Int)<(i.size:Int))=false:=by simp;omega
 rcases je i with rfl | ⟨i1,i2,i3,i4⟩
 ·have HV:Hid (V=5):=by show V=5;rw [HE.out,if_neg h32,if_pos (by decide)]
  clear HE;go_enter Tryz.func169,Tryz.ntmps169;go_wp2;go_ret;exact ⟨by rw [HV.out];rfl,jk6 _ _⟩
 have hany:(i.data.toList.any fun c=>!(sW:List UInt8).contains c)=!(i.data.toList.all fun c=>(sW:List UInt8).contains c):=by rw [List.all_eq_not_any_not];simp
 cases hal:i.data.toList.all fun c=>(sW:List UInt8).contains c with
 | false=>
  have HV:Hid (V=5):=by show V=5;rw [HE.out,if_neg h32,if_neg (by rw [i4];decide),if_pos (by rw [hany,hal];rfl)]
  have hne:trs≠ByteArray.empty:=fun e=>by
   have:=HN.out.1 (HBN.out.1 e);rw [hal] at this;cases this
  rcases je trs with e | ⟨t1,t2,t3,t4⟩
  ·exact absurd e hne
  clear HE HN HBN hne hany hal;go_enter Tryz.func169,Tryz.ntmps169;go_wp2_with fail
  refine (Yj.out _).mono ?_;rintro e w2 ⟨rfl,hb2⟩;go_wp2;go_ret;exact ⟨by rw [HV.out];rfl,hb2⟩
 | true=>
  have he:trs=ByteArray.empty:=HBN.out.2 (HN.out.2 hal);subst he;have HV:Hid (V=if ks.isEmpty=true then 8 else if ks.any (fun b=>!decide (b.wL=i.size)) then 15 else 0):=by show V=_;rw [HE.out,if_neg h32,if_neg (by rw [i4];decide),if_neg (by rw [hany,hal];decide)]
  clear HE HN HBN hany hal;cases hk0:ks.isEmpty with
  | true=>
   rw [hk0] at e3;have Yo:Hid (V=8):=by show V=8;rw [HV.out,if_pos hk0]
   clear hk0;go_enter Tryz.func169,Tryz.ntmps169;go_wp2_with fail
   refine (Yj.out _).mono ?_;rintro e w2 ⟨rfl,hb2⟩;obtain ⟨p0,p1,p2,p3,p4,p5,p6,p7,p8,p9,J3⟩:=(HP.out.up hb2).cells;go_wp2;go_ret;exact ⟨by rw [Yo.out];rfl,hb2⟩
  | false=>
   rw [hk0] at e3;have Yo:Hid (V=if ks.any (fun b=>!decide (b.wL=i.size)) then 15 else 0):=by show V=_;rw [HV.out,if_neg (by rw [hk0];decide)]
   clear hk0 HV;go_enter Tryz.func169,Tryz.ntmps169;go_wp2_with fail
   refine (Yj.out _).mono ?_;rintro e w2 ⟨rfl,hb2⟩;obtain ⟨p0,p1,p2,p3,p4,p5,p6,p7,p8,p9,J3⟩:=(HP.out.up hb2).cells;have R0:Hid (Ug ks i.size w (.int .i64 0) w2):=⟨0,Nat.zero_le _,rfl,hb2,by simp⟩;clear hb2;go_wp2
   go_loopw [34] (fun i' wr=>Ug ks i.size w i' wr) (fun i' _=>ks.length-(intOf i').toNat)
   case atStart=>exact R0.out
   case round=>
    clear R0 p0 p1 p2 p3 p4 p5 p6 p7 p8 p9 J3;obtain ⟨j,hj,rfl,hbel,hno⟩:=hrel;have HB:=hid hbel;have xU:=hid hno;by_cases hlt:j<ks.length
    ·obtain ⟨x,hx⟩:∃ x,ks[j]?=some x:=⟨_,jk5 hlt⟩;have rX:=hid (Dv (fun b:ah=>!decide (b.wL=i.size)) hx);have HAT:=hid (Mc (fun b:ah=>!decide (b.wL=i.size)) hx);obtain ⟨kd',Ua,i',t',d',KJ,at',li',ks'⟩:=x;obtain ⟨b',off',WC,WG,al',WH,cc',cp',cl',WI,ha',hP'⟩:=Mf HS.out hx;have k10:=(hP'.up hbel).cells.c10;obtain ⟨p0,p1,p2,p3,p4,p5,p6,p7,p8,p9,J3⟩:=(HP.out.up hbel).cells;subst ha';have HKN:Hid ((ah.mk kd' Ua i' t' d' KJ at' li' ks').wL=ks'.length):=rfl;clear hP' hx hno hbel;by_cases hq:ks'.length=i.size
     ·have q1:((ks'.length:Int) != (i.size:Int))=false:=by rw [bne_eq_false_iff_eq];omega
      have HQ:=hid hq;clear hq;go_wp2_with fail
      go_quiet (fail)
      go_wp2;go_roundw;case rel=>exact ⟨j+1,by omega,by go_num,dL HB.out _,by rw [rX.out,xU.out,HKN.out,HQ.out];simp⟩
      case measure=>simp [intOf];omega
     ·have q1:((ks'.length:Int) != (i.size:Int))=true:=by rw [bne_iff_ne];omega
      have hv:V=15:=by rw [Yo.out,if_pos (HAT.out (by rw [HKN.out];simp [hq]))]
      have HV3:=hid hv;clear hq hv;go_wp2_with fail
      go_quiet (fail)
      go_wp2;go_ret;exact ⟨by rw [HV3.out];rfl,dL HB.out _⟩
    ·have hv:V=0:=by
      have:=xU.out;rw [List.take_of_length_le (by omega)] at this;rw [Yo.out,if_neg (by rw [this];decide)]
     have HV3:=hid hv;clear hv hno hbel;go_wp2;go_ret;exact ⟨by rw [HV3.out];rfl,HB.out⟩
open Go.RowKit
def qw (cl:ByteArray->Bool) (t:ByteArray) (a:At):Nat:=if lV t=false then 17 else if cl t=true then 5 else a.err
def rZ (cl:ByteArray->Bool):Prop:=∀ (w:World) (b o:Nat) (k lv:Int) (i t d ti:ByteArray) (at_:At) (li:List aj) (ks:List ah) (ac ap al ak:Option Addr) (cc cp cl' ck:Nat),
 P7 w b o k lv i t d ti at_ li ks ac ap al ak cc cp cl' ck->t.size<=300->at_.short->Calls Tryz.prog 168 #[.pointer (some ⟨b,o,none⟩)] w (dH (.int .i64 (qw cl t at_:Nat)) w)
structure BlM (i t d ti:ByteArray) (a:At) (li:List aj):Prop where
 i:i.size<=300
 t:t.size<=300
 d:d.size<=300
 ti:ti.size<=300
 at_:a.short
 li:aj.gJ li
theorem BZ {k lv:Int} {i t d ti:ByteArray} {a:At} {li:List aj} {ks:List ah} (h:Cq k lv i t d ti a li ks=true):1<=k/\k<=15/\(k=2\/k=8\/lv=0):=by
 unfold Cq at h;simp only [Bool.and_eq_true,Bool.or_eq_true,decide_eq_true_eq] at h;obtain ⟨⟨⟨⟨⟨⟨⟨⟨h1,h2⟩,h3⟩,-⟩,-⟩,-⟩,-⟩,-⟩,-⟩:=h;refine ⟨h1,h2,?_⟩;rcases h3 with h | h
 ·simp at h;omega
 ·exact .inr (.inr h)
theorem uT (cl:ByteArray->Bool) (w:World) (b o:Nat) (k lv:Int) (i t d ti:ByteArray) (at_:At) (li:List aj) (ks:List ah) (ac ap al ak:Option Addr) (cc cp cl' ck:Nat) (h:P7 w b o k lv i t d ti at_ li ks ac ap al ak cc cp cl' ck) (hs:BlM i t d ti at_ li) (hf:Cq k lv i t d ti at_ li ks=true) (hm:k=4->rZ cl) : Calls Tryz.prog 134 #[.pointer (some ⟨b,o,none⟩)] w (dH (.int .i64 (tX cl k lv i t d ti at_ li ks:Nat)) w):=by
 have HP:=hid h;obtain ⟨f1,f2,f3⟩:=BZ hf;obtain ⟨-,l4,m4⟩:=fI h.rd.line;obtain ⟨-,l5,m5⟩:=fI h.rd.kids;unfold maxLen at m4 m5;have LE:=hid (qo li al cl' w hs.li h.rd.line);have UE:=hid (jO li al cl' w hs.li h.rd.line);have HDE:=hid (yM w b o k lv i t d ti at_ li ks ac ap al ak cc cp cl' ck h hs.at_ hs.li);have TBE:=hid (xg w b o k lv i t d ti at_ li ks ac ap al ak cc cp cl' ck h (by have:=hs.i;omega));have MTE:=hid (fun hk=>hm hk w b o k lv i t d ti at_ li ks ac ap al ak cc cp cl' ck h hs.t hs.at_);have CLI:=hid (fun w=>L9 i w (by have:=hs.i;omega));have CTR:=hid (fun w=>iT i w (by have:=hs.i;omega));have CTX:=hid (fun w=>oq t w (by have:=hs.t;omega));have CNM:=hid (fun w=>Lx i w (by have:=hs.i;omega));have CLB:=hid (yV i w (by have:=hs.i;omega));have CLD:=hid (fun w=>L9 d w (by have:=hs.d;omega));have CLT:=hid (fun w=>L9 ti w (by have:=hs.ti;omega));have AC:=hid (gI at_ ac ap cc cp w h.rd.at_ hs.at_);obtain ⟨c0,c1,c2,c3,c4,c5,c6,c7,c8,c9,c10⟩:=h.cells;have e2:=uS li;have e3:=uS ks;have HE:Hid (tX cl k lv i t d ti at_ li ks=if k=1 then (if li.isEmpty=true then 8 else Fz li)
 else if k=2 then qp lv at_ li
 else if k=12 then ny li
 else if k=3 then (if iD i=false\/trimS i=false\/lV t=false then 17 else 0)
 else if k=4 then qw cl t at_
 else if k=7\/k=8 then (if ks.isEmpty=true then 8 else if k=8/\(lv<0\/999999999<lv) then 9 else 0)
 else if k=10 then jo i ks
 else if k=13\/k=14 then (if jB i=false then 6 else at_.err)
 else if k=15 then (if eO i=false then 6 else if iD d=false\/iD ti=false then 17 else 0)
 else 0):=rfl
 generalize tX cl k lv i t d ti at_ li ks=V at *
 generalize Fz li=E1 at *;generalize qp lv at_ li=E2 at *
 generalize ny li=E3 at *;generalize qw cl t at_=E4 at *
 generalize jo i ks=E5 at *;generalize at_.err=E6 at *
 generalize iD i=b1 at *;generalize trimS i=b2 at *;generalize lV t=b3 at *;generalize jB i=b4 at *;generalize eO i=b5 at *;generalize iD d=b6 at *;generalize iD ti=b7 at *;generalize li.isEmpty=bl at *;generalize ks.isEmpty=bk at *;clear h hs hf hm;rcases EK k with rfl | rfl | rfl | rfl | rfl | rfl | rfl | rfl | rfl | rfl | rfl | rfl | rfl | rfl | rfl | hk
 case inr.inr.inr.inr.inr.inr.inr.inr.inr.inr.inr.inr.inr.inr.inr=>omega
 case inr.inr.inr.inr.inr.inr.inl=>
  have hlv:lv=0:=by omega
  subst hlv;clear f1 f2 f3;go_enter Tryz.func134,Tryz.ntmps134;go_wp2;all_goals
   go_ret;refine ⟨jD ?_,jk6 _ _⟩
   (try simp only [Bool.not_eq_true',Bool.not_eq_false'] at *)
   rw [HE.out];simp [*]
 case inr.inr.inr.inr.inr.inr.inr.inl=>
  clear f1 f2 f3;by_cases hlv:lv<0\/999999999<lv
  ·rcases hlv with hlv | hlv
   all_goals
    go_enter Tryz.func134,Tryz.ntmps134;go_wp2;all_goals
     go_ret;refine ⟨jD ?_,jk6 _ _⟩
     (try simp only [Bool.not_eq_true',Bool.not_eq_false'] at *)
     rw [HE.out];simp [*]
  ·have g1:0<=lv:=by omega
   have g2:lv<=999999999:=by omega
   have HG:Hid (¬ (lv<0\/999999999<lv)):=hlv;clear hlv;go_enter Tryz.func134,Tryz.ntmps134;go_wp2;all_goals
    go_ret;refine ⟨jD ?_,jk6 _ _⟩
    (try simp only [Bool.not_eq_true',Bool.not_eq_false'] at *)
    rw [HE.out];simp [*,HG.out]
 all_goals
  clear f1 f2 f3;go_enter Tryz.func134,Tryz.ntmps134;go_wp2_with (first | (go_at_call 77;refine LE.out.mono ?_;rintro e w2 ⟨rfl,hb3⟩) | (go_at_call 166;refine HDE.out.mono ?_;rintro e w2 ⟨rfl,hb3⟩) | (go_at_call 168;refine (MTE.out (by simp)).mono ?_;rintro e w2 ⟨rfl,hb3⟩) | (go_at_call 169;refine TBE.out.mono ?_;rintro e w2 ⟨rfl,hb3⟩) | (go_at_call 170;refine UE.out.mono ?_;rintro e w2 ⟨rfl,hb3⟩) | (go_at_call 95;refine AC.out.mono ?_;rintro e w2 ⟨rfl,hb3⟩) | (go_at_call 52;refine (CNM.out _).mono ?_;rintro e w2 ⟨rfl,rfl⟩) | (go_at_call 171;refine CLB.out.mono ?_;rintro e w2 ⟨rfl,hb1⟩;obtain ⟨p0,p1,p2,p3,p4,p5,p6,p7,p8,p9,J3⟩:=(HP.out.up hb1).cells) | (go_at_call 94;refine (CTR.out _).mono ?_;rintro e w2 ⟨rfl,rfl⟩) | (go_at_call 167;refine (CTX.out _).mono ?_;rintro e w2 ⟨rfl,q3,rfl⟩) | (go_at_call 93;(with_reducible refine (CLI.out _).mono ?_);rintro e w2 ⟨rfl,q,rfl⟩) | (go_at_call 93;(with_reducible refine (CLD.out _).mono ?_);rintro e w2 ⟨rfl,q,rfl⟩) | (go_at_call 93;(with_reducible refine (CLT.out _).mono ?_);rintro e w2 ⟨rfl,q2,rfl⟩))
  all_goals
   go_ret;refine ⟨jD ?_,?_⟩
   ·(try simp only [Bool.not_eq_true',Bool.not_eq_false'] at *)
    rw [HE.out];simp [*]
   ·first
    | exact hb3 | exact dL hb1 _ | exact hb1 | exact dL (jk6 _ _) _ | exact jk6 _ _
open Go.RowKit
open Go.RowKit
open Go.RowKit
open Go.RowKit
end Go.Proofs.YtkfnkeflalcphaaGreatDoor

