/- The contract of tree.checkInlines and Line: the first error of inlines. Contracts of tree.Line, checkUnbroken, checkHead, checkTable. Contracts of tree.checkTable, checkBlock. The contract of tree.checkBlock; of a formula's check it asks the contract. -/
import Derived.Test.YtnmldmofggkoeaaGreatDoorKChQ
import Derived.Shelf.Strings.SlTrimAscii
set_option maxHeartbeats 8000000
set_option maxRecDepth 100000
open Go.Lib (hid)
namespace Go.Proofs.YtnmldmofggkoeaaGreatDoor
open List renaming getElem?_eq_getElem->YG
open Go.RowKit.Below renaming refl->YH
open Nat renaming le_refl->YI
open Bool renaming eq_iff_iff->YL
open Go renaming World->Zu
open Go.RowKit
set_option linter.unusedVariables false
set_option linter.unusedSimpArgs false
def edge (k:Int) (first last:Bool):Bool:=(decide (k=2)&&first)||((decide (k=2)||decide (k=3))&&last)
theorem vT (bf:Int) (first last:Bool) (k:Int) (t d ti:ByteArray) (a:At) (ar:List ByteArray) (ci:List Ci) (ks:List ah) (hf:zM k t d ti a ar ci ks=true) : rF bf first last k t d ti a ar ci ks=if edge k first last=true then 5 else rF bf false false k t d ti a ar ci ks:=by
 unfold rF edge;rw [hf];simp only [Bool.true_eq_false,if_false];by_cases h1:k=1\/k=4\/k=5
 ·have h2:k≠2:=by omega
  have h3:k≠3:=by omega
  simp [h1,h2,h3]
 ·by_cases h2:k=2
  ·subst h2;cases first<;>cases last<;>simp
  ·by_cases h3:k=3
   ·subst h3;cases first<;>cases last<;>simp
   ·simp [h1,h2,h3]
theorem qH (bf:Int) (first last:Bool) (k:Int) (t d ti:ByteArray) (a:At) (ar:List ByteArray) (ci:List Ci) (ks:List ah) (hf:zM k t d ti a ar ci ks=false):rF bf first last k t d ti a ar ci ks=5:=by unfold rF;rw [if_pos hf]
def sS (l:List ah) (k:Nat):Int:=if k=0 then 0 else match l[k-1]? with | some x=>x.kd | none=>0
def Ej (l:List ah) (dp:Nat) (E:Nat) (w:Zu) (vi:Value) (wr:Zu):Prop:=∃ k:Nat,k<=l.length/\vi=.int .i64 k/\Below w.heap.size w wr/\ah.aN (sS l k) (decide (k=0)) dp (l.drop k)=E
theorem Bu {l:List ah} {k:Nat} {x:ah} (h:l[k]?=some x):sS l (k+1)=x.kd:=by unfold sS;rw [if_neg (by omega),Nat.add_sub_cancel,h]
mutual
def ah.mid:ah->Prop
 | .mk k t d ti a ar ci ks=>t.size<=1000000/\d.size<=1000000/\ti.size<=1000000/\a.short/\(∀ c∈ar,c.size<=5000)/\(∀ c∈ci,c.key.size<=5000/\c.pre.size<=5000/\c.suf.size<=5000)/\ah.bW ks
def ah.bW:List ah->Prop
 | []=>True
 | x::l=>x.mid/\ah.bW l
end
mutual
theorem ah.yH:∀ (x:ah),x.small->x.mid
 | .mk k t d ti a ar ci ks,h=>by
  rw [ah.small] at h;rw [ah.mid];obtain ⟨h1,h2,h3,h4,h5,h6,h7,h8,h9⟩:=h;exact ⟨by omega,by omega,by omega,h4,h7,h8,ah.eu ks h9⟩
theorem ah.eu:∀ (l:List ah),ah.aQ l->ah.bW l
 | [],_=>by rw [ah.bW];trivial
 | x::l,h=>by
  rw [ah.aQ] at h;rw [ah.bW];exact ⟨ah.yH x h.1,ah.eu l h.2⟩
end
theorem ah.ji:∀ {l:List ah} {k:Nat} {x:ah},ah.bW l->l[k]?=some x->x.mid
 | [],_,_,_,h=>by simp at h
 | y::l,0,x,hb,h=>by simp at h;subst h;rw [ah.bW] at hb;exact hb.1
 | y::l,k+1,x,hb,h=>by rw [ah.bW] at hb;exact ah.ji (l:=l) (k:=k) hb.2 (by simpa using h)
theorem Gz {kd:Int} {t d ti:ByteArray} {at_:At} {ar:List ByteArray} {ci:List Ci} {ks:List ah} (h:(ah.mk kd t d ti at_ ar ci ks).mid):Qf t d ti at_ ar ci/\ah.bW ks:=by unfold ah.mid at h;obtain ⟨h1,h2,h3,h4,h7,h8,h9⟩:=h;exact ⟨⟨h1,h2,h3,h4,h7,h8⟩,h9⟩
theorem Bv (bf:Int) (st:Bool) (dp:Nat) (k:Int) (t d ti:ByteArray) (a:At) (ar:List ByteArray) (ci:List Ci) (ks:List ah) (l:List ah) (GA:¬ 15<dp) : ah.aN bf st dp (ah.mk k t d ti a ar ci ks::l)=if zM k t d ti a ar ci ks=false then 5 else if edge k (decide (dp=0)&&st) (decide (dp=0)&&l.isEmpty)=true then 5 else if rF bf false false k t d ti a ar ci ks≠0 then rF bf false false k t d ti a ar ci ks else if ah.aN 0 true (dp+1) ks≠0 then ah.aN 0 true (dp+1) ks else ah.aN k false dp l:=by
 rw [ah.aN,if_neg GA,ah.err];cases hf:zM k t d ti a ar ci ks with
 | false=>rw [qH _ _ _ _ _ _ _ _ _ _ _ hf];simp
 | true=>
  rw [vT bf _ _ k t d ti a ar ci ks hf];cases he:edge k (decide (dp=0)&&st) (decide (dp=0)&&l.isEmpty) with
  | true=>simp
  | false=>
   simp only [Bool.true_eq_false,Bool.false_eq_true,if_false];by_cases h1:rF bf false false k t d ti a ar ci ks=0
   ·simp only [h1,ne_eq,not_true_eq_false,if_false];rfl
   ·simp only [ne_eq,h1,not_false_eq_true,if_true]
theorem GD (k:Int) (zd st lb:Bool):edge k (zd&&st) (zd&&lb)=(zd&&((k==2)&&st||((k==2)||(k==3))&&lb)):=by
 unfold edge;have h2:decide (k=2)=(k==2):=by rw [YL];simp
 have h3:decide (k=3)=(k==3):=by rw [YL];simp
 rw [h2,h3];cases (k==2)<;>cases (k==3)<;>cases zd<;>cases st<;>cases lb<;>rfl
theorem El {w:Zu} {l:List ah} {a:Option Addr} {cap:Nat} (h:jV (·<w.heap.size) w 10 (l.map ah.d) a cap) {k:Nat} {kd:Int} {t d ti:ByteArray} {at_:At} {ar:List ByteArray} {ci:List Ci} {ks:List ah} (hk:l[k]?=some (.mk kd t d ti at_ ar ci ks)) : ∃ b off ac ap aa ai ak cc cp ca qE ck,a=some ⟨b,off,none⟩/\IL w b (off+k*10) kd t d ti at_ ar ci ks ac ap aa ai ak cc cp ca qE ck:=by
 obtain ⟨b,off,vc,vp,va,vi,vk,rfl,hok,hbl,hc,hR⟩:=gT h hk;obtain ⟨a1,c1,h1,-⟩:=hR.at_.cls.aD
 obtain ⟨a2,c2,h2,-⟩:=hR.at_.aT.aD
 obtain ⟨a3,c3,h3,-⟩:=hR.args.aD;obtain ⟨a4,c4,h4,-⟩:=hR.gq.aD;obtain ⟨a5,c5,h5,-⟩:=hR.kids.aD;simp only [List.length_map,List.cons.injEq,and_true] at h1 h2 h3 h4 h5;subst h1 h2 h3 h4 h5;exact ⟨b,off,a1,a2,a3,a4,a5,c1,c2,c3,c4,c5,rfl,hc,hR,hbl⟩
theorem l6 (n:Nat):∀ (l:List ah) (dp:Nat) (a:Option Addr) (cap:Nat) (w:Zu),ah.aW l<=n->dp<=1000000->ah.bW l->Rd (·<w.heap.size) w (fq l) [.slice a l.length cap] -> Calls Tryz.prog 113 #[.slice a l.length cap,.int .i64 (dp:Int)] w (dO (.int .i64 (ah.aN 0 true dp l:Nat)) w):=by
 induction n using Nat.strongRecOn with
 | _ n ih=>
  intro l dp a cap w hn hdp hsm h;obtain ⟨a',c',hv,hs⟩:=Rd.aD h;obtain ⟨rfl,rfl⟩:a'=a/\c'=cap:=by simp at hv;exact ⟨hv.1.symm,hv.2.symm⟩
  have hcap:l.length<=c':=by simpa using hs.le
  have hmx:=hs.max;unfold maxLen at hmx;have HS:=hid hs;have IH:=hid ih;have SM:=hid hsm;obtain ⟨E,hE⟩:∃ E,ah.aN 0 true dp l=E:=⟨_,rfl⟩;rw [hE];have R0:Hid (Ej l dp E w (.int .i64 0) w):=⟨0,Nat.zero_le _,rfl,YH _ _,hE⟩;clear hs hv h ih hsm hE;by_cases GA:15<dp
  ·have RJ:decide ((15:Int)<(dp:Int))=true:=by simp;omega
   go_enter Tryz.func113,Tryz.ntmps113;go_wp2
   go_loopw [12] (fun i wr=>Ej l dp E w i wr) (fun i _=>l.length-(intOf i).toNat)
   case atStart=>exact R0.out
   case round=>
    clear R0;obtain ⟨k,hk,rfl,hbel,aH⟩:=hrel;have HB:=hid hbel;by_cases hlt:k<l.length
    ·obtain ⟨x,hx⟩:∃ x,l[k]?=some x:=⟨_,YG hlt⟩;have HE:Hid (E=11):=by
      show E=11;rw [<- aH,Fv l k x hx,ah.aN,if_pos GA]
     clear aH hx;go_wp2;go_ret;exact ⟨by rw [HE.out];rfl,HB.out⟩
    ·have HE:Hid (E=0):=by
      show E=0;rw [<- aH,List.drop_of_length_le (by omega),ah.aN]
     clear aH;go_wp2;go_ret;exact ⟨by rw [HE.out];rfl,HB.out⟩
  ·have RJ:decide ((15:Int)<(dp:Int))=false:=by simp;omega
   go_enter Tryz.func113,Tryz.ntmps113;go_wp2
   go_loopw [12] (fun i wr=>Ej l dp E w i wr) (fun i _=>l.length-(intOf i).toNat)
   case atStart=>exact R0.out
   case round=>
    clear R0;obtain ⟨k,hk,rfl,hbel,aH⟩:=hrel;have HB:=hid hbel;by_cases hlt:k<l.length
    ·obtain ⟨x,hx⟩:∃ x,l[k]?=some x:=⟨_,YG hlt⟩;have hbs:=Bu hx;have hxs:x.mid:=ah.ji SM.out hx;have hsz:=ah.cZ l k _ hx;rw [Fv l k x hx] at aH;have hle:(l.drop (k+1)).isEmpty=((k:Int)==(l.length:Int)-1):=by
      rw [YL];simp;omega
     obtain ⟨kd,t,d,ti,at_,ar,ci,ks⟩:=x;rw [ah.sz] at hsz;obtain ⟨hins,hks⟩:=Gz hxs;rw [Bv _ _ _ _ _ _ _ _ _ _ _ _ GA,GD,hle] at aH;have hbk:sS l (k+1)=kd:=hbs;obtain ⟨b,off,ac,ap,aa,ai,ak,cc,cp,ca,qE,ck,ha,NU⟩:=El HS.out hx;have hP:=NU.up hbel;have Kj:Hid (k≠0->∃ kv,wr.cell? ⟨b,off+(k-1)*10,none⟩=some (.int .i64 kv)/\sS l k=kv):=by
      intro hk0;obtain ⟨y,hy⟩:∃ y,l[k-1]?=some y:=⟨_,YG (show k-1<l.length by omega)⟩;obtain ⟨kv,t',d',Uj,at',Yg,Yh,ks'⟩:=y;obtain ⟨b',off',WQ,WT,Yi,Yj,WU,cc',cp',Yk,WV,WW,ha',hP'⟩:=El HS.out hy;rw [ha] at ha';injection ha' with ha'
      injection ha' with e1 e2 e3
      subst e1 e2;refine ⟨kv,(hP'.up hbel).cells.c0,?_⟩;unfold sS;rw [if_neg hk0,hy];rfl
     subst ha;have WY:=hid hbk;have HZ0:Hid (k=0->sS l k=0):=fun h=>by unfold sS;rw [if_pos h]
     obtain ⟨bf,hbf⟩:∃ bf,sS l k=bf:=⟨_,rfl⟩;rw [hbf] at aH Kj HZ0;have HP:=hid hP;have Cc:=hid (lY wr b (off+k*10) kd t d ti at_ ar ci ks ac ap aa ai ak cc cp ca qE ck hP);have CI:=hid (fun wx (hb:Below wr.heap.size wr wx) hf=>nu wx b (off+k*10) kd bf t d ti at_ ar ci ks ac ap aa ai ak cc cp ca qE ck (hP.up hb) hins hf);have CK:=hid (fun wx (hb:Below wr.heap.size wr wx)=>IH.out (ah.aW ks) (by omega) ks (dp+1) ak ck wx (YI _) (by omega) hks (hP.up hb).rd.kids);have bB:=hid aH;clear hbs hxs hsz hle hins hks hbk hP NU hbf aH hx hbel;have OO:=hid (fun wx:Zu=>gD kd [2,3] wx.heap.size 2 _ (by simp) (Eb wx 3 2 3));simp only [List.length_cons,List.length_nil,Nat.reduceAdd] at OO;have NS:([2,3]:List Int).contains kd=((kd==2)||(kd==3)):=by rw [YL];simp
     rw [NS] at OO;obtain ⟨ed,hed⟩:∃ ed,(decide (dp=0)&&((kd==2)&&decide (k=0)||((kd==2)||(kd==3))&&((k:Int)==(l.length:Int)-1)))=ed:=⟨_,rfl⟩;rw [hed] at bB;have RL:=hid hed;have z1:((dp:Int)==0)=decide (dp=0):=by rw [YL];simp
     have z3:((k:Int)==0)=decide (k=0):=by rw [YL];simp
     have Z1:=hid z1;have Z3:=hid z3;clear NS hed z1 z3
     go_upto_if 18 with (fail)
     go_cut [6] (fun s6 wx=>s6=.int .i64 bf/\wr=wx)
     case first=>
      clear OO RL bB CK CI Cc HP Z1 Z3;cases k with
      | zero=>
       have hb0:=HZ0.out rfl;have HB0:=hid hb0;clear hb0 Kj HZ0;go_wp2_with fail
       go_meet
       exact ⟨by rw [HB0.out],rfl⟩
      | succ j=>
       obtain ⟨kv,hcell,hkv⟩:=Kj.out (by omega);rw [Nat.add_sub_cancel] at hcell;have WZ:=hid hkv;clear hkv Kj HZ0;go_wp2_with fail
       go_meet
       exact ⟨by rw [WZ.out],rfl⟩
     case rest=>
      obtain ⟨rfl,rfl⟩:=hcut;clear Kj HZ0;cases hf:zM kd t d ti at_ ar ci ks with
      | false=>
       rw [hf] at Cc;have HE:Hid (E=5):=by show E=5;have:=bB.out;rw [if_pos hf] at this;exact this.symm
       clear hf;go_wp2_with fail
       refine Cc.out.mono ?_;rintro e w2 ⟨rfl,hb2⟩;go_wp2;go_ret;exact ⟨by rw [HE.out];rfl,aM HB.out hb2⟩
      | true=>
       rw [hf] at Cc;have iE:Hid ((if ed=true then 5 else if rF bf false false kd t d ti at_ ar ci ks≠0 then rF bf false false kd t d ti at_ ar ci ks else if ah.aN 0 true (dp+1) ks≠0 then ah.aN 0 true (dp+1) ks else ah.aN kd false dp (l.drop (k+1)))=E):=by show _=_;have:=bB.out;rw [if_neg (by rw [hf];decide)] at this;exact this
       have L8:=hid (fun wx hb=>CI.out wx hb hf);clear hf bB CI;go_wp2_with fail
       refine Cc.out.mono ?_;rintro e w2 ⟨rfl,hb2⟩;have HB2:=hid hb2;obtain ⟨p0,p1,p2,p3,p4,p5,p6,p7,p8,p9⟩:=(HP.out.up hb2).cells;go_upto_region 12 with (fail)
       go_cut [58] (fun W9 wx=>W9=.bool ed/\Below w2.heap.size w2 wx)
       case first=>
        have z1:=Z1.out;have z3:=Z3.out;have OW:=hid (OO.out w2);have KT:=RL.out;obtain ⟨zd,hzd⟩:∃ zd,decide (dp=0)=zd:=⟨_,rfl⟩;obtain ⟨st,hst⟩:∃ st,decide (k=0)=st:=⟨_,rfl⟩;obtain ⟨b2,hb2'⟩:∃ b2,(kd==2)=b2:=⟨_,rfl⟩;obtain ⟨b3,KU⟩:∃ b3,(kd==3)=b3:=⟨_,rfl⟩;obtain ⟨lb,hlb⟩:∃ lb,((k:Int)==(l.length:Int)-1)=lb:=⟨_,rfl⟩;rw [hzd,hst,hb2',KU,hlb] at KT;rw [hzd] at z1;rw [hst] at z3;rw [hb2',KU] at OW;have RN:=hid KT;clear KT hzd hst KU OO RL iE CK L8 Cc Z1 Z3 hb2;cases zd<;>cases b2<;>cases st<;>cases b3<;>cases lb
        all_goals
         go_wp2_with (go_at_call 87;refine OW.out.mono ?_;rintro e w3 ⟨rfl,rfl⟩)
         go_meet
         exact ⟨by rw [<- RN.out];rfl,by first | exact (YH _ _).alloc (YI _) _ | exact YH _ _⟩
       case rest=>
        obtain ⟨rfl,hbx⟩:=hcut;have Ce:=hid (aM HB2.out hbx);clear p0 p1 p2 p3 p4 p5 p6 p7 p8 p9 hbx hb2;cases ed with
        | true=>
         have HE:Hid (E=5):=by show E=5;have:=iE.out;rw [if_pos rfl] at this;exact this.symm
         go_wp2;go_ret;exact ⟨by rw [HE.out];rfl,aM HB.out Ce.out⟩
        | false=>
         have pq:Hid ((if rF bf false false kd t d ti at_ ar ci ks≠0 then rF bf false false kd t d ti at_ ar ci ks else if ah.aN 0 true (dp+1) ks≠0 then ah.aN 0 true (dp+1) ks else ah.aN kd false dp (l.drop (k+1)))=E):=by show _=_;have:=iE.out;rw [if_neg (by decide)] at this;exact this
         have GH:=hid (L8.out _ Ce.out);clear iE L8;generalize rF bf false false kd t d ti at_ ar ci ks=E1 at *
         generalize ah.aN 0 true (dp+1) ks=E2 at *;by_cases h1:E1=0
         ·have GI:Hid ((if E2≠0 then E2 else ah.aN kd false dp (l.drop (k+1)))=E):=by
           show _=_;have:=pq.out;rw [if_neg (by simpa using h1)] at this;exact this
          subst h1;go_wp2_with fail
          refine GH.out.mono ?_;rintro e w4 ⟨rfl,hb4⟩;have tV:=hid (aM Ce.out hb4);obtain ⟨p0,p1,p2,p3,p4,p5,p6,p7,p8,p9⟩:=(HP.out.up tV.out).cells;have GJ:=hid (CK.out _ tV.out);clear GH hb4 CK pq;by_cases h2:E2=0
          ·have KV:Hid (ah.aN kd false dp (l.drop (k+1))=E):=by
            show _=_;have:=GI.out;rw [if_neg (by simpa using h2)] at this;exact this
           subst h2;go_wp2_with fail
           refine GJ.out.mono ?_;rintro e w5 ⟨rfl,hb5⟩;have AQ:=hid (aM tV.out hb5);clear GJ hb5;go_wp2;go_roundw;case rel=>exact ⟨k+1,by omega,by go_num,aM HB.out AQ.out,by rw [WY.out,decide_eq_false (by omega)];exact KV.out⟩
           case measure=>simp [intOf];omega
          ·have KV:Hid (E=E2):=by
            show _=_;have:=GI.out;rw [if_pos h2] at this;exact this.symm
           have hn2:((E2:Int) != 0)=true:=by rw [bne_iff_ne];omega
           clear h2;go_wp2_with fail
           refine GJ.out.mono ?_;rintro e w5 ⟨rfl,hb5⟩;have AQ:=hid (aM tV.out hb5);clear GJ hb5;go_wp2;go_ret;exact ⟨by rw [KV.out];rfl,aM HB.out AQ.out⟩
         ·have GI:Hid (E=E1):=by
           show _=_;have:=pq.out;rw [if_pos h1] at this;exact this.symm
          have hn1:((E1:Int) != 0)=true:=by rw [bne_iff_ne];omega
          clear h1;go_wp2_with fail
          refine GH.out.mono ?_;rintro e w4 ⟨rfl,hb4⟩;have tV:=hid (aM Ce.out hb4);clear GH hb4;go_wp2;go_ret;exact ⟨by rw [GI.out];rfl,aM HB.out tV.out⟩
    ·have HE:Hid (E=0):=by
      show E=0;rw [<- aH,List.drop_of_length_le (by omega),ah.aN]
     clear aH;go_wp2;go_ret;exact ⟨by rw [HE.out];rfl,HB.out⟩
open Go.RowKit
theorem lg (l:List ah) (a:Option Addr) (cap:Nat) (w:Zu) (hsm:ah.bW l) (h:Rd (·<w.heap.size) w (fq l) [.slice a l.length cap]) : Calls Tryz.prog 88 #[.slice a l.length cap] w (dO (.int .i64 (bE l:Nat)) w):=by
 have CK:=hid (l6 _ l 0 a cap w (YI _) (by omega) hsm h);change Hid (Calls _ _ _ _ (dO (.int .i64 (bE l:Nat)) w)) at CK;generalize bE l=E at *;clear h hsm;go_enter Tryz.func88,Tryz.ntmps88;go_wp2_with fail
 refine CK.out.mono ?_;rintro e w1 ⟨rfl,hb⟩;go_wp2;go_ret;exact ⟨rfl,hb⟩
def jk (l:List ah):Nat:=if ah.bK gH l=true then 5 else bE l
theorem fH (l:List ah) (a:Option Addr) (cap:Nat) (w:Zu) (hsm:ah.bW l) (h:Rd (·<w.heap.size) w (fq l) [.slice a l.length cap]) : Calls Tryz.prog 93 #[.slice a l.length cap] w (dO (.int .i64 (jk l:Nat)) w):=by
 have hb0:Below w.heap.size w (w.alloc (.cells #[.int .i64 2,.int .i64 3] 3)):=(YH _ _).alloc (YI _) _;have AK:=hid (mK _ l _ _ [2,3] w.heap.size 2 _ (YI _) (h.up hb0) (by simp) (Eb w 3 2 3));simp only [List.length_cons,List.length_nil,Nat.reduceAdd] at AK;have NR:ah.bK [2,3] l=ah.bK gH l:=rfl;rw [NR] at AK;have LE:=hid (lg l a cap _ hsm (h.up hb0));have HE:Hid (jk l=if ah.bK gH l=true then 5 else bE l):=rfl;generalize jk l=V at *;generalize bE l=E at *;generalize ah.bK gH l=K at *;have HB:=hid hb0;clear h hsm NR hb0;cases K
 all_goals
  go_enter Tryz.func93,Tryz.ntmps93;go_wp2_with (first | (go_at_call 117;refine AK.out.mono ?_;rintro e w2 ⟨rfl,rfl⟩) | (go_at_call 88;refine LE.out.mono ?_;rintro e w2 ⟨rfl,hb2⟩))
  go_ret;refine ⟨by rw [HE.out];rfl,?_⟩;first | exact aM HB.out hb2 | exact HB.out
def lq (lv:Int) (a:At) (li:List ah):Nat:=if lv<1\/6<lv then 9 else if a.err≠0 then a.err else jk li
theorem qI (w:Zu) (b o:Nat) (k lv:Int) (i t d ti:ByteArray) (at_:At) (li:List ah) (ks:List aj) (ac ap al ak:Option Addr) (cc cp cl ck:Nat) (h:Gv w b o k lv i t d ti at_ li ks ac ap al ak cc cp cl ck) (ha:at_.short) (hsm:ah.bW li) : Calls Tryz.prog 89 #[.pointer (some ⟨b,o,none⟩)] w (dO (.int .i64 (lq lv at_ li:Nat)) w):=by
 have HP:=hid h;have AC:=hid (gZ at_ ac ap cc cp w h.rd.at_ ha);have UE:=hid (fun wx (hb:Below w.heap.size w wx)=>fH li al cl wx hsm (h.rd.line.up hb));obtain ⟨c0,c1,c2,c3,c4,c5,c6,c7,c8,c9,c10⟩:=h.cells;have HE:Hid (lq lv at_ li=if lv<1\/6<lv then 9 else if at_.err≠0 then at_.err else jk li):=rfl;generalize lq lv at_ li=V at *
 generalize at_.err=E at *
 generalize jk li=U at *;clear h ha hsm;by_cases hlv:lv<1\/6<lv
 ·have HV:Hid (V=9):=by show V=9;rw [HE.out,if_pos hlv]
  clear HE;rcases hlv with hlv | hlv
  all_goals
   go_enter Tryz.func89,Tryz.ntmps89;go_wp2;go_ret;exact ⟨by rw [HV.out];rfl,YH _ _⟩
 ·have HV:Hid (V=if E≠0 then E else U):=by show V=_;rw [HE.out,if_neg hlv]
  have g1:1<=lv:=by omega
  have g2:lv<=6:=by omega
  clear hlv HE;by_cases h1:E=0
  ·subst h1;go_enter Tryz.func89,Tryz.ntmps89;go_wp2_with fail
   refine AC.out.mono ?_;rintro e w2 ⟨rfl,hb2⟩;obtain ⟨p0,p1,p2,p3,p4,p5,p6,p7,p8,p9,Ea⟩:=(HP.out.up hb2).cells;go_wp2_with fail
   refine (UE.out _ hb2).mono ?_;rintro e w3 ⟨rfl,hb3⟩;go_wp2;go_ret;exact ⟨by rw [HV.out];rfl,aM hb2 hb3⟩
  ·have hn:((E:Int) != 0)=true:=by rw [bne_iff_ne];omega
   have L9:Hid (V=E):=by show V=E;rw [HV.out,if_pos h1]
   clear h1 HV;go_enter Tryz.func89,Tryz.ntmps89;go_wp2_with fail
   refine AC.out.mono ?_;rintro e w2 ⟨rfl,hb2⟩;go_wp2;go_ret;exact ⟨by rw [L9.out];rfl,hb2⟩
theorem yI (p:UInt8->Bool):∀ l:List UInt8,l.dropWhile p=[]↔l.all p=true
 | []=>by simp
 | x::l=>by
  rw [List.dropWhile_cons,List.all_cons];cases p x with
  | true=>simpa using yI p l
  | false=>simp
theorem GK (p:UInt8->Bool) (l:List UInt8):∀ x∈l.takeWhile p,p x=true:=by
 induction l with
 | nil=>simp
 | cons y l ih=>
  intro x hx;rw [List.takeWhile_cons] at hx;cases h:p y with
  | true=>
   rw [h] at hx;simp at hx;rcases hx with rfl | hx
   ·exact h
   ·exact ih x hx
  | false=>rw [h] at hx;simp at hx
theorem Bw (l cs:List UInt8):Lib.trimS l cs=[]↔l.all (fun c=>cs.contains c)=true:=by
 unfold Lib.trimS Lib.trimLeftS Lib.trimRightS;rw [yI];constructor
 ·intro h;rw [List.all_reverse] at h;have h2:=(List.takeWhile_append_dropWhile (p:=fun c=>cs.contains c) (l:=l.reverse));have h3:(l.reverse).all (fun c=>cs.contains c)=true:=by
   rw [<- h2,List.all_append,Bool.and_eq_true];exact ⟨List.all_eq_true.2 (fun x hx=>(GK _ _ x hx)),h⟩
  rwa [List.all_reverse] at h3
 ·intro h;have h3:(l.reverse).all (fun c=>cs.contains c)=true:=by rwa [List.all_reverse]
  rw [(yI _ _).2 h3];rfl
open Go.RowKit
def mM:List UInt8:=[45,108,99,114]
def IY (ks:List aj) (n:Nat) (w:Zu) (vi:Value) (wr:Zu):Prop:=∃ k:Nat,k<=ks.length/\vi=.int .i64 k/\Below w.heap.size w wr/\(ks.take k).any (fun b=>!decide (b.vU=n))=false
theorem Em {w:Zu} {l:List aj} {a:Option Addr} {cap:Nat} (h:jV (·<w.heap.size) w 11 (l.map aj.d) a cap) {k:Nat} {kd lv:Int} {i t d ti:ByteArray} {at_:At} {li:List ah} {ks:List aj} (hk:l[k]?=some (.mk kd lv i t d ti at_ li ks)) : ∃ b off ac ap al ak cc cp cl ck,a=some ⟨b,off,none⟩/\Gv w b (off+k*11) kd lv i t d ti at_ li ks ac ap al ak cc cp cl ck:=by
 obtain ⟨b,off,vc,vp,vl,vk,rfl,hok,hbl,hc,hR⟩:=jG h hk;obtain ⟨a1,c1,h1,-⟩:=hR.at_.cls.aD
 obtain ⟨a2,c2,h2,-⟩:=hR.at_.aT.aD
 obtain ⟨a3,c3,h3,-⟩:=hR.line.aD;obtain ⟨a5,c5,h5,-⟩:=hR.kids.aD;simp only [List.length_map,List.cons.injEq,and_true] at h1 h2 h3 h5;subst h1 h2 h3 h5;exact ⟨b,off,a1,a2,a3,a5,c1,c2,c3,c5,rfl,hc,hR,hbl⟩
theorem KW (l:List UInt8):(⟨l.toArray⟩:ByteArray)=ByteArray.empty↔l=[]:=by
 constructor
 ·intro h;have:=congrArg (fun b:ByteArray=>b.data.toList) h;simpa using this
 ·rintro rfl;rfl
theorem pz (w:Zu) (b o:Nat) (k lv:Int) (i t d ti:ByteArray) (at_:At) (li:List ah) (ks:List aj) (ac ap al ak:Option Addr) (cc cp cl ck:Nat) (h:Gv w b o k lv i t d ti at_ li ks ac ap al ak cc cp cl ck) (hi:i.size<=1000000000) : Calls Tryz.prog 92 #[.pointer (some ⟨b,o,none⟩)] w (dO (.int .i64 (gI i ks:Nat)) w):=by
 have HP:=hid h;obtain ⟨a',c',hv,hs⟩:=Rd.aD h.rd.kids;obtain ⟨rfl,rfl⟩:a'=ak/\c'=ck:=by simp at hv;exact ⟨hv.1.symm,hv.2.symm⟩
 have hcap:ks.length<=c':=by simpa using hs.le
 have hmx:=hs.max;unfold maxLen at hmx;have HS:=hid hs;have e3:=oO ks;have h116:(Tryz.prog.info? 182).map (fun i=>(i.zero,i.size))=some (some (.agg (Array.replicate 256 (.bool false))),256):=by kernel_rfl
 have TR:=hid (fun w=>Any.strings_Trim_laid Tryz.lays160 h116 i ⟨#[45,108,99,114]⟩ w (by omega) (by decide) (ascii_of_all (by decide)));have Qg:Hid (∀ w,Calls Tryz.prog 116 #[.string i,.string ⟨#[45,108,99,114]⟩] w fun e w'=>e=.returned (.string ⟨(Lib.trimS i.data.toList mM).toArray⟩)/\Below w.heap.size w w'):=TR.out;have HN:=hid (Bw i.data.toList mM);have NV:=hid (KW (Lib.trimS i.data.toList mM));have HE:Hid (gI i ks=if 32<i.size then 3 else if dR i=true then 5 else if i.data.toList.any (fun c=>!(mM:List UInt8).contains c) then 5
   else if ks.isEmpty=true then 8 else if ks.any (fun b=>!decide (b.vU=i.size)) then 15 else 0):=rfl
 obtain ⟨c0,c1,c2,c3,c4,c5,c6,c7,c8,c9,c10⟩:=h.cells;generalize gI i ks=V at *;obtain ⟨NW,NY⟩:∃ NW,NW=(⟨(Lib.trimS i.data.toList mM).toArray⟩:ByteArray):=⟨_,rfl⟩;rw [<- NY] at Qg NV;clear hv hs h TR NY h116;by_cases h32:32<i.size
 ·have HV:Hid (V=3):=by show V=3;rw [HE.out,if_pos h32]
  have q:decide ((32:Int)<(i.size:Int))=true:=by simp;omega
  clear HE;go_enter Tryz.func92,Tryz.ntmps92;go_wp2;go_ret;exact ⟨by rw [HV.out];rfl,YH _ _⟩
 have q:decide ((32:Int)<(i.size:Int))=false:=by simp;omega
 rcases eT i with rfl | ⟨i1,i2,i3,i4⟩
 ·have HV:Hid (V=5):=by show V=5;rw [HE.out,if_neg h32,if_pos (by decide)]
  clear HE;go_enter Tryz.func92,Tryz.ntmps92;go_wp2;go_ret;exact ⟨by rw [HV.out];rfl,YH _ _⟩
 have hany:(i.data.toList.any fun c=>!(mM:List UInt8).contains c)=!(i.data.toList.all fun c=>(mM:List UInt8).contains c):=by rw [List.all_eq_not_any_not];simp
 cases hal:i.data.toList.all fun c=>(mM:List UInt8).contains c with
 | false=>
  have HV:Hid (V=5):=by show V=5;rw [HE.out,if_neg h32,if_neg (by rw [i4];decide),if_pos (by rw [hany,hal];rfl)]
  have hne:NW≠ByteArray.empty:=fun e=>by
   have:=HN.out.1 (NV.out.1 e);rw [hal] at this;cases this
  rcases eT NW with e | ⟨t1,t2,t3,t4⟩
  ·exact absurd e hne
  clear HE HN NV hne hany hal;go_enter Tryz.func92,Tryz.ntmps92;go_wp2_with fail
  refine (Qg.out _).mono ?_;rintro e w2 ⟨rfl,hb2⟩;go_wp2;go_ret;exact ⟨by rw [HV.out];rfl,hb2⟩
 | true=>
  have he:NW=ByteArray.empty:=NV.out.2 (HN.out.2 hal);subst he;have HV:Hid (V=if ks.isEmpty=true then 8 else if ks.any (fun b=>!decide (b.vU=i.size)) then 15 else 0):=by show V=_;rw [HE.out,if_neg h32,if_neg (by rw [i4];decide),if_neg (by rw [hany,hal];decide)]
  clear HE HN NV hany hal;cases hk0:ks.isEmpty with
  | true=>
   rw [hk0] at e3;have L9:Hid (V=8):=by show V=8;rw [HV.out,if_pos hk0]
   clear hk0;go_enter Tryz.func92,Tryz.ntmps92;go_wp2_with fail
   refine (Qg.out _).mono ?_;rintro e w2 ⟨rfl,hb2⟩;obtain ⟨p0,p1,p2,p3,p4,p5,p6,p7,p8,p9,Ea⟩:=(HP.out.up hb2).cells;go_wp2;go_ret;exact ⟨by rw [L9.out];rfl,hb2⟩
  | false=>
   rw [hk0] at e3;have L9:Hid (V=if ks.any (fun b=>!decide (b.vU=i.size)) then 15 else 0):=by show V=_;rw [HV.out,if_neg (by rw [hk0];decide)]
   clear hk0 HV;go_enter Tryz.func92,Tryz.ntmps92;go_wp2_with fail
   refine (Qg.out _).mono ?_;rintro e w2 ⟨rfl,hb2⟩;obtain ⟨p0,p1,p2,p3,p4,p5,p6,p7,p8,p9,Ea⟩:=(HP.out.up hb2).cells;have R0:Hid (IY ks i.size w (.int .i64 0) w2):=⟨0,Nat.zero_le _,rfl,hb2,by simp⟩;clear hb2;go_wp2
   go_loopw [34] (fun i' wr=>IY ks i.size w i' wr) (fun i' _=>ks.length-(intOf i').toNat)
   case atStart=>exact R0.out
   case round=>
    clear R0 p0 p1 p2 p3 p4 p5 p6 p7 p8 p9 Ea;obtain ⟨j,hj,rfl,hbel,hno⟩:=hrel;have HB:=hid hbel;have JE:=hid hno;by_cases hlt:j<ks.length
    ·obtain ⟨x,hx⟩:∃ x,ks[j]?=some x:=⟨_,YG hlt⟩;have FQ:=hid (vR (fun b:aj=>!decide (b.vU=i.size)) hx);have HAT:=hid (Ei (fun b:aj=>!decide (b.vU=i.size)) hx);obtain ⟨kd',Xa,i',t',d',Uj,at',Xb,ks'⟩:=x;obtain ⟨b',off',WQ,WT,al',WU,cc',cp',cl',WW,ha',hP'⟩:=Em HS.out hx;have k10:=(hP'.up hbel).cells.c10;obtain ⟨p0,p1,p2,p3,p4,p5,p6,p7,p8,p9,Ea⟩:=(HP.out.up hbel).cells;subst ha';have Uk:Hid ((aj.mk kd' Xa i' t' d' Uj at' Xb ks').vU=ks'.length):=rfl;clear hP' hx hno hbel;by_cases hq:ks'.length=i.size
     ·have q1:((ks'.length:Int) != (i.size:Int))=false:=by rw [bne_eq_false_iff_eq];omega
      have HQ:=hid hq;clear hq;go_wp2_with fail
      go_quiet (fail)
      go_wp2;go_roundw;case rel=>exact ⟨j+1,by omega,by go_num,eY HB.out _,by rw [FQ.out,JE.out,Uk.out,HQ.out];simp⟩
      case measure=>simp [intOf];omega
     ·have q1:((ks'.length:Int) != (i.size:Int))=true:=by rw [bne_iff_ne];omega
      have hv:V=15:=by rw [L9.out,if_pos (HAT.out (by rw [Uk.out];simp [hq]))]
      have RO:=hid hv;clear hq hv;go_wp2_with fail
      go_quiet (fail)
      go_wp2;go_ret;exact ⟨by rw [RO.out];rfl,eY HB.out _⟩
    ·have hv:V=0:=by
      have:=JE.out;rw [List.take_of_length_le (by omega)] at this;rw [L9.out,if_neg (by rw [this];decide)]
     have RO:=hid hv;clear hv hno hbel;go_wp2;go_ret;exact ⟨by rw [RO.out];rfl,HB.out⟩
open Go.RowKit
def sU (cl:ByteArray->Bool) (t:ByteArray) (a:At):Nat:=if mI t=false then 17 else if cl t=true then 5 else a.err
def pE (cl:ByteArray->Bool):Prop:=∀ (w:Zu) (b o:Nat) (k lv:Int) (i t d ti:ByteArray) (at_:At) (li:List ah) (ks:List aj) (ac ap al ak:Option Addr) (cc cp cl' ck:Nat),
 Gv w b o k lv i t d ti at_ li ks ac ap al ak cc cp cl' ck->t.size<=300->at_.short->Calls Tryz.prog 91 #[.pointer (some ⟨b,o,none⟩)] w (dO (.int .i64 (sU cl t at_:Nat)) w)
structure Ul (i t d ti:ByteArray) (a:At) (li:List ah):Prop where
 i:i.size<=300
 t:t.size<=300
 d:d.size<=300
 ti:ti.size<=300
 at_:a.short
 li:ah.bW li
theorem sV {k lv:Int} {i t d ti:ByteArray} {a:At} {li:List ah} {ks:List aj} (h:D9 k lv i t d ti a li ks=true):1<=k/\k<=15/\(k=2\/k=8\/lv=0):=by
 unfold D9 at h;simp only [Bool.and_eq_true,Bool.or_eq_true,decide_eq_true_eq] at h;obtain ⟨⟨⟨⟨⟨⟨⟨⟨h1,h2⟩,h3⟩,-⟩,-⟩,-⟩,-⟩,-⟩,-⟩:=h;refine ⟨h1,h2,?_⟩;rcases h3 with h | h
 ·simp at h;omega
 ·exact .inr (.inr h)
theorem pF (cl:ByteArray->Bool) (w:Zu) (b o:Nat) (k lv:Int) (i t d ti:ByteArray) (at_:At) (li:List ah) (ks:List aj) (ac ap al ak:Option Addr) (cc cp cl' ck:Nat) (h:Gv w b o k lv i t d ti at_ li ks ac ap al ak cc cp cl' ck) (hs:Ul i t d ti at_ li) (hf:D9 k lv i t d ti at_ li ks=true) (hm:k=4->pE cl) : Calls Tryz.prog 73 #[.pointer (some ⟨b,o,none⟩)] w (dO (.int .i64 (dA cl k lv i t d ti at_ li ks:Nat)) w):=by
 have HP:=hid h;obtain ⟨f1,f2,f3⟩:=sV hf;obtain ⟨-,l4,m4⟩:=dn h.rd.line;obtain ⟨-,l5,m5⟩:=dn h.rd.kids;unfold maxLen at m4 m5;have LE:=hid (lg li al cl' w hs.li h.rd.line);have UE:=hid (fH li al cl' w hs.li h.rd.line);have Xc:=hid (qI w b o k lv i t d ti at_ li ks ac ap al ak cc cp cl' ck h hs.at_ hs.li);have Xd:=hid (pz w b o k lv i t d ti at_ li ks ac ap al ak cc cp cl' ck h (by have:=hs.i;omega));have Xe:=hid (fun hk=>hm hk w b o k lv i t d ti at_ li ks ac ap al ak cc cp cl' ck h hs.t hs.at_);have CLI:=hid (fun w=>D8 i w (by have:=hs.i;omega));have Xf:=hid (fun w=>dZ i w (by have:=hs.i;omega));have Xg:=hid (fun w=>qD t w (by have:=hs.t;omega));have Xh:=hid (fun w=>dH i w (by have:=hs.i;omega));have Xi:=hid (rD i w (by have:=hs.i;omega));have Xj:=hid (fun w=>D8 d w (by have:=hs.d;omega));have Xk:=hid (fun w=>D8 ti w (by have:=hs.ti;omega));have AC:=hid (gZ at_ ac ap cc cp w h.rd.at_ hs.at_);obtain ⟨c0,c1,c2,c3,c4,c5,c6,c7,c8,c9,c10⟩:=h.cells;have e2:=oO li;have e3:=oO ks;have HE:Hid (dA cl k lv i t d ti at_ li ks=if k=1 then (if li.isEmpty=true then 8 else bE li)
 else if k=2 then lq lv at_ li
 else if k=12 then jk li
 else if k=3 then (if gL i=false\/trimS i=false\/mI t=false then 17 else 0)
 else if k=4 then sU cl t at_
 else if k=7\/k=8 then (if ks.isEmpty=true then 8 else if k=8/\(lv<0\/999999999<lv) then 9 else 0)
 else if k=10 then gI i ks
 else if k=13\/k=14 then (if lJ i=false then 6 else at_.err)
 else if k=15 then (if bX i=false then 6 else if gL d=false\/gL ti=false then 17 else 0)
 else 0):=rfl
 generalize dA cl k lv i t d ti at_ li ks=V at *
 generalize bE li=E1 at *;generalize lq lv at_ li=E2 at *
 generalize jk li=E3 at *;generalize sU cl t at_=E4 at *
 generalize gI i ks=E5 at *;generalize at_.err=E6 at *
 generalize gL i=b1 at *;generalize trimS i=b2 at *;generalize mI t=b3 at *;generalize lJ i=b4 at *;generalize bX i=b5 at *;generalize gL d=b6 at *;generalize gL ti=b7 at *;generalize li.isEmpty=bl at *;generalize ks.isEmpty=bk at *;clear h hs hf hm;rcases vJ k with rfl | rfl | rfl | rfl | rfl | rfl | rfl | rfl | rfl | rfl | rfl | rfl | rfl | rfl | rfl | hk
 case inr.inr.inr.inr.inr.inr.inr.inr.inr.inr.inr.inr.inr.inr.inr=>omega
 case inr.inr.inr.inr.inr.inr.inl=>
  have hlv:lv=0:=by omega
  subst hlv;clear f1 f2 f3;go_enter Tryz.func73,Tryz.ntmps73;go_wp2;all_goals
   go_ret;refine ⟨fF ?_,YH _ _⟩
   (try simp only [Bool.not_eq_true',Bool.not_eq_false'] at *)
   rw [HE.out];simp [*]
 case inr.inr.inr.inr.inr.inr.inr.inl=>
  clear f1 f2 f3;by_cases hlv:lv<0\/999999999<lv
  ·rcases hlv with hlv | hlv
   all_goals
    go_enter Tryz.func73,Tryz.ntmps73;go_wp2;all_goals
     go_ret;refine ⟨fF ?_,YH _ _⟩
     (try simp only [Bool.not_eq_true',Bool.not_eq_false'] at *)
     rw [HE.out];simp [*]
  ·have g1:0<=lv:=by omega
   have g2:lv<=999999999:=by omega
   have HG:Hid (¬ (lv<0\/999999999<lv)):=hlv;clear hlv;go_enter Tryz.func73,Tryz.ntmps73;go_wp2;all_goals
    go_ret;refine ⟨fF ?_,YH _ _⟩
    (try simp only [Bool.not_eq_true',Bool.not_eq_false'] at *)
    rw [HE.out];simp [*,HG.out]
 all_goals
  clear f1 f2 f3;go_enter Tryz.func73,Tryz.ntmps73;go_wp2_with (first | (go_at_call 88;refine LE.out.mono ?_;rintro e w2 ⟨rfl,hb3⟩) | (go_at_call 89;refine Xc.out.mono ?_;rintro e w2 ⟨rfl,hb3⟩) | (go_at_call 91;refine (Xe.out (by simp)).mono ?_;rintro e w2 ⟨rfl,hb3⟩) | (go_at_call 92;refine Xd.out.mono ?_;rintro e w2 ⟨rfl,hb3⟩) | (go_at_call 93;refine UE.out.mono ?_;rintro e w2 ⟨rfl,hb3⟩) | (go_at_call 94;refine AC.out.mono ?_;rintro e w2 ⟨rfl,hb3⟩) | (go_at_call 16;refine (Xh.out _).mono ?_;rintro e w2 ⟨rfl,rfl⟩) | (go_at_call 95;refine Xi.out.mono ?_;rintro e w2 ⟨rfl,hb1⟩;obtain ⟨p0,p1,p2,p3,p4,p5,p6,p7,p8,p9,Ea⟩:=(HP.out.up hb1).cells) | (go_at_call 37;refine (Xf.out _).mono ?_;rintro e w2 ⟨rfl,rfl⟩) | (go_at_call 90;refine (Xg.out _).mono ?_;rintro e w2 ⟨rfl,q3,rfl⟩) | (go_at_call 36;(with_reducible refine (CLI.out _).mono ?_);rintro e w2 ⟨rfl,q,rfl⟩) | (go_at_call 36;(with_reducible refine (Xj.out _).mono ?_);rintro e w2 ⟨rfl,q,rfl⟩) | (go_at_call 36;(with_reducible refine (Xk.out _).mono ?_);rintro e w2 ⟨rfl,q2,rfl⟩))
  all_goals
   go_ret;refine ⟨fF ?_,?_⟩
   ·(try simp only [Bool.not_eq_true',Bool.not_eq_false'] at *)
    rw [HE.out];simp [*]
   ·first
    | exact hb3 | exact eY hb1 _ | exact hb1 | exact eY (YH _ _) _ | exact YH _ _
end Go.Proofs.YtnmldmofggkoeaaGreatDoor

