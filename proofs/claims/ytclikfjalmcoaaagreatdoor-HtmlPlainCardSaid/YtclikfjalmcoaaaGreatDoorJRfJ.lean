/- The contract of tree.checkInlines and Line: the first error of inlines. Contracts of tree.Line, checkUnbroken, checkHead, checkTable. Contracts of tree.checkTable, checkBlock. The contract of tree.checkBlock; of a formula's check it asks the contract. Contracts of publisherref01.Next and publisherref04.Label. Contracts of publisherref04.cites, named. Contracts of publisherref04.target, one. Contracts of publisherref04.list, Line: the first error of inlines. -/
import Derived.Test.YtclikfjalmcoaaaGreatDoorJChQ
import Derived.Shelf.Strings.SlTrimAscii
set_option maxHeartbeats 8000000
set_option maxRecDepth 100000
open Go.Lib (hid)
namespace Go.Proofs.YtclikfjalmcoaaaGreatDoor
open List renaming getElem?_eq_getElem->jc6
open Go.RowKit.Below renaming refl->jc7
open Bool renaming eq_iff_iff->jck
open Go.RowKit
set_option linter.unusedVariables false
set_option linter.unusedSimpArgs false
def edge (k:Int) (first last:Bool):Bool:=(decide (k=2)&&first)||((decide (k=2)||decide (k=3))&&last)
theorem DK (bf:Int) (first last:Bool) (k:Int) (t d ti:ByteArray) (a:At) (ar:List ByteArray) (ci:List Ci) (ks:List ah) (hf:BJ k t d ti a ar ci ks=true) : rM bf first last k t d ti a ar ci ks=if edge k first last=true then 5 else rM bf false false k t d ti a ar ci ks:=by
 unfold rM edge;rw [hf];simp only [Bool.true_eq_false,if_false];by_cases h1:k=1\/k=4\/k=5
 ·have h2:k≠2:=by omega
  have h3:k≠3:=by omega
  simp [h1,h2,h3]
 ·by_cases h2:k=2
  ·subst h2;cases first<;>cases last<;>simp
  ·by_cases h3:k=3
   ·subst h3;cases first<;>cases last<;>simp
   ·simp [h1,h2,h3]
theorem xL (bf:Int) (first last:Bool) (k:Int) (t d ti:ByteArray) (a:At) (ar:List ByteArray) (ci:List Ci) (ks:List ah) (hf:BJ k t d ti a ar ci ks=false):rM bf first last k t d ti a ar ci ks=5:=by unfold rM;rw [if_pos hf]
def Aw (l:List ah) (k:Nat):Int:=if k=0 then 0 else match l[k-1]? with | some x=>x.kd | none=>0
def LM (l:List ah) (dp:Nat) (E:Nat) (w:World) (vi:Value) (wr:World):Prop:=∃ k:Nat,k<=l.length/\vi=.int .i64 k/\Below w.heap.size w wr/\ah.aP (Aw l k) (decide (k=0)) dp (l.drop k)=E
theorem IZ {l:List ah} {k:Nat} {x:ah} (h:l[k]?=some x):Aw l (k+1)=x.kd:=by unfold Aw;rw [if_neg (by omega),Nat.add_sub_cancel,h]
mutual
def ah.mid:ah->Prop
 | .mk k t d ti a ar ci ks=>t.size<=1000000/\d.size<=1000000/\ti.size<=1000000/\a.short/\(∀ c∈ar,c.size<=5000)/\(∀ c∈ci,c.key.size<=5000/\c.pre.size<=5000/\c.suf.size<=5000)/\ah.fT ks
def ah.fT:List ah->Prop
 | []=>True
 | x::l=>x.mid/\ah.fT l
end
mutual
theorem ah.Ej:∀ (x:ah),x.small->x.mid
 | .mk k t d ti a ar ci ks,h=>by
  rw [ah.small] at h;rw [ah.mid];obtain ⟨h1,h2,h3,h4,h5,h6,h7,h8,h9⟩:=h;exact ⟨by omega,by omega,by omega,h4,h7,h8,ah.jq ks h9⟩
theorem ah.jq:∀ (l:List ah),ah.aC l->ah.fT l
 | [],_=>by rw [ah.fT];trivial
 | x::l,h=>by
  rw [ah.aC] at h;rw [ah.fT];exact ⟨ah.Ej x h.1,ah.jq l h.2⟩
end
theorem ah.lW:∀ {l:List ah} {k:Nat} {x:ah},ah.fT l->l[k]?=some x->x.mid
 | [],_,_,_,h=>by simp at h
 | y::l,0,x,hb,h=>by simp at h;subst h;rw [ah.fT] at hb;exact hb.1
 | y::l,k+1,x,hb,h=>by rw [ah.fT] at hb;exact ah.lW (l:=l) (k:=k) hb.2 (by simpa using h)
theorem OB {kd:Int} {t d ti:ByteArray} {at_:At} {ar:List ByteArray} {ci:List Ci} {ks:List ah} (h:(ah.mk kd t d ti at_ ar ci ks).mid):Wt t d ti at_ ar ci/\ah.fT ks:=by unfold ah.mid at h;obtain ⟨h1,h2,h3,h4,h7,h8,h9⟩:=h;exact ⟨⟨h1,h2,h3,h4,h7,h8⟩,h9⟩
theorem I5 (bf:Int) (st:Bool) (dp:Nat) (k:Int) (t d ti:ByteArray) (a:At) (ar:List ByteArray) (ci:List Ci) (ks:List ah) (l:List ah) (xg:¬ 15<dp) : ah.aP bf st dp (ah.mk k t d ti a ar ci ks::l)=if BJ k t d ti a ar ci ks=false then 5 else if edge k (decide (dp=0)&&st) (decide (dp=0)&&l.isEmpty)=true then 5 else if rM bf false false k t d ti a ar ci ks≠0 then rM bf false false k t d ti a ar ci ks else if ah.aP 0 true (dp+1) ks≠0 then ah.aP 0 true (dp+1) ks else ah.aP k false dp l:=by
 rw [ah.aP,if_neg xg,ah.err];cases hf:BJ k t d ti a ar ci ks with
 | false=>rw [xL _ _ _ _ _ _ _ _ _ _ _ hf];simp
 | true=>
  rw [DK bf _ _ k t d ti a ar ci ks hf];cases he:edge k (decide (dp=0)&&st) (decide (dp=0)&&l.isEmpty) with
  | true=>simp
  | false=>
   simp only [Bool.true_eq_false,Bool.false_eq_true,if_false];by_cases h1:rM bf false false k t d ti a ar ci ks=0
   ·simp only [h1,ne_eq,not_true_eq_false,if_false];rfl
   ·simp only [ne_eq,h1,not_false_eq_true,if_true]
theorem OC (k:Int) (zd st lb:Bool):edge k (zd&&st) (zd&&lb)=(zd&&((k==2)&&st||((k==2)||(k==3))&&lb)):=by
 unfold edge;have h2:decide (k=2)=(k==2):=by rw [jck];simp
 have h3:decide (k=3)=(k==3):=by rw [jck];simp
 rw [h2,h3];cases (k==2)<;>cases (k==3)<;>cases zd<;>cases st<;>cases lb<;>rfl
theorem LP {w:World} {l:List ah} {a:Option Addr} {cap:Nat} (h:oK (·<w.heap.size) w 10 (l.map ah.d) a cap) {k:Nat} {kd:Int} {t d ti:ByteArray} {at_:At} {ar:List ByteArray} {ci:List Ci} {ks:List ah} (hk:l[k]?=some (.mk kd t d ti at_ ar ci ks)) : ∃ b off ac ap aa ai ak cc cp ca nD ck,a=some ⟨b,off,none⟩/\O4 w b (off+k*10) kd t d ti at_ ar ci ks ac ap aa ai ak cc cp ca nD ck:=by
 obtain ⟨b,off,vc,vp,va,vi,vk,rfl,hok,hbl,hc,hR⟩:=eF h hk;obtain ⟨a1,c1,h1,-⟩:=hR.at_.cls.aD
 obtain ⟨a2,c2,h2,-⟩:=hR.at_.aH.aD
 obtain ⟨a3,c3,h3,-⟩:=hR.args.aD;obtain ⟨a4,c4,h4,-⟩:=hR.bM.aD;obtain ⟨a5,c5,h5,-⟩:=hR.kids.aD;simp only [List.length_map,List.cons.injEq,and_true] at h1 h2 h3 h4 h5;subst h1 h2 h3 h4 h5;exact ⟨b,off,a1,a2,a3,a4,a5,c1,c2,c3,c4,c5,rfl,hc,hR,hbl⟩
theorem rD (n:Nat):∀ (l:List ah) (dp:Nat) (a:Option Addr) (cap:Nat) (w:World),ah.aU l<=n->dp<=1000000->ah.fT l->Rd (·<w.heap.size) w (bC l) [.slice a l.length cap] -> Calls Tryz.prog 92 #[.slice a l.length cap,.int .i64 (dp:Int)] w (dJ (.int .i64 (ah.aP 0 true dp l:Nat)) w):=by
 induction n using Nat.strongRecOn with
 | _ n ih=>
  intro l dp a cap w hn hdp hsm h;obtain ⟨a',c',hv,hs⟩:=Rd.aD h;obtain ⟨rfl,rfl⟩:a'=a/\c'=cap:=by simp at hv;exact ⟨hv.1.symm,hv.2.symm⟩
  have hcap:l.length<=c':=by simpa using hs.le
  have hmx:=hs.max;unfold maxLen at hmx;have HS:=hid hs;have IH:=hid ih;have SM:=hid hsm;obtain ⟨E,hE⟩:∃ E,ah.aP 0 true dp l=E:=⟨_,rfl⟩;rw [hE];have R0:Hid (LM l dp E w (.int .i64 0) w):=⟨0,Nat.zero_le _,rfl,jc7 _ _,hE⟩;clear hs hv h ih hsm hE;by_cases xg:15<dp
  ·have SE:decide ((15:Int)<(dp:Int))=true:=by simp;omega
   go_enter Tryz.func92,Tryz.ntmps92;go_wp2
   go_loopw [12] (fun i wr=>LM l dp E w i wr) (fun i _=>l.length-(intOf i).toNat)
   case atStart=>exact R0.out
   case round=>
    clear R0;obtain ⟨k,hk,rfl,hbel,aX⟩:=hrel;have HB:=hid hbel;by_cases hlt:k<l.length
    ·obtain ⟨x,hx⟩:∃ x,l[k]?=some x:=⟨_,jc6 hlt⟩;have HE:Hid (E=11):=by
      show E=11;rw [<- aX,JB l k x hx,ah.aP,if_pos xg]
     clear aX hx;go_wp2;go_ret;exact ⟨by rw [HE.out];rfl,HB.out⟩
    ·have HE:Hid (E=0):=by
      show E=0;rw [<- aX,List.drop_of_length_le (by omega),ah.aP]
     clear aX;go_wp2;go_ret;exact ⟨by rw [HE.out];rfl,HB.out⟩
  ·have SE:decide ((15:Int)<(dp:Int))=false:=by simp;omega
   go_enter Tryz.func92,Tryz.ntmps92;go_wp2
   go_loopw [12] (fun i wr=>LM l dp E w i wr) (fun i _=>l.length-(intOf i).toNat)
   case atStart=>exact R0.out
   case round=>
    clear R0;obtain ⟨k,hk,rfl,hbel,aX⟩:=hrel;have HB:=hid hbel;by_cases hlt:k<l.length
    ·obtain ⟨x,hx⟩:∃ x,l[k]?=some x:=⟨_,jc6 hlt⟩;have hbs:=IZ hx;have hxs:x.mid:=ah.lW SM.out hx;have hsz:=ah.bD l k _ hx;rw [JB l k x hx] at aX;have hle:(l.drop (k+1)).isEmpty=((k:Int)==(l.length:Int)-1):=by
      rw [jck];simp;omega
     obtain ⟨kd,t,d,ti,at_,ar,ci,ks⟩:=x;rw [ah.sz] at hsz;obtain ⟨hins,hks⟩:=OB hxs;rw [I5 _ _ _ _ _ _ _ _ _ _ _ _ xg,OC,hle] at aX;have hbk:Aw l (k+1)=kd:=hbs;obtain ⟨b,off,ac,ap,aa,ai,ak,cc,cp,ca,nD,ck,ha,TU⟩:=LP HS.out hx;have hP:=TU.up hbel;have VO:Hid (k≠0->∃ kv,wr.cell? ⟨b,off+(k-1)*10,none⟩=some (.int .i64 kv)/\Aw l k=kv):=by
      intro hk0;obtain ⟨y,hy⟩:∃ y,l[k-1]?=some y:=⟨_,jc6 (show k-1<l.length by omega)⟩;obtain ⟨kv,t',d',Zj,at',ar',nE,ks'⟩:=y;obtain ⟨b',off',ac',ap',aa',ai',ak',cc',cp',ca',jbj,ck',ha',hP'⟩:=LP HS.out hy;rw [ha] at ha';injection ha' with ha'
      injection ha' with e1 e2 e3
      subst e1 e2;refine ⟨kv,(hP'.up hbel).cells.c0,?_⟩;unfold Aw;rw [if_neg hk0,hy];rfl
     subst ha;have HBK:=hid hbk;have HZ0:Hid (k=0->Aw l k=0):=fun h=>by unfold Aw;rw [if_pos h]
     obtain ⟨bf,hbf⟩:∃ bf,Aw l k=bf:=⟨_,rfl⟩;rw [hbf] at aX VO HZ0;have HP:=hid hP;have Jh:=hid (rC wr b (off+k*10) kd t d ti at_ ar ci ks ac ap aa ai ak cc cp ca nD ck hP);have CI:=hid (fun wx (hb:Below wr.heap.size wr wx) hf=>sK wx b (off+k*10) kd bf t d ti at_ ar ci ks ac ap aa ai ak cc cp ca nD ck (hP.up hb) hins hf);have CK:=hid (fun wx (hb:Below wr.heap.size wr wx)=>IH.out (ah.aU ks) (by omega) ks (dp+1) ak ck wx (Nat.le_refl _) (by omega) hks (hP.up hb).rd.kids);have cZ:=hid aX;clear hbs hxs hsz hle hins hks hbk hP TU hbf aX hx hbel;have OO:=hid (fun wx:World=>jM kd [2,3] wx.heap.size 2 _ (by simp) (JC wx 3 2 3));simp only [List.length_cons,List.length_nil,Nat.reduceAdd] at OO;have TT:([2,3]:List Int).contains kd=((kd==2)||(kd==3)):=by rw [jck];simp
     rw [TT] at OO;obtain ⟨ed,hed⟩:∃ ed,(decide (dp=0)&&((kd==2)&&decide (k=0)||((kd==2)||(kd==3))&&((k:Int)==(l.length:Int)-1)))=ed:=⟨_,rfl⟩;rw [hed] at cZ;have Zv:=hid hed;have z1:((dp:Int)==0)=decide (dp=0):=by rw [jck];simp
     have z3:((k:Int)==0)=decide (k=0):=by rw [jck];simp
     have Z1:=hid z1;have Z3:=hid z3;clear TT hed z1 z3
     go_upto_if 18 with (fail)
     go_cut [6] (fun s6 wx=>s6=.int .i64 bf/\wr=wx)
     case first=>
      clear OO Zv cZ CK CI Jh HP Z1 Z3;cases k with
      | zero=>
       have hb0:=HZ0.out rfl;have HB0:=hid hb0;clear hb0 VO HZ0;go_wp2_with fail
       go_meet
       exact ⟨by rw [HB0.out],rfl⟩
      | succ j=>
       obtain ⟨kv,hcell,hkv⟩:=VO.out (by omega);rw [Nat.add_sub_cancel] at hcell;have HKV:=hid hkv;clear hkv VO HZ0;go_wp2_with fail
       go_meet
       exact ⟨by rw [HKV.out],rfl⟩
     case rest=>
      obtain ⟨rfl,rfl⟩:=hcut;clear VO HZ0;cases hf:BJ kd t d ti at_ ar ci ks with
      | false=>
       rw [hf] at Jh;have HE:Hid (E=5):=by show E=5;have:=cZ.out;rw [if_pos hf] at this;exact this.symm
       clear hf;go_wp2_with fail
       refine Jh.out.mono ?_;rintro e w2 ⟨rfl,hb2⟩;go_wp2;go_ret;exact ⟨by rw [HE.out];rfl,aQ HB.out hb2⟩
      | true=>
       rw [hf] at Jh;have rH:Hid ((if ed=true then 5 else if rM bf false false kd t d ti at_ ar ci ks≠0 then rM bf false false kd t d ti at_ ar ci ks else if ah.aP 0 true (dp+1) ks≠0 then ah.aP 0 true (dp+1) ks else ah.aP kd false dp (l.drop (k+1)))=E):=by show _=_;have:=cZ.out;rw [if_neg (by rw [hf];decide)] at this;exact this
       have SG:=hid (fun wx hb=>CI.out wx hb hf);clear hf cZ CI;go_wp2_with fail
       refine Jh.out.mono ?_;rintro e w2 ⟨rfl,hb2⟩;have HB2:=hid hb2;obtain ⟨p0,p1,p2,p3,p4,p5,p6,p7,p8,p9⟩:=(HP.out.up hb2).cells;go_upto_region 12 with (fail)
       go_cut [58] (fun s58 wx=>s58=.bool ed/\Below w2.heap.size w2 wx)
       case first=>
        have z1:=Z1.out;have z3:=Z3.out;have OW:=hid (OO.out w2);have Sb:=Zv.out;obtain ⟨zd,hzd⟩:∃ zd,decide (dp=0)=zd:=⟨_,rfl⟩;obtain ⟨st,hst⟩:∃ st,decide (k=0)=st:=⟨_,rfl⟩;obtain ⟨b2,hb2'⟩:∃ b2,(kd==2)=b2:=⟨_,rfl⟩;obtain ⟨b3,Sc⟩:∃ b3,(kd==3)=b3:=⟨_,rfl⟩;obtain ⟨lb,hlb⟩:∃ lb,((k:Int)==(l.length:Int)-1)=lb:=⟨_,rfl⟩;rw [hzd,hst,hb2',Sc,hlb] at Sb;rw [hzd] at z1;rw [hst] at z3;rw [hb2',Sc] at OW;have Zw:=hid Sb;clear Sb hzd hst Sc OO Zv rH CK SG Jh Z1 Z3 hb2;cases zd<;>cases b2<;>cases st<;>cases b3<;>cases lb
        all_goals
         go_wp2_with (go_at_call 147;refine OW.out.mono ?_;rintro e w3 ⟨rfl,rfl⟩)
         go_meet
         exact ⟨by rw [<- Zw.out];rfl,by first | exact (jc7 _ _).alloc (Nat.le_refl _) _ | exact jc7 _ _⟩
       case rest=>
        obtain ⟨rfl,hbx⟩:=hcut;have jJ:=hid (aQ HB2.out hbx);clear p0 p1 p2 p3 p4 p5 p6 p7 p8 p9 hbx hb2;cases ed with
        | true=>
         have HE:Hid (E=5):=by show E=5;have:=rH.out;rw [if_pos rfl] at this;exact this.symm
         go_wp2;go_ret;exact ⟨by rw [HE.out];rfl,aQ HB.out jJ.out⟩
        | false=>
         have uz:Hid ((if rM bf false false kd t d ti at_ ar ci ks≠0 then rM bf false false kd t d ti at_ ar ci ks else if ah.aP 0 true (dp+1) ks≠0 then ah.aP 0 true (dp+1) ks else ah.aP kd false dp (l.drop (k+1)))=E):=by show _=_;have:=rH.out;rw [if_neg (by decide)] at this;exact this
         have MQ:=hid (SG.out _ jJ.out);clear rH SG;generalize rM bf false false kd t d ti at_ ar ci ks=E1 at *
         generalize ah.aP 0 true (dp+1) ks=E2 at *;by_cases h1:E1=0
         ·have Gc:Hid ((if E2≠0 then E2 else ah.aP kd false dp (l.drop (k+1)))=E):=by
           show _=_;have:=uz.out;rw [if_neg (by simpa using h1)] at this;exact this
          subst h1;go_wp2_with fail
          refine MQ.out.mono ?_;rintro e w4 ⟨rfl,hb4⟩;have zl:=hid (aQ jJ.out hb4);obtain ⟨p0,p1,p2,p3,p4,p5,p6,p7,p8,p9⟩:=(HP.out.up zl.out).cells;have MR:=hid (CK.out _ zl.out);clear MQ hb4 CK uz;by_cases h2:E2=0
          ·have QB:Hid (ah.aP kd false dp (l.drop (k+1))=E):=by
            show _=_;have:=Gc.out;rw [if_neg (by simpa using h2)] at this;exact this
           subst h2;go_wp2_with fail
           refine MR.out.mono ?_;rintro e w5 ⟨rfl,hb5⟩;have H9:=hid (aQ zl.out hb5);clear MR hb5;go_wp2;go_roundw;case rel=>exact ⟨k+1,by omega,by go_num,aQ HB.out H9.out,by rw [HBK.out,decide_eq_false (by omega)];exact QB.out⟩
           case measure=>simp [intOf];omega
          ·have QB:Hid (E=E2):=by
            show _=_;have:=Gc.out;rw [if_pos h2] at this;exact this.symm
           have hn2:((E2:Int) != 0)=true:=by rw [bne_iff_ne];omega
           clear h2;go_wp2_with fail
           refine MR.out.mono ?_;rintro e w5 ⟨rfl,hb5⟩;have H9:=hid (aQ zl.out hb5);clear MR hb5;go_wp2;go_ret;exact ⟨by rw [QB.out];rfl,aQ HB.out H9.out⟩
         ·have Gc:Hid (E=E1):=by
           show _=_;have:=uz.out;rw [if_pos h1] at this;exact this.symm
          have hn1:((E1:Int) != 0)=true:=by rw [bne_iff_ne];omega
          clear h1;go_wp2_with fail
          refine MQ.out.mono ?_;rintro e w4 ⟨rfl,hb4⟩;have zl:=hid (aQ jJ.out hb4);clear MQ hb4;go_wp2;go_ret;exact ⟨by rw [Gc.out];rfl,aQ HB.out zl.out⟩
    ·have HE:Hid (E=0):=by
      show E=0;rw [<- aX,List.drop_of_length_le (by omega),ah.aP]
     clear aX;go_wp2;go_ret;exact ⟨by rw [HE.out];rfl,HB.out⟩
open Go.RowKit
theorem kX (l:List ah) (a:Option Addr) (cap:Nat) (w:World) (hsm:ah.fT l) (h:Rd (·<w.heap.size) w (bC l) [.slice a l.length cap]) : Calls Tryz.prog 47 #[.slice a l.length cap] w (dJ (.int .i64 (tJ l:Nat)) w):=by
 have CK:=hid (rD _ l 0 a cap w (Nat.le_refl _) (by omega) hsm h);change Hid (Calls _ _ _ _ (dJ (.int .i64 (tJ l:Nat)) w)) at CK;generalize tJ l=E at *;clear h hsm;go_enter Tryz.func47,Tryz.ntmps47;go_wp2_with fail
 refine CK.out.mono ?_;rintro e w1 ⟨rfl,hb⟩;go_wp2;go_ret;exact ⟨rfl,hb⟩
theorem zV (l:List ah) (a:Option Addr) (cap:Nat) (w:World) (hsm:ah.aC l) (h:Rd (·<w.heap.size) w (bC l) [.slice a l.length cap]) : Calls Tryz.prog 47 #[.slice a l.length cap] w (dJ (.int .i64 (tJ l:Nat)) w):=kX l a cap w (ah.jq l hsm) h
def mI (l:List ah):Nat:=if ah.dW j6 l=true then 5 else tJ l
theorem jA (l:List ah) (a:Option Addr) (cap:Nat) (w:World) (hsm:ah.fT l) (h:Rd (·<w.heap.size) w (bC l) [.slice a l.length cap]) : Calls Tryz.prog 198 #[.slice a l.length cap] w (dJ (.int .i64 (mI l:Nat)) w):=by
 have hb0:Below w.heap.size w (w.alloc (.cells #[.int .i64 2,.int .i64 3] 3)):=(jc7 _ _).alloc (Nat.le_refl _) _;have AK:=hid (rJ _ l _ _ [2,3] w.heap.size 2 _ (Nat.le_refl _) (h.up hb0) (by simp) (JC w 3 2 3));simp only [List.length_cons,List.length_nil,Nat.reduceAdd] at AK;have TQ:ah.dW [2,3] l=ah.dW j6 l:=rfl;rw [TQ] at AK;have LE:=hid (kX l a cap _ hsm (h.up hb0));have HE:Hid (mI l=if ah.dW j6 l=true then 5 else tJ l):=rfl;generalize mI l=V at *;generalize tJ l=E at *;generalize ah.dW j6 l=K at *;have HB:=hid hb0;clear h hsm TQ hb0;cases K
 all_goals
  go_enter Tryz.func198,Tryz.ntmps198;go_wp2_with (first | (go_at_call 217;refine AK.out.mono ?_;rintro e w2 ⟨rfl,rfl⟩) | (go_at_call 47;refine LE.out.mono ?_;rintro e w2 ⟨rfl,hb2⟩))
  go_ret;refine ⟨by rw [HE.out];rfl,?_⟩;first | exact aQ HB.out hb2 | exact HB.out
def qp (lv:Int) (a:At) (li:List ah):Nat:=if lv<1\/6<lv then 9 else if a.err≠0 then a.err else mI li
theorem xM (w:World) (b o:Nat) (k lv:Int) (i t d ti:ByteArray) (at_:At) (li:List ah) (ks:List au) (ac ap al ak:Option Addr) (cc cp cl ck:Nat) (h:MG w b o k lv i t d ti at_ li ks ac ap al ak cc cp cl ck) (ha:at_.short) (hsm:ah.fT li) : Calls Tryz.prog 194 #[.pointer (some ⟨b,o,none⟩)] w (dJ (.int .i64 (qp lv at_ li:Nat)) w):=by
 have HP:=hid h;have AC:=hid (fQ at_ ac ap cc cp w h.rd.at_ ha);have UE:=hid (fun wx (hb:Below w.heap.size w wx)=>jA li al cl wx hsm (h.rd.line.up hb));obtain ⟨c0,c1,c2,c3,c4,c5,c6,c7,c8,c9,c10⟩:=h.cells;have HE:Hid (qp lv at_ li=if lv<1\/6<lv then 9 else if at_.err≠0 then at_.err else mI li):=rfl;generalize qp lv at_ li=V at *
 generalize at_.err=E at *
 generalize mI li=U at *;clear h ha hsm;by_cases hlv:lv<1\/6<lv
 ·have HV:Hid (V=9):=by show V=9;rw [HE.out,if_pos hlv]
  clear HE;rcases hlv with hlv | hlv
  all_goals
   go_enter Tryz.func194,Tryz.ntmps194;go_wp2;go_ret;exact ⟨by rw [HV.out];rfl,jc7 _ _⟩
 ·have HV:Hid (V=if E≠0 then E else U):=by show V=_;rw [HE.out,if_neg hlv]
  have g1:1<=lv:=by omega
  have g2:lv<=6:=by omega
  clear hlv HE;by_cases h1:E=0
  ·subst h1;go_enter Tryz.func194,Tryz.ntmps194;go_wp2_with fail
   refine AC.out.mono ?_;rintro e w2 ⟨rfl,hb2⟩;obtain ⟨p0,p1,p2,p3,p4,p5,p6,p7,p8,p9,JG⟩:=(HP.out.up hb2).cells;go_wp2_with fail
   refine (UE.out _ hb2).mono ?_;rintro e w3 ⟨rfl,hb3⟩;go_wp2;go_ret;exact ⟨by rw [HV.out];rfl,aQ hb2 hb3⟩
  ·have hn:((E:Int) != 0)=true:=by rw [bne_iff_ne];omega
   have Tw:Hid (V=E):=by show V=E;rw [HV.out,if_pos h1]
   clear h1 HV;go_enter Tryz.func194,Tryz.ntmps194;go_wp2_with fail
   refine AC.out.mono ?_;rintro e w2 ⟨rfl,hb2⟩;go_wp2;go_ret;exact ⟨by rw [Tw.out];rfl,hb2⟩
theorem FI (p:UInt8->Bool):∀ l:List UInt8,l.dropWhile p=[]↔l.all p=true
 | []=>by simp
 | x::l=>by
  rw [List.dropWhile_cons,List.all_cons];cases p x with
  | true=>simpa using FI p l
  | false=>simp
theorem OD (p:UInt8->Bool) (l:List UInt8):∀ x∈l.takeWhile p,p x=true:=by
 induction l with
 | nil=>simp
 | cons y l ih=>
  intro x hx;rw [List.takeWhile_cons] at hx;cases h:p y with
  | true=>
   rw [h] at hx;simp at hx;rcases hx with rfl | hx
   ·exact h
   ·exact ih x hx
  | false=>rw [h] at hx;simp at hx
theorem I6 (l cs:List UInt8):Lib.trimS l cs=[]↔l.all (fun c=>cs.contains c)=true:=by
 unfold Lib.trimS Lib.trimLeftS Lib.trimRightS;rw [FI];constructor
 ·intro h;rw [List.all_reverse] at h;have h2:=(List.takeWhile_append_dropWhile (p:=fun c=>cs.contains c) (l:=l.reverse));have h3:(l.reverse).all (fun c=>cs.contains c)=true:=by
   rw [<- h2,List.all_append,Bool.and_eq_true];exact ⟨List.all_eq_true.2 (fun x hx=>(OD _ _ x hx)),h⟩
  rwa [List.all_reverse] at h3
 ·intro h;have h3:(l.reverse).all (fun c=>cs.contains c)=true:=by rwa [List.all_reverse]
  rw [(FI _ _).2 h3];rfl
open Go.RowKit
def sH:List UInt8:=[45,108,99,114]
def Qh (ks:List au) (n:Nat) (w:World) (vi:Value) (wr:World):Prop:=∃ k:Nat,k<=ks.length/\vi=.int .i64 k/\Below w.heap.size w wr/\(ks.take k).any (fun b=>!decide (b.vL=n))=false
theorem JE {w:World} {l:List au} {a:Option Addr} {cap:Nat} (h:oK (·<w.heap.size) w 11 (l.map au.d) a cap) {k:Nat} {kd lv:Int} {i t d ti:ByteArray} {at_:At} {li:List ah} {ks:List au} (hk:l[k]?=some (.mk kd lv i t d ti at_ li ks)) : ∃ b off ac ap al ak cc cp cl ck,a=some ⟨b,off,none⟩/\MG w b (off+k*11) kd lv i t d ti at_ li ks ac ap al ak cc cp cl ck:=by
 obtain ⟨b,off,vc,vp,vl,vk,rfl,hok,hbl,hc,hR⟩:=gy h hk;obtain ⟨a1,c1,h1,-⟩:=hR.at_.cls.aD
 obtain ⟨a2,c2,h2,-⟩:=hR.at_.aH.aD
 obtain ⟨a3,c3,h3,-⟩:=hR.line.aD;obtain ⟨a5,c5,h5,-⟩:=hR.kids.aD;simp only [List.length_map,List.cons.injEq,and_true] at h1 h2 h3 h5;subst h1 h2 h3 h5;exact ⟨b,off,a1,a2,a3,a5,c1,c2,c3,c5,rfl,hc,hR,hbl⟩
theorem Sd (l:List UInt8):(⟨l.toArray⟩:ByteArray)=ByteArray.empty↔l=[]:=by
 constructor
 ·intro h;have:=congrArg (fun b:ByteArray=>b.data.toList) h;simpa using this
 ·rintro rfl;rfl
theorem vX (w:World) (b o:Nat) (k lv:Int) (i t d ti:ByteArray) (at_:At) (li:List ah) (ks:List au) (ac ap al ak:Option Addr) (cc cp cl ck:Nat) (h:MG w b o k lv i t d ti at_ li ks ac ap al ak cc cp cl ck) (hi:i.size<=1000000000) : Calls Tryz.prog 197 #[.pointer (some ⟨b,o,none⟩)] w (dJ (.int .i64 (jf i ks:Nat)) w):=by
 have HP:=hid h;obtain ⟨a',c',hv,hs⟩:=Rd.aD h.rd.kids;obtain ⟨rfl,rfl⟩:a'=ak/\c'=ck:=by simp at hv;exact ⟨hv.1.symm,hv.2.symm⟩
 have hcap:ks.length<=c':=by simpa using hs.le
 have hmx:=hs.max;unfold maxLen at hmx;have HS:=hid hs;have e3:=uw ks;have h116:(Tryz.prog.info? 212).map (fun i=>(i.zero,i.size))=some (some (.agg (Array.replicate 256 (.bool false))),256):=by kernel_rfl
 have TR:=hid (fun w=>Any.strings_Trim_laid Tryz.lays160 h116 i ⟨#[45,108,99,114]⟩ w (by omega) (by decide) (ascii_of_all (by decide)));have Tp:Hid (∀ w,Calls Tryz.prog 227 #[.string i,.string ⟨#[45,108,99,114]⟩] w fun e w'=>e=.returned (.string ⟨(Lib.trimS i.data.toList sH).toArray⟩)/\Below w.heap.size w w'):=TR.out;have HN:=hid (I6 i.data.toList sH);have VP:=hid (Sd (Lib.trimS i.data.toList sH));have HE:Hid (jf i ks=if 32<i.size then 3 else if aW i=true then 5 else if i.data.toList.any (fun c=>!(sH:List UInt8).contains c) then 5
   else if ks.isEmpty=true then 8 else if ks.any (fun b=>!decide (b.vL=i.size)) then 15 else 0):=rfl
 obtain ⟨c0,c1,c2,c3,c4,c5,c6,c7,c8,c9,c10⟩:=h.cells;generalize jf i ks=V at *;obtain ⟨VQ,VT⟩:∃ VQ,VQ=(⟨(Lib.trimS i.data.toList sH).toArray⟩:ByteArray):=⟨_,rfl⟩;rw [<- VT] at Tp VP;clear hv hs h TR VT h116;by_cases h32:32<i.size
 ·have HV:Hid (V=3):=by show V=3;rw [HE.out,if_pos h32]
  have q:decide ((32:Int)<(i.size:Int))=true:=by simp;omega
  clear HE;go_enter Tryz.func197,Tryz.ntmps197;go_wp2;go_ret;exact ⟨by rw [HV.out];rfl,jc7 _ _⟩
 have q:decide ((32:Int)<(i.size:Int))=false:=by simp;omega
 rcases iO i with rfl | ⟨i1,i2,i3,i4⟩
 ·have HV:Hid (V=5):=by show V=5;rw [HE.out,if_neg h32,if_pos (by decide)]
  clear HE;go_enter Tryz.func197,Tryz.ntmps197;go_wp2;go_ret;exact ⟨by rw [HV.out];rfl,jc7 _ _⟩
 have hany:(i.data.toList.any fun c=>!(sH:List UInt8).contains c)=!(i.data.toList.all fun c=>(sH:List UInt8).contains c):=by rw [List.all_eq_not_any_not];simp
 cases hal:i.data.toList.all fun c=>(sH:List UInt8).contains c with
 | false=>
  have HV:Hid (V=5):=by show V=5;rw [HE.out,if_neg h32,if_neg (by rw [i4];decide),if_pos (by rw [hany,hal];rfl)]
  have hne:VQ≠ByteArray.empty:=fun e=>by
   have:=HN.out.1 (VP.out.1 e);rw [hal] at this;cases this
  rcases iO VQ with e | ⟨t1,t2,t3,t4⟩
  ·exact absurd e hne
  clear HE HN VP hne hany hal;go_enter Tryz.func197,Tryz.ntmps197;go_wp2_with fail
  refine (Tp.out _).mono ?_;rintro e w2 ⟨rfl,hb2⟩;go_wp2;go_ret;exact ⟨by rw [HV.out];rfl,hb2⟩
 | true=>
  have he:VQ=ByteArray.empty:=VP.out.2 (HN.out.2 hal);subst he;have HV:Hid (V=if ks.isEmpty=true then 8 else if ks.any (fun b=>!decide (b.vL=i.size)) then 15 else 0):=by show V=_;rw [HE.out,if_neg h32,if_neg (by rw [i4];decide),if_neg (by rw [hany,hal];decide)]
  clear HE HN VP hany hal;cases hk0:ks.isEmpty with
  | true=>
   rw [hk0] at e3;have Tw:Hid (V=8):=by show V=8;rw [HV.out,if_pos hk0]
   clear hk0;go_enter Tryz.func197,Tryz.ntmps197;go_wp2_with fail
   refine (Tp.out _).mono ?_;rintro e w2 ⟨rfl,hb2⟩;obtain ⟨p0,p1,p2,p3,p4,p5,p6,p7,p8,p9,JG⟩:=(HP.out.up hb2).cells;go_wp2;go_ret;exact ⟨by rw [Tw.out];rfl,hb2⟩
  | false=>
   rw [hk0] at e3;have Tw:Hid (V=if ks.any (fun b=>!decide (b.vL=i.size)) then 15 else 0):=by show V=_;rw [HV.out,if_neg (by rw [hk0];decide)]
   clear hk0 HV;go_enter Tryz.func197,Tryz.ntmps197;go_wp2_with fail
   refine (Tp.out _).mono ?_;rintro e w2 ⟨rfl,hb2⟩;obtain ⟨p0,p1,p2,p3,p4,p5,p6,p7,p8,p9,JG⟩:=(HP.out.up hb2).cells;have R0:Hid (Qh ks i.size w (.int .i64 0) w2):=⟨0,Nat.zero_le _,rfl,hb2,by simp⟩;clear hb2;go_wp2
   go_loopw [34] (fun i' wr=>Qh ks i.size w i' wr) (fun i' _=>ks.length-(intOf i').toNat)
   case atStart=>exact R0.out
   case round=>
    clear R0 p0 p1 p2 p3 p4 p5 p6 p7 p8 p9 JG;obtain ⟨j,hj,rfl,hbel,hno⟩:=hrel;have HB:=hid hbel;have DY:=hid hno;by_cases hlt:j<ks.length
    ·obtain ⟨x,hx⟩:∃ x,ks[j]?=some x:=⟨_,jc6 hlt⟩;have kE:=hid (lV (fun b:au=>!decide (b.vL=i.size)) hx);have HAT:=hid (uo (fun b:au=>!decide (b.vL=i.size)) hx);obtain ⟨kd',lv',i',t',d',Zj,at',li',ks'⟩:=x;obtain ⟨b',off',ac',ap',al',ak',cc',cp',cl',ck',ha',hP'⟩:=JE HS.out hx;have k10:=(hP'.up hbel).cells.c10;obtain ⟨p0,p1,p2,p3,p4,p5,p6,p7,p8,p9,JG⟩:=(HP.out.up hbel).cells;subst ha';have Wy:Hid ((au.mk kd' lv' i' t' d' Zj at' li' ks').vL=ks'.length):=rfl;clear hP' hx hno hbel;by_cases hq:ks'.length=i.size
     ·have q1:((ks'.length:Int) != (i.size:Int))=false:=by rw [bne_eq_false_iff_eq];omega
      have HQ:=hid hq;clear hq;go_wp2_with fail
      go_quiet (fail)
      go_wp2;go_roundw;case rel=>exact ⟨j+1,by omega,by go_num,eT HB.out _,by rw [kE.out,DY.out,Wy.out,HQ.out];simp⟩
      case measure=>simp [intOf];omega
     ·have q1:((ks'.length:Int) != (i.size:Int))=true:=by rw [bne_iff_ne];omega
      have hv:V=15:=by rw [Tw.out,if_pos (HAT.out (by rw [Wy.out];simp [hq]))]
      have Zx:=hid hv;clear hq hv;go_wp2_with fail
      go_quiet (fail)
      go_wp2;go_ret;exact ⟨by rw [Zx.out];rfl,eT HB.out _⟩
    ·have hv:V=0:=by
      have:=DY.out;rw [List.take_of_length_le (by omega)] at this;rw [Tw.out,if_neg (by rw [this];decide)]
     have Zx:=hid hv;clear hv hno hbel;go_wp2;go_ret;exact ⟨by rw [Zx.out];rfl,HB.out⟩
open Go.RowKit
def qw (cl:ByteArray->Bool) (t:ByteArray) (a:At):Nat:=if kZ t=false then 17 else if cl t=true then 5 else a.err
def rO (cl:ByteArray->Bool):Prop:=∀ (w:World) (b o:Nat) (k lv:Int) (i t d ti:ByteArray) (at_:At) (li:List ah) (ks:List au) (ac ap al ak:Option Addr) (cc cp cl' ck:Nat),
 MG w b o k lv i t d ti at_ li ks ac ap al ak cc cp cl' ck->t.size<=300->at_.short->Calls Tryz.prog 196 #[.pointer (some ⟨b,o,none⟩)] w (dJ (.int .i64 (qw cl t at_:Nat)) w)
structure BlM (i t d ti:ByteArray) (a:At) (li:List ah):Prop where
 i:i.size<=300
 t:t.size<=300
 d:d.size<=300
 ti:ti.size<=300
 at_:a.short
 li:ah.fT li
theorem Ay {k lv:Int} {i t d ti:ByteArray} {a:At} {li:List ah} {ks:List au} (h:AQ k lv i t d ti a li ks=true):1<=k/\k<=15/\(k=2\/k=8\/lv=0):=by
 unfold AQ at h;simp only [Bool.and_eq_true,Bool.or_eq_true,decide_eq_true_eq] at h;obtain ⟨⟨⟨⟨⟨⟨⟨⟨h1,h2⟩,h3⟩,-⟩,-⟩,-⟩,-⟩,-⟩,-⟩:=h;refine ⟨h1,h2,?_⟩;rcases h3 with h | h
 ·simp at h;omega
 ·exact .inr (.inr h)
theorem uy (cl:ByteArray->Bool) (w:World) (b o:Nat) (k lv:Int) (i t d ti:ByteArray) (at_:At) (li:List ah) (ks:List au) (ac ap al ak:Option Addr) (cc cp cl' ck:Nat) (h:MG w b o k lv i t d ti at_ li ks ac ap al ak cc cp cl' ck) (hs:BlM i t d ti at_ li) (hf:AQ k lv i t d ti at_ li ks=true) (hm:k=4->rO cl) : Calls Tryz.prog 158 #[.pointer (some ⟨b,o,none⟩)] w (dJ (.int .i64 (sZ cl k lv i t d ti at_ li ks:Nat)) w):=by
 have HP:=hid h;obtain ⟨f1,f2,f3⟩:=Ay hf;obtain ⟨-,l4,m4⟩:=fC h.rd.line;obtain ⟨-,l5,m5⟩:=fC h.rd.kids;unfold maxLen at m4 m5;have LE:=hid (kX li al cl' w hs.li h.rd.line);have UE:=hid (jA li al cl' w hs.li h.rd.line);have HDE:=hid (xM w b o k lv i t d ti at_ li ks ac ap al ak cc cp cl' ck h hs.at_ hs.li);have TBE:=hid (vX w b o k lv i t d ti at_ li ks ac ap al ak cc cp cl' ck h (by have:=hs.i;omega));have MTE:=hid (fun hk=>hm hk w b o k lv i t d ti at_ li ks ac ap al ak cc cp cl' ck h hs.t hs.at_);have CLI:=hid (fun w=>q0z i w (by have:=hs.i;omega));have CTR:=hid (fun w=>ig i w (by have:=hs.i;omega));have CTX:=hid (fun w=>nJ t w (by have:=hs.t;omega));have CNM:=hid (fun w=>Gb i w (by have:=hs.i;omega));have CLB:=hid (xS i w (by have:=hs.i;omega));have CLD:=hid (fun w=>q0z d w (by have:=hs.d;omega));have CLT:=hid (fun w=>q0z ti w (by have:=hs.ti;omega));have AC:=hid (fQ at_ ac ap cc cp w h.rd.at_ hs.at_);obtain ⟨c0,c1,c2,c3,c4,c5,c6,c7,c8,c9,c10⟩:=h.cells;have e2:=uw li;have e3:=uw ks;have HE:Hid (sZ cl k lv i t d ti at_ li ks=if k=1 then (if li.isEmpty=true then 8 else tJ li)
 else if k=2 then qp lv at_ li
 else if k=12 then mI li
 else if k=3 then (if fP i=false\/trimS i=false\/kZ t=false then 17 else 0)
 else if k=4 then qw cl t at_
 else if k=7\/k=8 then (if ks.isEmpty=true then 8 else if k=8/\(lv<0\/999999999<lv) then 9 else 0)
 else if k=10 then jf i ks
 else if k=13\/k=14 then (if iQ i=false then 6 else at_.err)
 else if k=15 then (if eG i=false then 6 else if fP d=false\/fP ti=false then 17 else 0)
 else 0):=rfl
 generalize sZ cl k lv i t d ti at_ li ks=V at *
 generalize tJ li=E1 at *;generalize qp lv at_ li=E2 at *
 generalize mI li=E3 at *;generalize qw cl t at_=E4 at *
 generalize jf i ks=E5 at *;generalize at_.err=E6 at *
 generalize fP i=b1 at *;generalize trimS i=b2 at *;generalize kZ t=b3 at *;generalize iQ i=b4 at *;generalize eG i=b5 at *;generalize fP d=b6 at *;generalize fP ti=b7 at *;generalize li.isEmpty=bl at *;generalize ks.isEmpty=bk at *;clear h hs hf hm;rcases DJ k with rfl | rfl | rfl | rfl | rfl | rfl | rfl | rfl | rfl | rfl | rfl | rfl | rfl | rfl | rfl | hk
 case inr.inr.inr.inr.inr.inr.inr.inr.inr.inr.inr.inr.inr.inr.inr=>omega
 case inr.inr.inr.inr.inr.inr.inl=>
  have hlv:lv=0:=by omega
  subst hlv;clear f1 f2 f3;go_enter Tryz.func158,Tryz.ntmps158;go_wp2;all_goals
   go_ret;refine ⟨jo ?_,jc7 _ _⟩
   (try simp only [Bool.not_eq_true',Bool.not_eq_false'] at *)
   rw [HE.out];simp [*]
 case inr.inr.inr.inr.inr.inr.inr.inl=>
  clear f1 f2 f3;by_cases hlv:lv<0\/999999999<lv
  ·rcases hlv with hlv | hlv
   all_goals
    go_enter Tryz.func158,Tryz.ntmps158;go_wp2;all_goals
     go_ret;refine ⟨jo ?_,jc7 _ _⟩
     (try simp only [Bool.not_eq_true',Bool.not_eq_false'] at *)
     rw [HE.out];simp [*]
  ·have g1:0<=lv:=by omega
   have g2:lv<=999999999:=by omega
   have HG:Hid (¬ (lv<0\/999999999<lv)):=hlv;clear hlv;go_enter Tryz.func158,Tryz.ntmps158;go_wp2;all_goals
    go_ret;refine ⟨jo ?_,jc7 _ _⟩
    (try simp only [Bool.not_eq_true',Bool.not_eq_false'] at *)
    rw [HE.out];simp [*,HG.out]
 all_goals
  clear f1 f2 f3;go_enter Tryz.func158,Tryz.ntmps158;go_wp2_with (first | (go_at_call 47;refine LE.out.mono ?_;rintro e w2 ⟨rfl,hb3⟩) | (go_at_call 194;refine HDE.out.mono ?_;rintro e w2 ⟨rfl,hb3⟩) | (go_at_call 196;refine (MTE.out (by simp)).mono ?_;rintro e w2 ⟨rfl,hb3⟩) | (go_at_call 197;refine TBE.out.mono ?_;rintro e w2 ⟨rfl,hb3⟩) | (go_at_call 198;refine UE.out.mono ?_;rintro e w2 ⟨rfl,hb3⟩) | (go_at_call 114;refine AC.out.mono ?_;rintro e w2 ⟨rfl,hb3⟩) | (go_at_call 67;refine (CNM.out _).mono ?_;rintro e w2 ⟨rfl,rfl⟩) | (go_at_call 199;refine CLB.out.mono ?_;rintro e w2 ⟨rfl,hb1⟩;obtain ⟨p0,p1,p2,p3,p4,p5,p6,p7,p8,p9,JG⟩:=(HP.out.up hb1).cells) | (go_at_call 113;refine (CTR.out _).mono ?_;rintro e w2 ⟨rfl,rfl⟩) | (go_at_call 195;refine (CTX.out _).mono ?_;rintro e w2 ⟨rfl,q3,rfl⟩) | (go_at_call 112;(with_reducible refine (CLI.out _).mono ?_);rintro e w2 ⟨rfl,q,rfl⟩) | (go_at_call 112;(with_reducible refine (CLD.out _).mono ?_);rintro e w2 ⟨rfl,q,rfl⟩) | (go_at_call 112;(with_reducible refine (CLT.out _).mono ?_);rintro e w2 ⟨rfl,q2,rfl⟩))
  all_goals
   go_ret;refine ⟨jo ?_,?_⟩
   ·(try simp only [Bool.not_eq_true',Bool.not_eq_false'] at *)
    rw [HE.out];simp [*]
   ·first
    | exact hb3 | exact eT hb1 _ | exact hb1 | exact eT (jc7 _ _) _ | exact jc7 _ _
open Go.RowKit
open Go.RowKit
open Go.RowKit
open Go.RowKit
end Go.Proofs.YtclikfjalmcoaaaGreatDoor

