/- The contract of tree.checkInlines and Line: the first error of inlines. Contracts of tree.Line, checkUnbroken, checkHead, checkTable. Contracts of tree.checkTable, checkBlock. The contract of tree.checkBlock; of a formula's check it asks the contract. Contracts of publisherref01.Next and publisherref04.Label. Contracts of publisherref04.cites, named. Contracts of publisherref04.target, one. Contracts of publisherref04.list, Line: the first error of inlines. -/
import Derived.Test.YtclikfjalmcoaaaGreatDoorKChQ
import Derived.Shelf.Strings.SlTrimAscii
set_option maxHeartbeats 8000000
set_option maxRecDepth 100000
open Go.Lib (hid)
namespace Go.Proofs.YtclikfjalmcoaaaGreatDoor
open List renaming getElem?_eq_getElem->ji6
open Go.RowKit.Below renaming refl->ji7
open Bool renaming eq_iff_iff->jik
open Go.RowKit
set_option linter.unusedVariables false
set_option linter.unusedSimpArgs false
def edge (k:Int) (first last:Bool):Bool:=(decide (k=2)&&first)||((decide (k=2)||decide (k=3))&&last)
theorem EG (bf:Int) (first last:Bool) (k:Int) (t d ti:ByteArray) (a:At) (ar:List ByteArray) (ci:List Ci) (ks:List aj) (hf:Fb k t d ti a ar ci ks=true) : tu bf first last k t d ti a ar ci ks=if edge k first last=true then 5 else tu bf false false k t d ti a ar ci ks:=by
 unfold tu edge;rw [hf];simp only [Bool.true_eq_false,if_false];by_cases h1:k=1\/k=4\/k=5
 ·have h2:k≠2:=by omega
  have h3:k≠3:=by omega
  simp [h1,h2,h3]
 ·by_cases h2:k=2
  ·subst h2;cases first<;>cases last<;>simp
  ·by_cases h3:k=3
   ·subst h3;cases first<;>cases last<;>simp
   ·simp [h1,h2,h3]
theorem yQ (bf:Int) (first last:Bool) (k:Int) (t d ti:ByteArray) (a:At) (ar:List ByteArray) (ci:List Ci) (ks:List aj) (hf:Fb k t d ti a ar ci ks=false):tu bf first last k t d ti a ar ci ks=5:=by unfold tu;rw [if_pos hf]
def BS (l:List aj) (k:Nat):Int:=if k=0 then 0 else match l[k-1]? with | some x=>x.kd | none=>0
def N7 (l:List aj) (dp:Nat) (E:Nat) (w:World) (vi:Value) (wr:World):Prop:=∃ k:Nat,k<=l.length/\vi=.int .i64 k/\Below w.heap.size w wr/\aj.aX (BS l k) (decide (k=0)) dp (l.drop k)=E
theorem KD {l:List aj} {k:Nat} {x:aj} (h:l[k]?=some x):BS l (k+1)=x.kd:=by unfold BS;rw [if_neg (by omega),Nat.add_sub_cancel,h]
mutual
def aj.mid:aj->Prop
 | .mk k t d ti a ar ci ks=>t.size<=1000000/\d.size<=1000000/\ti.size<=1000000/\a.short/\(∀ c∈ar,c.size<=5000)/\(∀ c∈ci,c.key.size<=5000/\c.pre.size<=5000/\c.suf.size<=5000)/\aj.gM ks
def aj.gM:List aj->Prop
 | []=>True
 | x::l=>x.mid/\aj.gM l
end
mutual
theorem aj.FM:∀ (x:aj),x.small->x.mid
 | .mk k t d ti a ar ci ks,h=>by
  rw [aj.small] at h;rw [aj.mid];obtain ⟨h1,h2,h3,h4,h5,h6,h7,h8,h9⟩:=h;exact ⟨by omega,by omega,by omega,h4,h7,h8,aj.lg ks h9⟩
theorem aj.lg:∀ (l:List aj),aj.aD l->aj.gM l
 | [],_=>by rw [aj.gM];trivial
 | x::l,h=>by
  rw [aj.aD] at h;rw [aj.gM];exact ⟨aj.FM x h.1,aj.lg l h.2⟩
end
theorem aj.l7:∀ {l:List aj} {k:Nat} {x:aj},aj.gM l->l[k]?=some x->x.mid
 | [],_,_,_,h=>by simp at h
 | y::l,0,x,hb,h=>by simp at h;subst h;rw [aj.gM] at hb;exact hb.1
 | y::l,k+1,x,hb,h=>by rw [aj.gM] at hb;exact aj.l7 (l:=l) (k:=k) hb.2 (by simpa using h)
theorem Rj {kd:Int} {t d ti:ByteArray} {at_:At} {ar:List ByteArray} {ci:List Ci} {ks:List aj} (h:(aj.mk kd t d ti at_ ar ci ks).mid):InS t d ti at_ ar ci/\aj.gM ks:=by unfold aj.mid at h;obtain ⟨h1,h2,h3,h4,h7,h8,h9⟩:=h;exact ⟨⟨h1,h2,h3,h4,h7,h8⟩,h9⟩
theorem KE (bf:Int) (st:Bool) (dp:Nat) (k:Int) (t d ti:ByteArray) (a:At) (ar:List ByteArray) (ci:List Ci) (ks:List aj) (l:List aj) (yj:¬ 15<dp) : aj.aX bf st dp (aj.mk k t d ti a ar ci ks::l)=if Fb k t d ti a ar ci ks=false then 5 else if edge k (decide (dp=0)&&st) (decide (dp=0)&&l.isEmpty)=true then 5 else if tu bf false false k t d ti a ar ci ks≠0 then tu bf false false k t d ti a ar ci ks else if aj.aX 0 true (dp+1) ks≠0 then aj.aX 0 true (dp+1) ks else aj.aX k false dp l:=by
 rw [aj.aX,if_neg yj,aj.err];cases hf:Fb k t d ti a ar ci ks with
 | false=>rw [yQ _ _ _ _ _ _ _ _ _ _ _ hf];simp
 | true=>
  rw [EG bf _ _ k t d ti a ar ci ks hf];cases he:edge k (decide (dp=0)&&st) (decide (dp=0)&&l.isEmpty) with
  | true=>simp
  | false=>
   simp only [Bool.true_eq_false,Bool.false_eq_true,if_false];by_cases h1:tu bf false false k t d ti a ar ci ks=0
   ·simp only [h1,ne_eq,not_true_eq_false,if_false];rfl
   ·simp only [ne_eq,h1,not_false_eq_true,if_true]
theorem Rk (k:Int) (zd st lb:Bool):edge k (zd&&st) (zd&&lb)=(zd&&((k==2)&&st||((k==2)||(k==3))&&lb)):=by
 unfold edge;have h2:decide (k=2)=(k==2):=by rw [jik];simp
 have h3:decide (k=3)=(k==3):=by rw [jik];simp
 rw [h2,h3];cases (k==2)<;>cases (k==3)<;>cases zd<;>cases st<;>cases lb<;>rfl
theorem N8 {w:World} {l:List aj} {a:Option Addr} {cap:Nat} (h:o8 (·<w.heap.size) w 10 (l.map aj.d) a cap) {k:Nat} {kd:Int} {t d ti:ByteArray} {at_:At} {ar:List ByteArray} {ci:List Ci} {ks:List aj} (hk:l[k]?=some (.mk kd t d ti at_ ar ci ks)) : ∃ b off ac ap aa ai ak cc cp ca rV ck,a=some ⟨b,off,none⟩/\Sj w b (off+k*10) kd t d ti at_ ar ci ks ac ap aa ai ak cc cp ca rV ck:=by
 obtain ⟨b,off,vc,vp,va,vi,vk,rfl,hok,hbl,hc,hR⟩:=iQ h hk;obtain ⟨a1,c1,h1,-⟩:=hR.at_.cls.aG
 obtain ⟨a2,c2,h2,-⟩:=hR.at_.aR.aG
 obtain ⟨a3,c3,h3,-⟩:=hR.args.aG;obtain ⟨a4,c4,h4,-⟩:=hR.dL.aG;obtain ⟨a5,c5,h5,-⟩:=hR.kids.aG;simp only [List.length_map,List.cons.injEq,and_true] at h1 h2 h3 h4 h5;subst h1 h2 h3 h4 h5;exact ⟨b,off,a1,a2,a3,a4,a5,c1,c2,c3,c4,c5,rfl,hc,hR,hbl⟩
theorem rz (n:Nat):∀ (l:List aj) (dp:Nat) (a:Option Addr) (cap:Nat) (w:World),aj.aY l<=n->dp<=1000000->aj.gM l->Rd (·<w.heap.size) w (bG l) [.slice a l.length cap] -> Calls Tryz.prog 92 #[.slice a l.length cap,.int .i64 (dp:Int)] w (dS (.int .i64 (aj.aX 0 true dp l:Nat)) w):=by
 induction n using Nat.strongRecOn with
 | _ n ih=>
  intro l dp a cap w hn hdp hsm h;obtain ⟨a',c',hv,hs⟩:=Rd.aG h;obtain ⟨rfl,rfl⟩:a'=a/\c'=cap:=by simp at hv;exact ⟨hv.1.symm,hv.2.symm⟩
  have hcap:l.length<=c':=by simpa using hs.le
  have hmx:=hs.max;unfold maxLen at hmx;have HS:=hid hs;have IH:=hid ih;have SM:=hid hsm;obtain ⟨E,hE⟩:∃ E,aj.aX 0 true dp l=E:=⟨_,rfl⟩;rw [hE];have R0:Hid (N7 l dp E w (.int .i64 0) w):=⟨0,Nat.zero_le _,rfl,ji7 _ _,hE⟩;clear hs hv h ih hsm hE;by_cases yj:15<dp
  ·have Xe:decide ((15:Int)<(dp:Int))=true:=by simp;omega
   go_enter Tryz.func92,Tryz.ntmps92;go_wp2
   go_loopw [12] (fun i wr=>N7 l dp E w i wr) (fun i _=>l.length-(intOf i).toNat)
   case atStart=>exact R0.out
   case round=>
    clear R0;obtain ⟨k,hk,rfl,hbel,bR⟩:=hrel;have HB:=hid hbel;by_cases hlt:k<l.length
    ·obtain ⟨x,hx⟩:∃ x,l[k]?=some x:=⟨_,ji6 hlt⟩;have HE:Hid (E=11):=by
      show E=11;rw [<- bR,PS l k x hx,aj.aX,if_pos yj]
     clear bR hx;go_wp2;go_ret;exact ⟨by rw [HE.out];rfl,HB.out⟩
    ·have HE:Hid (E=0):=by
      show E=0;rw [<- bR,List.drop_of_length_le (by omega),aj.aX]
     clear bR;go_wp2;go_ret;exact ⟨by rw [HE.out];rfl,HB.out⟩
  ·have Xe:decide ((15:Int)<(dp:Int))=false:=by simp;omega
   go_enter Tryz.func92,Tryz.ntmps92;go_wp2
   go_loopw [12] (fun i wr=>N7 l dp E w i wr) (fun i _=>l.length-(intOf i).toNat)
   case atStart=>exact R0.out
   case round=>
    clear R0;obtain ⟨k,hk,rfl,hbel,bR⟩:=hrel;have HB:=hid hbel;by_cases hlt:k<l.length
    ·obtain ⟨x,hx⟩:∃ x,l[k]?=some x:=⟨_,ji6 hlt⟩;have hbs:=KD hx;have hxs:x.mid:=aj.l7 SM.out hx;have hsz:=aj.bM l k _ hx;rw [PS l k x hx] at bR;have hle:(l.drop (k+1)).isEmpty=((k:Int)==(l.length:Int)-1):=by
      rw [jik];simp;omega
     obtain ⟨kd,t,d,ti,at_,ar,ci,ks⟩:=x;rw [aj.sz] at hsz;obtain ⟨hins,hks⟩:=Rj hxs;rw [KE _ _ _ _ _ _ _ _ _ _ _ _ yj,Rk,hle] at bR;have hbk:BS l (k+1)=kd:=hbs;obtain ⟨b,off,ac,ap,aa,ai,ak,cc,cp,ca,rV,ck,ha,Ye⟩:=N8 HS.out hx;have hP:=Ye.up hbel;have ZI:Hid (k≠0->∃ kv,wr.cell? ⟨b,off+(k-1)*10,none⟩=some (.int .i64 kv)/\BS l k=kv):=by
      intro hk0;obtain ⟨y,hy⟩:∃ y,l[k-1]?=some y:=⟨_,ji6 (show k-1<l.length by omega)⟩;obtain ⟨kv,t',d',ti',at',ar',sj,ks'⟩:=y;obtain ⟨b',off',ac',ap',aa',ai',ak',cc',cp',ca',jhj,ck',ha',hP'⟩:=N8 HS.out hy;rw [ha] at ha';injection ha' with ha'
      injection ha' with e1 e2 e3
      subst e1 e2;refine ⟨kv,(hP'.up hbel).cells.c0,?_⟩;unfold BS;rw [if_neg hk0,hy];rfl
     subst ha;have HBK:=hid hbk;have HZ0:Hid (k=0->BS l k=0):=fun h=>by unfold BS;rw [if_pos h]
     obtain ⟨bf,hbf⟩:∃ bf,BS l k=bf:=⟨_,rfl⟩;rw [hbf] at bR ZI HZ0;have HP:=hid hP;have Le:=hid (ru wr b (off+k*10) kd t d ti at_ ar ci ks ac ap aa ai ak cc cp ca rV ck hP);have CI:=hid (fun wx (hb:Below wr.heap.size wr wx) hf=>tq wx b (off+k*10) kd bf t d ti at_ ar ci ks ac ap aa ai ak cc cp ca rV ck (hP.up hb) hins hf);have CK:=hid (fun wx (hb:Below wr.heap.size wr wx)=>IH.out (aj.aY ks) (by omega) ks (dp+1) ak ck wx (Nat.le_refl _) (by omega) hks (hP.up hb).rd.kids);have fM:=hid bR;clear hbs hxs hsz hle hins hks hbk hP Ye hbf bR hx hbel;have OO:=hid (fun wx:World=>j3 kd [2,3] wx.heap.size 2 _ (by simp) (LP wx 3 2 3));simp only [List.length_cons,List.length_nil,Nat.reduceAdd] at OO;have Yd:([2,3]:List Int).contains kd=((kd==2)||(kd==3)):=by rw [jik];simp
     rw [Yd] at OO;obtain ⟨ed,hed⟩:∃ ed,(decide (dp=0)&&((kd==2)&&decide (k=0)||((kd==2)||(kd==3))&&((k:Int)==(l.length:Int)-1)))=ed:=⟨_,rfl⟩;rw [hed] at fM;have HED:=hid hed;have z1:((dp:Int)==0)=decide (dp=0):=by rw [jik];simp
     have z3:((k:Int)==0)=decide (k=0):=by rw [jik];simp
     have Z1:=hid z1;have Z3:=hid z3;clear Yd hed z1 z3
     go_upto_if 18 with (fail)
     go_cut [6] (fun s6 wx=>s6=.int .i64 bf/\wr=wx)
     case first=>
      clear OO HED fM CK CI Le HP Z1 Z3;cases k with
      | zero=>
       have hb0:=HZ0.out rfl;have HB0:=hid hb0;clear hb0 ZI HZ0;go_wp2_with fail
       go_meet
       exact ⟨by rw [HB0.out],rfl⟩
      | succ j=>
       obtain ⟨kv,hcell,hkv⟩:=ZI.out (by omega);rw [Nat.add_sub_cancel] at hcell;have HKV:=hid hkv;clear hkv ZI HZ0;go_wp2_with fail
       go_meet
       exact ⟨by rw [HKV.out],rfl⟩
     case rest=>
      obtain ⟨rfl,rfl⟩:=hcut;clear ZI HZ0;cases hf:Fb kd t d ti at_ ar ci ks with
      | false=>
       rw [hf] at Le;have HE:Hid (E=5):=by show E=5;have:=fM.out;rw [if_pos hf] at this;exact this.symm
       clear hf;go_wp2_with fail
       refine Le.out.mono ?_;rintro e w2 ⟨rfl,hb2⟩;go_wp2;go_ret;exact ⟨by rw [HE.out];rfl,aZ HB.out hb2⟩
      | true=>
       rw [hf] at Le;have rU:Hid ((if ed=true then 5 else if tu bf false false kd t d ti at_ ar ci ks≠0 then tu bf false false kd t d ti at_ ar ci ks else if aj.aX 0 true (dp+1) ks≠0 then aj.aX 0 true (dp+1) ks else aj.aX kd false dp (l.drop (k+1)))=E):=by show _=_;have:=fM.out;rw [if_neg (by rw [hf];decide)] at this;exact this
       have Xf:=hid (fun wx hb=>CI.out wx hb hf);clear hf fM CI;go_wp2_with fail
       refine Le.out.mono ?_;rintro e w2 ⟨rfl,hb2⟩;have HB2:=hid hb2;obtain ⟨p0,p1,p2,p3,p4,p5,p6,p7,p8,p9⟩:=(HP.out.up hb2).cells;go_upto_region 12 with (fail)
       go_cut [58] (fun s58 wx=>s58=.bool ed/\Below w2.heap.size w2 wx)
       case first=>
        have z1:=Z1.out;have z3:=Z3.out;have OW:=hid (OO.out w2);have Wm:=HED.out;obtain ⟨zd,hzd⟩:∃ zd,decide (dp=0)=zd:=⟨_,rfl⟩;obtain ⟨st,hst⟩:∃ st,decide (k=0)=st:=⟨_,rfl⟩;obtain ⟨b2,hb2'⟩:∃ b2,(kd==2)=b2:=⟨_,rfl⟩;obtain ⟨b3,Wn⟩:∃ b3,(kd==3)=b3:=⟨_,rfl⟩;obtain ⟨lb,hlb⟩:∃ lb,((k:Int)==(l.length:Int)-1)=lb:=⟨_,rfl⟩;rw [hzd,hst,hb2',Wn,hlb] at Wm;rw [hzd] at z1;rw [hst] at z3;rw [hb2',Wn] at OW;have jdk:=hid Wm;clear Wm hzd hst Wn OO HED rU CK Xf Le Z1 Z3 hb2;cases zd<;>cases b2<;>cases st<;>cases b3<;>cases lb
        all_goals
         go_wp2_with (go_at_call 147;refine OW.out.mono ?_;rintro e w3 ⟨rfl,rfl⟩)
         go_meet
         exact ⟨by rw [<- jdk.out];rfl,by first | exact (ji7 _ _).alloc (Nat.le_refl _) _ | exact ji7 _ _⟩
       case rest=>
        obtain ⟨rfl,hbx⟩:=hcut;have jY:=hid (aZ HB2.out hbx);clear p0 p1 p2 p3 p4 p5 p6 p7 p8 p9 hbx hb2;cases ed with
        | true=>
         have HE:Hid (E=5):=by show E=5;have:=rU.out;rw [if_pos rfl] at this;exact this.symm
         go_wp2;go_ret;exact ⟨by rw [HE.out];rfl,aZ HB.out jY.out⟩
        | false=>
         have uR:Hid ((if tu bf false false kd t d ti at_ ar ci ks≠0 then tu bf false false kd t d ti at_ ar ci ks else if aj.aX 0 true (dp+1) ks≠0 then aj.aX 0 true (dp+1) ks else aj.aX kd false dp (l.drop (k+1)))=E):=by show _=_;have:=rU.out;rw [if_neg (by decide)] at this;exact this
         have PU:=hid (Xf.out _ jY.out);clear rU Xf;generalize tu bf false false kd t d ti at_ ar ci ks=E1 at *
         generalize aj.aX 0 true (dp+1) ks=E2 at *;by_cases h1:E1=0
         ·have Im:Hid ((if E2≠0 then E2 else aj.aX kd false dp (l.drop (k+1)))=E):=by
           show _=_;have:=uR.out;rw [if_neg (by simpa using h1)] at this;exact this
          subst h1;go_wp2_with fail
          refine PU.out.mono ?_;rintro e w4 ⟨rfl,hb4⟩;have Az:=hid (aZ jY.out hb4);obtain ⟨p0,p1,p2,p3,p4,p5,p6,p7,p8,p9⟩:=(HP.out.up Az.out).cells;have PV:=hid (CK.out _ Az.out);clear PU hb4 CK uR;by_cases h2:E2=0
          ·have UF:Hid (aj.aX kd false dp (l.drop (k+1))=E):=by
            show _=_;have:=Im.out;rw [if_neg (by simpa using h2)] at this;exact this
           subst h2;go_wp2_with fail
           refine PV.out.mono ?_;rintro e w5 ⟨rfl,hb5⟩;have yw:=hid (aZ Az.out hb5);clear PV hb5;go_wp2;go_roundw;case rel=>exact ⟨k+1,by omega,by go_num,aZ HB.out yw.out,by rw [HBK.out,decide_eq_false (by omega)];exact UF.out⟩
           case measure=>simp [intOf];omega
          ·have UF:Hid (E=E2):=by
            show _=_;have:=Im.out;rw [if_pos h2] at this;exact this.symm
           have hn2:((E2:Int) != 0)=true:=by rw [bne_iff_ne];omega
           clear h2;go_wp2_with fail
           refine PV.out.mono ?_;rintro e w5 ⟨rfl,hb5⟩;have yw:=hid (aZ Az.out hb5);clear PV hb5;go_wp2;go_ret;exact ⟨by rw [UF.out];rfl,aZ HB.out yw.out⟩
         ·have Im:Hid (E=E1):=by
           show _=_;have:=uR.out;rw [if_pos h1] at this;exact this.symm
          have hn1:((E1:Int) != 0)=true:=by rw [bne_iff_ne];omega
          clear h1;go_wp2_with fail
          refine PU.out.mono ?_;rintro e w4 ⟨rfl,hb4⟩;have Az:=hid (aZ jY.out hb4);clear PU hb4;go_wp2;go_ret;exact ⟨by rw [Im.out];rfl,aZ HB.out Az.out⟩
    ·have HE:Hid (E=0):=by
      show E=0;rw [<- bR,List.drop_of_length_le (by omega),aj.aX]
     clear bR;go_wp2;go_ret;exact ⟨by rw [HE.out];rfl,HB.out⟩
open Go.RowKit
theorem qm (l:List aj) (a:Option Addr) (cap:Nat) (w:World) (hsm:aj.gM l) (h:Rd (·<w.heap.size) w (bG l) [.slice a l.length cap]) : Calls Tryz.prog 47 #[.slice a l.length cap] w (dS (.int .i64 (Fq l:Nat)) w):=by
 have CK:=hid (rz _ l 0 a cap w (Nat.le_refl _) (by omega) hsm h);change Hid (Calls _ _ _ _ (dS (.int .i64 (Fq l:Nat)) w)) at CK;generalize Fq l=E at *;clear h hsm;go_enter Tryz.func47,Tryz.ntmps47;go_wp2_with fail
 refine CK.out.mono ?_;rintro e w1 ⟨rfl,hb⟩;go_wp2;go_ret;exact ⟨rfl,hb⟩
def mR (l:List aj):Nat:=if aj.eu kP l=true then 5 else Fq l
theorem jO (l:List aj) (a:Option Addr) (cap:Nat) (w:World) (hsm:aj.gM l) (h:Rd (·<w.heap.size) w (bG l) [.slice a l.length cap]) : Calls Tryz.prog 198 #[.slice a l.length cap] w (dS (.int .i64 (mR l:Nat)) w):=by
 have hb0:Below w.heap.size w (w.alloc (.cells #[.int .i64 2,.int .i64 3] 3)):=(ji7 _ _).alloc (Nat.le_refl _) _;have AK:=hid (rW _ l _ _ [2,3] w.heap.size 2 _ (Nat.le_refl _) (h.up hb0) (by simp) (LP w 3 2 3));simp only [List.length_cons,List.length_nil,Nat.reduceAdd] at AK;have Yb:aj.eu [2,3] l=aj.eu kP l:=rfl;rw [Yb] at AK;have LE:=hid (qm l a cap _ hsm (h.up hb0));have HE:Hid (mR l=if aj.eu kP l=true then 5 else Fq l):=rfl;generalize mR l=V at *;generalize Fq l=E at *;generalize aj.eu kP l=K at *;have HB:=hid hb0;clear h hsm Yb hb0;cases K
 all_goals
  go_enter Tryz.func198,Tryz.ntmps198;go_wp2_with (first | (go_at_call 217;refine AK.out.mono ?_;rintro e w2 ⟨rfl,rfl⟩) | (go_at_call 47;refine LE.out.mono ?_;rintro e w2 ⟨rfl,hb2⟩))
  go_ret;refine ⟨by rw [HE.out];rfl,?_⟩;first | exact aZ HB.out hb2 | exact HB.out
def qo (lv:Int) (a:At) (li:List aj):Nat:=if lv<1\/6<lv then 9 else if a.err≠0 then a.err else mR li
theorem yR (w:World) (b o:Nat) (k lv:Int) (i t d ti:ByteArray) (at_:At) (li:List aj) (ks:List ah) (ac ap al ak:Option Addr) (cc cp cl ck:Nat) (h:PD w b o k lv i t d ti at_ li ks ac ap al ak cc cp cl ck) (ha:at_.short) (hsm:aj.gM li) : Calls Tryz.prog 194 #[.pointer (some ⟨b,o,none⟩)] w (dS (.int .i64 (qo lv at_ li:Nat)) w):=by
 have HP:=hid h;have AC:=hid (gL at_ ac ap cc cp w h.rd.at_ ha);have UE:=hid (fun wx (hb:Below w.heap.size w wx)=>jO li al cl wx hsm (h.rd.line.up hb));obtain ⟨c0,c1,c2,c3,c4,c5,c6,c7,c8,c9,c10⟩:=h.cells;have HE:Hid (qo lv at_ li=if lv<1\/6<lv then 9 else if at_.err≠0 then at_.err else mR li):=rfl;generalize qo lv at_ li=V at *
 generalize at_.err=E at *
 generalize mR li=U at *;clear h ha hsm;by_cases hlv:lv<1\/6<lv
 ·have HV:Hid (V=9):=by show V=9;rw [HE.out,if_pos hlv]
  clear HE;rcases hlv with hlv | hlv
  all_goals
   go_enter Tryz.func194,Tryz.ntmps194;go_wp2;go_ret;exact ⟨by rw [HV.out];rfl,ji7 _ _⟩
 ·have HV:Hid (V=if E≠0 then E else U):=by show V=_;rw [HE.out,if_neg hlv]
  have g1:1<=lv:=by omega
  have g2:lv<=6:=by omega
  clear hlv HE;by_cases h1:E=0
  ·subst h1;go_enter Tryz.func194,Tryz.ntmps194;go_wp2_with fail
   refine AC.out.mono ?_;rintro e w2 ⟨rfl,hb2⟩;obtain ⟨p0,p1,p2,p3,p4,p5,p6,p7,p8,p9,LW⟩:=(HP.out.up hb2).cells;go_wp2_with fail
   refine (UE.out _ hb2).mono ?_;rintro e w3 ⟨rfl,hb3⟩;go_wp2;go_ret;exact ⟨by rw [HV.out];rfl,aZ hb2 hb3⟩
  ·have hn:((E:Int) != 0)=true:=by rw [bne_iff_ne];omega
   have XF:Hid (V=E):=by show V=E;rw [HV.out,if_pos h1]
   clear h1 HV;go_enter Tryz.func194,Tryz.ntmps194;go_wp2_with fail
   refine AC.out.mono ?_;rintro e w2 ⟨rfl,hb2⟩;go_wp2;go_ret;exact ⟨by rw [XF.out];rfl,hb2⟩
theorem GQ (p:UInt8->Bool):∀ l:List UInt8,l.dropWhile p=[]↔l.all p=true
 | []=>by simp
 | x::l=>by
  rw [List.dropWhile_cons,List.all_cons];cases p x with
  | true=>simpa using GQ p l
  | false=>simp
theorem Rl (p:UInt8->Bool) (l:List UInt8):∀ x∈l.takeWhile p,p x=true:=by
 induction l with
 | nil=>simp
 | cons y l ih=>
  intro x hx;rw [List.takeWhile_cons] at hx;cases h:p y with
  | true=>
   rw [h] at hx;simp at hx;rcases hx with rfl | hx
   ·exact h
   ·exact ih x hx
  | false=>rw [h] at hx;simp at hx
theorem KF (l cs:List UInt8):Lib.trimS l cs=[]↔l.all (fun c=>cs.contains c)=true:=by
 unfold Lib.trimS Lib.trimLeftS Lib.trimRightS;rw [GQ];constructor
 ·intro h;rw [List.all_reverse] at h;have h2:=(List.takeWhile_append_dropWhile (p:=fun c=>cs.contains c) (l:=l.reverse));have h3:(l.reverse).all (fun c=>cs.contains c)=true:=by
   rw [<- h2,List.all_append,Bool.and_eq_true];exact ⟨List.all_eq_true.2 (fun x hx=>(Rl _ _ x hx)),h⟩
  rwa [List.all_reverse] at h3
 ·intro h;have h3:(l.reverse).all (fun c=>cs.contains c)=true:=by rwa [List.all_reverse]
  rw [(GQ _ _).2 h3];rfl
open Go.RowKit
def sV:List UInt8:=[45,108,99,114]
def TN (ks:List ah) (n:Nat) (w:World) (vi:Value) (wr:World):Prop:=∃ k:Nat,k<=ks.length/\vi=.int .i64 k/\Below w.heap.size w wr/\(ks.take k).any (fun b=>!decide (b.wP=n))=false
theorem LU {w:World} {l:List ah} {a:Option Addr} {cap:Nat} (h:o8 (·<w.heap.size) w 11 (l.map ah.d) a cap) {k:Nat} {kd lv:Int} {i t d ti:ByteArray} {at_:At} {li:List aj} {ks:List ah} (hk:l[k]?=some (.mk kd lv i t d ti at_ li ks)) : ∃ b off ac ap al ak cc cp cl ck,a=some ⟨b,off,none⟩/\PD w b (off+k*11) kd lv i t d ti at_ li ks ac ap al ak cc cp cl ck:=by
 obtain ⟨b,off,vc,vp,vl,vk,rfl,hok,hbl,hc,hR⟩:=eP h hk;obtain ⟨a1,c1,h1,-⟩:=hR.at_.cls.aG
 obtain ⟨a2,c2,h2,-⟩:=hR.at_.aR.aG
 obtain ⟨a3,c3,h3,-⟩:=hR.line.aG;obtain ⟨a5,c5,h5,-⟩:=hR.kids.aG;simp only [List.length_map,List.cons.injEq,and_true] at h1 h2 h3 h5;subst h1 h2 h3 h5;exact ⟨b,off,a1,a2,a3,a5,c1,c2,c3,c5,rfl,hc,hR,hbl⟩
theorem Wo (l:List UInt8):(⟨l.toArray⟩:ByteArray)=ByteArray.empty↔l=[]:=by
 constructor
 ·intro h;have:=congrArg (fun b:ByteArray=>b.data.toList) h;simpa using this
 ·rintro rfl;rfl
theorem xw (w:World) (b o:Nat) (k lv:Int) (i t d ti:ByteArray) (at_:At) (li:List aj) (ks:List ah) (ac ap al ak:Option Addr) (cc cp cl ck:Nat) (h:PD w b o k lv i t d ti at_ li ks ac ap al ak cc cp cl ck) (hi:i.size<=1000000000) : Calls Tryz.prog 197 #[.pointer (some ⟨b,o,none⟩)] w (dS (.int .i64 (jo i ks:Nat)) w):=by
 have HP:=hid h;obtain ⟨a',c',hv,hs⟩:=Rd.aG h.rd.kids;obtain ⟨rfl,rfl⟩:a'=ak/\c'=ck:=by simp at hv;exact ⟨hv.1.symm,hv.2.symm⟩
 have hcap:ks.length<=c':=by simpa using hs.le
 have hmx:=hs.max;unfold maxLen at hmx;have HS:=hid hs;have e3:=uP ks;have h116:(Tryz.prog.info? 212).map (fun i=>(i.zero,i.size))=some (some (.agg (Array.replicate 256 (.bool false))),256):=by kernel_rfl
 have TR:=hid (fun w=>Any.strings_Trim_laid Tryz.lays160 h116 i ⟨#[45,108,99,114]⟩ w (by omega) (by decide) (ascii_of_all (by decide)));have Xy:Hid (∀ w,Calls Tryz.prog 227 #[.string i,.string ⟨#[45,108,99,114]⟩] w fun e w'=>e=.returned (.string ⟨(Lib.trimS i.data.toList sV).toArray⟩)/\Below w.heap.size w w'):=TR.out;have HN:=hid (KF i.data.toList sV);have ZJ:=hid (Wo (Lib.trimS i.data.toList sV));have HE:Hid (jo i ks=if 32<i.size then 3 else if bI i=true then 5 else if i.data.toList.any (fun c=>!(sV:List UInt8).contains c) then 5
   else if ks.isEmpty=true then 8 else if ks.any (fun b=>!decide (b.wP=i.size)) then 15 else 0):=rfl
 obtain ⟨c0,c1,c2,c3,c4,c5,c6,c7,c8,c9,c10⟩:=h.cells;generalize jo i ks=V at *;obtain ⟨ZK,ZL⟩:∃ ZK,ZK=(⟨(Lib.trimS i.data.toList sV).toArray⟩:ByteArray):=⟨_,rfl⟩;rw [<- ZL] at Xy ZJ;clear hv hs h TR ZL h116;by_cases h32:32<i.size
 ·have HV:Hid (V=3):=by show V=3;rw [HE.out,if_pos h32]
  have q:decide ((32:Int)<(i.size:Int))=true:=by simp;omega
  clear HE;go_enter Tryz.func197,Tryz.ntmps197;go_wp2;go_ret;exact ⟨by rw [HV.out];rfl,ji7 _ _⟩
 have q:decide ((32:Int)<(i.size:Int))=false:=by simp;omega
 rcases je i with rfl | ⟨i1,i2,i3,i4⟩
 ·have HV:Hid (V=5):=by show V=5;rw [HE.out,if_neg h32,if_pos (by decide)]
  clear HE;go_enter Tryz.func197,Tryz.ntmps197;go_wp2;go_ret;exact ⟨by rw [HV.out];rfl,ji7 _ _⟩
 have hany:(i.data.toList.any fun c=>!(sV:List UInt8).contains c)=!(i.data.toList.all fun c=>(sV:List UInt8).contains c):=by rw [List.all_eq_not_any_not];simp
 cases hal:i.data.toList.all fun c=>(sV:List UInt8).contains c with
 | false=>
  have HV:Hid (V=5):=by show V=5;rw [HE.out,if_neg h32,if_neg (by rw [i4];decide),if_pos (by rw [hany,hal];rfl)]
  have hne:ZK≠ByteArray.empty:=fun e=>by
   have:=HN.out.1 (ZJ.out.1 e);rw [hal] at this;cases this
  rcases je ZK with e | ⟨t1,t2,t3,t4⟩
  ·exact absurd e hne
  clear HE HN ZJ hne hany hal;go_enter Tryz.func197,Tryz.ntmps197;go_wp2_with fail
  refine (Xy.out _).mono ?_;rintro e w2 ⟨rfl,hb2⟩;go_wp2;go_ret;exact ⟨by rw [HV.out];rfl,hb2⟩
 | true=>
  have he:ZK=ByteArray.empty:=ZJ.out.2 (HN.out.2 hal);subst he;have HV:Hid (V=if ks.isEmpty=true then 8 else if ks.any (fun b=>!decide (b.wP=i.size)) then 15 else 0):=by show V=_;rw [HE.out,if_neg h32,if_neg (by rw [i4];decide),if_neg (by rw [hany,hal];decide)]
  clear HE HN ZJ hany hal;cases hk0:ks.isEmpty with
  | true=>
   rw [hk0] at e3;have XF:Hid (V=8):=by show V=8;rw [HV.out,if_pos hk0]
   clear hk0;go_enter Tryz.func197,Tryz.ntmps197;go_wp2_with fail
   refine (Xy.out _).mono ?_;rintro e w2 ⟨rfl,hb2⟩;obtain ⟨p0,p1,p2,p3,p4,p5,p6,p7,p8,p9,LW⟩:=(HP.out.up hb2).cells;go_wp2;go_ret;exact ⟨by rw [XF.out];rfl,hb2⟩
  | false=>
   rw [hk0] at e3;have XF:Hid (V=if ks.any (fun b=>!decide (b.wP=i.size)) then 15 else 0):=by show V=_;rw [HV.out,if_neg (by rw [hk0];decide)]
   clear hk0 HV;go_enter Tryz.func197,Tryz.ntmps197;go_wp2_with fail
   refine (Xy.out _).mono ?_;rintro e w2 ⟨rfl,hb2⟩;obtain ⟨p0,p1,p2,p3,p4,p5,p6,p7,p8,p9,LW⟩:=(HP.out.up hb2).cells;have R0:Hid (TN ks i.size w (.int .i64 0) w2):=⟨0,Nat.zero_le _,rfl,hb2,by simp⟩;clear hb2;go_wp2
   go_loopw [34] (fun i' wr=>TN ks i.size w i' wr) (fun i' _=>ks.length-(intOf i').toNat)
   case atStart=>exact R0.out
   case round=>
    clear R0 p0 p1 p2 p3 p4 p5 p6 p7 p8 p9 LW;obtain ⟨j,hj,rfl,hbel,hno⟩:=hrel;have HB:=hid hbel;have Uy:=hid hno;by_cases hlt:j<ks.length
    ·obtain ⟨x,hx⟩:∃ x,ks[j]?=some x:=⟨_,ji6 hlt⟩;have xP:=hid (Dt (fun b:ah=>!decide (b.wP=i.size)) hx);have HAT:=hid (LM (fun b:ah=>!decide (b.wP=i.size)) hx);obtain ⟨kd',lv',i',t',d',ti',at',li',ks'⟩:=x;obtain ⟨b',off',ac',ap',al',ak',cc',cp',cl',ck',ha',hP'⟩:=LU HS.out hx;have k10:=(hP'.up hbel).cells.c10;obtain ⟨p0,p1,p2,p3,p4,p5,p6,p7,p8,p9,LW⟩:=(HP.out.up hbel).cells;subst ha';have HKN:Hid ((ah.mk kd' lv' i' t' d' ti' at' li' ks').wP=ks'.length):=rfl;clear hP' hx hno hbel;by_cases hq:ks'.length=i.size
     ·have q1:((ks'.length:Int) != (i.size:Int))=false:=by rw [bne_eq_false_iff_eq];omega
      have HQ:=hid hq;clear hq;go_wp2_with fail
      go_quiet (fail)
      go_wp2;go_roundw;case rel=>exact ⟨j+1,by omega,by go_num,ig HB.out _,by rw [xP.out,Uy.out,HKN.out,HQ.out];simp⟩
      case measure=>simp [intOf];omega
     ·have q1:((ks'.length:Int) != (i.size:Int))=true:=by rw [bne_iff_ne];omega
      have hv:V=15:=by rw [XF.out,if_pos (HAT.out (by rw [HKN.out];simp [hq]))]
      have HV3:=hid hv;clear hq hv;go_wp2_with fail
      go_quiet (fail)
      go_wp2;go_ret;exact ⟨by rw [HV3.out];rfl,ig HB.out _⟩
    ·have hv:V=0:=by
      have:=Uy.out;rw [List.take_of_length_le (by omega)] at this;rw [XF.out,if_neg (by rw [this];decide)]
     have HV3:=hid hv;clear hv hno hbel;go_wp2;go_ret;exact ⟨by rw [HV3.out];rfl,HB.out⟩
open Go.RowKit
def qp (cl:ByteArray->Bool) (t:ByteArray) (a:At):Nat:=if lI t=false then 17 else if cl t=true then 5 else a.err
def rX (cl:ByteArray->Bool):Prop:=∀ (w:World) (b o:Nat) (k lv:Int) (i t d ti:ByteArray) (at_:At) (li:List aj) (ks:List ah) (ac ap al ak:Option Addr) (cc cp cl' ck:Nat),
 PD w b o k lv i t d ti at_ li ks ac ap al ak cc cp cl' ck->t.size<=300->at_.short->Calls Tryz.prog 196 #[.pointer (some ⟨b,o,none⟩)] w (dS (.int .i64 (qp cl t at_:Nat)) w)
structure BlM (i t d ti:ByteArray) (a:At) (li:List aj):Prop where
 i:i.size<=300
 t:t.size<=300
 d:d.size<=300
 ti:ti.size<=300
 at_:a.short
 li:aj.gM li
theorem BU {k lv:Int} {i t d ti:ByteArray} {a:At} {li:List aj} {ks:List ah} (h:yu k lv i t d ti a li ks=true):1<=k/\k<=15/\(k=2\/k=8\/lv=0):=by
 unfold yu at h;simp only [Bool.and_eq_true,Bool.or_eq_true,decide_eq_true_eq] at h;obtain ⟨⟨⟨⟨⟨⟨⟨⟨h1,h2⟩,h3⟩,-⟩,-⟩,-⟩,-⟩,-⟩,-⟩:=h;refine ⟨h1,h2,?_⟩;rcases h3 with h | h
 ·simp at h;omega
 ·exact .inr (.inr h)
theorem uQ (cl:ByteArray->Bool) (w:World) (b o:Nat) (k lv:Int) (i t d ti:ByteArray) (at_:At) (li:List aj) (ks:List ah) (ac ap al ak:Option Addr) (cc cp cl' ck:Nat) (h:PD w b o k lv i t d ti at_ li ks ac ap al ak cc cp cl' ck) (hs:BlM i t d ti at_ li) (hf:yu k lv i t d ti at_ li ks=true) (hm:k=4->rX cl) : Calls Tryz.prog 158 #[.pointer (some ⟨b,o,none⟩)] w (dS (.int .i64 (tQ cl k lv i t d ti at_ li ks:Nat)) w):=by
 have HP:=hid h;obtain ⟨f1,f2,f3⟩:=BU hf;obtain ⟨-,l4,m4⟩:=fO h.rd.line;obtain ⟨-,l5,m5⟩:=fO h.rd.kids;unfold maxLen at m4 m5;have LE:=hid (qm li al cl' w hs.li h.rd.line);have UE:=hid (jO li al cl' w hs.li h.rd.line);have HDE:=hid (yR w b o k lv i t d ti at_ li ks ac ap al ak cc cp cl' ck h hs.at_ hs.li);have TBE:=hid (xw w b o k lv i t d ti at_ li ks ac ap al ak cc cp cl' ck h (by have:=hs.i;omega));have MTE:=hid (fun hk=>hm hk w b o k lv i t d ti at_ li ks ac ap al ak cc cp cl' ck h hs.t hs.at_);have CLI:=hid (fun w=>Lx i w (by have:=hs.i;omega));have CTR:=hid (fun w=>iR i w (by have:=hs.i;omega));have CTX:=hid (fun w=>nY t w (by have:=hs.t;omega));have CNM:=hid (fun w=>Ld i w (by have:=hs.i;omega));have CLB:=hid (ze i w (by have:=hs.i;omega));have CLD:=hid (fun w=>Lx d w (by have:=hs.d;omega));have CLT:=hid (fun w=>Lx ti w (by have:=hs.ti;omega));have AC:=hid (gL at_ ac ap cc cp w h.rd.at_ hs.at_);obtain ⟨c0,c1,c2,c3,c4,c5,c6,c7,c8,c9,c10⟩:=h.cells;have e2:=uP li;have e3:=uP ks;have HE:Hid (tQ cl k lv i t d ti at_ li ks=if k=1 then (if li.isEmpty=true then 8 else Fq li)
 else if k=2 then qo lv at_ li
 else if k=12 then mR li
 else if k=3 then (if iH i=false\/trimS i=false\/lI t=false then 17 else 0)
 else if k=4 then qp cl t at_
 else if k=7\/k=8 then (if ks.isEmpty=true then 8 else if k=8/\(lv<0\/999999999<lv) then 9 else 0)
 else if k=10 then jo i ks
 else if k=13\/k=14 then (if jA i=false then 6 else at_.err)
 else if k=15 then (if eT i=false then 6 else if iH d=false\/iH ti=false then 17 else 0)
 else 0):=rfl
 generalize tQ cl k lv i t d ti at_ li ks=V at *
 generalize Fq li=E1 at *;generalize qo lv at_ li=E2 at *
 generalize mR li=E3 at *;generalize qp cl t at_=E4 at *
 generalize jo i ks=E5 at *;generalize at_.err=E6 at *
 generalize iH i=b1 at *;generalize trimS i=b2 at *;generalize lI t=b3 at *;generalize jA i=b4 at *;generalize eT i=b5 at *;generalize iH d=b6 at *;generalize iH ti=b7 at *;generalize li.isEmpty=bl at *;generalize ks.isEmpty=bk at *;clear h hs hf hm;rcases EF k with rfl | rfl | rfl | rfl | rfl | rfl | rfl | rfl | rfl | rfl | rfl | rfl | rfl | rfl | rfl | hk
 case inr.inr.inr.inr.inr.inr.inr.inr.inr.inr.inr.inr.inr.inr.inr=>omega
 case inr.inr.inr.inr.inr.inr.inl=>
  have hlv:lv=0:=by omega
  subst hlv;clear f1 f2 f3;go_enter Tryz.func158,Tryz.ntmps158;go_wp2;all_goals
   go_ret;refine ⟨jF ?_,ji7 _ _⟩
   (try simp only [Bool.not_eq_true',Bool.not_eq_false'] at *)
   rw [HE.out];simp [*]
 case inr.inr.inr.inr.inr.inr.inr.inl=>
  clear f1 f2 f3;by_cases hlv:lv<0\/999999999<lv
  ·rcases hlv with hlv | hlv
   all_goals
    go_enter Tryz.func158,Tryz.ntmps158;go_wp2;all_goals
     go_ret;refine ⟨jF ?_,ji7 _ _⟩
     (try simp only [Bool.not_eq_true',Bool.not_eq_false'] at *)
     rw [HE.out];simp [*]
  ·have g1:0<=lv:=by omega
   have g2:lv<=999999999:=by omega
   have HG:Hid (¬ (lv<0\/999999999<lv)):=hlv;clear hlv;go_enter Tryz.func158,Tryz.ntmps158;go_wp2;all_goals
    go_ret;refine ⟨jF ?_,ji7 _ _⟩
    (try simp only [Bool.not_eq_true',Bool.not_eq_false'] at *)
    rw [HE.out];simp [*,HG.out]
 all_goals
  clear f1 f2 f3;go_enter Tryz.func158,Tryz.ntmps158;go_wp2_with (first | (go_at_call 47;refine LE.out.mono ?_;rintro e w2 ⟨rfl,hb3⟩) | (go_at_call 194;refine HDE.out.mono ?_;rintro e w2 ⟨rfl,hb3⟩) | (go_at_call 196;refine (MTE.out (by simp)).mono ?_;rintro e w2 ⟨rfl,hb3⟩) | (go_at_call 197;refine TBE.out.mono ?_;rintro e w2 ⟨rfl,hb3⟩) | (go_at_call 198;refine UE.out.mono ?_;rintro e w2 ⟨rfl,hb3⟩) | (go_at_call 114;refine AC.out.mono ?_;rintro e w2 ⟨rfl,hb3⟩) | (go_at_call 67;refine (CNM.out _).mono ?_;rintro e w2 ⟨rfl,rfl⟩) | (go_at_call 199;refine CLB.out.mono ?_;rintro e w2 ⟨rfl,hb1⟩;obtain ⟨p0,p1,p2,p3,p4,p5,p6,p7,p8,p9,LW⟩:=(HP.out.up hb1).cells) | (go_at_call 113;refine (CTR.out _).mono ?_;rintro e w2 ⟨rfl,rfl⟩) | (go_at_call 195;refine (CTX.out _).mono ?_;rintro e w2 ⟨rfl,q3,rfl⟩) | (go_at_call 112;(with_reducible refine (CLI.out _).mono ?_);rintro e w2 ⟨rfl,q,rfl⟩) | (go_at_call 112;(with_reducible refine (CLD.out _).mono ?_);rintro e w2 ⟨rfl,q,rfl⟩) | (go_at_call 112;(with_reducible refine (CLT.out _).mono ?_);rintro e w2 ⟨rfl,q2,rfl⟩))
  all_goals
   go_ret;refine ⟨jF ?_,?_⟩
   ·(try simp only [Bool.not_eq_true',Bool.not_eq_false'] at *)
    rw [HE.out];simp [*]
   ·first
    | exact hb3 | exact ig hb1 _ | exact hb1 | exact ig (ji7 _ _) _ | exact ji7 _ _
open Go.RowKit
open Go.RowKit
open Go.RowKit
open Go.RowKit
end Go.Proofs.YtclikfjalmcoaaaGreatDoor

