/- The contract of tree.checkInlines and Line: the first error of inlines. Contracts of tree.Line, checkUnbroken, checkHead, checkTable. Contracts of tree.checkTable, checkBlock. The contract of tree.checkBlock; of a formula's check it asks the contract. Contracts of publisherref01.Next and publisherref04.Label. Contracts of publisherref04.cites, named. Contracts of publisherref04.target, one. Contracts of publisherref04.list, Line: the first error of inlines. -/
import Derived.Test.YtkfnkeflalcphaaGreatDoorKChQ
import Derived.Shelf.Strings.SlTrimAscii
set_option maxHeartbeats 8000000
set_option maxRecDepth 100000
open Go.Lib (hid)
namespace Go.Proofs.YtkfnkeflalcphaaGreatDoor
open List renaming getElem?_eq_getElem->jD6
open Go.RowKit.Below renaming refl->jD7
open Nat renaming le_refl->jD8,zero_le->jE3
open Bool renaming eq_iff_iff->jDk
open Go renaming World->jG9
open Go.RowKit renaming Below->jGj
open Go.RowKit
set_option linter.unusedVariables false
set_option linter.unusedSimpArgs false
def edge (k:Int) (first last:Bool):Bool:=(decide (k=2)&&first)||((decide (k=2)||decide (k=3))&&last)
theorem IG (bf:Int) (first last:Bool) (k:Int) (t d ti:ByteArray) (a:At) (ar:List ByteArray) (ci:List Ci) (ks:List aj) (hf:xV k t d ti a ar ci ks=true) : oO bf first last k t d ti a ar ci ks=if edge k first last=true then 5 else oO bf false false k t d ti a ar ci ks:=by
 unfold oO edge;rw [hf];simp only [Bool.true_eq_false,if_false];by_cases h1:k=1\/k=4\/k=5
 ·have h2:k≠2:=by omega
  have h3:k≠3:=by omega
  simp [h1,h2,h3]
 ·by_cases h2:k=2
  ·subst h2;cases first<;>cases last<;>simp
  ·by_cases h3:k=3
   ·subst h3;cases first<;>cases last<;>simp
   ·simp [h1,h2,h3]
theorem BQ (bf:Int) (first last:Bool) (k:Int) (t d ti:ByteArray) (a:At) (ar:List ByteArray) (ci:List Ci) (ks:List aj) (hf:xV k t d ti a ar ci ks=false):oO bf first last k t d ti a ar ci ks=5:=by unfold oO;rw [if_pos hf]
def ug (l:List aj) (k:Nat):Int:=if k=0 then 0 else match l[k-1]? with | some x=>x.kd | none=>0
def Vk (l:List aj) (dp:Nat) (E:Nat) (w:jG9) (vi:Value) (wr:jG9):Prop:=∃ k:Nat,k<=l.length/\vi=.int .i64 k/\jGj w.heap.size w wr/\aj.aQ (ug l k) (decide (k=0)) dp (l.drop k)=E
theorem DW {l:List aj} {k:Nat} {x:aj} (h:l[k]?=some x):ug l (k+1)=x.kd:=by unfold ug;rw [if_neg (by omega),Nat.add_sub_cancel,h]
theorem aj.jv:∀ {l:List aj} {k:Nat} {x:aj},aj.aB l->l[k]?=some x->x.small
 | [],_,_,_,h=>by simp at h
 | y::l,0,x,hb,h=>by simp at h;subst h;rw [aj.aB] at hb;exact hb.1
 | y::l,k+1,x,hb,h=>by rw [aj.aB] at hb;exact aj.jv (l:=l) (k:=k) hb.2 (by simpa using h)
mutual
def aj.mid:aj->Prop
 | .mk k t d ti a ar ci ks=>t.size<=1000000/\d.size<=1000000/\ti.size<=1000000/\a.short/\(∀ c∈ar,c.size<=5000)/\(∀ c∈ci,c.key.size<=5000/\c.pre.size<=5000/\c.suf.size<=5000)/\aj.gX ks
def aj.gX:List aj->Prop
 | []=>True
 | x::l=>x.mid/\aj.gX l
end
mutual
theorem aj.Ju:∀ (x:aj),x.small->x.mid
 | .mk k t d ti a ar ci ks,h=>by
  rw [aj.small] at h;rw [aj.mid];obtain ⟨h1,h2,h3,h4,h5,h6,h7,h8,h9⟩:=h;exact ⟨by omega,by omega,by omega,h4,h7,h8,aj.jY ks h9⟩
theorem aj.jY:∀ (l:List aj),aj.aB l->aj.gX l
 | [],_=>by rw [aj.gX];trivial
 | x::l,h=>by
  rw [aj.aB] at h;rw [aj.gX];exact ⟨aj.Ju x h.1,aj.jY l h.2⟩
end
theorem aj.nM:∀ {l:List aj} {k:Nat} {x:aj},aj.gX l->l[k]?=some x->x.mid
 | [],_,_,_,h=>by simp at h
 | y::l,0,x,hb,h=>by simp at h;subst h;rw [aj.gX] at hb;exact hb.1
 | y::l,k+1,x,hb,h=>by rw [aj.gX] at hb;exact aj.nM (l:=l) (k:=k) hb.2 (by simpa using h)
theorem YD {kd:Int} {t d ti:ByteArray} {at_:At} {ar:List ByteArray} {ci:List Ci} {ks:List aj} (h:(aj.mk kd t d ti at_ ar ci ks).mid):Y5 t d ti at_ ar ci/\aj.gX ks:=by unfold aj.mid at h;obtain ⟨h1,h2,h3,h4,h7,h8,h9⟩:=h;exact ⟨⟨h1,h2,h3,h4,h7,h8⟩,h9⟩
theorem PG (bf:Int) (st:Bool) (dp:Nat) (k:Int) (t d ti:ByteArray) (a:At) (ar:List ByteArray) (ci:List Ci) (ks:List aj) (l:List aj) (qy:¬ 15<dp) : aj.aQ bf st dp (aj.mk k t d ti a ar ci ks::l)=if xV k t d ti a ar ci ks=false then 5 else if edge k (decide (dp=0)&&st) (decide (dp=0)&&l.isEmpty)=true then 5 else if oO bf false false k t d ti a ar ci ks≠0 then oO bf false false k t d ti a ar ci ks else if aj.aQ 0 true (dp+1) ks≠0 then aj.aQ 0 true (dp+1) ks else aj.aQ k false dp l:=by
 rw [aj.aQ,if_neg qy,aj.err];cases hf:xV k t d ti a ar ci ks with
 | false=>rw [BQ _ _ _ _ _ _ _ _ _ _ _ hf];simp
 | true=>
  rw [IG bf _ _ k t d ti a ar ci ks hf];cases he:edge k (decide (dp=0)&&st) (decide (dp=0)&&l.isEmpty) with
  | true=>simp
  | false=>
   simp only [Bool.true_eq_false,Bool.false_eq_true,if_false];by_cases h1:oO bf false false k t d ti a ar ci ks=0
   ·simp only [h1,ne_eq,not_true_eq_false,if_false];rfl
   ·simp only [ne_eq,h1,not_false_eq_true,if_true]
theorem YE (k:Int) (zd st lb:Bool):edge k (zd&&st) (zd&&lb)=(zd&&((k==2)&&st||((k==2)||(k==3))&&lb)):=by
 unfold edge;have h2:decide (k=2)=(k==2):=by rw [jDk];simp
 have h3:decide (k=3)=(k==3):=by rw [jDk];simp
 rw [h2,h3];cases (k==2)<;>cases (k==3)<;>cases zd<;>cases st<;>cases lb<;>rfl
theorem Lv {w:jG9} {l:List aj} {a:Option Addr} {cap:Nat} (h:qI (·<w.heap.size) w 10 (l.map aj.d) a cap) {k:Nat} {kd:Int} {t d ti:ByteArray} {at_:At} {ar:List ByteArray} {ci:List Ci} {ks:List aj} (hk:l[k]?=some (.mk kd t d ti at_ ar ci ks)) : ∃ b off ac ap aa ai ak cc cp ca gu ck,a=some ⟨b,off,none⟩/\Y6 w b (off+k*10) kd t d ti at_ ar ci ks ac ap aa ai ak cc cp ca gu ck:=by
 obtain ⟨b,off,vc,vp,va,vi,vk,rfl,hok,hbl,hc,hR⟩:=L9 h hk;obtain ⟨a1,c1,h1,-⟩:=hR.at_.cls.ay
 obtain ⟨a2,c2,h2,-⟩:=hR.at_.aD.ay
 obtain ⟨a3,c3,h3,-⟩:=hR.args.ay;obtain ⟨a4,c4,h4,-⟩:=hR.fu.ay;obtain ⟨a5,c5,h5,-⟩:=hR.kids.ay;simp only [List.length_map,List.cons.injEq,and_true] at h1 h2 h3 h4 h5;subst h1 h2 h3 h4 h5;exact ⟨b,off,a1,a2,a3,a4,a5,c1,c2,c3,c4,c5,rfl,hc,hR,hbl⟩
theorem jp4 {kd:Int} {t d ti:ByteArray} {at_:At} {ar:List ByteArray} {ci:List Ci} {ks:List aj} (h:(aj.mk kd t d ti at_ ar ci ks).small):Y5 t d ti at_ ar ci/\aj.aB ks:=by unfold aj.small at h;obtain ⟨h1,h2,h3,h4,h5,h6,h7,h8,h9⟩:=h;exact ⟨⟨by omega,by omega,by omega,h4,h7,h8⟩,h9⟩
theorem Zb{P:Prop}(h:P:=by
 have wX:Hid (E=E1):=by show _=_;have:=vF.out;rw [if_pos h1] at this;exact this.symm
 have hn1:((E1:Int) != 0)=true:=by rw [bne_iff_ne];omega
 clear h1;go_wp2_with fail
 refine CIW.out.mono ?_;rintro e w4 ⟨rfl,hb4⟩;have kM:=hid (q01 pY.out hb4);clear CIW hb4;go_wp2;go_ret;exact ⟨by rw [wX.out];rfl,q01 HB.out kM.out⟩):P:=h
theorem QL{P Q:Prop}(q:Q)(h:Nonempty Q->P:=by
 intro qQ;have Fv:Hid (E=E2):=by show _=_;have:=wX.out;rw [if_pos h2] at this;exact this.symm
 have hn2:((E2:Int) != 0)=true:=by rw [bne_iff_ne];omega
 revert Fv hn2;exact qQ.elim fun x=>x):P:=h ⟨q⟩
theorem QJ{P:Prop}(h:P:=by
 show _=_;have:=vF.out;rw [if_neg (by simpa using h1)] at this;exact this):P:=h
theorem QK{P:Prop}(h:P:=by
 show _=_;have:=wX.out;rw [if_neg (by simpa using h2)] at this;exact this):P:=h
theorem Y9{P:Prop}(h:P:=by
 clear hf;go_wp2_with fail
 refine F9.out.mono ?_;rintro e w2 ⟨rfl,hb2⟩;go_wp2;go_ret;exact ⟨by rw [HE.out];rfl,q01 HB.out hb2⟩):P:=h
theorem Vl{P:Prop}(h:P:=by
 show E=0;rw [<- bq,List.drop_of_length_le (by omega),aj.aQ]):P:=h
theorem uX (n:Nat):∀ (l:List aj) (dp:Nat) (a:Option Addr) (cap:Nat) (w:jG9),aj.aY l<=n->dp<=1000000->aj.gX l->Rd (·<w.heap.size) w (bG l) [.slice a l.length cap] -> Calls Tryz.prog 127 #[.slice a l.length cap,.int .i64 (dp:Int)] w (eX (.int .i64 (aj.aQ 0 true dp l:Nat)) w):=by
 induction n using Nat.strongRecOn with
 | _ n ih=>
  intro l dp a cap w hn hdp hsm h;obtain ⟨a',c',hv,hs⟩:=Rd.ay h;obtain ⟨rfl,rfl⟩:a'=a/\c'=cap:=by simp at hv;exact ⟨hv.1.symm,hv.2.symm⟩
  have hcap:l.length<=c':=by simpa using hs.le
  refine F8 ?_;intro hmx HS IH;have SM:=hid hsm;obtain ⟨E,hE⟩:∃ E,aj.aQ 0 true dp l=E:=⟨_,rfl⟩;rw [hE];have R0:Hid (Vk l dp E w (.int .i64 0) w):=⟨0,jE3 _,rfl,jD7 _ _,hE⟩;clear hs hv h ih hsm hE;by_cases qy:15<dp
  ·have Qb:decide ((15:Int)<(dp:Int))=true:=by simp;omega
   go_enter Tryz.func127,Tryz.ntmps127;go_wp2
   go_loopw [12] (fun i wr=>Vk l dp E w i wr) (fun i _=>l.length-(intOf i).toNat)
   case atStart=>exact R0.out
   case round=>
    clear R0;obtain ⟨k,hk,rfl,hbel,bq⟩:=hrel;have HB:=hid hbel;by_cases hlt:k<l.length
    ·refine iX ?_;intro x hx;have HE:Hid (E=11):=by
      show E=11;rw [<- bq,I9 l k x hx,aj.aQ,if_pos qy]
     clear bq hx;exact jr
    ·have HE:Hid (E=0):=by
      exact Vl
     clear bq;exact jr
  ·have Qb:decide ((15:Int)<(dp:Int))=false:=by simp;omega
   go_enter Tryz.func127,Tryz.ntmps127;go_wp2
   go_loopw [12] (fun i wr=>Vk l dp E w i wr) (fun i _=>l.length-(intOf i).toNat)
   case atStart=>exact R0.out
   case round=>
    clear R0;obtain ⟨k,hk,rfl,hbel,bq⟩:=hrel;have HB:=hid hbel;by_cases hlt:k<l.length
    ·refine iX ?_;intro x hx;have hbs:=DW hx;have hxs:x.mid:=aj.nM SM.out hx;have hsz:=aj.bE l k _ hx;rw [I9 l k x hx] at bq;have hle:(l.drop (k+1)).isEmpty=((k:Int)==(l.length:Int)-1):=by
      rw [jDk];simp;omega
     obtain ⟨kd,t,d,ti,at_,ar,ci,ks⟩:=x;rw [aj.sz] at hsz;obtain ⟨hins,hks⟩:=YD hxs;rw [PG _ _ _ _ _ _ _ _ _ _ _ _ qy,YE,hle] at bq;have hbk:ug l (k+1)=kd:=hbs;obtain ⟨b,off,ac,ap,aa,ai,ak,cc,cp,ca,gu,ck,ha,QH⟩:=Lv HS.out hx;have hP:=QH.up hbel;have HPR:Hid (k≠0->∃ kv,wr.cell? ⟨b,off+(k-1)*10,none⟩=some (.int .i64 kv)/\ug l k=kv):=by
      intro hk0;obtain ⟨y,hy⟩:∃ y,l[k-1]?=some y:=⟨_,jD6 (show k-1<l.length by omega)⟩;obtain ⟨kv,t',d',ti',at',ar',mM,ks'⟩:=y;obtain ⟨b',off',ac',ap',aa',ai',ak',cc',cp',ca',jCk,ck',ha',hP'⟩:=Lv HS.out hy;rw [ha] at ha';injection ha' with ha'
      injection ha' with e1 e2 e3
      subst e1 e2;refine ⟨kv,(hP'.up hbel).cells.c0,?_⟩;unfold ug;rw [if_neg hk0,hy];rfl
     subst ha;have HBK:=hid hbk;have HZ0:Hid (k=0->ug l k=0):=fun h=>by unfold ug;rw [if_pos h]
     obtain ⟨bf,hbf⟩:∃ bf,ug l k=bf:=⟨_,rfl⟩;rw [hbf] at bq HPR HZ0;have HP:=hid hP;have F9:=hid (uW wr b (off+k*10) kd t d ti at_ ar ci ks ac ap aa ai ak cc cp ca gu ck hP);have CI:=hid (fun wx (hb:jGj wr.heap.size wr wx) hf=>wG wx b (off+k*10) kd bf t d ti at_ ar ci ks ac ap aa ai ak cc cp ca gu ck (hP.up hb) hins hf);have CK:=hid (fun wx (hb:jGj wr.heap.size wr wx)=>IH.out (aj.aY ks) (by omega) ks (dp+1) ak ck wx (jD8 _) (by omega) hks (hP.up hb).rd.kids);have bX:=hid bq;clear hbs hxs hsz hle hins hks hbk hP QH hbf bq hx hbel;have OO:=hid (fun wx:jG9=>lg kd [2,3] wx.heap.size 2 _ (by simp) (QF wx 3 2 3));simp only [List.length_cons,List.length_nil,Nat.reduceAdd] at OO;have hoo:([2,3]:List Int).contains kd=((kd==2)||(kd==3)):=by rw [jDk];simp
     rw [hoo] at OO;obtain ⟨ed,hed⟩:∃ ed,(decide (dp=0)&&((kd==2)&&decide (k=0)||((kd==2)||(kd==3))&&((k:Int)==(l.length:Int)-1)))=ed:=⟨_,rfl⟩;rw [hed] at bX;have HED:=hid hed;have z1:((dp:Int)==0)=decide (dp=0):=by rw [jDk];simp
     have z3:((k:Int)==0)=decide (k=0):=by rw [jDk];simp
     have Z1:=hid z1;have Z3:=hid z3;clear hoo hed z1 z3
     go_upto_if 18 with (fail)
     go_cut [6] (fun s6 wx=>s6=.int .i64 bf/\wr=wx)
     case first=>
      clear OO HED bX CK CI F9 HP Z1 Z3;cases k with
      | zero=>
       have hb0:=HZ0.out rfl;have HB0:=hid hb0;clear hb0 HPR HZ0;go_wp2_with fail
       go_meet
       exact ⟨by rw [HB0.out],rfl⟩
      | succ j=>
       obtain ⟨kv,hcell,hkv⟩:=HPR.out (by omega);rw [Nat.add_sub_cancel] at hcell;have HKV:=hid hkv;clear hkv HPR HZ0;go_wp2_with fail
       go_meet
       exact ⟨by rw [HKV.out],rfl⟩
     case rest=>
      obtain ⟨rfl,rfl⟩:=hcut;clear HPR HZ0;cases hf:xV kd t d ti at_ ar ci ks with
      | false=>
       rw [hf] at F9;have HE:Hid (E=5):=by show E=5;have:=bX.out;rw [if_pos hf] at this;exact this.symm
       exact Y9
      | true=>
       rw [hf] at F9;have iJ:Hid ((if ed=true then 5 else if oO bf false false kd t d ti at_ ar ci ks≠0 then oO bf false false kd t d ti at_ ar ci ks else if aj.aQ 0 true (dp+1) ks≠0 then aj.aQ 0 true (dp+1) ks else aj.aQ kd false dp (l.drop (k+1)))=E):=by show _=_;have:=bX.out;rw [if_neg (by rw [hf];decide)] at this;exact this
       have Za:=hid (fun wx hb=>CI.out wx hb hf);clear hf bX CI;go_wp2_with fail
       refine F9.out.mono ?_;rintro e w2 ⟨rfl,hb2⟩;have HB2:=hid hb2;obtain ⟨p0,p1,p2,p3,p4,p5,p6,p7,p8,p9⟩:=(HP.out.up hb2).cells;go_upto_region 12 with (fail)
       go_cut [58] (fun s58 wx=>s58=.bool ed/\jGj w2.heap.size w2 wx)
       case first=>
        have z1:=Z1.out;have z3:=Z3.out;have OW:=hid (OO.out w2);have jp5:=HED.out;obtain ⟨zd,hzd⟩:∃ zd,decide (dp=0)=zd:=⟨_,rfl⟩;obtain ⟨st,hst⟩:∃ st,decide (k=0)=st:=⟨_,rfl⟩;obtain ⟨b2,hb2'⟩:∃ b2,(kd==2)=b2:=⟨_,rfl⟩;obtain ⟨b3,jp6⟩:∃ b3,(kd==3)=b3:=⟨_,rfl⟩;obtain ⟨lb,hlb⟩:∃ lb,((k:Int)==(l.length:Int)-1)=lb:=⟨_,rfl⟩;rw [hzd,hst,hb2',jp6,hlb] at jp5;rw [hzd] at z1;rw [hst] at z3;rw [hb2',jp6] at OW;have jzj:=hid jp5;clear jp5 hzd hst jp6 OO HED iJ CK Za F9 Z1 Z3 hb2;cases zd<;>cases b2<;>cases st<;>cases b3<;>cases lb
        all_goals
         go_wp2_with (go_at_call 161;refine OW.out.mono ?_;rintro e w3 ⟨rfl,rfl⟩)
         go_meet
         exact ⟨by rw [<- jzj.out];rfl,by first | exact (jD7 _ _).alloc (jD8 _) _ | exact jD7 _ _⟩
       case rest=>
        obtain ⟨rfl,hbx⟩:=hcut;have pY:=hid (q01 HB2.out hbx);clear p0 p1 p2 p3 p4 p5 p6 p7 p8 p9 hbx hb2;cases ed with
        | true=>
         have HE:Hid (E=5):=by show E=5;have:=iJ.out;rw [if_pos rfl] at this;exact this.symm
         go_wp2;go_ret;exact ⟨by rw [HE.out];rfl,q01 HB.out pY.out⟩
        | false=>
         have vF:Hid ((if oO bf false false kd t d ti at_ ar ci ks≠0 then oO bf false false kd t d ti at_ ar ci ks else if aj.aQ 0 true (dp+1) ks≠0 then aj.aQ 0 true (dp+1) ks else aj.aQ kd false dp (l.drop (k+1)))=E):=by show _=_;have:=iJ.out;rw [if_neg (by decide)] at this;exact this
         have CIW:=hid (Za.out _ pY.out);clear iJ Za;generalize oO bf false false kd t d ti at_ ar ci ks=E1 at *
         generalize aj.aQ 0 true (dp+1) ks=E2 at *;by_cases h1:E1=0
         ·have wX:Hid ((if E2≠0 then E2 else aj.aQ kd false dp (l.drop (k+1)))=E):=by
           exact QJ
          subst h1;go_wp2_with fail
          refine CIW.out.mono ?_;rintro e w4 ⟨rfl,hb4⟩;have kM:=hid (q01 pY.out hb4);obtain ⟨p0,p1,p2,p3,p4,p5,p6,p7,p8,p9⟩:=(HP.out.up kM.out).cells;have Wh:=hid (CK.out _ kM.out);clear CIW hb4 CK vF;by_cases h2:E2=0
          ·have Fv:Hid (aj.aQ kd false dp (l.drop (k+1))=E):=by
            exact QK
           subst h2;go_wp2_with fail
           refine Wh.out.mono ?_;rintro e w5 ⟨rfl,hb5⟩;have wY:=hid (q01 kM.out hb5);clear Wh hb5;go_wp2;go_roundw;case rel=>exact ⟨k+1,by omega,by go_num,q01 HB.out wY.out,by rw [HBK.out,decide_eq_false (by omega)];exact Fv.out⟩
           case measure=>simp [intOf];omega
          ·refine QL ?_;intro Fv hn2;clear h2;go_wp2_with fail
           refine Wh.out.mono ?_;rintro e w5 ⟨rfl,hb5⟩;have wY:=hid (q01 kM.out hb5);clear Wh hb5;go_wp2;go_ret;exact ⟨by rw [Fv.out];rfl,q01 HB.out wY.out⟩
         ·exact Zb
    ·have HE:Hid (E=0):=by
      exact Vl
     clear bq;exact jr
open Go.RowKit
theorem QM{P:Prop}(h:P:=by
 go_wp2_with fail
 refine CK.out.mono ?_;rintro e w1 ⟨rfl,hb⟩;go_wp2;go_ret;exact ⟨rfl,hb⟩):P:=h
theorem mE (l:List aj) (a:Option Addr) (cap:Nat) (w:jG9) (hsm:aj.gX l) (h:Rd (·<w.heap.size) w (bG l) [.slice a l.length cap]) : Calls Tryz.prog 77 #[.slice a l.length cap] w (eX (.int .i64 (oV l:Nat)) w):=by have CK:=hid (uX _ l 0 a cap w (jD8 _) (by omega) hsm h);change Hid (Calls _ _ _ _ (eX (.int .i64 (oV l:Nat)) w)) at CK;generalize oV l=E at *;clear h hsm;go_enter Tryz.func77,Tryz.ntmps77;exact QM
theorem Em (l:List aj) (a:Option Addr) (cap:Nat) (w:jG9) (hsm:aj.aB l) (h:Rd (·<w.heap.size) w (bG l) [.slice a l.length cap]) : Calls Tryz.prog 77 #[.slice a l.length cap] w (eX (.int .i64 (oV l:Nat)) w):=mE l a cap w (aj.jY l hsm) h
def oJ (l:List aj):Nat:=if aj.cZ bS l=true then 5 else oV l
theorem kJ (l:List aj) (a:Option Addr) (cap:Nat) (w:jG9) (hsm:aj.gX l) (h:Rd (·<w.heap.size) w (bG l) [.slice a l.length cap]) : Calls Tryz.prog 170 #[.slice a l.length cap] w (eX (.int .i64 (oJ l:Nat)) w):=by
 have hb0:jGj w.heap.size w (w.alloc (.cells #[.int .i64 2,.int .i64 3] 3)):=(jD7 _ _).alloc (jD8 _) _;have AK:=hid (vD _ l _ _ [2,3] w.heap.size 2 _ (jD8 _) (h.up hb0) (by simp) (QF w 3 2 3));simp only [List.length_cons,List.length_nil,Nat.reduceAdd] at AK;have hrk:aj.cZ [2,3] l=aj.cZ bS l:=rfl;rw [hrk] at AK;have LE:=hid (mE l a cap _ hsm (h.up hb0));have HE:Hid (oJ l=if aj.cZ bS l=true then 5 else oV l):=rfl;generalize oJ l=V at *;generalize oV l=E at *;generalize aj.cZ bS l=K at *;have HB:=hid hb0;clear h hsm hrk hb0;cases K
 all_goals
  go_enter Tryz.func170,Tryz.ntmps170;go_wp2_with (first | (go_at_call 203;refine AK.out.mono ?_;rintro e w2 ⟨rfl,rfl⟩) | (go_at_call 77;refine LE.out.mono ?_;rintro e w2 ⟨rfl,hb2⟩))
  go_ret;refine ⟨by rw [HE.out];rfl,?_⟩;first | exact q01 HB.out hb2 | exact HB.out
def uh (lv:Int) (a:At) (li:List aj):Nat:=if lv<1\/6<lv then 9 else if a.err≠0 then a.err else oJ li
theorem BS (w:jG9) (b o:Nat) (k lv:Int) (i t d ti:ByteArray) (at_:At) (li:List aj) (ks:List ah) (ac ap al ak:Option Addr) (cc cp cl ck:Nat) (h:V6 w b o k lv i t d ti at_ li ks ac ap al ak cc cp cl ck) (ha:at_.short) (hsm:aj.gX li) : Calls Tryz.prog 166 #[.pointer (some ⟨b,o,none⟩)] w (eX (.int .i64 (uh lv at_ li:Nat)) w):=by
 have HP:=hid h;have AC:=hid (gW at_ ac ap cc cp w h.rd.at_ ha);have UE:=hid (fun wx (hb:jGj w.heap.size w wx)=>kJ li al cl wx hsm (h.rd.line.up hb));obtain ⟨c0,c1,c2,c3,c4,c5,c6,c7,c8,c9,c10⟩:=h.cells;have HE:Hid (uh lv at_ li=if lv<1\/6<lv then 9 else if at_.err≠0 then at_.err else oJ li):=rfl;generalize uh lv at_ li=V at *
 generalize at_.err=E at *
 generalize oJ li=U at *;clear h ha hsm;by_cases hlv:lv<1\/6<lv
 ·have HV:Hid (V=9):=by show V=9;rw [HE.out,if_pos hlv]
  clear HE;rcases hlv with hlv | hlv
  all_goals
   go_enter Tryz.func166,Tryz.ntmps166;exact nJ
 ·have HV:Hid (V=if E≠0 then E else U):=by show V=_;rw [HE.out,if_neg hlv]
  have g1:1<=lv:=by omega
  have g2:lv<=6:=by omega
  clear hlv HE;by_cases h1:E=0
  ·subst h1;go_enter Tryz.func166,Tryz.ntmps166;go_wp2_with fail
   refine AC.out.mono ?_;rintro e w2 ⟨rfl,hb2⟩;obtain ⟨p0,p1,p2,p3,p4,p5,p6,p7,p8,p9,sj⟩:=(HP.out.up hb2).cells;go_wp2_with fail
   refine (UE.out _ hb2).mono ?_;rintro e w3 ⟨rfl,hb3⟩;go_wp2;go_ret;exact ⟨by rw [HV.out];rfl,q01 hb2 hb3⟩
  ·have hn:((E:Int) != 0)=true:=by rw [bne_iff_ne];omega
   have rO:Hid (V=E):=by show V=E;rw [HV.out,if_pos h1]
   clear h1 HV;go_enter Tryz.func166,Tryz.ntmps166;go_wp2_with fail
   refine AC.out.mono ?_;rintro e w2 ⟨rfl,hb2⟩;go_wp2;go_ret;exact ⟨by rw [rO.out];rfl,hb2⟩
theorem Lx (p:UInt8->Bool):∀ l:List UInt8,l.dropWhile p=[]↔l.all p=true
 | []=>by simp
 | x::l=>by
  rw [List.dropWhile_cons,List.all_cons];cases p x with
  | true=>simpa using Lx p l
  | false=>simp
theorem YF (p:UInt8->Bool) (l:List UInt8):∀ x∈l.takeWhile p,p x=true:=by
 induction l with
 | nil=>simp
 | cons y l ih=>
  intro x hx;rw [List.takeWhile_cons] at hx;cases h:p y with
  | true=>
   rw [h] at hx;simp at hx;rcases hx with rfl | hx
   ·exact h
   ·exact ih x hx
  | false=>rw [h] at hx;simp at hx
theorem PI (l cs:List UInt8):Lib.trimS l cs=[]↔l.all (fun c=>cs.contains c)=true:=by
 unfold Lib.trimS Lib.trimLeftS Lib.trimRightS;rw [Lx];constructor
 ·intro h;rw [List.all_reverse] at h;have h2:=(List.takeWhile_append_dropWhile (p:=fun c=>cs.contains c) (l:=l.reverse));have h3:(l.reverse).all (fun c=>cs.contains c)=true:=by
   rw [<- h2,List.all_append,Bool.and_eq_true];exact ⟨List.all_eq_true.2 (fun x hx=>(YF _ _ x hx)),h⟩
  rwa [List.all_reverse] at h3
 ·intro h;have h3:(l.reverse).all (fun c=>cs.contains c)=true:=by rwa [List.all_reverse]
  rw [(Lx _ _).2 h3];rfl
open Go.RowKit
def gT:List UInt8:=[45,108,99,114]
def jhq (ks:List ah) (n:Nat) (w:jG9) (vi:Value) (wr:jG9):Prop:=∃ k:Nat,k<=ks.length/\vi=.int .i64 k/\jGj w.heap.size w wr/\(ks.take k).any (fun b=>!decide (b.ow=n))=false
theorem Ec {w:jG9} {l:List ah} {a:Option Addr} {cap:Nat} (h:qI (·<w.heap.size) w 11 (l.map ah.d) a cap) {k:Nat} {kd lv:Int} {i t d ti:ByteArray} {at_:At} {li:List aj} {ks:List ah} (hk:l[k]?=some (.mk kd lv i t d ti at_ li ks)) : ∃ b off ac ap al ak cc cp cl ck,a=some ⟨b,off,none⟩/\V6 w b (off+k*11) kd lv i t d ti at_ li ks ac ap al ak cc cp cl ck:=by
 obtain ⟨b,off,vc,vp,vl,vk,rfl,hok,hbl,hc,hR⟩:=Gr h hk;obtain ⟨a1,c1,h1,-⟩:=hR.at_.cls.ay
 obtain ⟨a2,c2,h2,-⟩:=hR.at_.aD.ay
 obtain ⟨a3,c3,h3,-⟩:=hR.line.ay;obtain ⟨a5,c5,h5,-⟩:=hR.kids.ay;simp only [List.length_map,List.cons.injEq,and_true] at h1 h2 h3 h5;subst h1 h2 h3 h5;exact ⟨b,off,a1,a2,a3,a5,c1,c2,c3,c5,rfl,hc,hR,hbl⟩
theorem jp7 (l:List UInt8):(⟨l.toArray⟩:ByteArray)=ByteArray.empty↔l=[]:=by
 constructor
 ·intro h;have:=congrArg (fun b:ByteArray=>b.data.toList) h;simpa using this
 ·rintro rfl;rfl
theorem jhx{P:Prop}(h:P:=by
 have q1:((ks'.length:Int) != (i.size:Int))=true:=by rw [bne_iff_ne];omega
 have hv:V=15:=by rw [rO.out,if_pos (HAT.out (by rw [ZQ.out];simp [hq]))]
 have Lu:=hid hv;clear hq hv;go_wp2_with fail
 go_quiet (fail)
 go_wp2;go_ret;exact ⟨by rw [Lu.out];rfl,iR HB.out _⟩):P:=h
theorem jhz{P Q:Prop}(q:Q)(h:Nonempty Q->P:=by
 intro qQ;obtain ⟨x,hx⟩:∃ x,ks[j]?=some x:=⟨_,List.getElem?_eq_getElem hlt⟩;have gV:=hid (xR (fun b:ah=>!decide (b.ow=i.size)) hx);have HAT:=hid (Jr (fun b:ah=>!decide (b.ow=i.size)) hx);revert x hx gV HAT;exact qQ.elim fun x=>x):P:=h ⟨q⟩
theorem Ar (w:World) (b o:Nat) (k lv:Int) (i t d ti:ByteArray) (at_:At) (li:List aj) (ks:List ah) (ac ap al ak:Option Addr) (cc cp cl ck:Nat) (h:V6 w b o k lv i t d ti at_ li ks ac ap al ak cc cp cl ck) (hi:i.size<=1000000000) : Calls Tryz.prog 169 #[.pointer (some ⟨b,o,none⟩)] w (eX (.int .i64 (Qp i ks:Nat)) w):=by
 have HP:=hid h;obtain ⟨a',c',hv,hs⟩:=Rd.ay h.rd.kids;obtain ⟨rfl,rfl⟩:a'=ak/\c'=ck:=by simp at hv;exact ⟨hv.1.symm,hv.2.symm⟩
 have hcap:ks.length<=c':=by simpa using hs.le
 have hmx:=hs.max;unfold maxLen at hmx;have HS:=hid hs;have e3:=jR ks;have h116:(Tryz.prog.info? 206).map (fun i=>(i.zero,i.size))=some (some (.agg (Array.replicate 256 (.bool false))),256):=by kernel_rfl
 have TR:=hid (fun w=>Any.strings_Trim_laid Tryz.lays160 h116 i ⟨#[45,108,99,114]⟩ w (by omega) (by decide) (ascii_of_all (by decide)));have ZB:Hid (∀ w,Calls Tryz.prog 202 #[.string i,.string ⟨#[45,108,99,114]⟩] w fun e w'=>e=.returned (.string ⟨(Lib.trimS i.data.toList gT).toArray⟩)/\Below w.heap.size w w'):=TR.out;have HN:=hid (PI i.data.toList gT);have HBN:=hid (jp7 (Lib.trimS i.data.toList gT));have HE:Hid (Qp i ks=if 32<i.size then 3 else if aW i=true then 5 else if i.data.toList.any (fun c=>!(gT:List UInt8).contains c) then 5
   else if ks.isEmpty=true then 8 else if ks.any (fun b=>!decide (b.ow=i.size)) then 15 else 0):=rfl
 obtain ⟨c0,c1,c2,c3,c4,c5,c6,c7,c8,c9,c10⟩:=h.cells;generalize Qp i ks=V at *;obtain ⟨trs,jv3⟩:∃ trs,trs=(⟨(Lib.trimS i.data.toList gT).toArray⟩:ByteArray):=⟨_,rfl⟩;rw [<- jv3] at ZB HBN;clear hv hs h TR jv3 h116;by_cases h32:32<i.size
 ·have HV:Hid (V=3):=by show V=3;rw [HE.out,if_pos h32]
  have q:decide ((32:Int)<(i.size:Int))=true:=by simp;omega
  clear HE;go_enter Tryz.func169,Tryz.ntmps169;exact nJ
 have q:decide ((32:Int)<(i.size:Int))=false:=by simp;omega
 rcases fq i with rfl | ⟨i1,i2,i3,i4⟩
 ·have HV:Hid (V=5):=by show V=5;rw [HE.out,if_neg h32,if_pos (by decide)]
  clear HE;go_enter Tryz.func169,Tryz.ntmps169;exact nJ
 have hany:(i.data.toList.any fun c=>!(gT:List UInt8).contains c)=!(i.data.toList.all fun c=>(gT:List UInt8).contains c):=by rw [List.all_eq_not_any_not];simp
 cases hal:i.data.toList.all fun c=>(gT:List UInt8).contains c with
 | false=>
  have HV:Hid (V=5):=by show V=5;rw [HE.out,if_neg h32,if_neg (by rw [i4];decide),if_pos (by rw [hany,hal];rfl)]
  have hne:trs≠ByteArray.empty:=fun e=>by
   have:=HN.out.1 (HBN.out.1 e);rw [hal] at this;cases this
  rcases fq trs with e | ⟨t1,t2,t3,t4⟩
  ·exact absurd e hne
  clear HE HN HBN hne hany hal;go_enter Tryz.func169,Tryz.ntmps169;go_wp2_with fail
  refine (ZB.out _).mono ?_;rintro e w2 ⟨rfl,hb2⟩;go_wp2;go_ret;exact ⟨by rw [HV.out];rfl,hb2⟩
 | true=>
  have he:trs=ByteArray.empty:=HBN.out.2 (HN.out.2 hal);subst he;have HV:Hid (V=if ks.isEmpty=true then 8 else if ks.any (fun b=>!decide (b.ow=i.size)) then 15 else 0):=by show V=_;rw [HE.out,if_neg h32,if_neg (by rw [i4];decide),if_neg (by rw [hany,hal];decide)]
  clear HE HN HBN hany hal;cases hk0:ks.isEmpty with
  | true=>
   rw [hk0] at e3;have rO:Hid (V=8):=by show V=8;rw [HV.out,if_pos hk0]
   clear hk0;go_enter Tryz.func169,Tryz.ntmps169;go_wp2_with fail
   refine (ZB.out _).mono ?_;rintro e w2 ⟨rfl,hb2⟩;obtain ⟨p0,p1,p2,p3,p4,p5,p6,p7,p8,p9,sj⟩:=(HP.out.up hb2).cells;go_wp2;go_ret;exact ⟨by rw [rO.out];rfl,hb2⟩
  | false=>
   rw [hk0] at e3;have rO:Hid (V=if ks.any (fun b=>!decide (b.ow=i.size)) then 15 else 0):=by show V=_;rw [HV.out,if_neg (by rw [hk0];decide)]
   clear hk0 HV;go_enter Tryz.func169,Tryz.ntmps169;go_wp2_with fail
   refine (ZB.out _).mono ?_;rintro e w2 ⟨rfl,hb2⟩;obtain ⟨p0,p1,p2,p3,p4,p5,p6,p7,p8,p9,sj⟩:=(HP.out.up hb2).cells;have R0:Hid (jhq ks i.size w (.int .i64 0) w2):=⟨0,Nat.zero_le _,rfl,hb2,by simp⟩;clear hb2;go_wp2
   go_loopw [34] (fun i' wr=>jhq ks i.size w i' wr) (fun i' _=>ks.length-(intOf i').toNat)
   case atStart=>exact R0.out
   case round=>
    clear R0 p0 p1 p2 p3 p4 p5 p6 p7 p8 p9 sj;obtain ⟨j,hj,rfl,hbel,hno⟩:=hrel;have HB:=hid hbel;have Js:=hid hno;by_cases hlt:j<ks.length
    ·refine jhz ?_;intro x hx gV HAT;obtain ⟨kd',lv',i',t',d',ti',at',li',ks'⟩:=x;obtain ⟨b',off',ac',ap',al',ak',cc',cp',cl',ck',ha',hP'⟩:=Ec HS.out hx;have k10:=(hP'.up hbel).cells.c10;obtain ⟨p0,p1,p2,p3,p4,p5,p6,p7,p8,p9,sj⟩:=(HP.out.up hbel).cells;subst ha';have ZQ:Hid ((ah.mk kd' lv' i' t' d' ti' at' li' ks').ow=ks'.length):=rfl;clear hP' hx hno hbel;by_cases hq:ks'.length=i.size
     ·have q1:((ks'.length:Int) != (i.size:Int))=false:=by rw [bne_eq_false_iff_eq];omega
      have HQ:=hid hq;clear hq;go_wp2_with fail
      go_quiet (fail)
      go_wp2;go_roundw;case rel=>exact ⟨j+1,by omega,by go_num,iR HB.out _,by rw [gV.out,Js.out,ZQ.out,HQ.out];simp⟩
      case measure=>simp [intOf];omega
     ·exact jhx
    ·have hv:V=0:=by
      have:=Js.out;rw [List.take_of_length_le (by omega)] at this;rw [rO.out,if_neg (by rw [this];decide)]
     have Lu:=hid hv;clear hv hno hbel;go_wp2;go_ret;exact ⟨by rw [Lu.out];rfl,HB.out⟩
open Go.RowKit
def tJ (cl:ByteArray->Bool) (t:ByteArray) (a:At):Nat:=if gQ t=false then 17 else if cl t=true then 5 else a.err
def vE (cl:ByteArray->Bool):Prop:=∀ (w:World) (b o:Nat) (k lv:Int) (i t d ti:ByteArray) (at_:At) (li:List aj) (ks:List ah) (ac ap al ak:Option Addr) (cc cp cl' ck:Nat),
 V6 w b o k lv i t d ti at_ li ks ac ap al ak cc cp cl' ck->t.size<=300->at_.short->Calls Tryz.prog 168 #[.pointer (some ⟨b,o,none⟩)] w (eX (.int .i64 (tJ cl t at_:Nat)) w)
structure BlS (i t d ti:ByteArray) (a:At) (li:List aj):Prop where
 i:i.size<=300
 t:t.size<=300
 d:d.size<=300
 ti:ti.size<=300
 at_:a.short
 li:aj.aB li
structure BlM (i t d ti:ByteArray) (a:At) (li:List aj):Prop where
 i:i.size<=300
 t:t.size<=300
 d:d.size<=300
 ti:ti.size<=300
 at_:a.short
 li:aj.gX li
theorem uj {k lv:Int} {i t d ti:ByteArray} {a:At} {li:List aj} {ks:List ah} (h:xW k lv i t d ti a li ks=true):1<=k/\k<=15/\(k=2\/k=8\/lv=0):=by
 unfold xW at h;simp only [Bool.and_eq_true,Bool.or_eq_true,decide_eq_true_eq] at h;obtain ⟨⟨⟨⟨⟨⟨⟨⟨h1,h2⟩,h3⟩,-⟩,-⟩,-⟩,-⟩,-⟩,-⟩:=h;refine ⟨h1,h2,?_⟩;rcases h3 with h | h
 ·simp at h;omega
 ·exact .inr (.inr h)
theorem NP{P:Prop}(h:P:=by
 (try simp only [Bool.not_eq_true',Bool.not_eq_false'] at *)
 rw [HE.out];simp [*]):P:=h
theorem xX (cl:ByteArray->Bool) (w:jG9) (b o:Nat) (k lv:Int) (i t d ti:ByteArray) (at_:At) (li:List aj) (ks:List ah) (ac ap al ak:Option Addr) (cc cp cl' ck:Nat) (h:V6 w b o k lv i t d ti at_ li ks ac ap al ak cc cp cl' ck) (hs:BlM i t d ti at_ li) (hf:xW k lv i t d ti at_ li ks=true) (hm:k=4->vE cl) : Calls Tryz.prog 134 #[.pointer (some ⟨b,o,none⟩)] w (eX (.int .i64 (qN cl k lv i t d ti at_ li ks:Nat)) w):=by
 have HP:=hid h;obtain ⟨f1,f2,f3⟩:=uj hf;obtain ⟨-,l4,m4⟩:=rX h.rd.line;obtain ⟨-,l5,m5⟩:=rX h.rd.kids;unfold maxLen at m4 m5;have LE:=hid (mE li al cl' w hs.li h.rd.line);have UE:=hid (kJ li al cl' w hs.li h.rd.line);have HDE:=hid (BS w b o k lv i t d ti at_ li ks ac ap al ak cc cp cl' ck h hs.at_ hs.li);have TBE:=hid (Ar w b o k lv i t d ti at_ li ks ac ap al ak cc cp cl' ck h (by have:=hs.i;omega));have MTE:=hid (fun hk=>hm hk w b o k lv i t d ti at_ li ks ac ap al ak cc cp cl' ck h hs.t hs.at_);have CLI:=hid (fun w=>QB i w (by have:=hs.i;omega));have CTR:=hid (fun w=>je i w (by have:=hs.i;omega));have CTX:=hid (fun w=>qH t w (by have:=hs.t;omega));have CNM:=hid (fun w=>P9 i w (by have:=hs.i;omega));have CLB:=hid (Ca i w (by have:=hs.i;omega));have CLD:=hid (fun w=>QB d w (by have:=hs.d;omega));have CLT:=hid (fun w=>QB ti w (by have:=hs.ti;omega));have AC:=hid (gW at_ ac ap cc cp w h.rd.at_ hs.at_);obtain ⟨c0,c1,c2,c3,c4,c5,c6,c7,c8,c9,c10⟩:=h.cells;have e2:=jR li;have e3:=jR ks;have HE:Hid (qN cl k lv i t d ti at_ li ks=if k=1 then (if li.isEmpty=true then 8 else oV li)
 else if k=2 then uh lv at_ li
 else if k=12 then oJ li
 else if k=3 then (if dG i=false\/trimS i=false\/gQ t=false then 17 else 0)
 else if k=4 then tJ cl t at_
 else if k=7\/k=8 then (if ks.isEmpty=true then 8 else if k=8/\(lv<0\/999999999<lv) then 9 else 0)
 else if k=10 then Qp i ks
 else if k=13\/k=14 then (if dZ i=false then 6 else at_.err)
 else if k=15 then (if uD i=false then 6 else if dG d=false\/dG ti=false then 17 else 0)
 else 0):=rfl
 generalize qN cl k lv i t d ti at_ li ks=V at *
 generalize oV li=E1 at *;generalize uh lv at_ li=E2 at *
 generalize oJ li=E3 at *;generalize tJ cl t at_=E4 at *
 generalize Qp i ks=E5 at *;generalize at_.err=E6 at *
 generalize dG i=b1 at *;generalize trimS i=b2 at *;generalize gQ t=b3 at *;generalize dZ i=b4 at *;generalize uD i=b5 at *;generalize dG d=b6 at *;generalize dG ti=b7 at *;generalize li.isEmpty=bl at *;generalize ks.isEmpty=bk at *;clear h hs hf hm;rcases tY k with rfl | rfl | rfl | rfl | rfl | rfl | rfl | rfl | rfl | rfl | rfl | rfl | rfl | rfl | rfl | hk
 case inr.inr.inr.inr.inr.inr.inr.inr.inr.inr.inr.inr.inr.inr.inr=>omega
 case inr.inr.inr.inr.inr.inr.inl=>
  have hlv:lv=0:=by omega
  subst hlv;clear f1 f2 f3;go_enter Tryz.func134,Tryz.ntmps134;go_wp2;all_goals
   go_ret;refine ⟨Jt ?_,jD7 _ _⟩;exact NP
 case inr.inr.inr.inr.inr.inr.inr.inl=>
  clear f1 f2 f3;by_cases hlv:lv<0\/999999999<lv
  ·rcases hlv with hlv | hlv
   all_goals
    go_enter Tryz.func134,Tryz.ntmps134;go_wp2;all_goals
     go_ret;refine ⟨Jt ?_,jD7 _ _⟩;exact NP
  ·have g1:0<=lv:=by omega
   have g2:lv<=999999999:=by omega
   have HG:Hid (¬ (lv<0\/999999999<lv)):=hlv;clear hlv;go_enter Tryz.func134,Tryz.ntmps134;go_wp2;all_goals
    go_ret;refine ⟨Jt ?_,jD7 _ _⟩
    (try simp only [Bool.not_eq_true',Bool.not_eq_false'] at *)
    rw [HE.out];simp [*,HG.out]
 all_goals
  clear f1 f2 f3;go_enter Tryz.func134,Tryz.ntmps134;go_wp2_with (first | (go_at_call 77;refine LE.out.mono ?_;rintro e w2 ⟨rfl,hb3⟩) | (go_at_call 166;refine HDE.out.mono ?_;rintro e w2 ⟨rfl,hb3⟩) | (go_at_call 168;refine (MTE.out (by simp)).mono ?_;rintro e w2 ⟨rfl,hb3⟩) | (go_at_call 169;refine TBE.out.mono ?_;rintro e w2 ⟨rfl,hb3⟩) | (go_at_call 170;refine UE.out.mono ?_;rintro e w2 ⟨rfl,hb3⟩) | (go_at_call 95;refine AC.out.mono ?_;rintro e w2 ⟨rfl,hb3⟩) | (go_at_call 52;refine (CNM.out _).mono ?_;rintro e w2 ⟨rfl,rfl⟩) | (go_at_call 171;refine CLB.out.mono ?_;rintro e w2 ⟨rfl,hb1⟩;obtain ⟨p0,p1,p2,p3,p4,p5,p6,p7,p8,p9,sj⟩:=(HP.out.up hb1).cells) | (go_at_call 94;refine (CTR.out _).mono ?_;rintro e w2 ⟨rfl,rfl⟩) | (go_at_call 167;refine (CTX.out _).mono ?_;rintro e w2 ⟨rfl,q3,rfl⟩) | (go_at_call 93;(with_reducible refine (CLI.out _).mono ?_);rintro e w2 ⟨rfl,q,rfl⟩) | (go_at_call 93;(with_reducible refine (CLD.out _).mono ?_);rintro e w2 ⟨rfl,q,rfl⟩) | (go_at_call 93;(with_reducible refine (CLT.out _).mono ?_);rintro e w2 ⟨rfl,q2,rfl⟩))
  all_goals
   go_ret;refine ⟨Jt ?_,?_⟩
   ·exact NP
   ·first
    | exact hb3 | exact iR hb1 _ | exact hb1 | exact iR (jD7 _ _) _ | exact jD7 _ _
open Go.RowKit
theorem PK (s:ByteArray) (i:Nat) (w:jG9) (hs:s.size<=140737488355328) (hi:i<s.size) : Calls Tryz.prog 217 #[.string s,.int .i64 i] w fun e w'=>e=.returned (.tuple #[.int .i64 (Utf8.decode s i).1,.int .i64 (Utf8.decode s i).2])/\jGj w.heap.size w w':=by
 have T:=UO s i hs hi;generalize Utf8.decode s i=d at *;obtain ⟨d1,d2⟩:=d;go_enter Tryz.func217,Tryz.ntmps217;go_wp2_with fail
 refine (T _).mono ?_;rintro e w' ⟨rfl,hb⟩;obtain ⟨hc,hf⟩:=jf9 hb;go_wp2_with fail
 go_quiet (fail)
 go_wp2
 go_ret2
 refine ⟨rfl,?_⟩;exact iR (hb.alloc hb.size _) nq
theorem one_byte (s:ByteArray) (i:Nat) (hi:i<s.size):(s.extract i (i+1)).data.toList=[s[i]]:=by
 have h1:(s.extract i (i+1)).data.toList=(s.data.toList.take (i+1)).drop i:=by simp [ByteArray.data_extract,Array.toList_extract,List.drop_take]
 rw [h1,List.take_add_one,Cc s i hi,Option.toList_some,List.drop_append_of_le_length (by simp;omega),List.drop_of_length_le (by simp;omega)];rfl
theorem NQ (b:UInt8) (n:Nat) (h:b.toNat=n):([32,45,95,46,58]:List UInt8).contains b=([32,45,95,46,58]:List Nat).contains n:=by subst h;rw [jDk];simp [<- UInt8.toNat_inj]
theorem YG (s:ByteArray) (i:Nat) (hi:i<s.size):mV (s.extract i (i+1)) [32,45,95,46,58]=([32,45,95,46,58]:List Nat).contains (Utf8.decode s i).1:=by
 unfold mV;rw [one_byte s i hi];simp only [List.any_cons,List.any_nil,Bool.or_false];rcases Cb s i hi with ⟨h1,h2⟩ | ⟨h1,h2⟩
 ·rw [h2];exact NQ _ _ (jk s i hi)
 ·have h3:=h2 0 (iB s i);rw [Nat.add_zero] at h3;rw [NQ _ _ (jk s i hi)];generalize (Utf8.decode s i).1=c at *;generalize bt s i=b at *;rw [jDk];simp;omega
def ji0 (s:ByteArray) (V:Bool) (w:jG9) (vi:Value) (wr:jG9):Prop:=∃ i f:Nat,i<=s.size/\s.size<=i+f/\vi=.int .i64 i/\(iH s f i).all jX=V/\jGj w.heap.size w wr
theorem ji1{P:Prop}(h:P:=by
 go_wp2;go_roundw;case rel=>exact ⟨i+d2,f-1,hle,by omega,by go_num,by rw [<- HST.out,YW.out];rfl,HB3.out⟩
 case measure=>simp [intOf];omega):P:=h
theorem Au (s:ByteArray) (w:jG9) (hs:s.size<=1000000000) : Calls Tryz.prog 182 #[.string s] w (eX (.bool (uD s)) w):=by
 by_cases h0:s.size<1
 ·have hv:uD s=false:=by unfold uD;simp;omega
  rw [hv];have q1:decide ((s.size:Int)<(1:Int))=true:=by simp;omega
  clear hv;go_enter Tryz.func182,Tryz.ntmps182;exact vC
 have q0:decide ((s.size:Int)<(1:Int))=false:=by simp;omega
 by_cases h60:60<s.size
 ·have hv:uD s=false:=by unfold uD;simp;omega
  rw [hv];have q1:decide ((60:Int)<(s.size:Int))=true:=by simp;omega
  clear hv;go_enter Tryz.func182,Tryz.ntmps182;exact vC
 have q1:decide ((60:Int)<(s.size:Int))=false:=by simp;omega
 have FO:=hid (Pp s w hs);by_cases Mc:ny s=s;case neg=>
  have hv:uD s=false:=by unfold uD;simp [Mc]
  rw [hv];have hb1:=D6 Mc;have hb2:=Md Mc;generalize ny s=fs at *;clear hv Mc;go_enter Tryz.func182,Tryz.ntmps182;go_wp2_with fail
  refine FO.out.mono ?_;rintro e w1 ⟨rfl,hb⟩;have HB:=hid hb;clear hb;go_wp2;go_ret;exact ⟨rfl,HB.out⟩
 rw [Mc] at FO;have hv:uD s=(pts s).all jX:=by exact YU
 rw [hv];obtain ⟨V,hV⟩:∃ V,(pts s).all jX=V:=⟨_,rfl⟩;rw [hV];have HV:Hid ((iH s s.size 0).all jX=V):=hV;have hb1:(s.toList != s.toList)=false:=by simp
 clear hv Mc hV;go_enter Tryz.func182,Tryz.ntmps182;go_wp2_with fail
 refine FO.out.mono ?_;rintro e w1 ⟨rfl,hb⟩;have R0:Hid (ji0 s V w (.int .i64 0) w1):=⟨0,s.size,jE3 _,by omega,rfl,HV.out,hb⟩;clear hb FO;go_wp2
 go_loopw [3] (fun vi wr=>ji0 s V w vi wr) (fun i _=>s.size-(intOf i).toNat)
 case atStart=>exact R0.out
 case round=>
  clear R0;obtain ⟨i,f,hi,hf,rfl,hall,hbel⟩:=hrel;have HB:=hid hbel;by_cases hlt:i<s.size
  ·have NX:=hid (PK s i wr (by omega) hlt);have hd:=Lib.rune_le s i;have hwd:=iB s i;have hle:=oL s i hlt;have hst:=BZ s f i hlt hf;have HST:Hid ((jX (Utf8.decode s i)&&(iH s (f-1) (i+(Utf8.decode s i).2)).all jX)=V):=by
    show _=V;rw [<- hall,hst,List.all_cons]
   have HH:=hid (fun w=>jo (s.extract i (i+1)) ⟨#[32,45,95,46,58]⟩ w (by rw [ByteArray.size_extract];omega) (by decide));have Yq:Hid (mV (s.extract i (i+1)) (⟨#[32,45,95,46,58]⟩:ByteArray).data.toList=([32,45,95,46,58]:List Nat).contains (Utf8.decode s i).1):=YG s i hlt;rw [Yq.out] at HH;clear hst hall hbel Yq;generalize Utf8.decode s i=d at *;obtain ⟨d1,d2⟩:=d;simp only at hd hwd hle NX HST HH;have CL:=hid (fun w=>Iq d1 w hd);have CD:=hid (fun w=>Ll d1 w hd);have YW:Hid (jX (d1,d2)=(iC d1||D8 d1||([32,45,95,46,58]:List Nat).contains d1)):=rfl;generalize ([32,45,95,46,58]:List Nat).contains d1=bo at *;generalize iC d1=bl at *;generalize D8 d1=bd at *;have q2:decide ((d2:Int)<(1:Int))=false:=by simp;omega
   go_wp2_with fail
   refine NX.out.mono ?_;rintro e w2 ⟨rfl,b2⟩;have HB2:=hid (q01 HB.out b2);clear b2 NX;go_wp2_with fail
   refine (CL.out _).mono ?_;rintro e w3 ⟨rfl,b3⟩;have HB3:=hid (q01 HB2.out b3);clear b3;cases bl with
   | true=>
    exact ji1
   | false=>
    go_wp2_with fail
    refine (CD.out _).mono ?_;rintro e w4 ⟨rfl,rfl⟩;cases bd with
    | true=>
     exact ji1
    | false=>
     go_wp2_with fail
     refine (HH.out _).mono ?_;rintro e w5 ⟨rfl,b5⟩;have wY:=hid (q01 HB3.out b5);clear b5;cases bo with
     | true=>
      go_wp2;go_roundw;case rel=>exact ⟨i+d2,f-1,hle,by omega,by go_num,by rw [<- HST.out,YW.out];rfl,wY.out⟩
      case measure=>simp [intOf];omega
     | false=>
      have HE:Hid (V=false):=by show V=false;rw [<- HST.out,YW.out];rfl
      go_wp2;go_ret;exact ⟨by rw [HE.out];rfl,wY.out⟩
  ·have HE:Hid (V=true):=by
    show V=true;rw [<- hall,rW s f i hlt];rfl
   clear hall hbel;exact jr
open Go.RowKit
def ji2 (l:List Ci) (E:Nat) (w:jG9) (vi:Value) (wr:jG9):Prop:=∃ k:Nat,k<=l.length/\vi=.int .i64 k/\jGj w.heap.size w wr/\eF (l.drop k)=E
theorem DX (s:ByteArray):gU s=(!dG s||!trimS s||mV s [91,93,59,64,123,36,96]):=rfl
theorem Vm{P:Prop}(h:P:=by
 show E=17;have:=iJ.out;rw [if_pos (.inl (by rw [HBP.out];rfl))] at this;exact this.symm):P:=h
theorem Vn{P:Prop}(h:P:=by
 show E=17;have:=iJ.out;rw [if_pos (.inr (by rw [Xr.out];rfl))] at this;exact this.symm):P:=h
theorem LD (l:List Ci) (a:Option Addr) (cap:Nat) (w:jG9) (h:Rd (·<w.heap.size) w (Oa l) [.slice a l.length cap]) (hsz:∀ c∈l,c.key.size<=5000/\c.pre.size<=5000/\c.suf.size<=5000) : Calls Tryz.prog 285 #[.slice a l.length cap] w (eX (.int .i64 (QC l:Nat)) w):=by
 obtain ⟨a',c',hv,hs⟩:=Rd.ay h;obtain ⟨rfl,rfl⟩:a'=a/\c'=cap:=by simp at hv;exact ⟨hv.1.symm,hv.2.symm⟩
 have hcap:l.length<=c':=by simpa using hs.le
 have hmx:=hs.max;unfold maxLen at hmx;have HS:=hid hs;have SZ:=hid hsz;clear hs hv h hsz;by_cases h0:l.length=0
 ·have hv:QC l=8:=by
   obtain rfl:=List.eq_nil_of_length_eq_zero h0;rfl
  rw [hv];have e0:((l.length:Int)==0)=true:=by rw [h0];rfl
  clear hv h0;go_enter Tryz.func285,Tryz.ntmps285;exact vC
 have hv:QC l=eF l:=by
  cases l with
  | nil=>simp at h0
  | cons x l=>rfl
 rw [hv];have e0:((l.length:Int)==0)=false:=by rw [beq_eq_false_iff_ne];omega
 obtain ⟨E,hE⟩:∃ E,eF l=E:=⟨_,rfl⟩;rw [hE];have R0:Hid (ji2 l E w (.int .i64 0) w):=⟨0,jE3 _,rfl,jD7 _ _,hE⟩;clear hv hE h0;go_enter Tryz.func285,Tryz.ntmps285;refine kI ?_;go_wp2
 go_loopw [3] (fun i wr=>ji2 l E w i wr) (fun i _=>l.length-(intOf i).toNat)
 case atStart=>exact R0.out
 case round=>
  clear R0;obtain ⟨k,hk,rfl,hbel,bq⟩:=hrel;have HB:=hid hbel;by_cases hlt:k<l.length
  ·obtain ⟨x,hx⟩:∃ x,l[k]?=some x:=⟨_,jD6 hlt⟩;have hxs:=SZ.out x (List.mem_of_getElem? hx);obtain ⟨b,off,rfl,-,-,c0,c1,c2,c3⟩:=Jq HS.out hx;have c0:wr.cell? ⟨b,off+k*4,none⟩=some (.string x.key):=by rw [hbel.cell (p:=⟨b,off+k*4,none⟩) (qw c0)];exact c0
   have c1:wr.cell? ⟨b,off+k*4+1,none⟩=some (.string x.pre):=by rw [hbel.cell (p:=⟨b,off+k*4+1,none⟩) (qw c1)];exact c1
   have c2:wr.cell? ⟨b,off+k*4+2,none⟩=some (.string x.suf):=by rw [hbel.cell (p:=⟨b,off+k*4+2,none⟩) (qw c2)];exact c2
   have c3:wr.cell? ⟨b,off+k*4+3,none⟩=some (.bool x.bare):=by rw [hbel.cell (p:=⟨b,off+k*4+3,none⟩) (qw c3)];exact c3
   rw [I9 l k x hx,eF] at bq;obtain ⟨key,pre,suf,bare⟩:=x;dsimp only at c0 c1 c2 c3 hxs bq;have bX:=hid bq;have CN:=hid (fun w=>V8 key w (by omega));have CLp:=hid (fun w=>V7 pre w (by omega));have CTp:=hid (fun w=>uV pre w (by omega));have CHp:=hid (fun w=>jo pre ⟨#[91,93,59,64,123,36,96]⟩ w (by omega) (by decide));change Hid (∀ w,Calls Tryz.prog 215 #[.string pre,.string ⟨#[91,93,59,64,123,36,96]⟩] w (eX (.bool (mV pre [91,93,59,64,123,36,96])) w)) at CHp;have CLs:=hid (fun w=>V7 suf w (by omega));have CTs:=hid (fun w=>uV suf w (by omega));have CHs:=hid (fun w=>jo suf ⟨#[91,93,59,64,123,36,96]⟩ w (by omega) (by decide));change Hid (∀ w,Calls Tryz.prog 215 #[.string suf,.string ⟨#[91,93,59,64,123,36,96]⟩] w (eX (.bool (mV suf [91,93,59,64,123,36,96])) w)) at CHs;have HBP:=hid (DX pre);have Xr:=hid (DX suf);obtain ⟨wi,hwi⟩:∃ wi,wi=wr.alloc (.cells #[.string key,.string pre,.string suf,.bool bare] 121):=⟨_,rfl⟩;have k2:CB 121 wr.heap.size [.string key,.string pre,.string suf,.bool bare] wi:=by rw [hwi];exact CB.new _ _ _
   have HB2:Hid (jGj w.heap.size w wi):=by show jGj _ _ _;rw [hwi];exact HB.out.alloc HB.out.size _
   have i0:=k2.cell 0 _ rfl;have i1:=k2.cell 1 _ rfl;have i2:=k2.cell 2 _ rfl;have K2:=hid k2;clear bq hx hbel k2;generalize dG pre=Lp at *;generalize trimS pre=Tp at *;generalize mV pre [91,93,59,64,123,36,96]=Hp at *;generalize dG suf=Ls at *;generalize trimS suf=Ts at *;generalize mV suf [91,93,59,64,123,36,96]=Hs at *;go_upto_region 7 with (fail)
   rw [<- hwi];clear hwi c0 c1 c2 c3;cases hn:dZ key with
   | false=>
    rw [hn] at CN;have HE:Hid (E=6):=by show E=6;have:=bX.out;rw [if_pos hn] at this;exact this.symm
    clear hn;go_wp2_with fail
    refine (CN.out _).mono ?_;rintro e w3 ⟨rfl,rfl⟩;exact NK
   | true=>
    rw [hn] at CN;have iJ:Hid ((if gU pre=true\/gU suf=true then 17 else eF (l.drop (k+1)))=E):=by show _=_;have:=bX.out;rw [if_neg (by rw [hn];decide)] at this;exact this
    clear hn bX;go_wp2_with fail
    refine (CN.out _).mono ?_;rintro e w3 ⟨rfl,rfl⟩;go_wp2_with fail
    refine (CLp.out _).mono ?_;rintro e w3 ⟨rfl,b3⟩;have K3:=hid (K2.out.below b3);have HB3:=hid (q01 HB2.out b3);have i1:=K3.out.cell 1 _ rfl;have i2:=K3.out.cell 2 _ rfl;clear b3;cases Lp
    case false=>
     have HE:Hid (E=17):=by exact Vm
     go_wp2;go_ret;exact ⟨by rw [HE.out];rfl,HB3.out⟩
    case true=>
     go_wp2_with fail
     refine (CTp.out _).mono ?_;rintro e wt ⟨rfl,rfl⟩;cases Tp
     case false=>
      have HE:Hid (E=17):=by exact Vm
      go_wp2;go_ret;exact ⟨by rw [HE.out];rfl,HB3.out⟩
     case true=>
      go_wp2_with fail
      refine (CHp.out _).mono ?_;rintro e w4 ⟨rfl,b4⟩;have K4:=hid (K3.out.below b4);have kM:=hid (q01 HB3.out b4);have i1:=K4.out.cell 1 _ rfl;have i2:=K4.out.cell 2 _ rfl;clear b4;cases Hp
      case true=>
       have HE:Hid (E=17):=by exact Vm
       go_wp2;go_ret;exact ⟨by rw [HE.out];rfl,kM.out⟩
      case false=>
       have PB:Hid (gU pre=false):=by show _=_;rw [HBP.out];rfl
       go_wp2_with fail
       refine (CLs.out _).mono ?_;rintro e w5 ⟨rfl,b5⟩;have K5:=hid (K4.out.below b5);have wY:=hid (q01 kM.out b5);have i1:=K5.out.cell 1 _ rfl;have i2:=K5.out.cell 2 _ rfl;clear b5;cases Ls
       case false=>
        have HE:Hid (E=17):=by exact Vn
        go_wp2;go_ret;exact ⟨by rw [HE.out];rfl,wY.out⟩
       case true=>
        go_wp2_with fail
        refine (CTs.out _).mono ?_;rintro e wt ⟨rfl,rfl⟩;cases Ts
        case false=>
         have HE:Hid (E=17):=by exact Vn
         go_wp2;go_ret;exact ⟨by rw [HE.out];rfl,wY.out⟩
        case true=>
         go_wp2_with fail
         refine (CHs.out _).mono ?_;rintro e w6 ⟨rfl,b6⟩;have K6:=hid (K5.out.below b6);have HB6:=hid (q01 wY.out b6);have i1:=K6.out.cell 1 _ rfl;have i2:=K6.out.cell 2 _ rfl;clear b6;cases Hs
         case true=>
          have HE:Hid (E=17):=by exact Vn
          go_wp2;go_ret;exact ⟨by rw [HE.out];rfl,HB6.out⟩
         case false=>
          have SB:Hid (gU suf=false):=by show _=_;rw [Xr.out];rfl
          have Oe:Hid (eF (l.drop (k+1))=E):=by show _=E;have:=iJ.out;rw [if_neg (by rw [PB.out,SB.out];decide)] at this;exact this
          go_wp2;go_roundw;case rel=>exact ⟨k+1,by omega,by go_num,HB6.out,Oe.out⟩
          case measure=>simp [intOf];omega
  ·have HE:Hid (E=0):=by
    show E=0;rw [<- bq,List.drop_of_length_le (by omega),eF]
   clear bq hbel;exact jr
theorem PS (s:ByteArray):Eb s=(!dG s||mV s [124,123,125]):=rfl
theorem LH (w:jG9) (k:Int) (t d ti:ByteArray) (at_:At) (ar:List ByteArray) (ci:List Ci) (ks:List aj) (ac ap aa ai ak:Option Addr) (cc cp ca gu ck:Nat) (h:qV (·<w.heap.size) w at_ ar ci ks (.slice ac at_.cls.length cc) (.slice ap at_.aD.length cp) (.slice aa ar.length ca) (.slice ai ci.length gu) (.slice ak ks.length ck)) (hs:Y5 t d ti at_ ar ci) : Calls Tryz.prog 284 #[.agg #[.int .i64 k,.string t,.string d,.string ti,.string at_.id,.slice ac at_.cls.length cc,.slice ap at_.aD.length cp,.slice aa ar.length ca,.slice ai ci.length gu,.slice ak ks.length ck]] w (eX (.int .i64 (QE k t ti ar:Nat)) w):=by
 obtain ⟨a',c',hv,hsl⟩:=Rd.ay h.args;obtain ⟨rfl,rfl⟩:aa=a'/\ca=c':=by simp at hv;exact hv
 have hcap:ar.length<=ca:=by simpa using hsl.le
 have hmx:=hsl.max;unfold maxLen at hmx;have HS:=hid hsl;have SZ:=hid hs.ars;have NT:=hid (fun w=>V8 t w (by have:=hs.t;omega));obtain ⟨w1,hw1⟩:∃ w1,w1=w.alloc (.cells #[.int .i64 k,.string t,.string d,.string ti,.string at_.id,.slice ac at_.cls.length cc,.slice ap at_.aD.length cp,.slice aa ar.length ca,.slice ai ci.length gu,.slice ak ks.length ck] 66):=⟨_,rfl⟩;have k1:CB 66 w.heap.size [.int .i64 k,.string t,.string d,.string ti,.string at_.id,.slice ac at_.cls.length cc,.slice ap at_.aD.length cp,.slice aa ar.length ca,.slice ai ci.length gu,.slice ak ks.length ck] w1:=by rw [hw1];exact CB.new _ _ _
 have b1:jGj w.heap.size w w1:=by rw [hw1];exact (jD7 _ _).alloc (jD8 _) _
 have p0:=k1.cell 0 _ rfl;have p1:=k1.cell 1 _ rfl;have p3:=k1.cell 3 _ rfl;have p5:=k1.cell 7 _ rfl;have K1:=hid k1;have B1:=hid b1;have R0:Hid (NmR ar w1 (.int .i64 0) w1):=⟨0,jE3 _,rfl,jD7 _ _,by simp⟩;clear hv hsl h hs k1 b1;have HE:Hid (QE k t ti ar=if dZ t=false then 6 else if k=14/\aW ti=false/\ti.data.toList≠nL then 5 else if 8<ar.length then 3 else if ar.any Eb then 17 else 0):=rfl;obtain ⟨V,hV⟩:∃ V,V=QE k t ti ar:=⟨_,rfl⟩;rw [<- hV] at HE ⊢;clear hV;go_enter Tryz.func284,Tryz.ntmps284
 (try simp only [List.append_eq,List.cons_append,List.nil_append])
 go_upto_region 1 with (fail)
 rw [<- hw1];clear hw1;cases hn:dZ t with
 | false=>
  rw [hn] at NT;have HV:Hid (V=6):=by show V=6;rw [HE.out,if_pos hn]
  clear hn R0;go_wp2_with fail
  refine (NT.out _).mono ?_;rintro e w3 ⟨rfl,rfl⟩;exact su
 | true=>
 rw [hn] at NT;have HE2:Hid (V=if k=14/\aW ti=false/\ti.data.toList≠nL then 5 else if 8<ar.length then 3 else if ar.any Eb then 17 else 0):=by show V=_;rw [HE.out,if_neg (by rw [hn];decide)]
 clear hn HE;go_wp2_with fail
 refine (NT.out _).mono ?_;rintro e w3 ⟨rfl,rfl⟩;clear NT;go_upto_region 3 with (fail)
 have hemp:=oN ti;have hpg:(ti.toList==[112,97,103,101])=decide (ti.data.toList=nL):=by rw [Lib.toList_data,jDk,beq_iff_eq,decide_eq_true_iff];rfl
 go_cut [20] (fun s wx=>s=.bool (decide (k=14/\aW ti=false/\ti.data.toList≠nL))/\w1=wx)
 case first=>
  clear R0 HE2;by_cases hk:k=14;case neg=>
   have hq:=beq_false_of_ne hk;go_wp2_with fail
   go_meet
   exact ⟨by simp [hk],rfl⟩
  subst hk;cases he:aW ti with
  | true=>
   rw [he] at hemp;go_wp2_with fail
   go_meet
   exact ⟨by simp [he],rfl⟩
  | false=>
   rw [he] at hemp;by_cases hp:ti.data.toList=nL
   ·have hpp:(ti.toList != [112,97,103,101])=false:=by unfold bne;rw [hpg,decide_eq_true hp];rfl
    rw [decide_eq_true hp] at hpg;have HP:=hid hp;clear hp;go_wp2_with fail
    go_meet
    exact ⟨by simp [HP.out],rfl⟩
   ·have hpp:(ti.toList != [112,97,103,101])=true:=by unfold bne;rw [hpg,decide_eq_false hp];rfl
    rw [decide_eq_false hp] at hpg;have HP:=hid hp;have Gl:=hid he;clear hp he;go_wp2_with fail
    go_meet
    exact ⟨by simp [HP.out,Gl.out],rfl⟩
 case rest=>
  obtain ⟨rfl,rfl⟩:=hcut;clear hemp hpg;by_cases htt:k=14/\aW ti=false/\ti.data.toList≠nL
  ·have HV:Hid (V=5):=by show V=5;rw [HE2.out,if_pos htt]
   rw [decide_eq_true htt];clear htt R0;exact su
  have wX:Hid (V=if 8<ar.length then 3 else if ar.any Eb then 17 else 0):=by show V=_;rw [HE2.out,if_neg htt]
  rw [decide_eq_false htt];clear htt HE2;by_cases h8:8<ar.length
  ·have q1:decide ((8:Int)<(ar.length:Int))=true:=by simp;omega
   have HV:Hid (V=3):=by show V=3;rw [wX.out,if_pos h8]
   clear R0;exact su
  have q1:decide ((8:Int)<(ar.length:Int))=false:=by simp;omega
  have HL:Hid (V=if ar.any Eb then 17 else 0):=by show V=_;rw [wX.out,if_neg h8]
  clear wX;go_wp2
  go_loopw [3] (fun i wr=>NmR ar w1 i wr) (fun i _=>ar.length-(intOf i).toNat)
  case atStart=>exact R0.out
  case round=>
   clear R0 p0 p1 p3 p5;obtain ⟨j,hj,rfl,hbel,hno⟩:=hrel;have HB:=hid (q01 B1.out hbel);have HBW:=hid hbel;have Js:=hid hno;have p5:=(K1.out.below hbel).cell 7 _ rfl;by_cases hlt:j<ar.length
   ·obtain ⟨x,hx⟩:∃ x,ar[j]?=some x:=⟨_,jD6 hlt⟩;have hxs:=SZ.out x (List.mem_of_getElem? hx);obtain ⟨b2,off,rfl,-,-,x0⟩:=jf HS.out hx;have x0:wr.cell? ⟨b2,off+j,none⟩=some (.string x):=by rw [HB.out.cell (p:=⟨b2,off+j,none⟩) (qw x0)];exact x0
    have CL:=hid (V7 x wr (by omega));have CH:=hid (fun w=>jo x ⟨#[124,123,125]⟩ w (by omega) (by decide));change Hid (∀ w,Calls Tryz.prog 215 #[.string x,.string ⟨#[124,123,125]⟩] w (eX (.bool (mV x [124,123,125])) w)) at CH;have HAB:=hid (PS x);have gV:=hid (xR Eb hx);have HBAD:Hid (Eb x=true->V=17):=fun hb=>by rw [HL.out,Jr Eb hx hb];rfl
    clear hx hbel hno;generalize dG x=L at *;generalize mV x [124,123,125]=Hh at *;cases L with
    | false=>
     have HV:Hid (V=17):=HBAD.out (by rw [HAB.out];rfl);go_wp2_with fail
     refine CL.out.mono ?_;rintro e w4 ⟨rfl,b4⟩;have kM:=hid (q01 HB.out b4);clear b4;go_wp2;go_ret;exact ⟨by rw [HV.out];rfl,kM.out⟩
    | true=>
     go_wp2_with fail
     refine CL.out.mono ?_;rintro e w4 ⟨rfl,b4⟩;have kM:=hid (q01 HB.out b4);have HW4:=hid (q01 HBW.out b4);have p5:=(K1.out.below HW4.out).cell 7 _ rfl;have x0:w4.cell? ⟨b2,off+j,none⟩=some (.string x):=by rw [b4.cell (p:=⟨b2,off+j,none⟩) (qw x0)];exact x0
     clear b4;go_wp2_with fail
     refine (CH.out _).mono ?_;rintro e w5 ⟨rfl,b5⟩;have wY:=hid (q01 kM.out b5);have HW5:=hid (q01 HW4.out b5);clear b5;cases Hh with
     | true=>
      have HV:Hid (V=17):=HBAD.out (by rw [HAB.out];rfl);go_wp2;go_ret;exact ⟨by rw [HV.out];rfl,wY.out⟩
     | false=>
      go_wp2;go_roundw;case rel=>exact ⟨j+1,by omega,by go_num,HW5.out,by rw [gV.out,Js.out,HAB.out];rfl⟩
      case measure=>simp [intOf];omega
   ·have HV:Hid (V=0):=by
     show V=0;have:=Js.out;rw [List.take_of_length_le (by omega)] at this;rw [HL.out,this];rfl
    clear hbel hno;go_wp2;go_ret;exact ⟨by rw [HV.out];rfl,HB.out⟩
open Go.RowKit
theorem II (w:jG9) (k:Int) (t d ti:ByteArray) (at_:At) (ar:List ByteArray) (ci:List Ci) (ks:List aj) (ac ap aa ai ak:Option Addr) (cc cp ca gu ck:Nat) (h:qV (·<w.heap.size) w at_ ar ci ks (.slice ac at_.cls.length cc) (.slice ap at_.aD.length cp) (.slice aa ar.length ca) (.slice ai ci.length gu) (.slice ak ks.length ck)) (hs:Y5 t d ti at_ ar ci) (hk:k=9\/k=10) : Calls Tryz.prog 283 #[.agg #[.int .i64 k,.string t,.string d,.string ti,.string at_.id,.slice ac at_.cls.length cc,.slice ap at_.aD.length cp,.slice aa ar.length ca,.slice ai ci.length gu,.slice ak ks.length ck]] w (eX (.int .i64 (Qa k t d ti at_ ks:Nat)) w):=by
 obtain ⟨s1,s2,s3,s4,-,-⟩:=hs;have LT:=hid (fun w=>Au t w (by omega));have CD:=hid (fun w=>V7 d w (by omega));have CT:=hid (fun w=>V7 ti w (by omega));have AC:=hid (fun wx (hb:jGj w.heap.size w wx)=>kG at_ ac ap cc cp wx (h.at_.up hb) s4);have AK:=hid (fun wx (hb:jGj w.heap.size w wx)=>Aq _ ks (.slice ak ks.length ck) false wx (jD8 _) (h.kids.up hb));change Hid (∀ wx,jGj w.heap.size w wx->Calls Tryz.prog 209 #[.slice ak ks.length ck,.bool false] wx (eX (.bool (aj.cZ dw ks)) wx)) at AK;have HE:Hid (Qa k t d ti at_ ks=if aW t=false/\(aW d=false\/aW ti=false) then 5
 else if aW t=false/\uD t=false then 6
 else if dG d=false\/dG ti=false then 17
 else if k=9/\aj.cZ dw ks=true then 5
 else if k=10 then at_.err else 0):=rfl
 obtain ⟨V,hV⟩:∃ V,V=Qa k t d ti at_ ks:=⟨_,rfl⟩
 rw [<- hV] at HE ⊢;have HD:=hid (oN d).symm;have HT:=hid (oN t).symm;have HTI:=hid (oN ti).symm;generalize uD t=L at *;generalize dG d=L1 at *;generalize dG ti=L2 at *;generalize aj.cZ dw ks=A at *;generalize at_.err=E at *
 obtain ⟨w1,hw1⟩:∃ w1,w1=w.alloc (.cells #[.int .i64 k,.string t,.string d,.string ti,.string at_.id,.slice ac at_.cls.length cc,.slice ap at_.aD.length cp,.slice aa ar.length ca,.slice ai ci.length gu,.slice ak ks.length ck] 66):=⟨_,rfl⟩;have k1:CB 66 w.heap.size [.int .i64 k,.string t,.string d,.string ti,.string at_.id,.slice ac at_.cls.length cc,.slice ap at_.aD.length cp,.slice aa ar.length ca,.slice ai ci.length gu,.slice ak ks.length ck] w1:=by rw [hw1];exact CB.new _ _ _
 have b1:jGj w.heap.size w w1:=by rw [hw1];exact (jD7 _ _).alloc (jD8 _) _
 have p0:=k1.cell 0 _ rfl;have p1:=k1.cell 1 _ rfl;have p2:=k1.cell 2 _ rfl;have p3:=k1.cell 3 _ rfl;have p4:=k1.cell 4 _ rfl;have p5:=k1.cell 5 _ rfl;have p6:=k1.cell 6 _ rfl;have p7:=k1.cell 7 _ rfl;have p8:=k1.cell 8 _ rfl;have p9:=k1.cell 9 _ rfl;have K1:=hid k1;have B1:=hid b1;clear hV h k1 b1 s1 s2 s3 s4;go_enter Tryz.func283,Tryz.ntmps283
 (try simp only [List.append_eq,List.cons_append,List.nil_append])
 go_upto_region 1 with (fail)
 rw [<- hw1];clear hw1;cases hT:t.toList.isEmpty<;>cases hD:d.toList.isEmpty<;>cases hTI:ti.toList.isEmpty<;>rcases hk with rfl | rfl
 all_goals
  go_wp2_with (first
   | (go_at_call 182;refine (LT.out _).mono ?_;rintro e w2 ⟨rfl,hb2⟩;have K2:=K1.out.below hb2;have HB2:=hid (q01 B1.out hb2);have p0:=K2.cell 0 _ rfl;have p2:=K2.cell 2 _ rfl;have p3:=K2.cell 3 _ rfl;have p4:=K2.cell 4 _ rfl;have p5:=K2.cell 5 _ rfl;have p6:=K2.cell 6 _ rfl;have p9:=K2.cell 9 _ rfl)
   | (go_at_call 111;(with_reducible refine (CD.out _).mono ?_);rintro e w3 ⟨rfl,hb3⟩;have K3:=(by first | exact K2.below hb3 | exact K1.out.below hb3:CB 66 w.heap.size _ w3);have HB3:Hid (jGj w.heap.size w w3):=(by first | exact hid (q01 HB2.out hb3) | exact hid (q01 B1.out hb3));have p0:=K3.cell 0 _ rfl;have p3:=K3.cell 3 _ rfl;have p4:=K3.cell 4 _ rfl;have p5:=K3.cell 5 _ rfl;have p6:=K3.cell 6 _ rfl;have p9:=K3.cell 9 _ rfl)
   | (go_at_call 111;(with_reducible refine (CT.out _).mono ?_);rintro e w4 ⟨rfl,hb4⟩;have K4:=K3.below hb4;have kM:=hid (q01 HB3.out hb4);have p0:=K4.cell 0 _ rfl;have p4:=K4.cell 4 _ rfl;have p5:=K4.cell 5 _ rfl;have p6:=K4.cell 6 _ rfl;have p9:=K4.cell 9 _ rfl)
   | (go_at_call 209;refine (AK.out _ kM.out).mono ?_;rintro e w5 ⟨rfl,hb5⟩;have K5:=K4.below hb5;have wY:=hid (q01 kM.out hb5);have p0:=K5.cell 0 _ rfl;have p4:=K5.cell 4 _ rfl;have p5:=K5.cell 5 _ rfl;have p6:=K5.cell 6 _ rfl;have p9:=K5.cell 9 _ rfl)
   | (go_at_call 180;refine (AC.out _ (by first | exact wY.out | exact kM.out)).mono ?_;rintro e w6 ⟨rfl,hb6⟩;have HB6:Hid (jGj w.heap.size w w6):=(by first | exact hid (q01 wY.out hb6) | exact hid (q01 kM.out hb6))))
  all_goals
   go_ret;refine ⟨Jt ?_,?_⟩
   ·exact Y7
   ·first | exact HB6.out | exact wY.out | exact kM.out | exact HB3.out | exact HB2.out | exact B1.out
theorem Vo (w:jG9) (k:Int) (t d ti:ByteArray) (at_:At) (ar:List ByteArray) (ci:List Ci) (ks:List aj) (ac ap aa ai ak:Option Addr) (cc cp ca gu ck:Nat) (bf:Int) (fi la:Bool) (h:qV (·<w.heap.size) w at_ ar ci ks (.slice ac at_.cls.length cc) (.slice ap at_.aD.length cp) (.slice aa ar.length ca) (.slice ai ci.length gu) (.slice ak ks.length ck)) (hs:Y5 t d ti at_ ar ci) : Calls Tryz.prog 268 #[.agg #[.int .i64 k,.string t,.string d,.string ti,.string at_.id,.slice ac at_.cls.length cc,.slice ap at_.aD.length cp,.slice aa ar.length ca,.slice ai ci.length gu,.slice ak ks.length ck],.int .i64 bf,.bool fi,.bool la] w (eX (.int .i64 (oO bf fi la k t d ti at_ ar ci ks:Nat)) w):=by
 have l1:=(rX h.at_.cls).2;have l2:=(rX h.at_.aD).2;obtain ⟨-,l5,m5⟩:=rX h.kids;have AE:=hid (fun w=>oI at_ ac ap cc cp w (by omega) (by omega));unfold maxLen at m5;clear l1 l2;have CL:=hid (fun w=>V7 t w (by have:=hs.t;omega));have AC:=hid (fun wx (hb:jGj w.heap.size w wx)=>kG at_ ac ap cc cp wx (h.at_.up hb) hs.at_);have LK:=hid (fun wx (hb:jGj w.heap.size w wx) hk=>II wx k t d ti at_ ar ci ks ac ap aa ai ak cc cp ca gu ck (h.up hb) hs hk);have NM:=hid (fun wx (hb:jGj w.heap.size w wx)=>LH wx k t d ti at_ ar ci ks ac ap aa ai ak cc cp ca gu ck (h.up hb) hs);have CC:=hid (fun wx (hb:jGj w.heap.size w wx)=>LD ci ai gu wx (h.fu.up hb) hs.cis);have AD:=hid (fun w=>PE d w (by have:=hs.d;omega));have FD:=hid (fun wx (hb:jGj w.heap.size w wx)=>tZ wx k t d ti at_ ar ci ks ac ap aa ai ak cc cp ca gu ck (h.up hb));have e3:=jR ks;have HE:Hid (oO bf fi la k t d ti at_ ar ci ks=if xV k t d ti at_ ar ci ks=false then 5
 else if k=1\/k=4\/k=5 then (if aW t=true\/dG t=false then 17 else if k≠5/\bf=k then 5 else 0)
 else if k=2 then (if bf=2\/bf=3\/fi=true\/la=true then 5 else 0)
 else if k=3 then (if la=true then 5 else 0)
 else if k=6\/k=7\/k=8 then (if ks.isEmpty=true then 8 else 0)
 else if k=9\/k=10 then Qa k t d ti at_ ks
 else if k=11 then (if at_.none=true then 8 else at_.err)
 else if k=12\/k=14\/k=15 then QE k t ti ar
 else if k=13 then QC ci
 else if mH d=true then 0 else 5):=rfl
 have HF:=hid (fun hf=>(xU (k:=k) (t:=t) (d:=d) (ti:=ti) (a:=at_) (ar:=ar) (ci:=ci) (ks:=ks) hf));obtain ⟨V,hV⟩:∃ V,V=oO bf fi la k t d ti at_ ar ci ks:=⟨_,rfl⟩
 rw [<- hV] at HE ⊢;have HT:=hid (oN t).symm;generalize dG t=L at *;generalize Qa k t d ti at_ ks=E1 at *
 generalize at_.none=bn at *
 generalize at_.err=E2 at *
 generalize QE k t ti ar=E3 at *;generalize QC ci=E4 at *;generalize mH d=bu at *;generalize ks.isEmpty=bk at *;generalize xV k t d ti at_ ar ci ks=bf0 at *
 obtain ⟨w1,hw1⟩:∃ w1,w1=w.alloc (.cells #[.int .i64 k,.string t,.string d,.string ti,.string at_.id,.slice ac at_.cls.length cc,.slice ap at_.aD.length cp,.slice aa ar.length ca,.slice ai ci.length gu,.slice ak ks.length ck] 66):=⟨_,rfl⟩;have k1:CB 66 w.heap.size [.int .i64 k,.string t,.string d,.string ti,.string at_.id,.slice ac at_.cls.length cc,.slice ap at_.aD.length cp,.slice aa ar.length ca,.slice ai ci.length gu,.slice ak ks.length ck] w1:=by rw [hw1];exact CB.new _ _ _
 have b1:jGj w.heap.size w w1:=by rw [hw1];exact (jD7 _ _).alloc (jD8 _) _
 have p0:=k1.cell 0 _ rfl;have p1:=k1.cell 1 _ rfl;have p2:=k1.cell 2 _ rfl;have p3:=k1.cell 3 _ rfl;have p4:=k1.cell 4 _ rfl;have p5:=k1.cell 5 _ rfl;have p6:=k1.cell 6 _ rfl;have p7:=k1.cell 7 _ rfl;have p8:=k1.cell 8 _ rfl;have p9:=k1.cell 9 _ rfl;have K1:=hid k1;have B1:=hid b1;clear hV h hs k1 b1;go_enter Tryz.func268,Tryz.ntmps268
 (try simp only [List.append_eq,List.cons_append,List.nil_append])
 go_upto_region 1 with (fail)
 rw [<- hw1];clear hw1;go_wp2_with fail
 refine (FD.out _ B1.out).mono ?_;rintro e w2 ⟨rfl,hb2⟩;have K2:=hid (K1.out.below hb2);have B2:=hid (q01 B1.out hb2);clear p0 p1 p2 p3 p4 p5 p6 p7 p8 p9 hb2 FD K1 B1;have p0:=K2.out.cell 0 _ rfl;have p1:=K2.out.cell 1 _ rfl;have p2:=K2.out.cell 2 _ rfl;have p3:=K2.out.cell 3 _ rfl;have p4:=K2.out.cell 4 _ rfl;have p5:=K2.out.cell 5 _ rfl;have p6:=K2.out.cell 6 _ rfl;have p7:=K2.out.cell 7 _ rfl;have p8:=K2.out.cell 8 _ rfl;have p9:=K2.out.cell 9 _ rfl;cases bf0 with
 | false=>
  have HV:Hid (V=5):=HE.out;clear p0 p1 p2 p3 p4 p5 p6 p7 p8 p9;go_wp2;go_ret;exact ⟨by rw [HV.out];rfl,B2.out⟩
 | true=>
 obtain ⟨f1,f2,-⟩:=HF.out rfl;clear HF;rcases rY k with rfl | rfl | rfl | rfl | rfl | rfl | rfl | rfl | rfl | rfl | rfl | rfl | rfl | rfl | rfl | rfl | hk
 case inr.inr.inr.inr.inr.inr.inr.inr.inr.inr.inr.inr.inr.inr.inr.inr=>omega
 all_goals
  go_wp2_with (first
   | (go_at_call 111;refine (CL.out _).mono ?_;rintro e w3 ⟨rfl,hb3⟩;have K3:=K2.out.below hb3;have HB3:=hid (q01 B2.out hb3);have p0:=K3.cell 0 _ rfl)
   | (go_at_call 283;refine (LK.out _ B2.out (by simp)).mono ?_;rintro e w3 ⟨rfl,hb3⟩;have HB3:=hid (q01 B2.out hb3))
   | (go_at_call 176;refine (AE.out _).mono ?_;rintro e w3 ⟨rfl,hb3⟩;have K3:=K2.out.below hb3;have HB3:=hid (q01 B2.out hb3);have p4:=K3.cell 4 _ rfl;have p5:=K3.cell 5 _ rfl;have p6:=K3.cell 6 _ rfl)
   | (go_at_call 180;refine (AC.out _ HB3.out).mono ?_;rintro e w4 ⟨rfl,hb4⟩;have kM:=hid (q01 HB3.out hb4))
   | (go_at_call 284;refine (NM.out _ B2.out).mono ?_;rintro e w3 ⟨rfl,hb3⟩;have HB3:=hid (q01 B2.out hb3))
   | (go_at_call 285;refine (CC.out _ B2.out).mono ?_;rintro e w3 ⟨rfl,hb3⟩;have HB3:=hid (q01 B2.out hb3))
   | (go_at_call 286;refine (AD.out _).mono ?_;rintro e w3 ⟨rfl,hb3⟩;have HB3:=hid (q01 B2.out hb3)))
  all_goals
   go_ret;refine ⟨Jt ?_,?_⟩
   ·exact Y8
   ·first | exact kM.out | exact HB3.out | exact B2.out
open Go.RowKit
def ji3 (l:List aj) (dp:Nat) (E:Nat) (w:jG9) (vb vi:Value) (wr:jG9):Prop:=∃ k:Nat,k<=l.length/\vi=.int .i64 k/\vb=.int .i64 (ug l k)/\jGj w.heap.size w wr/\aj.aQ (ug l k) (decide (k=0)) dp (l.drop k)=E
theorem PV (bf:Int) (st:Bool) (dp:Nat) (k:Int) (t d ti:ByteArray) (a:At) (ar:List ByteArray) (ci:List Ci) (ks:List aj) (l:List aj) (qy:¬ 15<dp) (fi la:Bool) (hfi:fi=(decide (dp=0)&&st)) (hla:la=(decide (dp=0)&&l.isEmpty)) : aj.aQ bf st dp (aj.mk k t d ti a ar ci ks::l)=if oO bf fi la k t d ti a ar ci ks≠0 then oO bf fi la k t d ti a ar ci ks else if aj.aQ 0 true (dp+1) ks≠0 then aj.aQ 0 true (dp+1) ks else aj.aQ k false dp l:=by
 subst hfi hla;rw [aj.aQ,if_neg qy,aj.err];by_cases h1:oO bf (decide (dp=0)&&st) (decide (dp=0)&&l.isEmpty) k t d ti a ar ci ks=0
 ·simp only [h1,ne_eq,not_true_eq_false,if_false];rfl
 ·simp only [ne_eq,h1,not_false_eq_true,if_true]
theorem ji4{P:Prop}(h:P:=by
 clear h1 h2;go_wp2_with fail
 refine (ONE.out _ _ _).mono ?_;rintro e w3 ⟨rfl,b3⟩;have HB3:=hid b3;clear b3;go_wp2_with fail
 go_meet
 exact ⟨by rw [HE2.out],HB3.out⟩):P:=h
theorem PX (n:Nat):∀ (l:List aj) (dp:Nat) (a:Option Addr) (cap:Nat) (w:jG9),aj.aY l<=n->dp<=1000000->aj.aB l->Rd (·<w.heap.size) w (bG l) [.slice a l.length cap] -> Calls Tryz.prog 244 #[.slice a l.length cap,.int .i64 (dp:Int)] w (eX (.int .i64 (aj.aQ 0 true dp l:Nat)) w):=by
 induction n using Nat.strongRecOn with
 | _ n ih=>
  intro l dp a cap w hn hdp hsm h;obtain ⟨a',c',hv,hs⟩:=Rd.ay h;obtain ⟨rfl,rfl⟩:a'=a/\c'=cap:=by simp at hv;exact ⟨hv.1.symm,hv.2.symm⟩
  have hcap:l.length<=c':=by simpa using hs.le
  refine F8 ?_;intro hmx HS IH;have SM:=hid hsm;obtain ⟨E,hE⟩:∃ E,aj.aQ 0 true dp l=E:=⟨_,rfl⟩;rw [hE];have R0:Hid (ji3 l dp E w (.int .i64 0) (.int .i64 0) w):=⟨0,jE3 _,rfl,rfl,jD7 _ _,hE⟩;clear hs hv h ih hsm hE;go_enter Tryz.func244,Tryz.ntmps244;refine kI ?_;go_wp2
  go_loopw [5,6] (fun b i wr=>ji3 l dp E w b i wr) (fun _ i _=>l.length-(intOf i).toNat)
  case atStart=>exact R0.out
  case round=>
   clear R0;obtain ⟨k,hk,rfl,rfl,hbel,bq⟩:=hrel;have HB:=hid hbel;by_cases hlt:k<l.length
   ·refine iX ?_;intro x hx;by_cases qy:15<dp
    ·have Qb:decide ((15:Int)<(dp:Int))=true:=by simp;omega
     have HE:Hid (E=11):=by show E=11;rw [<- bq,I9 l k x hx,aj.aQ,if_pos qy]
     clear bq hx hbel;generalize ug l k=bf at *;exact jr
    have Qb:decide ((15:Int)<(dp:Int))=false:=by simp;omega
    have hbs:=DW hx;have hxs:x.small:=aj.jv SM.out hx;have hsz:=aj.bE l k _ hx;rw [I9 l k x hx] at bq;have hle:(l.drop (k+1)).isEmpty=((k:Int)==(l.length:Int)-1):=by rw [jDk];simp;omega
    obtain ⟨kd,t,d,ti,at_,ar,ci,ks⟩:=x;rw [aj.sz] at hsz;obtain ⟨hins,hks⟩:=jp4 hxs;have hz0:decide (dp=0)=((dp:Int)==0):=by rw [jDk];simp
    have hzk:decide (k=0)=((k:Int)==0):=by rw [jDk];simp
    obtain ⟨fi,hfi⟩:∃ fi,fi=(decide (dp=0)&&decide (k=0)):=⟨_,rfl⟩;obtain ⟨la,hla⟩:∃ la,la=(decide (dp=0)&&(l.drop (k+1)).isEmpty):=⟨_,rfl⟩;rw [PV _ _ _ _ _ _ _ _ _ _ _ _ qy fi la hfi hla] at bq;rw [hz0,hzk] at hfi;rw [hz0,hle] at hla;obtain ⟨b,off,ac,ap,aa,ai,ak,cc,cp,ca,gu,ck,ha,QH⟩:=Lv HS.out hx;have hP:=QH.up hbel;subst ha;obtain ⟨c0,c1,c2,c3,c4,c5,c6,c7,c8,c9⟩:=hP.cells;have HP:=hid hP;have ONE:=hid (fun bf fi la=>Vo wr kd t d ti at_ ar ci ks ac ap aa ai ak cc cp ca gu ck bf fi la hP.rd hins);have KID:=hid (fun wx (hb:jGj wr.heap.size wr wx)=>IH.out (aj.aY ks) (by omega) ks (dp+1) ak ck wx (jD8 _) (by omega) hks (hP.up hb).rd.kids);simp only [Int.natCast_add,Int.natCast_one] at KID;have Xr:=hid hbs;have HFI:=hid hfi;have HLA:=hid hla;have bX:=hid bq;clear hx hbs hxs hsz bq hle hins hks hz0 hzk hfi hla QH hP hbel;generalize ug l k=bf at *;obtain ⟨E1,hE1⟩:∃ E1,E1=oO bf fi la kd t d ti at_ ar ci ks:=⟨_,rfl⟩
    rw [<- hE1] at bX;have Wq:=hid hE1;clear hE1;go_upto_region 7 with (fail)
    go_cut [7] (fun s wx=>s=.int .i64 (E1:Int)/\jGj wr.heap.size wr wx)
    case first=>
     cases hz:((dp:Int)==0) with
     | false=>
      rw [hz] at HFI HLA;have h1:fi=false:=HFI.out;have h2:la=false:=HLA.out;have HE2:Hid (E1=oO bf false false kd t d ti at_ ar ci ks):=by show E1=_;rw [Wq.out,h1,h2]
      exact ji4
     | true=>
      cases hk0:((k:Int)==0)<;>cases hkl:((k:Int)==(l.length:Int)-1)
      all_goals
       rw [hz,hk0] at HFI;rw [hz,hkl] at HLA;have h1:=HFI.out;have h2:=HLA.out;simp only [Bool.and_true,Bool.and_false,Bool.true_and] at h1 h2;have HE2:=Wq;rw [h1,h2] at HE2;exact ji4
    case rest=>
     obtain ⟨rfl,hbc⟩:=hcut;have HPC:=hid (HP.out.up hbc);have Bz:=hid hbc;have Ed:=hid (q01 HB.out hbc);clear c0 c1 c2 c3 c4 c5 c6 c7 c8 c9 hbc ONE HFI HLA Wq;have c0:=HPC.out.cells.c0;have c9:=HPC.out.cells.c9;by_cases he1:E1=0;case neg=>
      have hn1:((E1:Int) != 0)=true:=by rw [bne_iff_ne];omega
      have HV:Hid (E=E1):=by show E=E1;rw [<- bX.out,if_pos he1]
      clear he1;go_wp2;go_ret;exact ⟨by rw [HV.out];rfl,Ed.out⟩
     subst he1;have iJ:Hid ((if aj.aQ 0 true (dp+1) ks≠0 then aj.aQ 0 true (dp+1) ks else aj.aQ kd false dp (l.drop (k+1)))=E):=by show _=E;exact (if_neg (by simp)).symm.trans bX.out
     clear bX;obtain ⟨E2,hE2⟩:∃ E2,E2=aj.aQ 0 true (dp+1) ks:=⟨_,rfl⟩;rw [<- hE2] at iJ KID;clear hE2;go_wp2_with fail
     refine (KID.out _ Bz.out).mono ?_;rintro e w4 ⟨rfl,b4⟩;have HP4:=hid (HPC.out.up b4);have kM:=hid (q01 Ed.out b4);clear b4 c0 c9;have c0:=HP4.out.cells.c0;by_cases he2:E2=0;case neg=>
      have hn2:((E2:Int) != 0)=true:=by rw [bne_iff_ne];omega
      have HV:Hid (E=E2):=by show E=E2;rw [<- iJ.out,if_pos he2]
      clear he2;go_wp2;go_ret;exact ⟨by rw [HV.out];rfl,kM.out⟩
     subst he2;have HN:Hid (aj.aQ kd false dp (l.drop (k+1))=E):=by show _=E;exact (if_neg (by simp)).symm.trans iJ.out
     clear iJ;go_wp2;go_roundw;case rel=>exact ⟨k+1,by omega,by go_num,by rw [Xr.out];rfl,kM.out,by rw [Xr.out,decide_eq_false (by omega)];exact HN.out⟩
     case measure=>simp [intOf];omega
   ·have HE:Hid (E=0):=by
     exact Vl
    clear bq hbel;generalize ug l k=bf at *;exact jr
theorem Fb (l:List aj) (a:Option Addr) (cap:Nat) (w:jG9) (hsm:aj.aB l) (h:Rd (·<w.heap.size) w (bG l) [.slice a l.length cap]) : Calls Tryz.prog 210 #[.slice a l.length cap] w (eX (.int .i64 (oV l:Nat)) w):=by
 have CK:=hid (PX _ l 0 a cap w (jD8 _) (by omega) hsm h);change Hid (Calls _ _ _ _ (eX (.int .i64 (oV l:Nat)) w)) at CK;generalize oV l=E at *;clear h hsm;go_enter Tryz.func210,Tryz.ntmps210;go_wp2_with fail
 refine CK.out.mono ?_;rintro e w1 ⟨rfl,b1⟩;have HB:=hid b1;clear b1;go_wp2;go_ret;exact ⟨rfl,HB.out⟩
end Go.Proofs.YtkfnkeflalcphaaGreatDoor

