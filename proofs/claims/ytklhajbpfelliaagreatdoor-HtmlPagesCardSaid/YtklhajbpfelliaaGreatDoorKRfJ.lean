/- The contract of tree.checkInlines and Line: the first error of inlines. Contracts of tree.Line, checkUnbroken, checkHead, checkTable. Contracts of tree.checkTable, checkBlock. The contract of tree.checkBlock; of a formula's check it asks the contract. Contracts of publisherref01.Next and publisherref04.Label. Contracts of publisherref04.cites, named. Contracts of publisherref04.target, one. Contracts of publisherref04.list, Line: the first error of inlines. -/
import Derived.Test.YtklhajbpfelliaaGreatDoorKChQ
import Derived.Shelf.Strings.SlTrimAscii
set_option maxHeartbeats 8000000
set_option maxRecDepth 100000
open Go.Lib (hid)
namespace Go.Proofs.YtklhajbpfelliaaGreatDoor
open List renaming getElem?_eq_getElem->jF9
open Go.RowKit.Below renaming refl->jFj
open Nat renaming le_refl->jFk,zero_le->jG6
open Bool renaming eq_iff_iff->jFz
open Go renaming World->jIq
open Go.RowKit renaming Below->jIx
open Go.RowKit
set_option linter.unusedVariables false
set_option linter.unusedSimpArgs false
def edge (k:Int) (first last:Bool):Bool:=(decide (k=2)&&first)||((decide (k=2)||decide (k=3))&&last)
theorem Jf (bf:Int) (first last:Bool) (k:Int) (t d ti:ByteArray) (a:At) (ar:List ByteArray) (ci:List Ci) (ks:List aj) (hf:yH k t d ti a ar ci ks=true) : oV bf first last k t d ti a ar ci ks=if edge k first last=true then 5 else oV bf false false k t d ti a ar ci ks:=by
 unfold oV edge;rw [hf];simp only [Bool.true_eq_false,if_false];by_cases h1:k=1\/k=4\/k=5
 ·have h2:k≠2:=by omega
  have h3:k≠3:=by omega
  simp [h1,h2,h3]
 ·by_cases h2:k=2
  ·subst h2;cases first<;>cases last<;>simp
  ·by_cases h3:k=3
   ·subst h3;cases first<;>cases last<;>simp
   ·simp [h1,h2,h3]
theorem Ck (bf:Int) (first last:Bool) (k:Int) (t d ti:ByteArray) (a:At) (ar:List ByteArray) (ci:List Ci) (ks:List aj) (hf:yH k t d ti a ar ci ks=false):oV bf first last k t d ti a ar ci ks=5:=by unfold oV;rw [if_pos hf]
def uw (l:List aj) (k:Nat):Int:=if k=0 then 0 else match l[k-1]? with | some x=>x.kd | none=>0
def VX (l:List aj) (dp:Nat) (E:Nat) (w:jIq) (vi:Value) (wr:jIq):Prop:=∃ k:Nat,k<=l.length/\vi=.int .i64 k/\jIx w.heap.size w wr/\aj.aT (uw l k) (decide (k=0)) dp (l.drop k)=E
theorem Ej {l:List aj} {k:Nat} {x:aj} (h:l[k]?=some x):uw l (k+1)=x.kd:=by unfold uw;rw [if_neg (by omega),Nat.add_sub_cancel,h]
theorem aj.jA:∀ {l:List aj} {k:Nat} {x:aj},aj.aC l->l[k]?=some x->x.small
 | [],_,_,_,h=>by simp at h
 | y::l,0,x,hb,h=>by simp at h;subst h;rw [aj.aC] at hb;exact hb.1
 | y::l,k+1,x,hb,h=>by rw [aj.aC] at hb;exact aj.jA (l:=l) (k:=k) hb.2 (by simpa using h)
mutual
def aj.mid:aj->Prop
 | .mk k t d ti a ar ci ks=>t.size<=1000000/\d.size<=1000000/\ti.size<=1000000/\a.short/\(∀ c∈ar,c.size<=5000)/\(∀ c∈ci,c.key.size<=5000/\c.pre.size<=5000/\c.suf.size<=5000)/\aj.iD ks
def aj.iD:List aj->Prop
 | []=>True
 | x::l=>x.mid/\aj.iD l
end
mutual
theorem aj.JL:∀ (x:aj),x.small->x.mid
 | .mk k t d ti a ar ci ks,h=>by
  rw [aj.small] at h;rw [aj.mid];obtain ⟨h1,h2,h3,h4,h5,h6,h7,h8,h9⟩:=h;exact ⟨by omega,by omega,by omega,h4,h7,h8,aj.ko ks h9⟩
theorem aj.ko:∀ (l:List aj),aj.aC l->aj.iD l
 | [],_=>by rw [aj.iD];trivial
 | x::l,h=>by
  rw [aj.aC] at h;rw [aj.iD];exact ⟨aj.JL x h.1,aj.ko l h.2⟩
end
theorem aj.nT:∀ {l:List aj} {k:Nat} {x:aj},aj.iD l->l[k]?=some x->x.mid
 | [],_,_,_,h=>by simp at h
 | y::l,0,x,hb,h=>by simp at h;subst h;rw [aj.iD] at hb;exact hb.1
 | y::l,k+1,x,hb,h=>by rw [aj.iD] at hb;exact aj.nT (l:=l) (k:=k) hb.2 (by simpa using h)
theorem Y5 {kd:Int} {t d ti:ByteArray} {at_:At} {ar:List ByteArray} {ci:List Ci} {ks:List aj} (h:(aj.mk kd t d ti at_ ar ci ks).mid):Zy t d ti at_ ar ci/\aj.iD ks:=by unfold aj.mid at h;obtain ⟨h1,h2,h3,h4,h7,h8,h9⟩:=h;exact ⟨⟨h1,h2,h3,h4,h7,h8⟩,h9⟩
theorem Qn (bf:Int) (st:Bool) (dp:Nat) (k:Int) (t d ti:ByteArray) (a:At) (ar:List ByteArray) (ci:List Ci) (ks:List aj) (l:List aj) (qE:¬ 15<dp) : aj.aT bf st dp (aj.mk k t d ti a ar ci ks::l)=if yH k t d ti a ar ci ks=false then 5 else if edge k (decide (dp=0)&&st) (decide (dp=0)&&l.isEmpty)=true then 5 else if oV bf false false k t d ti a ar ci ks≠0 then oV bf false false k t d ti a ar ci ks else if aj.aT 0 true (dp+1) ks≠0 then aj.aT 0 true (dp+1) ks else aj.aT k false dp l:=by
 rw [aj.aT,if_neg qE,aj.err];cases hf:yH k t d ti a ar ci ks with
 | false=>rw [Ck _ _ _ _ _ _ _ _ _ _ _ hf];simp
 | true=>
  rw [Jf bf _ _ k t d ti a ar ci ks hf];cases he:edge k (decide (dp=0)&&st) (decide (dp=0)&&l.isEmpty) with
  | true=>simp
  | false=>
   simp only [Bool.true_eq_false,Bool.false_eq_true,if_false];by_cases h1:oV bf false false k t d ti a ar ci ks=0
   ·simp only [h1,ne_eq,not_true_eq_false,if_false];rfl
   ·simp only [ne_eq,h1,not_false_eq_true,if_true]
theorem Y6 (k:Int) (zd st lb:Bool):edge k (zd&&st) (zd&&lb)=(zd&&((k==2)&&st||((k==2)||(k==3))&&lb)):=by
 unfold edge;have h2:decide (k=2)=(k==2):=by rw [jFz];simp
 have h3:decide (k=3)=(k==3):=by rw [jFz];simp
 rw [h2,h3];cases (k==2)<;>cases (k==3)<;>cases zd<;>cases st<;>cases lb<;>rfl
theorem Me {w:jIq} {l:List aj} {a:Option Addr} {cap:Nat} (h:qP (·<w.heap.size) w 10 (l.map aj.d) a cap) {k:Nat} {kd:Int} {t d ti:ByteArray} {at_:At} {ar:List ByteArray} {ci:List Ci} {ks:List aj} (hk:l[k]?=some (.mk kd t d ti at_ ar ci ks)) : ∃ b off ac ap aa ai ak cc cp ca gL ck,a=some ⟨b,off,none⟩/\Zz w b (off+k*10) kd t d ti at_ ar ci ks ac ap aa ai ak cc cp ca gL ck:=by
 obtain ⟨b,off,vc,vp,va,vi,vk,rfl,hok,hbl,hc,hR⟩:=MC h hk;obtain ⟨a1,c1,h1,-⟩:=hR.at_.cls.ay
 obtain ⟨a2,c2,h2,-⟩:=hR.at_.aF.ay
 obtain ⟨a3,c3,h3,-⟩:=hR.args.ay;obtain ⟨a4,c4,h4,-⟩:=hR.fC.ay;obtain ⟨a5,c5,h5,-⟩:=hR.kids.ay;simp only [List.length_map,List.cons.injEq,and_true] at h1 h2 h3 h4 h5;subst h1 h2 h3 h4 h5;exact ⟨b,off,a1,a2,a3,a4,a5,c1,c2,c3,c4,c5,rfl,hc,hR,hbl⟩
theorem jr3 {kd:Int} {t d ti:ByteArray} {at_:At} {ar:List ByteArray} {ci:List Ci} {ks:List aj} (h:(aj.mk kd t d ti at_ ar ci ks).small):Zy t d ti at_ ar ci/\aj.aC ks:=by unfold aj.small at h;obtain ⟨h1,h2,h3,h4,h5,h6,h7,h8,h9⟩:=h;exact ⟨⟨by omega,by omega,by omega,h4,h7,h8⟩,h9⟩
theorem ZG{P:Prop}(h:P:=by
 have xI:Hid (E=E1):=by show _=_;have:=vR.out;rw [if_pos h1] at this;exact this.symm
 have hn1:((E1:Int) != 0)=true:=by rw [bne_iff_ne];omega
 clear h1;go_wp2_with fail
 refine CIW.out.mono ?_;rintro e w4 ⟨rfl,hb4⟩;have kS:=hid (q01 qw.out hb4);clear CIW hb4;go_wp2;go_ret;exact ⟨by rw [xI.out];rfl,q01 HB.out kS.out⟩):P:=h
theorem Rn{P Q:Prop}(q:Q)(h:Nonempty Q->P:=by
 intro qQ;have F4:Hid (E=E2):=by show _=_;have:=xI.out;rw [if_pos h2] at this;exact this.symm
 have hn2:((E2:Int) != 0)=true:=by rw [bne_iff_ne];omega
 revert F4 hn2;exact qQ.elim fun x=>x):P:=h ⟨q⟩
theorem Rl{P:Prop}(h:P:=by
 show _=_;have:=vR.out;rw [if_neg (by simpa using h1)] at this;exact this):P:=h
theorem Rm{P:Prop}(h:P:=by
 show _=_;have:=xI.out;rw [if_neg (by simpa using h2)] at this;exact this):P:=h
theorem ZE{P:Prop}(h:P:=by
 clear hf;go_wp2_with fail
 refine Gz.out.mono ?_;rintro e w2 ⟨rfl,hb2⟩;go_wp2;go_ret;exact ⟨by rw [HE.out];rfl,q01 HB.out hb2⟩):P:=h
theorem VY{P:Prop}(h:P:=by
 show E=0;rw [<- bg,List.drop_of_length_le (by omega),aj.aT]):P:=h
theorem vG (n:Nat):∀ (l:List aj) (dp:Nat) (a:Option Addr) (cap:Nat) (w:jIq),aj.aY l<=n->dp<=1000000->aj.iD l->Rd (·<w.heap.size) w (bJ l) [.slice a l.length cap] -> Calls Tryz.prog 51 #[.slice a l.length cap,.int .i64 (dp:Int)] w (dP (.int .i64 (aj.aT 0 true dp l:Nat)) w):=by
 induction n using Nat.strongRecOn with
 | _ n ih=>
  intro l dp a cap w hn hdp hsm h;obtain ⟨a',c',hv,hs⟩:=Rd.ay h;obtain ⟨rfl,rfl⟩:a'=a/\c'=cap:=by simp at hv;exact ⟨hv.1.symm,hv.2.symm⟩
  have hcap:l.length<=c':=by simpa using hs.le
  refine Gy ?_;intro hmx HS IH;have SM:=hid hsm;obtain ⟨E,hE⟩:∃ E,aj.aT 0 true dp l=E:=⟨_,rfl⟩;rw [hE];have R0:Hid (VX l dp E w (.int .i64 0) w):=⟨0,jG6 _,rfl,jFj _ _,hE⟩;clear hs hv h ih hsm hE;by_cases qE:15<dp
  ·have QC:decide ((15:Int)<(dp:Int))=true:=by simp;omega
   go_enter Tryz.func51,Tryz.ntmps51;go_wp2
   go_loopw [12] (fun i wr=>VX l dp E w i wr) (fun i _=>l.length-(intOf i).toNat)
   case atStart=>exact R0.out
   case round=>
    clear R0;obtain ⟨k,hk,rfl,hbel,bg⟩:=hrel;have HB:=hid hbel;by_cases hlt:k<l.length
    ·refine jc ?_;intro x hx;have HE:Hid (E=11):=by
      show E=11;rw [<- bg,Gu l k x hx,aj.aT,if_pos qE]
     clear bg hx;exact jd
    ·have HE:Hid (E=0):=by
      exact VY
     clear bg;exact jd
  ·have QC:decide ((15:Int)<(dp:Int))=false:=by simp;omega
   go_enter Tryz.func51,Tryz.ntmps51;go_wp2
   go_loopw [12] (fun i wr=>VX l dp E w i wr) (fun i _=>l.length-(intOf i).toNat)
   case atStart=>exact R0.out
   case round=>
    clear R0;obtain ⟨k,hk,rfl,hbel,bg⟩:=hrel;have HB:=hid hbel;by_cases hlt:k<l.length
    ·refine jc ?_;intro x hx;have hbs:=Ej hx;have hxs:x.mid:=aj.nT SM.out hx;have hsz:=aj.bI l k _ hx;rw [Gu l k x hx] at bg;have hle:(l.drop (k+1)).isEmpty=((k:Int)==(l.length:Int)-1):=by
      rw [jFz];simp;omega
     obtain ⟨kd,t,d,ti,at_,ar,ci,ks⟩:=x;rw [aj.sz] at hsz;obtain ⟨hins,hks⟩:=Y5 hxs;rw [Qn _ _ _ _ _ _ _ _ _ _ _ _ qE,Y6,hle] at bg;have hbk:uw l (k+1)=kd:=hbs;obtain ⟨b,off,ac,ap,aa,ai,ak,cc,cp,ca,gL,ck,ha,Rj⟩:=Me HS.out hx;have hP:=Rj.up hbel;have HPR:Hid (k≠0->∃ kv,wr.cell? ⟨b,off+(k-1)*10,none⟩=some (.int .i64 kv)/\uw l k=kv):=by
      intro hk0;obtain ⟨y,hy⟩:∃ y,l[k-1]?=some y:=⟨_,jF9 (show k-1<l.length by omega)⟩;obtain ⟨kv,t',d',ti',at',ar',mR,ks'⟩:=y;obtain ⟨b',off',ac',ap',aa',ai',ak',cc',cp',ca',jF0,ck',ha',hP'⟩:=Me HS.out hy;rw [ha] at ha';injection ha' with ha'
      injection ha' with e1 e2 e3
      subst e1 e2;refine ⟨kv,(hP'.up hbel).cells.c0,?_⟩;unfold uw;rw [if_neg hk0,hy];rfl
     subst ha;have HBK:=hid hbk;have HZ0:Hid (k=0->uw l k=0):=fun h=>by unfold uw;rw [if_pos h]
     obtain ⟨bf,hbf⟩:∃ bf,uw l k=bf:=⟨_,rfl⟩;rw [hbf] at bg HPR HZ0;have HP:=hid hP;have Gz:=hid (vF wr b (off+k*10) kd t d ti at_ ar ci ks ac ap aa ai ak cc cp ca gL ck hP);have CI:=hid (fun wx (hb:jIx wr.heap.size wr wx) hf=>wX wx b (off+k*10) kd bf t d ti at_ ar ci ks ac ap aa ai ak cc cp ca gL ck (hP.up hb) hins hf);have CK:=hid (fun wx (hb:jIx wr.heap.size wr wx)=>IH.out (aj.aY ks) (by omega) ks (dp+1) ak ck wx (jFk _) (by omega) hks (hP.up hb).rd.kids);have bV:=hid bg;clear hbs hxs hsz hle hins hks hbk hP Rj hbf bg hx hbel;have OO:=hid (fun wx:jIq=>lq kd [2,3] wx.heap.size 2 _ (by simp) (Rh wx 3 2 3));simp only [List.length_cons,List.length_nil,Nat.reduceAdd] at OO;have hoo:([2,3]:List Int).contains kd=((kd==2)||(kd==3)):=by rw [jFz];simp
     rw [hoo] at OO;obtain ⟨ed,hed⟩:∃ ed,(decide (dp=0)&&((kd==2)&&decide (k=0)||((kd==2)||(kd==3))&&((k:Int)==(l.length:Int)-1)))=ed:=⟨_,rfl⟩;rw [hed] at bV;have HED:=hid hed;have z1:((dp:Int)==0)=decide (dp=0):=by rw [jFz];simp
     have z3:((k:Int)==0)=decide (k=0):=by rw [jFz];simp
     have Z1:=hid z1;have Z3:=hid z3;clear hoo hed z1 z3
     go_upto_if 18 with (fail)
     go_cut [6] (fun s6 wx=>s6=.int .i64 bf/\wr=wx)
     case first=>
      clear OO HED bV CK CI Gz HP Z1 Z3;cases k with
      | zero=>
       have hb0:=HZ0.out rfl;have HB0:=hid hb0;clear hb0 HPR HZ0;go_wp2_with fail
       go_meet
       exact ⟨by rw [HB0.out],rfl⟩
      | succ j=>
       obtain ⟨kv,hcell,hkv⟩:=HPR.out (by omega);rw [Nat.add_sub_cancel] at hcell;have HKV:=hid hkv;clear hkv HPR HZ0;go_wp2_with fail
       go_meet
       exact ⟨by rw [HKV.out],rfl⟩
     case rest=>
      obtain ⟨rfl,rfl⟩:=hcut;clear HPR HZ0;cases hf:yH kd t d ti at_ ar ci ks with
      | false=>
       rw [hf] at Gz;have HE:Hid (E=5):=by show E=5;have:=bV.out;rw [if_pos hf] at this;exact this.symm
       exact ZE
      | true=>
       rw [hf] at Gz;have fB:Hid ((if ed=true then 5 else if oV bf false false kd t d ti at_ ar ci ks≠0 then oV bf false false kd t d ti at_ ar ci ks else if aj.aT 0 true (dp+1) ks≠0 then aj.aT 0 true (dp+1) ks else aj.aT kd false dp (l.drop (k+1)))=E):=by show _=_;have:=bV.out;rw [if_neg (by rw [hf];decide)] at this;exact this
       have ZF:=hid (fun wx hb=>CI.out wx hb hf);clear hf bV CI;go_wp2_with fail
       refine Gz.out.mono ?_;rintro e w2 ⟨rfl,hb2⟩;have HB2:=hid hb2;obtain ⟨p0,p1,p2,p3,p4,p5,p6,p7,p8,p9⟩:=(HP.out.up hb2).cells;go_upto_region 12 with (fail)
       go_cut [58] (fun s58 wx=>s58=.bool ed/\jIx w2.heap.size w2 wx)
       case first=>
        have z1:=Z1.out;have z3:=Z3.out;have OW:=hid (OO.out w2);have jr4:=HED.out;obtain ⟨zd,hzd⟩:∃ zd,decide (dp=0)=zd:=⟨_,rfl⟩;obtain ⟨st,hst⟩:∃ st,decide (k=0)=st:=⟨_,rfl⟩;obtain ⟨b2,hb2'⟩:∃ b2,(kd==2)=b2:=⟨_,rfl⟩;obtain ⟨b3,jr5⟩:∃ b3,(kd==3)=b3:=⟨_,rfl⟩;obtain ⟨lb,hlb⟩:∃ lb,((k:Int)==(l.length:Int)-1)=lb:=⟨_,rfl⟩;rw [hzd,hst,hb2',jr5,hlb] at jr4;rw [hzd] at z1;rw [hst] at z3;rw [hb2',jr5] at OW;have jBz:=hid jr4;clear jr4 hzd hst jr5 OO HED fB CK ZF Gz Z1 Z3 hb2;cases zd<;>cases b2<;>cases st<;>cases b3<;>cases lb
        all_goals
         go_wp2_with (go_at_call 82;refine OW.out.mono ?_;rintro e w3 ⟨rfl,rfl⟩)
         go_meet
         exact ⟨by rw [<- jBz.out];rfl,by first | exact (jFj _ _).alloc (jFk _) _ | exact jFj _ _⟩
       case rest=>
        obtain ⟨rfl,hbx⟩:=hcut;have qw:=hid (q01 HB2.out hbx);clear p0 p1 p2 p3 p4 p5 p6 p7 p8 p9 hbx hb2;cases ed with
        | true=>
         have HE:Hid (E=5):=by show E=5;have:=fB.out;rw [if_pos rfl] at this;exact this.symm
         go_wp2;go_ret;exact ⟨by rw [HE.out];rfl,q01 HB.out qw.out⟩
        | false=>
         have vR:Hid ((if oV bf false false kd t d ti at_ ar ci ks≠0 then oV bf false false kd t d ti at_ ar ci ks else if aj.aT 0 true (dp+1) ks≠0 then aj.aT 0 true (dp+1) ks else aj.aT kd false dp (l.drop (k+1)))=E):=by show _=_;have:=fB.out;rw [if_neg (by decide)] at this;exact this
         have CIW:=hid (ZF.out _ qw.out);clear fB ZF;generalize oV bf false false kd t d ti at_ ar ci ks=E1 at *
         generalize aj.aT 0 true (dp+1) ks=E2 at *;by_cases h1:E1=0
         ·have xI:Hid ((if E2≠0 then E2 else aj.aT kd false dp (l.drop (k+1)))=E):=by
           exact Rl
          subst h1;go_wp2_with fail
          refine CIW.out.mono ?_;rintro e w4 ⟨rfl,hb4⟩;have kS:=hid (q01 qw.out hb4);obtain ⟨p0,p1,p2,p3,p4,p5,p6,p7,p8,p9⟩:=(HP.out.up kS.out).cells;have WX:=hid (CK.out _ kS.out);clear CIW hb4 CK vR;by_cases h2:E2=0
          ·have F4:Hid (aj.aT kd false dp (l.drop (k+1))=E):=by
            exact Rm
           subst h2;go_wp2_with fail
           refine WX.out.mono ?_;rintro e w5 ⟨rfl,hb5⟩;have xJ:=hid (q01 kS.out hb5);clear WX hb5;go_wp2;go_roundw;case rel=>exact ⟨k+1,by omega,by go_num,q01 HB.out xJ.out,by rw [HBK.out,decide_eq_false (by omega)];exact F4.out⟩
           case measure=>simp [intOf];omega
          ·refine Rn ?_;intro F4 hn2;clear h2;go_wp2_with fail
           refine WX.out.mono ?_;rintro e w5 ⟨rfl,hb5⟩;have xJ:=hid (q01 kS.out hb5);clear WX hb5;go_wp2;go_ret;exact ⟨by rw [F4.out];rfl,q01 HB.out xJ.out⟩
         ·exact ZG
    ·have HE:Hid (E=0):=by
      exact VY
     clear bg;exact jd
open Go.RowKit
theorem Ro{P:Prop}(h:P:=by
 go_wp2_with fail
 refine CK.out.mono ?_;rintro e w1 ⟨rfl,hb⟩;go_wp2;go_ret;exact ⟨rfl,hb⟩):P:=h
theorem mI (l:List aj) (a:Option Addr) (cap:Nat) (w:jIq) (hsm:aj.iD l) (h:Rd (·<w.heap.size) w (bJ l) [.slice a l.length cap]) : Calls Tryz.prog 25 #[.slice a l.length cap] w (dP (.int .i64 (pO l:Nat)) w):=by have CK:=hid (vG _ l 0 a cap w (jFk _) (by omega) hsm h);change Hid (Calls _ _ _ _ (dP (.int .i64 (pO l:Nat)) w)) at CK;generalize pO l=E at *;clear h hsm;go_enter Tryz.func25,Tryz.ntmps25;exact Ro
theorem FJ (l:List aj) (a:Option Addr) (cap:Nat) (w:jIq) (hsm:aj.aC l) (h:Rd (·<w.heap.size) w (bJ l) [.slice a l.length cap]) : Calls Tryz.prog 25 #[.slice a l.length cap] w (dP (.int .i64 (pO l:Nat)) w):=mI l a cap w (aj.ko l hsm) h
def oM (l:List aj):Nat:=if aj.dx bY l=true then 5 else pO l
theorem kM (l:List aj) (a:Option Addr) (cap:Nat) (w:jIq) (hsm:aj.iD l) (h:Rd (·<w.heap.size) w (bJ l) [.slice a l.length cap]) : Calls Tryz.prog 121 #[.slice a l.length cap] w (dP (.int .i64 (oM l:Nat)) w):=by
 have hb0:jIx w.heap.size w (w.alloc (.cells #[.int .i64 2,.int .i64 3] 3)):=(jFj _ _).alloc (jFk _) _;have AK:=hid (vP _ l _ _ [2,3] w.heap.size 2 _ (jFk _) (h.up hb0) (by simp) (Rh w 3 2 3));simp only [List.length_cons,List.length_nil,Nat.reduceAdd] at AK;have hrk:aj.dx [2,3] l=aj.dx bY l:=rfl;rw [hrk] at AK;have LE:=hid (mI l a cap _ hsm (h.up hb0));have HE:Hid (oM l=if aj.dx bY l=true then 5 else pO l):=rfl;generalize oM l=V at *;generalize pO l=E at *;generalize aj.dx bY l=K at *;have HB:=hid hb0;clear h hsm hrk hb0;cases K
 all_goals
  go_enter Tryz.func121,Tryz.ntmps121;go_wp2_with (first | (go_at_call 141;refine AK.out.mono ?_;rintro e w2 ⟨rfl,rfl⟩) | (go_at_call 25;refine LE.out.mono ?_;rintro e w2 ⟨rfl,hb2⟩))
  go_ret;refine ⟨by rw [HE.out];rfl,?_⟩;first | exact q01 HB.out hb2 | exact HB.out
def uy (lv:Int) (a:At) (li:List aj):Nat:=if lv<1\/6<lv then 9 else if a.err≠0 then a.err else oM li
theorem Cm (w:jIq) (b o:Nat) (k lv:Int) (i t d ti:ByteArray) (at_:At) (li:List aj) (ks:List ah) (ac ap al ak:Option Addr) (cc cp cl ck:Nat) (h:WU w b o k lv i t d ti at_ li ks ac ap al ak cc cp cl ck) (ha:at_.short) (hsm:aj.iD li) : Calls Tryz.prog 117 #[.pointer (some ⟨b,o,none⟩)] w (dP (.int .i64 (uy lv at_ li:Nat)) w):=by
 have HP:=hid h;have AC:=hid (iC at_ ac ap cc cp w h.rd.at_ ha);have UE:=hid (fun wx (hb:jIx w.heap.size w wx)=>kM li al cl wx hsm (h.rd.line.up hb));obtain ⟨c0,c1,c2,c3,c4,c5,c6,c7,c8,c9,c10⟩:=h.cells;have HE:Hid (uy lv at_ li=if lv<1\/6<lv then 9 else if at_.err≠0 then at_.err else oM li):=rfl;generalize uy lv at_ li=V at *
 generalize at_.err=E at *
 generalize oM li=U at *;clear h ha hsm;by_cases hlv:lv<1\/6<lv
 ·have HV:Hid (V=9):=by show V=9;rw [HE.out,if_pos hlv]
  clear HE;rcases hlv with hlv | hlv
  all_goals
   go_enter Tryz.func117,Tryz.ntmps117;exact nQ
 ·have HV:Hid (V=if E≠0 then E else U):=by show V=_;rw [HE.out,if_neg hlv]
  have g1:1<=lv:=by omega
  have g2:lv<=6:=by omega
  clear hlv HE;by_cases h1:E=0
  ·subst h1;go_enter Tryz.func117,Tryz.ntmps117;go_wp2_with fail
   refine AC.out.mono ?_;rintro e w2 ⟨rfl,hb2⟩;obtain ⟨p0,p1,p2,p3,p4,p5,p6,p7,p8,p9,rZ⟩:=(HP.out.up hb2).cells;go_wp2_with fail
   refine (UE.out _ hb2).mono ?_;rintro e w3 ⟨rfl,hb3⟩;go_wp2;go_ret;exact ⟨by rw [HV.out];rfl,q01 hb2 hb3⟩
  ·have hn:((E:Int) != 0)=true:=by rw [bne_iff_ne];omega
   have rW:Hid (V=E):=by show V=E;rw [HV.out,if_pos h1]
   clear h1 HV;go_enter Tryz.func117,Tryz.ntmps117;go_wp2_with fail
   refine AC.out.mono ?_;rintro e w2 ⟨rfl,hb2⟩;go_wp2;go_ret;exact ⟨by rw [rW.out];rfl,hb2⟩
theorem Mf (p:UInt8->Bool):∀ l:List UInt8,l.dropWhile p=[]↔l.all p=true
 | []=>by simp
 | x::l=>by
  rw [List.dropWhile_cons,List.all_cons];cases p x with
  | true=>simpa using Mf p l
  | false=>simp
theorem Y7 (p:UInt8->Bool) (l:List UInt8):∀ x∈l.takeWhile p,p x=true:=by
 induction l with
 | nil=>simp
 | cons y l ih=>
  intro x hx;rw [List.takeWhile_cons] at hx;cases h:p y with
  | true=>
   rw [h] at hx;simp at hx;rcases hx with rfl | hx
   ·exact h
   ·exact ih x hx
  | false=>rw [h] at hx;simp at hx
theorem Qo (l cs:List UInt8):Lib.trimS l cs=[]↔l.all (fun c=>cs.contains c)=true:=by
 unfold Lib.trimS Lib.trimLeftS Lib.trimRightS;rw [Mf];constructor
 ·intro h;rw [List.all_reverse] at h;have h2:=(List.takeWhile_append_dropWhile (p:=fun c=>cs.contains c) (l:=l.reverse));have h3:(l.reverse).all (fun c=>cs.contains c)=true:=by
   rw [<- h2,List.all_append,Bool.and_eq_true];exact ⟨List.all_eq_true.2 (fun x hx=>(Y7 _ _ x hx)),h⟩
  rwa [List.all_reverse] at h3
 ·intro h;have h3:(l.reverse).all (fun c=>cs.contains c)=true:=by rwa [List.all_reverse]
  rw [(Mf _ _).2 h3];rfl
open Go.RowKit
def iA:List UInt8:=[45,108,99,114]
def jj9 (ks:List ah) (n:Nat) (w:jIq) (vi:Value) (wr:jIq):Prop:=∃ k:Nat,k<=ks.length/\vi=.int .i64 k/\jIx w.heap.size w wr/\(ks.take k).any (fun b=>!decide (b.oC=n))=false
theorem Ew {w:jIq} {l:List ah} {a:Option Addr} {cap:Nat} (h:qP (·<w.heap.size) w 11 (l.map ah.d) a cap) {k:Nat} {kd lv:Int} {i t d ti:ByteArray} {at_:At} {li:List aj} {ks:List ah} (hk:l[k]?=some (.mk kd lv i t d ti at_ li ks)) : ∃ b off ac ap al ak cc cp cl ck,a=some ⟨b,off,none⟩/\WU w b (off+k*11) kd lv i t d ti at_ li ks ac ap al ak cc cp cl ck:=by
 obtain ⟨b,off,vc,vp,vl,vk,rfl,hok,hbl,hc,hR⟩:=F7 h hk;obtain ⟨a1,c1,h1,-⟩:=hR.at_.cls.ay
 obtain ⟨a2,c2,h2,-⟩:=hR.at_.aF.ay
 obtain ⟨a3,c3,h3,-⟩:=hR.line.ay;obtain ⟨a5,c5,h5,-⟩:=hR.kids.ay;simp only [List.length_map,List.cons.injEq,and_true] at h1 h2 h3 h5;subst h1 h2 h3 h5;exact ⟨b,off,a1,a2,a3,a5,c1,c2,c3,c5,rfl,hc,hR,hbl⟩
theorem jr6 (l:List UInt8):(⟨l.toArray⟩:ByteArray)=ByteArray.empty↔l=[]:=by
 constructor
 ·intro h;have:=congrArg (fun b:ByteArray=>b.data.toList) h;simpa using this
 ·rintro rfl;rfl
theorem jjj{P:Prop}(h:P:=by
 have q1:((ks'.length:Int) != (i.size:Int))=true:=by rw [bne_iff_ne];omega
 have hv:V=15:=by rw [rW.out,if_pos (HAT.out (by rw [HKN.out];simp [hq]))]
 have Md:=hid hv;clear hq hv;go_wp2_with fail
 go_quiet (fail)
 go_wp2;go_ret;exact ⟨by rw [Md.out];rfl,ig HB.out _⟩):P:=h
theorem jjk{P Q:Prop}(q:Q)(h:Nonempty Q->P:=by
 intro qQ;obtain ⟨x,hx⟩:∃ x,ks[j]?=some x:=⟨_,List.getElem?_eq_getElem hlt⟩;have gZ:=hid (yE (fun b:ah=>!decide (b.oC=i.size)) hx);have HAT:=hid (JJ (fun b:ah=>!decide (b.oC=i.size)) hx);revert x hx gZ HAT;exact qQ.elim fun x=>x):P:=h ⟨q⟩
theorem AX (w:World) (b o:Nat) (k lv:Int) (i t d ti:ByteArray) (at_:At) (li:List aj) (ks:List ah) (ac ap al ak:Option Addr) (cc cp cl ck:Nat) (h:WU w b o k lv i t d ti at_ li ks ac ap al ak cc cp cl ck) (hi:i.size<=1000000000) : Calls Tryz.prog 120 #[.pointer (some ⟨b,o,none⟩)] w (dP (.int .i64 (QT i ks:Nat)) w):=by
 have HP:=hid h;obtain ⟨a',c',hv,hs⟩:=Rd.ay h.rd.kids;obtain ⟨rfl,rfl⟩:a'=ak/\c'=ck:=by simp at hv;exact ⟨hv.1.symm,hv.2.symm⟩
 have hcap:ks.length<=c':=by simpa using hs.le
 have hmx:=hs.max;unfold maxLen at hmx;have HS:=hid hs;have e3:=jT ks;have h116:(Tryz.prog.info? 173).map (fun i=>(i.zero,i.size))=some (some (.agg (Array.replicate 256 (.bool false))),256):=by kernel_rfl
 have TR:=hid (fun w=>Any.strings_Trim_laid Tryz.lays160 h116 i ⟨#[45,108,99,114]⟩ w (by omega) (by decide) (ascii_of_all (by decide)));have Z5:Hid (∀ w,Calls Tryz.prog 147 #[.string i,.string ⟨#[45,108,99,114]⟩] w fun e w'=>e=.returned (.string ⟨(Lib.trimS i.data.toList iA).toArray⟩)/\Below w.heap.size w w'):=TR.out;have HN:=hid (Qo i.data.toList iA);have HBN:=hid (jr6 (Lib.trimS i.data.toList iA));have HE:Hid (QT i ks=if 32<i.size then 3 else if bq i=true then 5 else if i.data.toList.any (fun c=>!(iA:List UInt8).contains c) then 5
   else if ks.isEmpty=true then 8 else if ks.any (fun b=>!decide (b.oC=i.size)) then 15 else 0):=rfl
 obtain ⟨c0,c1,c2,c3,c4,c5,c6,c7,c8,c9,c10⟩:=h.cells;generalize QT i ks=V at *;obtain ⟨trs,jx4⟩:∃ trs,trs=(⟨(Lib.trimS i.data.toList iA).toArray⟩:ByteArray):=⟨_,rfl⟩;rw [<- jx4] at Z5 HBN;clear hv hs h TR jx4 h116;by_cases h32:32<i.size
 ·have HV:Hid (V=3):=by show V=3;rw [HE.out,if_pos h32]
  have q:decide ((32:Int)<(i.size:Int))=true:=by simp;omega
  clear HE;go_enter Tryz.func120,Tryz.ntmps120;exact nQ
 have q:decide ((32:Int)<(i.size:Int))=false:=by simp;omega
 rcases fA i with rfl | ⟨i1,i2,i3,i4⟩
 ·have HV:Hid (V=5):=by show V=5;rw [HE.out,if_neg h32,if_pos (by decide)]
  clear HE;go_enter Tryz.func120,Tryz.ntmps120;exact nQ
 have hany:(i.data.toList.any fun c=>!(iA:List UInt8).contains c)=!(i.data.toList.all fun c=>(iA:List UInt8).contains c):=by rw [List.all_eq_not_any_not];simp
 cases hal:i.data.toList.all fun c=>(iA:List UInt8).contains c with
 | false=>
  have HV:Hid (V=5):=by show V=5;rw [HE.out,if_neg h32,if_neg (by rw [i4];decide),if_pos (by rw [hany,hal];rfl)]
  have hne:trs≠ByteArray.empty:=fun e=>by
   have:=HN.out.1 (HBN.out.1 e);rw [hal] at this;cases this
  rcases fA trs with e | ⟨t1,t2,t3,t4⟩
  ·exact absurd e hne
  clear HE HN HBN hne hany hal;go_enter Tryz.func120,Tryz.ntmps120;go_wp2_with fail
  refine (Z5.out _).mono ?_;rintro e w2 ⟨rfl,hb2⟩;go_wp2;go_ret;exact ⟨by rw [HV.out];rfl,hb2⟩
 | true=>
  have he:trs=ByteArray.empty:=HBN.out.2 (HN.out.2 hal);subst he;have HV:Hid (V=if ks.isEmpty=true then 8 else if ks.any (fun b=>!decide (b.oC=i.size)) then 15 else 0):=by show V=_;rw [HE.out,if_neg h32,if_neg (by rw [i4];decide),if_neg (by rw [hany,hal];decide)]
  clear HE HN HBN hany hal;cases hk0:ks.isEmpty with
  | true=>
   rw [hk0] at e3;have rW:Hid (V=8):=by show V=8;rw [HV.out,if_pos hk0]
   clear hk0;go_enter Tryz.func120,Tryz.ntmps120;go_wp2_with fail
   refine (Z5.out _).mono ?_;rintro e w2 ⟨rfl,hb2⟩;obtain ⟨p0,p1,p2,p3,p4,p5,p6,p7,p8,p9,rZ⟩:=(HP.out.up hb2).cells;go_wp2;go_ret;exact ⟨by rw [rW.out];rfl,hb2⟩
  | false=>
   rw [hk0] at e3;have rW:Hid (V=if ks.any (fun b=>!decide (b.oC=i.size)) then 15 else 0):=by show V=_;rw [HV.out,if_neg (by rw [hk0];decide)]
   clear hk0 HV;go_enter Tryz.func120,Tryz.ntmps120;go_wp2_with fail
   refine (Z5.out _).mono ?_;rintro e w2 ⟨rfl,hb2⟩;obtain ⟨p0,p1,p2,p3,p4,p5,p6,p7,p8,p9,rZ⟩:=(HP.out.up hb2).cells;have R0:Hid (jj9 ks i.size w (.int .i64 0) w2):=⟨0,Nat.zero_le _,rfl,hb2,by simp⟩;clear hb2;go_wp2
   go_loopw [34] (fun i' wr=>jj9 ks i.size w i' wr) (fun i' _=>ks.length-(intOf i').toNat)
   case atStart=>exact R0.out
   case round=>
    clear R0 p0 p1 p2 p3 p4 p5 p6 p7 p8 p9 rZ;obtain ⟨j,hj,rfl,hbel,hno⟩:=hrel;have HB:=hid hbel;have FZ:=hid hno;by_cases hlt:j<ks.length
    ·refine jjk ?_;intro x hx gZ HAT;obtain ⟨kd',lv',i',t',d',ti',at',li',ks'⟩:=x;obtain ⟨b',off',ac',ap',al',ak',cc',cp',cl',ck',ha',hP'⟩:=Ew HS.out hx;have k10:=(hP'.up hbel).cells.c10;obtain ⟨p0,p1,p2,p3,p4,p5,p6,p7,p8,p9,rZ⟩:=(HP.out.up hbel).cells;subst ha';have HKN:Hid ((ah.mk kd' lv' i' t' d' ti' at' li' ks').oC=ks'.length):=rfl;clear hP' hx hno hbel;by_cases hq:ks'.length=i.size
     ·have q1:((ks'.length:Int) != (i.size:Int))=false:=by rw [bne_eq_false_iff_eq];omega
      have HQ:=hid hq;clear hq;go_wp2_with fail
      go_quiet (fail)
      go_wp2;go_roundw;case rel=>exact ⟨j+1,by omega,by go_num,ig HB.out _,by rw [gZ.out,FZ.out,HKN.out,HQ.out];simp⟩
      case measure=>simp [intOf];omega
     ·exact jjj
    ·have hv:V=0:=by
      have:=FZ.out;rw [List.take_of_length_le (by omega)] at this;rw [rW.out,if_neg (by rw [this];decide)]
     have Md:=hid hv;clear hv hno hbel;go_wp2;go_ret;exact ⟨by rw [Md.out];rfl,HB.out⟩
open Go.RowKit
def tT (cl:ByteArray->Bool) (t:ByteArray) (a:At):Nat:=if iy t=false then 17 else if cl t=true then 5 else a.err
def vQ (cl:ByteArray->Bool):Prop:=∀ (w:World) (b o:Nat) (k lv:Int) (i t d ti:ByteArray) (at_:At) (li:List aj) (ks:List ah) (ac ap al ak:Option Addr) (cc cp cl' ck:Nat),
 WU w b o k lv i t d ti at_ li ks ac ap al ak cc cp cl' ck->t.size<=300->at_.short->Calls Tryz.prog 119 #[.pointer (some ⟨b,o,none⟩)] w (dP (.int .i64 (tT cl t at_:Nat)) w)
structure BlS (i t d ti:ByteArray) (a:At) (li:List aj):Prop where
 i:i.size<=300
 t:t.size<=300
 d:d.size<=300
 ti:ti.size<=300
 at_:a.short
 li:aj.aC li
structure BlM (i t d ti:ByteArray) (a:At) (li:List aj):Prop where
 i:i.size<=300
 t:t.size<=300
 d:d.size<=300
 ti:ti.size<=300
 at_:a.short
 li:aj.iD li
theorem uz {k lv:Int} {i t d ti:ByteArray} {a:At} {li:List aj} {ks:List ah} (h:yJ k lv i t d ti a li ks=true):1<=k/\k<=15/\(k=2\/k=8\/lv=0):=by
 unfold yJ at h;simp only [Bool.and_eq_true,Bool.or_eq_true,decide_eq_true_eq] at h;obtain ⟨⟨⟨⟨⟨⟨⟨⟨h1,h2⟩,h3⟩,-⟩,-⟩,-⟩,-⟩,-⟩,-⟩:=h;refine ⟨h1,h2,?_⟩;rcases h3 with h | h
 ·simp at h;omega
 ·exact .inr (.inr h)
theorem Oo{P:Prop}(h:P:=by
 (try simp only [Bool.not_eq_true',Bool.not_eq_false'] at *)
 rw [HE.out];simp [*]):P:=h
theorem yL (cl:ByteArray->Bool) (w:jIq) (b o:Nat) (k lv:Int) (i t d ti:ByteArray) (at_:At) (li:List aj) (ks:List ah) (ac ap al ak:Option Addr) (cc cp cl' ck:Nat) (h:WU w b o k lv i t d ti at_ li ks ac ap al ak cc cp cl' ck) (hs:BlM i t d ti at_ li) (hf:yJ k lv i t d ti at_ li ks=true) (hm:k=4->vQ cl) : Calls Tryz.prog 91 #[.pointer (some ⟨b,o,none⟩)] w (dP (.int .i64 (qX cl k lv i t d ti at_ li ks:Nat)) w):=by
 have HP:=hid h;obtain ⟨f1,f2,f3⟩:=uz hf;obtain ⟨-,l4,m4⟩:=sF h.rd.line;obtain ⟨-,l5,m5⟩:=sF h.rd.kids;unfold maxLen at m4 m5;have LE:=hid (mI li al cl' w hs.li h.rd.line);have UE:=hid (kM li al cl' w hs.li h.rd.line);have HDE:=hid (Cm w b o k lv i t d ti at_ li ks ac ap al ak cc cp cl' ck h hs.at_ hs.li);have TBE:=hid (AX w b o k lv i t d ti at_ li ks ac ap al ak cc cp cl' ck h (by have:=hs.i;omega));have MTE:=hid (fun hk=>hm hk w b o k lv i t d ti at_ li ks ac ap al ak cc cp cl' ck h hs.t hs.at_);have CLI:=hid (fun w=>Ra i w (by have:=hs.i;omega));have CTR:=hid (fun w=>ji i w (by have:=hs.i;omega));have CTX:=hid (fun w=>qO t w (by have:=hs.t;omega));have CNM:=hid (fun w=>QA i w (by have:=hs.i;omega));have CLB:=hid (Cr i w (by have:=hs.i;omega));have CLD:=hid (fun w=>Ra d w (by have:=hs.d;omega));have CLT:=hid (fun w=>Ra ti w (by have:=hs.ti;omega));have AC:=hid (iC at_ ac ap cc cp w h.rd.at_ hs.at_);obtain ⟨c0,c1,c2,c3,c4,c5,c6,c7,c8,c9,c10⟩:=h.cells;have e2:=jT li;have e3:=jT ks;have HE:Hid (qX cl k lv i t d ti at_ li ks=if k=1 then (if li.isEmpty=true then 8 else pO li)
 else if k=2 then uy lv at_ li
 else if k=12 then oM li
 else if k=3 then (if dG i=false\/trimS i=false\/iy t=false then 17 else 0)
 else if k=4 then tT cl t at_
 else if k=7\/k=8 then (if ks.isEmpty=true then 8 else if k=8/\(lv<0\/999999999<lv) then 9 else 0)
 else if k=10 then QT i ks
 else if k=13\/k=14 then (if dU i=false then 6 else at_.err)
 else if k=15 then (if uJ i=false then 6 else if dG d=false\/dG ti=false then 17 else 0)
 else 0):=rfl
 generalize qX cl k lv i t d ti at_ li ks=V at *
 generalize pO li=E1 at *;generalize uy lv at_ li=E2 at *
 generalize oM li=E3 at *;generalize tT cl t at_=E4 at *
 generalize QT i ks=E5 at *;generalize at_.err=E6 at *
 generalize dG i=b1 at *;generalize trimS i=b2 at *;generalize iy t=b3 at *;generalize dU i=b4 at *;generalize uJ i=b5 at *;generalize dG d=b6 at *;generalize dG ti=b7 at *;generalize li.isEmpty=bl at *;generalize ks.isEmpty=bk at *;clear h hs hf hm;rcases uo k with rfl | rfl | rfl | rfl | rfl | rfl | rfl | rfl | rfl | rfl | rfl | rfl | rfl | rfl | rfl | hk
 case inr.inr.inr.inr.inr.inr.inr.inr.inr.inr.inr.inr.inr.inr.inr=>omega
 case inr.inr.inr.inr.inr.inr.inl=>
  have hlv:lv=0:=by omega
  subst hlv;clear f1 f2 f3;go_enter Tryz.func91,Tryz.ntmps91;go_wp2;all_goals
   go_ret;refine ⟨JK ?_,jFj _ _⟩;exact Oo
 case inr.inr.inr.inr.inr.inr.inr.inl=>
  clear f1 f2 f3;by_cases hlv:lv<0\/999999999<lv
  ·rcases hlv with hlv | hlv
   all_goals
    go_enter Tryz.func91,Tryz.ntmps91;go_wp2;all_goals
     go_ret;refine ⟨JK ?_,jFj _ _⟩;exact Oo
  ·have g1:0<=lv:=by omega
   have g2:lv<=999999999:=by omega
   have HG:Hid (¬ (lv<0\/999999999<lv)):=hlv;clear hlv;go_enter Tryz.func91,Tryz.ntmps91;go_wp2;all_goals
    go_ret;refine ⟨JK ?_,jFj _ _⟩
    (try simp only [Bool.not_eq_true',Bool.not_eq_false'] at *)
    rw [HE.out];simp [*,HG.out]
 all_goals
  clear f1 f2 f3;go_enter Tryz.func91,Tryz.ntmps91;go_wp2_with (first | (go_at_call 25;refine LE.out.mono ?_;rintro e w2 ⟨rfl,hb3⟩) | (go_at_call 117;refine HDE.out.mono ?_;rintro e w2 ⟨rfl,hb3⟩) | (go_at_call 119;refine (MTE.out (by simp)).mono ?_;rintro e w2 ⟨rfl,hb3⟩) | (go_at_call 120;refine TBE.out.mono ?_;rintro e w2 ⟨rfl,hb3⟩) | (go_at_call 121;refine UE.out.mono ?_;rintro e w2 ⟨rfl,hb3⟩) | (go_at_call 37;refine AC.out.mono ?_;rintro e w2 ⟨rfl,hb3⟩) | (go_at_call 16;refine (CNM.out _).mono ?_;rintro e w2 ⟨rfl,rfl⟩) | (go_at_call 122;refine CLB.out.mono ?_;rintro e w2 ⟨rfl,hb1⟩;obtain ⟨p0,p1,p2,p3,p4,p5,p6,p7,p8,p9,rZ⟩:=(HP.out.up hb1).cells) | (go_at_call 36;refine (CTR.out _).mono ?_;rintro e w2 ⟨rfl,rfl⟩) | (go_at_call 118;refine (CTX.out _).mono ?_;rintro e w2 ⟨rfl,q3,rfl⟩) | (go_at_call 35;(with_reducible refine (CLI.out _).mono ?_);rintro e w2 ⟨rfl,q,rfl⟩) | (go_at_call 35;(with_reducible refine (CLD.out _).mono ?_);rintro e w2 ⟨rfl,q,rfl⟩) | (go_at_call 35;(with_reducible refine (CLT.out _).mono ?_);rintro e w2 ⟨rfl,q2,rfl⟩))
  all_goals
   go_ret;refine ⟨JK ?_,?_⟩
   ·exact Oo
   ·first
    | exact hb3 | exact ig hb1 _ | exact hb1 | exact ig (jFj _ _) _ | exact jFj _ _
open Go.RowKit
theorem Qp (s:ByteArray) (i:Nat) (w:jIq) (hs:s.size<=140737488355328) (hi:i<s.size) : Calls Tryz.prog 163 #[.string s,.int .i64 i] w fun e w'=>e=.returned (.tuple #[.int .i64 (Utf8.decode s i).1,.int .i64 (Utf8.decode s i).2])/\jIx w.heap.size w w':=by
 have T:=Vv s i hs hi;generalize Utf8.decode s i=d at *;obtain ⟨d1,d2⟩:=d;go_enter Tryz.func163,Tryz.ntmps163;go_wp2_with fail
 refine (T _).mono ?_;rintro e w' ⟨rfl,hb⟩;obtain ⟨hc,hf⟩:=jh3 hb;go_wp2_with fail
 go_quiet (fail)
 go_wp2
 go_ret2
 refine ⟨rfl,?_⟩;exact ig (hb.alloc hb.size _) nq
theorem one_byte (s:ByteArray) (i:Nat) (hi:i<s.size):(s.extract i (i+1)).data.toList=[s[i]]:=by
 have h1:(s.extract i (i+1)).data.toList=(s.data.toList.take (i+1)).drop i:=by simp [ByteArray.data_extract,Array.toList_extract,List.drop_take]
 rw [h1,List.take_add_one,Cu s i hi,Option.toList_some,List.drop_append_of_le_length (by simp;omega),List.drop_of_length_le (by simp;omega)];rfl
theorem Oq (b:UInt8) (n:Nat) (h:b.toNat=n):([32,45,95,46,58]:List UInt8).contains b=([32,45,95,46,58]:List Nat).contains n:=by subst h;rw [jFz];simp [<- UInt8.toNat_inj]
theorem Y8 (s:ByteArray) (i:Nat) (hi:i<s.size):mZ (s.extract i (i+1)) [32,45,95,46,58]=([32,45,95,46,58]:List Nat).contains (Utf8.decode s i).1:=by
 unfold mZ;rw [one_byte s i hi];simp only [List.any_cons,List.any_nil,Bool.or_false];rcases Ct s i hi with ⟨h1,h2⟩ | ⟨h1,h2⟩
 ·rw [h2];exact Oq _ _ (jh s i hi)
 ·have h3:=h2 0 (iL s i);rw [Nat.add_zero] at h3;rw [Oq _ _ (jh s i hi)];generalize (Utf8.decode s i).1=c at *;generalize bt s i=b at *;rw [jFz];simp;omega
def jjq (s:ByteArray) (V:Bool) (w:jIq) (vi:Value) (wr:jIq):Prop:=∃ i f:Nat,i<=s.size/\s.size<=i+f/\vi=.int .i64 i/\(iR s f i).all kg=V/\jIx w.heap.size w wr
theorem jjx{P:Prop}(h:P:=by
 go_wp2;go_roundw;case rel=>exact ⟨i+d2,f-1,hle,by omega,by go_num,by rw [<- HST.out,Zp.out];rfl,HB3.out⟩
 case measure=>simp [intOf];omega):P:=h
theorem AY (s:ByteArray) (w:jIq) (hs:s.size<=1000000000) : Calls Tryz.prog 137 #[.string s] w (dP (.bool (uJ s)) w):=by
 by_cases h0:s.size<1
 ·have hv:uJ s=false:=by unfold uJ;simp;omega
  rw [hv];have q1:decide ((s.size:Int)<(1:Int))=true:=by simp;omega
  clear hv;go_enter Tryz.func137,Tryz.ntmps137;exact vO
 have q0:decide ((s.size:Int)<(1:Int))=false:=by simp;omega
 by_cases h60:60<s.size
 ·have hv:uJ s=false:=by unfold uJ;simp;omega
  rw [hv];have q1:decide ((60:Int)<(s.size:Int))=true:=by simp;omega
  clear hv;go_enter Tryz.func137,Tryz.ntmps137;exact vO
 have q1:decide ((60:Int)<(s.size:Int))=false:=by simp;omega
 have FO:=hid (Qb s w hs);by_cases MF:nI s=s;case neg=>
  have hv:uJ s=false:=by unfold uJ;simp [MF]
  rw [hv];have hb1:=Ep MF;have hb2:=MG MF;generalize nI s=fs at *;clear hv MF;go_enter Tryz.func137,Tryz.ntmps137;go_wp2_with fail
  refine FO.out.mono ?_;rintro e w1 ⟨rfl,hb⟩;have HB:=hid hb;clear hb;go_wp2;go_ret;exact ⟨rfl,HB.out⟩
 rw [MF] at FO;have hv:uJ s=(pts s).all kg:=by exact Zn
 rw [hv];obtain ⟨V,hV⟩:∃ V,(pts s).all kg=V:=⟨_,rfl⟩;rw [hV];have HV:Hid ((iR s s.size 0).all kg=V):=hV;have hb1:(s.toList != s.toList)=false:=by simp
 clear hv MF hV;go_enter Tryz.func137,Tryz.ntmps137;go_wp2_with fail
 refine FO.out.mono ?_;rintro e w1 ⟨rfl,hb⟩;have R0:Hid (jjq s V w (.int .i64 0) w1):=⟨0,s.size,jG6 _,by omega,rfl,HV.out,hb⟩;clear hb FO;go_wp2
 go_loopw [3] (fun vi wr=>jjq s V w vi wr) (fun i _=>s.size-(intOf i).toNat)
 case atStart=>exact R0.out
 case round=>
  clear R0;obtain ⟨i,f,hi,hf,rfl,hall,hbel⟩:=hrel;have HB:=hid hbel;by_cases hlt:i<s.size
  ·have NX:=hid (Qp s i wr (by omega) hlt);have hd:=Lib.rune_le s i;have hwd:=iL s i;have hle:=oO s i hlt;have hst:=Cq s f i hlt hf;have HST:Hid ((kg (Utf8.decode s i)&&(iR s (f-1) (i+(Utf8.decode s i).2)).all kg)=V):=by
    show _=V;rw [<- hall,hst,List.all_cons]
   have HH:=hid (fun w=>jw (s.extract i (i+1)) ⟨#[32,45,95,46,58]⟩ w (by rw [ByteArray.size_extract];omega) (by decide));have YO:Hid (mZ (s.extract i (i+1)) (⟨#[32,45,95,46,58]⟩:ByteArray).data.toList=([32,45,95,46,58]:List Nat).contains (Utf8.decode s i).1):=Y8 s i hlt;rw [YO.out] at HH;clear hst hall hbel YO;generalize Utf8.decode s i=d at *;obtain ⟨d1,d2⟩:=d;simp only at hd hwd hle NX HST HH;have CL:=hid (fun w=>I9 d1 w hd);have CD:=hid (fun w=>L9 d1 w hd);have Zp:Hid (kg (d1,d2)=(iM d1||Es d1||([32,45,95,46,58]:List Nat).contains d1)):=rfl;generalize ([32,45,95,46,58]:List Nat).contains d1=bo at *;generalize iM d1=bl at *;generalize Es d1=bd at *;have q2:decide ((d2:Int)<(1:Int))=false:=by simp;omega
   go_wp2_with fail
   refine NX.out.mono ?_;rintro e w2 ⟨rfl,b2⟩;have HB2:=hid (q01 HB.out b2);clear b2 NX;go_wp2_with fail
   refine (CL.out _).mono ?_;rintro e w3 ⟨rfl,b3⟩;have HB3:=hid (q01 HB2.out b3);clear b3;cases bl with
   | true=>
    exact jjx
   | false=>
    go_wp2_with fail
    refine (CD.out _).mono ?_;rintro e w4 ⟨rfl,rfl⟩;cases bd with
    | true=>
     exact jjx
    | false=>
     go_wp2_with fail
     refine (HH.out _).mono ?_;rintro e w5 ⟨rfl,b5⟩;have xJ:=hid (q01 HB3.out b5);clear b5;cases bo with
     | true=>
      go_wp2;go_roundw;case rel=>exact ⟨i+d2,f-1,hle,by omega,by go_num,by rw [<- HST.out,Zp.out];rfl,xJ.out⟩
      case measure=>simp [intOf];omega
     | false=>
      have HE:Hid (V=false):=by show V=false;rw [<- HST.out,Zp.out];rfl
      go_wp2;go_ret;exact ⟨by rw [HE.out];rfl,xJ.out⟩
  ·have HE:Hid (V=true):=by
    show V=true;rw [<- hall,sD s f i hlt];rfl
   clear hall hbel;exact jd
open Go.RowKit
def jjz (l:List Ci) (E:Nat) (w:jIq) (vi:Value) (wr:jIq):Prop:=∃ k:Nat,k<=l.length/\vi=.int .i64 k/\jIx w.heap.size w wr/\eP (l.drop k)=E
theorem El (s:ByteArray):iB s=(!dG s||!trimS s||mZ s [91,93,59,64,123,36,96]):=rfl
theorem VZ{P:Prop}(h:P:=by
 show E=17;have:=fB.out;rw [if_pos (.inl (by rw [HBP.out];rfl))] at this;exact this.symm):P:=h
theorem V3{P:Prop}(h:P:=by
 show E=17;have:=fB.out;rw [if_pos (.inr (by rw [Ub.out];rfl))] at this;exact this.symm):P:=h
theorem Mg (l:List Ci) (a:Option Addr) (cap:Nat) (w:jIq) (h:Rd (·<w.heap.size) w (OG l) [.slice a l.length cap]) (hsz:∀ c∈l,c.key.size<=5000/\c.pre.size<=5000/\c.suf.size<=5000) : Calls Tryz.prog 232 #[.slice a l.length cap] w (dP (.int .i64 (Rb l:Nat)) w):=by
 obtain ⟨a',c',hv,hs⟩:=Rd.ay h;obtain ⟨rfl,rfl⟩:a'=a/\c'=cap:=by simp at hv;exact ⟨hv.1.symm,hv.2.symm⟩
 have hcap:l.length<=c':=by simpa using hs.le
 have hmx:=hs.max;unfold maxLen at hmx;have HS:=hid hs;have SZ:=hid hsz;clear hs hv h hsz;by_cases h0:l.length=0
 ·have hv:Rb l=8:=by
   obtain rfl:=List.eq_nil_of_length_eq_zero h0;rfl
  rw [hv];have e0:((l.length:Int)==0)=true:=by rw [h0];rfl
  clear hv h0;go_enter Tryz.func232,Tryz.ntmps232;exact vO
 have hv:Rb l=eP l:=by
  cases l with
  | nil=>simp at h0
  | cons x l=>rfl
 rw [hv];have e0:((l.length:Int)==0)=false:=by rw [beq_eq_false_iff_ne];omega
 obtain ⟨E,hE⟩:∃ E,eP l=E:=⟨_,rfl⟩;rw [hE];have R0:Hid (jjz l E w (.int .i64 0) w):=⟨0,jG6 _,rfl,jFj _ _,hE⟩;clear hv hE h0;go_enter Tryz.func232,Tryz.ntmps232;refine kL ?_;go_wp2
 go_loopw [3] (fun i wr=>jjz l E w i wr) (fun i _=>l.length-(intOf i).toNat)
 case atStart=>exact R0.out
 case round=>
  clear R0;obtain ⟨k,hk,rfl,hbel,bg⟩:=hrel;have HB:=hid hbel;by_cases hlt:k<l.length
  ·obtain ⟨x,hx⟩:∃ x,l[k]?=some x:=⟨_,jF9 hlt⟩;have hxs:=SZ.out x (List.mem_of_getElem? hx);obtain ⟨b,off,rfl,-,-,c0,c1,c2,c3⟩:=JI HS.out hx;have c0:wr.cell? ⟨b,off+k*4,none⟩=some (.string x.key):=by rw [hbel.cell (p:=⟨b,off+k*4,none⟩) (nO c0)];exact c0
   have c1:wr.cell? ⟨b,off+k*4+1,none⟩=some (.string x.pre):=by rw [hbel.cell (p:=⟨b,off+k*4+1,none⟩) (nO c1)];exact c1
   have c2:wr.cell? ⟨b,off+k*4+2,none⟩=some (.string x.suf):=by rw [hbel.cell (p:=⟨b,off+k*4+2,none⟩) (nO c2)];exact c2
   have c3:wr.cell? ⟨b,off+k*4+3,none⟩=some (.bool x.bare):=by rw [hbel.cell (p:=⟨b,off+k*4+3,none⟩) (nO c3)];exact c3
   rw [Gu l k x hx,eP] at bg;obtain ⟨key,pre,suf,bare⟩:=x;dsimp only at c0 c1 c2 c3 hxs bg;have bV:=hid bg;have CN:=hid (fun w=>QS key w (by omega));have CLp:=hid (fun w=>VP pre w (by omega));have CTp:=hid (fun w=>qh pre w (by omega));have CHp:=hid (fun w=>jw pre ⟨#[91,93,59,64,123,36,96]⟩ w (by omega) (by decide));change Hid (∀ w,Calls Tryz.prog 161 #[.string pre,.string ⟨#[91,93,59,64,123,36,96]⟩] w (dP (.bool (mZ pre [91,93,59,64,123,36,96])) w)) at CHp;have CLs:=hid (fun w=>VP suf w (by omega));have CTs:=hid (fun w=>qh suf w (by omega));have CHs:=hid (fun w=>jw suf ⟨#[91,93,59,64,123,36,96]⟩ w (by omega) (by decide));change Hid (∀ w,Calls Tryz.prog 161 #[.string suf,.string ⟨#[91,93,59,64,123,36,96]⟩] w (dP (.bool (mZ suf [91,93,59,64,123,36,96])) w)) at CHs;have HBP:=hid (El pre);have Ub:=hid (El suf);obtain ⟨wi,hwi⟩:∃ wi,wi=wr.alloc (.cells #[.string key,.string pre,.string suf,.bool bare] 86):=⟨_,rfl⟩;have k2:CB 86 wr.heap.size [.string key,.string pre,.string suf,.bool bare] wi:=by rw [hwi];exact CB.new _ _ _
   have HB2:Hid (jIx w.heap.size w wi):=by show jIx _ _ _;rw [hwi];exact HB.out.alloc HB.out.size _
   have i0:=k2.cell 0 _ rfl;have i1:=k2.cell 1 _ rfl;have i2:=k2.cell 2 _ rfl;have K2:=hid k2;clear bg hx hbel k2;generalize dG pre=Lp at *;generalize trimS pre=Tp at *;generalize mZ pre [91,93,59,64,123,36,96]=Hp at *;generalize dG suf=Ls at *;generalize trimS suf=Ts at *;generalize mZ suf [91,93,59,64,123,36,96]=Hs at *;go_upto_region 7 with (fail)
   rw [<- hwi];clear hwi c0 c1 c2 c3;cases hn:dU key with
   | false=>
    rw [hn] at CN;have HE:Hid (E=6):=by show E=6;have:=bV.out;rw [if_pos hn] at this;exact this.symm
    clear hn;go_wp2_with fail
    refine (CN.out _).mono ?_;rintro e w3 ⟨rfl,rfl⟩;exact Om
   | true=>
    rw [hn] at CN;have fB:Hid ((if iB pre=true\/iB suf=true then 17 else eP (l.drop (k+1)))=E):=by show _=_;have:=bV.out;rw [if_neg (by rw [hn];decide)] at this;exact this
    clear hn bV;go_wp2_with fail
    refine (CN.out _).mono ?_;rintro e w3 ⟨rfl,rfl⟩;go_wp2_with fail
    refine (CLp.out _).mono ?_;rintro e w3 ⟨rfl,b3⟩;have K3:=hid (K2.out.below b3);have HB3:=hid (q01 HB2.out b3);have i1:=K3.out.cell 1 _ rfl;have i2:=K3.out.cell 2 _ rfl;clear b3;cases Lp
    case false=>
     have HE:Hid (E=17):=by exact VZ
     go_wp2;go_ret;exact ⟨by rw [HE.out];rfl,HB3.out⟩
    case true=>
     go_wp2_with fail
     refine (CTp.out _).mono ?_;rintro e wt ⟨rfl,rfl⟩;cases Tp
     case false=>
      have HE:Hid (E=17):=by exact VZ
      go_wp2;go_ret;exact ⟨by rw [HE.out];rfl,HB3.out⟩
     case true=>
      go_wp2_with fail
      refine (CHp.out _).mono ?_;rintro e w4 ⟨rfl,b4⟩;have K4:=hid (K3.out.below b4);have kS:=hid (q01 HB3.out b4);have i1:=K4.out.cell 1 _ rfl;have i2:=K4.out.cell 2 _ rfl;clear b4;cases Hp
      case true=>
       have HE:Hid (E=17):=by exact VZ
       go_wp2;go_ret;exact ⟨by rw [HE.out];rfl,kS.out⟩
      case false=>
       have PB:Hid (iB pre=false):=by show _=_;rw [HBP.out];rfl
       go_wp2_with fail
       refine (CLs.out _).mono ?_;rintro e w5 ⟨rfl,b5⟩;have K5:=hid (K4.out.below b5);have xJ:=hid (q01 kS.out b5);have i1:=K5.out.cell 1 _ rfl;have i2:=K5.out.cell 2 _ rfl;clear b5;cases Ls
       case false=>
        have HE:Hid (E=17):=by exact V3
        go_wp2;go_ret;exact ⟨by rw [HE.out];rfl,xJ.out⟩
       case true=>
        go_wp2_with fail
        refine (CTs.out _).mono ?_;rintro e wt ⟨rfl,rfl⟩;cases Ts
        case false=>
         have HE:Hid (E=17):=by exact V3
         go_wp2;go_ret;exact ⟨by rw [HE.out];rfl,xJ.out⟩
        case true=>
         go_wp2_with fail
         refine (CHs.out _).mono ?_;rintro e w6 ⟨rfl,b6⟩;have K6:=hid (K5.out.below b6);have HB6:=hid (q01 xJ.out b6);have i1:=K6.out.cell 1 _ rfl;have i2:=K6.out.cell 2 _ rfl;clear b6;cases Hs
         case true=>
          have HE:Hid (E=17):=by exact V3
          go_wp2;go_ret;exact ⟨by rw [HE.out];rfl,HB6.out⟩
         case false=>
          have SB:Hid (iB suf=false):=by show _=_;rw [Ub.out];rfl
          have JO:Hid (eP (l.drop (k+1))=E):=by show _=E;have:=fB.out;rw [if_neg (by rw [PB.out,SB.out];decide)] at this;exact this
          go_wp2;go_roundw;case rel=>exact ⟨k+1,by omega,by go_num,HB6.out,JO.out⟩
          case measure=>simp [intOf];omega
  ·have HE:Hid (E=0):=by
    show E=0;rw [<- bg,List.drop_of_length_le (by omega),eP]
   clear bg hbel;exact jd
theorem Qq (s:ByteArray):Ev s=(!dG s||mZ s [124,123,125]):=rfl
theorem Mh (w:jIq) (k:Int) (t d ti:ByteArray) (at_:At) (ar:List ByteArray) (ci:List Ci) (ks:List aj) (ac ap aa ai ak:Option Addr) (cc cp ca gL ck:Nat) (h:rz (·<w.heap.size) w at_ ar ci ks (.slice ac at_.cls.length cc) (.slice ap at_.aF.length cp) (.slice aa ar.length ca) (.slice ai ci.length gL) (.slice ak ks.length ck)) (hs:Zy t d ti at_ ar ci) : Calls Tryz.prog 231 #[.agg #[.int .i64 k,.string t,.string d,.string ti,.string at_.id,.slice ac at_.cls.length cc,.slice ap at_.aF.length cp,.slice aa ar.length ca,.slice ai ci.length gL,.slice ak ks.length ck]] w (dP (.int .i64 (Rf k t ti ar:Nat)) w):=by
 obtain ⟨a',c',hv,hsl⟩:=Rd.ay h.args;obtain ⟨rfl,rfl⟩:aa=a'/\ca=c':=by simp at hv;exact hv
 have hcap:ar.length<=ca:=by simpa using hsl.le
 have hmx:=hsl.max;unfold maxLen at hmx;have HS:=hid hsl;have SZ:=hid hs.ars;have NT:=hid (fun w=>QS t w (by have:=hs.t;omega));obtain ⟨w1,hw1⟩:∃ w1,w1=w.alloc (.cells #[.int .i64 k,.string t,.string d,.string ti,.string at_.id,.slice ac at_.cls.length cc,.slice ap at_.aF.length cp,.slice aa ar.length ca,.slice ai ci.length gL,.slice ak ks.length ck] 47):=⟨_,rfl⟩;have k1:CB 47 w.heap.size [.int .i64 k,.string t,.string d,.string ti,.string at_.id,.slice ac at_.cls.length cc,.slice ap at_.aF.length cp,.slice aa ar.length ca,.slice ai ci.length gL,.slice ak ks.length ck] w1:=by rw [hw1];exact CB.new _ _ _
 have b1:jIx w.heap.size w w1:=by rw [hw1];exact (jFj _ _).alloc (jFk _) _
 have p0:=k1.cell 0 _ rfl;have p1:=k1.cell 1 _ rfl;have p3:=k1.cell 3 _ rfl;have p5:=k1.cell 7 _ rfl;have K1:=hid k1;have B1:=hid b1;have R0:Hid (NmR ar w1 (.int .i64 0) w1):=⟨0,jG6 _,rfl,jFj _ _,by simp⟩;clear hv hsl h hs k1 b1;have HE:Hid (Rf k t ti ar=if dU t=false then 6 else if k=14/\bq ti=false/\ti.data.toList≠nR then 5 else if 8<ar.length then 3 else if ar.any Ev then 17 else 0):=rfl;obtain ⟨V,hV⟩:∃ V,V=Rf k t ti ar:=⟨_,rfl⟩;rw [<- hV] at HE ⊢;clear hV;go_enter Tryz.func231,Tryz.ntmps231
 (try simp only [List.append_eq,List.cons_append,List.nil_append])
 go_upto_region 1 with (fail)
 rw [<- hw1];clear hw1;cases hn:dU t with
 | false=>
  rw [hn] at NT;have HV:Hid (V=6):=by show V=6;rw [HE.out,if_pos hn]
  clear hn R0;go_wp2_with fail
  refine (NT.out _).mono ?_;rintro e w3 ⟨rfl,rfl⟩;exact qF
 | true=>
 rw [hn] at NT;have HE2:Hid (V=if k=14/\bq ti=false/\ti.data.toList≠nR then 5 else if 8<ar.length then 3 else if ar.any Ev then 17 else 0):=by show V=_;rw [HE.out,if_neg (by rw [hn];decide)]
 clear hn HE;go_wp2_with fail
 refine (NT.out _).mono ?_;rintro e w3 ⟨rfl,rfl⟩;clear NT;go_upto_region 3 with (fail)
 have hemp:=oQ ti;have hpg:(ti.toList==[112,97,103,101])=decide (ti.data.toList=nR):=by rw [Lib.toList_data,jFz,beq_iff_eq,decide_eq_true_iff];rfl
 go_cut [20] (fun s wx=>s=.bool (decide (k=14/\bq ti=false/\ti.data.toList≠nR))/\w1=wx)
 case first=>
  clear R0 HE2;by_cases hk:k=14;case neg=>
   have hq:=beq_false_of_ne hk;go_wp2_with fail
   go_meet
   exact ⟨by simp [hk],rfl⟩
  subst hk;cases he:bq ti with
  | true=>
   rw [he] at hemp;go_wp2_with fail
   go_meet
   exact ⟨by simp [he],rfl⟩
  | false=>
   rw [he] at hemp;by_cases hp:ti.data.toList=nR
   ·have hpp:(ti.toList != [112,97,103,101])=false:=by unfold bne;rw [hpg,decide_eq_true hp];rfl
    rw [decide_eq_true hp] at hpg;have HP:=hid hp;clear hp;go_wp2_with fail
    go_meet
    exact ⟨by simp [HP.out],rfl⟩
   ·have hpp:(ti.toList != [112,97,103,101])=true:=by unfold bne;rw [hpg,decide_eq_false hp];rfl
    rw [decide_eq_false hp] at hpg;have HP:=hid hp;have BK:=hid he;clear hp he;go_wp2_with fail
    go_meet
    exact ⟨by simp [HP.out,BK.out],rfl⟩
 case rest=>
  obtain ⟨rfl,rfl⟩:=hcut;clear hemp hpg;by_cases htt:k=14/\bq ti=false/\ti.data.toList≠nR
  ·have HV:Hid (V=5):=by show V=5;rw [HE2.out,if_pos htt]
   rw [decide_eq_true htt];clear htt R0;exact qF
  have xI:Hid (V=if 8<ar.length then 3 else if ar.any Ev then 17 else 0):=by show V=_;rw [HE2.out,if_neg htt]
  rw [decide_eq_false htt];clear htt HE2;by_cases h8:8<ar.length
  ·have q1:decide ((8:Int)<(ar.length:Int))=true:=by simp;omega
   have HV:Hid (V=3):=by show V=3;rw [xI.out,if_pos h8]
   clear R0;exact qF
  have q1:decide ((8:Int)<(ar.length:Int))=false:=by simp;omega
  have HL:Hid (V=if ar.any Ev then 17 else 0):=by show V=_;rw [xI.out,if_neg h8]
  clear xI;go_wp2
  go_loopw [3] (fun i wr=>NmR ar w1 i wr) (fun i _=>ar.length-(intOf i).toNat)
  case atStart=>exact R0.out
  case round=>
   clear R0 p0 p1 p3 p5;obtain ⟨j,hj,rfl,hbel,hno⟩:=hrel;have HB:=hid (q01 B1.out hbel);have HBW:=hid hbel;have FZ:=hid hno;have p5:=(K1.out.below hbel).cell 7 _ rfl;by_cases hlt:j<ar.length
   ·obtain ⟨x,hx⟩:∃ x,ar[j]?=some x:=⟨_,jF9 hlt⟩;have hxs:=SZ.out x (List.mem_of_getElem? hx);obtain ⟨b2,off,rfl,-,-,x0⟩:=jk HS.out hx;have x0:wr.cell? ⟨b2,off+j,none⟩=some (.string x):=by rw [HB.out.cell (p:=⟨b2,off+j,none⟩) (nO x0)];exact x0
    have CL:=hid (VP x wr (by omega));have CH:=hid (fun w=>jw x ⟨#[124,123,125]⟩ w (by omega) (by decide));change Hid (∀ w,Calls Tryz.prog 161 #[.string x,.string ⟨#[124,123,125]⟩] w (dP (.bool (mZ x [124,123,125])) w)) at CH;have HAB:=hid (Qq x);have gZ:=hid (yE Ev hx);have HBAD:Hid (Ev x=true->V=17):=fun hb=>by rw [HL.out,JJ Ev hx hb];rfl
    clear hx hbel hno;generalize dG x=L at *;generalize mZ x [124,123,125]=Hh at *;cases L with
    | false=>
     have HV:Hid (V=17):=HBAD.out (by rw [HAB.out];rfl);go_wp2_with fail
     refine CL.out.mono ?_;rintro e w4 ⟨rfl,b4⟩;have kS:=hid (q01 HB.out b4);clear b4;go_wp2;go_ret;exact ⟨by rw [HV.out];rfl,kS.out⟩
    | true=>
     go_wp2_with fail
     refine CL.out.mono ?_;rintro e w4 ⟨rfl,b4⟩;have kS:=hid (q01 HB.out b4);have HW4:=hid (q01 HBW.out b4);have p5:=(K1.out.below HW4.out).cell 7 _ rfl;have x0:w4.cell? ⟨b2,off+j,none⟩=some (.string x):=by rw [b4.cell (p:=⟨b2,off+j,none⟩) (nO x0)];exact x0
     clear b4;go_wp2_with fail
     refine (CH.out _).mono ?_;rintro e w5 ⟨rfl,b5⟩;have xJ:=hid (q01 kS.out b5);have HW5:=hid (q01 HW4.out b5);clear b5;cases Hh with
     | true=>
      have HV:Hid (V=17):=HBAD.out (by rw [HAB.out];rfl);go_wp2;go_ret;exact ⟨by rw [HV.out];rfl,xJ.out⟩
     | false=>
      go_wp2;go_roundw;case rel=>exact ⟨j+1,by omega,by go_num,HW5.out,by rw [gZ.out,FZ.out,HAB.out];rfl⟩
      case measure=>simp [intOf];omega
   ·have HV:Hid (V=0):=by
     show V=0;have:=FZ.out;rw [List.take_of_length_le (by omega)] at this;rw [HL.out,this];rfl
    clear hbel hno;go_wp2;go_ret;exact ⟨by rw [HV.out];rfl,HB.out⟩
open Go.RowKit
theorem Jg (w:jIq) (k:Int) (t d ti:ByteArray) (at_:At) (ar:List ByteArray) (ci:List Ci) (ks:List aj) (ac ap aa ai ak:Option Addr) (cc cp ca gL ck:Nat) (h:rz (·<w.heap.size) w at_ ar ci ks (.slice ac at_.cls.length cc) (.slice ap at_.aF.length cp) (.slice aa ar.length ca) (.slice ai ci.length gL) (.slice ak ks.length ck)) (hs:Zy t d ti at_ ar ci) (hk:k=9\/k=10) : Calls Tryz.prog 230 #[.agg #[.int .i64 k,.string t,.string d,.string ti,.string at_.id,.slice ac at_.cls.length cc,.slice ap at_.aF.length cp,.slice aa ar.length ca,.slice ai ci.length gL,.slice ak ks.length ck]] w (dP (.int .i64 (QB k t d ti at_ ks:Nat)) w):=by
 obtain ⟨s1,s2,s3,s4,-,-⟩:=hs;have LT:=hid (fun w=>AY t w (by omega));have CD:=hid (fun w=>VP d w (by omega));have CT:=hid (fun w=>VP ti w (by omega));have AC:=hid (fun wx (hb:jIx w.heap.size w wx)=>kK at_ ac ap cc cp wx (h.at_.up hb) s4);have AK:=hid (fun wx (hb:jIx w.heap.size w wx)=>AU _ ks (.slice ak ks.length ck) false wx (jFk _) (h.kids.up hb));change Hid (∀ wx,jIx w.heap.size w wx->Calls Tryz.prog 155 #[.slice ak ks.length ck,.bool false] wx (dP (.bool (aj.dx dB ks)) wx)) at AK;have HE:Hid (QB k t d ti at_ ks=if bq t=false/\(bq d=false\/bq ti=false) then 5
 else if bq t=false/\uJ t=false then 6
 else if dG d=false\/dG ti=false then 17
 else if k=9/\aj.dx dB ks=true then 5
 else if k=10 then at_.err else 0):=rfl
 obtain ⟨V,hV⟩:∃ V,V=QB k t d ti at_ ks:=⟨_,rfl⟩
 rw [<- hV] at HE ⊢;have HD:=hid (oQ d).symm;have HT:=hid (oQ t).symm;have HTI:=hid (oQ ti).symm;generalize uJ t=L at *;generalize dG d=L1 at *;generalize dG ti=L2 at *;generalize aj.dx dB ks=A at *;generalize at_.err=E at *
 obtain ⟨w1,hw1⟩:∃ w1,w1=w.alloc (.cells #[.int .i64 k,.string t,.string d,.string ti,.string at_.id,.slice ac at_.cls.length cc,.slice ap at_.aF.length cp,.slice aa ar.length ca,.slice ai ci.length gL,.slice ak ks.length ck] 47):=⟨_,rfl⟩;have k1:CB 47 w.heap.size [.int .i64 k,.string t,.string d,.string ti,.string at_.id,.slice ac at_.cls.length cc,.slice ap at_.aF.length cp,.slice aa ar.length ca,.slice ai ci.length gL,.slice ak ks.length ck] w1:=by rw [hw1];exact CB.new _ _ _
 have b1:jIx w.heap.size w w1:=by rw [hw1];exact (jFj _ _).alloc (jFk _) _
 have p0:=k1.cell 0 _ rfl;have p1:=k1.cell 1 _ rfl;have p2:=k1.cell 2 _ rfl;have p3:=k1.cell 3 _ rfl;have p4:=k1.cell 4 _ rfl;have p5:=k1.cell 5 _ rfl;have p6:=k1.cell 6 _ rfl;have p7:=k1.cell 7 _ rfl;have p8:=k1.cell 8 _ rfl;have p9:=k1.cell 9 _ rfl;have K1:=hid k1;have B1:=hid b1;clear hV h k1 b1 s1 s2 s3 s4;go_enter Tryz.func230,Tryz.ntmps230
 (try simp only [List.append_eq,List.cons_append,List.nil_append])
 go_upto_region 1 with (fail)
 rw [<- hw1];clear hw1;cases hT:t.toList.isEmpty<;>cases hD:d.toList.isEmpty<;>cases hTI:ti.toList.isEmpty<;>rcases hk with rfl | rfl
 all_goals
  go_wp2_with (first
   | (go_at_call 137;refine (LT.out _).mono ?_;rintro e w2 ⟨rfl,hb2⟩;have K2:=K1.out.below hb2;have HB2:=hid (q01 B1.out hb2);have p0:=K2.cell 0 _ rfl;have p2:=K2.cell 2 _ rfl;have p3:=K2.cell 3 _ rfl;have p4:=K2.cell 4 _ rfl;have p5:=K2.cell 5 _ rfl;have p6:=K2.cell 6 _ rfl;have p9:=K2.cell 9 _ rfl)
   | (go_at_call 73;(with_reducible refine (CD.out _).mono ?_);rintro e w3 ⟨rfl,hb3⟩;have K3:=(by first | exact K2.below hb3 | exact K1.out.below hb3:CB 47 w.heap.size _ w3);have HB3:Hid (jIx w.heap.size w w3):=(by first | exact hid (q01 HB2.out hb3) | exact hid (q01 B1.out hb3));have p0:=K3.cell 0 _ rfl;have p3:=K3.cell 3 _ rfl;have p4:=K3.cell 4 _ rfl;have p5:=K3.cell 5 _ rfl;have p6:=K3.cell 6 _ rfl;have p9:=K3.cell 9 _ rfl)
   | (go_at_call 73;(with_reducible refine (CT.out _).mono ?_);rintro e w4 ⟨rfl,hb4⟩;have K4:=K3.below hb4;have kS:=hid (q01 HB3.out hb4);have p0:=K4.cell 0 _ rfl;have p4:=K4.cell 4 _ rfl;have p5:=K4.cell 5 _ rfl;have p6:=K4.cell 6 _ rfl;have p9:=K4.cell 9 _ rfl)
   | (go_at_call 155;refine (AK.out _ kS.out).mono ?_;rintro e w5 ⟨rfl,hb5⟩;have K5:=K4.below hb5;have xJ:=hid (q01 kS.out hb5);have p0:=K5.cell 0 _ rfl;have p4:=K5.cell 4 _ rfl;have p5:=K5.cell 5 _ rfl;have p6:=K5.cell 6 _ rfl;have p9:=K5.cell 9 _ rfl)
   | (go_at_call 135;refine (AC.out _ (by first | exact xJ.out | exact kS.out)).mono ?_;rintro e w6 ⟨rfl,hb6⟩;have HB6:Hid (jIx w.heap.size w w6):=(by first | exact hid (q01 xJ.out hb6) | exact hid (q01 kS.out hb6))))
  all_goals
   go_ret;refine ⟨JK ?_,?_⟩
   ·exact ZB
   ·first | exact HB6.out | exact xJ.out | exact kS.out | exact HB3.out | exact HB2.out | exact B1.out
theorem V4 (w:jIq) (k:Int) (t d ti:ByteArray) (at_:At) (ar:List ByteArray) (ci:List Ci) (ks:List aj) (ac ap aa ai ak:Option Addr) (cc cp ca gL ck:Nat) (bf:Int) (fi la:Bool) (h:rz (·<w.heap.size) w at_ ar ci ks (.slice ac at_.cls.length cc) (.slice ap at_.aF.length cp) (.slice aa ar.length ca) (.slice ai ci.length gL) (.slice ak ks.length ck)) (hs:Zy t d ti at_ ar ci) : Calls Tryz.prog 214 #[.agg #[.int .i64 k,.string t,.string d,.string ti,.string at_.id,.slice ac at_.cls.length cc,.slice ap at_.aF.length cp,.slice aa ar.length ca,.slice ai ci.length gL,.slice ak ks.length ck],.int .i64 bf,.bool fi,.bool la] w (dP (.int .i64 (oV bf fi la k t d ti at_ ar ci ks:Nat)) w):=by
 have l1:=(sF h.at_.cls).2;have l2:=(sF h.at_.aF).2;obtain ⟨-,l5,m5⟩:=sF h.kids;have AE:=hid (fun w=>oL at_ ac ap cc cp w (by omega) (by omega));unfold maxLen at m5;clear l1 l2;have CL:=hid (fun w=>VP t w (by have:=hs.t;omega));have AC:=hid (fun wx (hb:jIx w.heap.size w wx)=>kK at_ ac ap cc cp wx (h.at_.up hb) hs.at_);have LK:=hid (fun wx (hb:jIx w.heap.size w wx) hk=>Jg wx k t d ti at_ ar ci ks ac ap aa ai ak cc cp ca gL ck (h.up hb) hs hk);have NM:=hid (fun wx (hb:jIx w.heap.size w wx)=>Mh wx k t d ti at_ ar ci ks ac ap aa ai ak cc cp ca gL ck (h.up hb) hs);have CC:=hid (fun wx (hb:jIx w.heap.size w wx)=>Mg ci ai gL wx (h.fC.up hb) hs.cis);have AD:=hid (fun w=>Qm d w (by have:=hs.d;omega));have FD:=hid (fun wx (hb:jIx w.heap.size w wx)=>uq wx k t d ti at_ ar ci ks ac ap aa ai ak cc cp ca gL ck (h.up hb));have e3:=jT ks;have HE:Hid (oV bf fi la k t d ti at_ ar ci ks=if yH k t d ti at_ ar ci ks=false then 5
 else if k=1\/k=4\/k=5 then (if bq t=true\/dG t=false then 17 else if k≠5/\bf=k then 5 else 0)
 else if k=2 then (if bf=2\/bf=3\/fi=true\/la=true then 5 else 0)
 else if k=3 then (if la=true then 5 else 0)
 else if k=6\/k=7\/k=8 then (if ks.isEmpty=true then 8 else 0)
 else if k=9\/k=10 then QB k t d ti at_ ks
 else if k=11 then (if at_.none=true then 8 else at_.err)
 else if k=12\/k=14\/k=15 then Rf k t ti ar
 else if k=13 then Rb ci
 else if mM d=true then 0 else 5):=rfl
 have HF:=hid (fun hf=>(yG (k:=k) (t:=t) (d:=d) (ti:=ti) (a:=at_) (ar:=ar) (ci:=ci) (ks:=ks) hf));obtain ⟨V,hV⟩:∃ V,V=oV bf fi la k t d ti at_ ar ci ks:=⟨_,rfl⟩
 rw [<- hV] at HE ⊢;have HT:=hid (oQ t).symm;generalize dG t=L at *;generalize QB k t d ti at_ ks=E1 at *
 generalize at_.none=bn at *
 generalize at_.err=E2 at *
 generalize Rf k t ti ar=E3 at *;generalize Rb ci=E4 at *;generalize mM d=bu at *;generalize ks.isEmpty=bk at *;generalize yH k t d ti at_ ar ci ks=bf0 at *
 obtain ⟨w1,hw1⟩:∃ w1,w1=w.alloc (.cells #[.int .i64 k,.string t,.string d,.string ti,.string at_.id,.slice ac at_.cls.length cc,.slice ap at_.aF.length cp,.slice aa ar.length ca,.slice ai ci.length gL,.slice ak ks.length ck] 47):=⟨_,rfl⟩;have k1:CB 47 w.heap.size [.int .i64 k,.string t,.string d,.string ti,.string at_.id,.slice ac at_.cls.length cc,.slice ap at_.aF.length cp,.slice aa ar.length ca,.slice ai ci.length gL,.slice ak ks.length ck] w1:=by rw [hw1];exact CB.new _ _ _
 have b1:jIx w.heap.size w w1:=by rw [hw1];exact (jFj _ _).alloc (jFk _) _
 have p0:=k1.cell 0 _ rfl;have p1:=k1.cell 1 _ rfl;have p2:=k1.cell 2 _ rfl;have p3:=k1.cell 3 _ rfl;have p4:=k1.cell 4 _ rfl;have p5:=k1.cell 5 _ rfl;have p6:=k1.cell 6 _ rfl;have p7:=k1.cell 7 _ rfl;have p8:=k1.cell 8 _ rfl;have p9:=k1.cell 9 _ rfl;have K1:=hid k1;have B1:=hid b1;clear hV h hs k1 b1;go_enter Tryz.func214,Tryz.ntmps214
 (try simp only [List.append_eq,List.cons_append,List.nil_append])
 go_upto_region 1 with (fail)
 rw [<- hw1];clear hw1;go_wp2_with fail
 refine (FD.out _ B1.out).mono ?_;rintro e w2 ⟨rfl,hb2⟩;have K2:=hid (K1.out.below hb2);have B2:=hid (q01 B1.out hb2);clear p0 p1 p2 p3 p4 p5 p6 p7 p8 p9 hb2 FD K1 B1;have p0:=K2.out.cell 0 _ rfl;have p1:=K2.out.cell 1 _ rfl;have p2:=K2.out.cell 2 _ rfl;have p3:=K2.out.cell 3 _ rfl;have p4:=K2.out.cell 4 _ rfl;have p5:=K2.out.cell 5 _ rfl;have p6:=K2.out.cell 6 _ rfl;have p7:=K2.out.cell 7 _ rfl;have p8:=K2.out.cell 8 _ rfl;have p9:=K2.out.cell 9 _ rfl;cases bf0 with
 | false=>
  have HV:Hid (V=5):=HE.out;clear p0 p1 p2 p3 p4 p5 p6 p7 p8 p9;go_wp2;go_ret;exact ⟨by rw [HV.out];rfl,B2.out⟩
 | true=>
 obtain ⟨f1,f2,-⟩:=HF.out rfl;clear HF;rcases sG k with rfl | rfl | rfl | rfl | rfl | rfl | rfl | rfl | rfl | rfl | rfl | rfl | rfl | rfl | rfl | rfl | hk
 case inr.inr.inr.inr.inr.inr.inr.inr.inr.inr.inr.inr.inr.inr.inr.inr=>omega
 all_goals
  go_wp2_with (first
   | (go_at_call 73;refine (CL.out _).mono ?_;rintro e w3 ⟨rfl,hb3⟩;have K3:=K2.out.below hb3;have HB3:=hid (q01 B2.out hb3);have p0:=K3.cell 0 _ rfl)
   | (go_at_call 230;refine (LK.out _ B2.out (by simp)).mono ?_;rintro e w3 ⟨rfl,hb3⟩;have HB3:=hid (q01 B2.out hb3))
   | (go_at_call 131;refine (AE.out _).mono ?_;rintro e w3 ⟨rfl,hb3⟩;have K3:=K2.out.below hb3;have HB3:=hid (q01 B2.out hb3);have p4:=K3.cell 4 _ rfl;have p5:=K3.cell 5 _ rfl;have p6:=K3.cell 6 _ rfl)
   | (go_at_call 135;refine (AC.out _ HB3.out).mono ?_;rintro e w4 ⟨rfl,hb4⟩;have kS:=hid (q01 HB3.out hb4))
   | (go_at_call 231;refine (NM.out _ B2.out).mono ?_;rintro e w3 ⟨rfl,hb3⟩;have HB3:=hid (q01 B2.out hb3))
   | (go_at_call 232;refine (CC.out _ B2.out).mono ?_;rintro e w3 ⟨rfl,hb3⟩;have HB3:=hid (q01 B2.out hb3))
   | (go_at_call 233;refine (AD.out _).mono ?_;rintro e w3 ⟨rfl,hb3⟩;have HB3:=hid (q01 B2.out hb3)))
  all_goals
   go_ret;refine ⟨JK ?_,?_⟩
   ·exact ZC
   ·first | exact kS.out | exact HB3.out | exact B2.out
open Go.RowKit
def jk0 (l:List aj) (dp:Nat) (E:Nat) (w:jIq) (vb vi:Value) (wr:jIq):Prop:=∃ k:Nat,k<=l.length/\vi=.int .i64 k/\vb=.int .i64 (uw l k)/\jIx w.heap.size w wr/\aj.aT (uw l k) (decide (k=0)) dp (l.drop k)=E
theorem Qr (bf:Int) (st:Bool) (dp:Nat) (k:Int) (t d ti:ByteArray) (a:At) (ar:List ByteArray) (ci:List Ci) (ks:List aj) (l:List aj) (qE:¬ 15<dp) (fi la:Bool) (hfi:fi=(decide (dp=0)&&st)) (hla:la=(decide (dp=0)&&l.isEmpty)) : aj.aT bf st dp (aj.mk k t d ti a ar ci ks::l)=if oV bf fi la k t d ti a ar ci ks≠0 then oV bf fi la k t d ti a ar ci ks else if aj.aT 0 true (dp+1) ks≠0 then aj.aT 0 true (dp+1) ks else aj.aT k false dp l:=by
 subst hfi hla;rw [aj.aT,if_neg qE,aj.err];by_cases h1:oV bf (decide (dp=0)&&st) (decide (dp=0)&&l.isEmpty) k t d ti a ar ci ks=0
 ·simp only [h1,ne_eq,not_true_eq_false,if_false];rfl
 ·simp only [ne_eq,h1,not_false_eq_true,if_true]
theorem jk1{P:Prop}(h:P:=by
 clear h1 h2;go_wp2_with fail
 refine (ONE.out _ _ _).mono ?_;rintro e w3 ⟨rfl,b3⟩;have HB3:=hid b3;clear b3;go_wp2_with fail
 go_meet
 exact ⟨by rw [HE2.out],HB3.out⟩):P:=h
theorem Qs (n:Nat):∀ (l:List aj) (dp:Nat) (a:Option Addr) (cap:Nat) (w:jIq),aj.aY l<=n->dp<=1000000->aj.aC l->Rd (·<w.heap.size) w (bJ l) [.slice a l.length cap] -> Calls Tryz.prog 189 #[.slice a l.length cap,.int .i64 (dp:Int)] w (dP (.int .i64 (aj.aT 0 true dp l:Nat)) w):=by
 induction n using Nat.strongRecOn with
 | _ n ih=>
  intro l dp a cap w hn hdp hsm h;obtain ⟨a',c',hv,hs⟩:=Rd.ay h;obtain ⟨rfl,rfl⟩:a'=a/\c'=cap:=by simp at hv;exact ⟨hv.1.symm,hv.2.symm⟩
  have hcap:l.length<=c':=by simpa using hs.le
  refine Gy ?_;intro hmx HS IH;have SM:=hid hsm;obtain ⟨E,hE⟩:∃ E,aj.aT 0 true dp l=E:=⟨_,rfl⟩;rw [hE];have R0:Hid (jk0 l dp E w (.int .i64 0) (.int .i64 0) w):=⟨0,jG6 _,rfl,rfl,jFj _ _,hE⟩;clear hs hv h ih hsm hE;go_enter Tryz.func189,Tryz.ntmps189;refine kL ?_;go_wp2
  go_loopw [5,6] (fun b i wr=>jk0 l dp E w b i wr) (fun _ i _=>l.length-(intOf i).toNat)
  case atStart=>exact R0.out
  case round=>
   clear R0;obtain ⟨k,hk,rfl,rfl,hbel,bg⟩:=hrel;have HB:=hid hbel;by_cases hlt:k<l.length
   ·refine jc ?_;intro x hx;by_cases qE:15<dp
    ·have QC:decide ((15:Int)<(dp:Int))=true:=by simp;omega
     have HE:Hid (E=11):=by show E=11;rw [<- bg,Gu l k x hx,aj.aT,if_pos qE]
     clear bg hx hbel;generalize uw l k=bf at *;exact jd
    have QC:decide ((15:Int)<(dp:Int))=false:=by simp;omega
    have hbs:=Ej hx;have hxs:x.small:=aj.jA SM.out hx;have hsz:=aj.bI l k _ hx;rw [Gu l k x hx] at bg;have hle:(l.drop (k+1)).isEmpty=((k:Int)==(l.length:Int)-1):=by rw [jFz];simp;omega
    obtain ⟨kd,t,d,ti,at_,ar,ci,ks⟩:=x;rw [aj.sz] at hsz;obtain ⟨hins,hks⟩:=jr3 hxs;have hz0:decide (dp=0)=((dp:Int)==0):=by rw [jFz];simp
    have hzk:decide (k=0)=((k:Int)==0):=by rw [jFz];simp
    obtain ⟨fi,hfi⟩:∃ fi,fi=(decide (dp=0)&&decide (k=0)):=⟨_,rfl⟩;obtain ⟨la,hla⟩:∃ la,la=(decide (dp=0)&&(l.drop (k+1)).isEmpty):=⟨_,rfl⟩;rw [Qr _ _ _ _ _ _ _ _ _ _ _ _ qE fi la hfi hla] at bg;rw [hz0,hzk] at hfi;rw [hz0,hle] at hla;obtain ⟨b,off,ac,ap,aa,ai,ak,cc,cp,ca,gL,ck,ha,Rj⟩:=Me HS.out hx;have hP:=Rj.up hbel;subst ha;obtain ⟨c0,c1,c2,c3,c4,c5,c6,c7,c8,c9⟩:=hP.cells;have HP:=hid hP;have ONE:=hid (fun bf fi la=>V4 wr kd t d ti at_ ar ci ks ac ap aa ai ak cc cp ca gL ck bf fi la hP.rd hins);have KID:=hid (fun wx (hb:jIx wr.heap.size wr wx)=>IH.out (aj.aY ks) (by omega) ks (dp+1) ak ck wx (jFk _) (by omega) hks (hP.up hb).rd.kids);simp only [Int.natCast_add,Int.natCast_one] at KID;have Ub:=hid hbs;have HFI:=hid hfi;have HLA:=hid hla;have bV:=hid bg;clear hx hbs hxs hsz bg hle hins hks hz0 hzk hfi hla Rj hP hbel;generalize uw l k=bf at *;obtain ⟨E1,hE1⟩:∃ E1,E1=oV bf fi la kd t d ti at_ ar ci ks:=⟨_,rfl⟩
    rw [<- hE1] at bV;have NH:=hid hE1;clear hE1;go_upto_region 7 with (fail)
    go_cut [7] (fun s wx=>s=.int .i64 (E1:Int)/\jIx wr.heap.size wr wx)
    case first=>
     cases hz:((dp:Int)==0) with
     | false=>
      rw [hz] at HFI HLA;have h1:fi=false:=HFI.out;have h2:la=false:=HLA.out;have HE2:Hid (E1=oV bf false false kd t d ti at_ ar ci ks):=by show E1=_;rw [NH.out,h1,h2]
      exact jk1
     | true=>
      cases hk0:((k:Int)==0)<;>cases hkl:((k:Int)==(l.length:Int)-1)
      all_goals
       rw [hz,hk0] at HFI;rw [hz,hkl] at HLA;have h1:=HFI.out;have h2:=HLA.out;simp only [Bool.and_true,Bool.and_false,Bool.true_and] at h1 h2;have HE2:=NH;rw [h1,h2] at HE2;exact jk1
    case rest=>
     obtain ⟨rfl,hbc⟩:=hcut;have HPC:=hid (HP.out.up hbc);have BX:=hid hbc;have Ey:=hid (q01 HB.out hbc);clear c0 c1 c2 c3 c4 c5 c6 c7 c8 c9 hbc ONE HFI HLA NH;have c0:=HPC.out.cells.c0;have c9:=HPC.out.cells.c9;by_cases he1:E1=0;case neg=>
      have hn1:((E1:Int) != 0)=true:=by rw [bne_iff_ne];omega
      have HV:Hid (E=E1):=by show E=E1;rw [<- bV.out,if_pos he1]
      clear he1;go_wp2;go_ret;exact ⟨by rw [HV.out];rfl,Ey.out⟩
     subst he1;have fB:Hid ((if aj.aT 0 true (dp+1) ks≠0 then aj.aT 0 true (dp+1) ks else aj.aT kd false dp (l.drop (k+1)))=E):=by show _=E;exact (if_neg (by simp)).symm.trans bV.out
     clear bV;obtain ⟨E2,hE2⟩:∃ E2,E2=aj.aT 0 true (dp+1) ks:=⟨_,rfl⟩;rw [<- hE2] at fB KID;clear hE2;go_wp2_with fail
     refine (KID.out _ BX.out).mono ?_;rintro e w4 ⟨rfl,b4⟩;have HP4:=hid (HPC.out.up b4);have kS:=hid (q01 Ey.out b4);clear b4 c0 c9;have c0:=HP4.out.cells.c0;by_cases he2:E2=0;case neg=>
      have hn2:((E2:Int) != 0)=true:=by rw [bne_iff_ne];omega
      have HV:Hid (E=E2):=by show E=E2;rw [<- fB.out,if_pos he2]
      clear he2;go_wp2;go_ret;exact ⟨by rw [HV.out];rfl,kS.out⟩
     subst he2;have HN:Hid (aj.aT kd false dp (l.drop (k+1))=E):=by show _=E;exact (if_neg (by simp)).symm.trans fB.out
     clear fB;go_wp2;go_roundw;case rel=>exact ⟨k+1,by omega,by go_num,by rw [Ub.out];rfl,kS.out,by rw [Ub.out,decide_eq_false (by omega)];exact HN.out⟩
     case measure=>simp [intOf];omega
   ·have HE:Hid (E=0):=by
     exact VY
    clear bg hbel;generalize uw l k=bf at *;exact jd
theorem FP (l:List aj) (a:Option Addr) (cap:Nat) (w:jIq) (hsm:aj.aC l) (h:Rd (·<w.heap.size) w (bJ l) [.slice a l.length cap]) : Calls Tryz.prog 156 #[.slice a l.length cap] w (dP (.int .i64 (pO l:Nat)) w):=by
 have CK:=hid (Qs _ l 0 a cap w (jFk _) (by omega) hsm h);change Hid (Calls _ _ _ _ (dP (.int .i64 (pO l:Nat)) w)) at CK;generalize pO l=E at *;clear h hsm;go_enter Tryz.func156,Tryz.ntmps156;go_wp2_with fail
 refine CK.out.mono ?_;rintro e w1 ⟨rfl,b1⟩;have HB:=hid b1;clear b1;go_wp2;go_ret;exact ⟨rfl,HB.out⟩
end Go.Proofs.YtklhajbpfelliaaGreatDoor

