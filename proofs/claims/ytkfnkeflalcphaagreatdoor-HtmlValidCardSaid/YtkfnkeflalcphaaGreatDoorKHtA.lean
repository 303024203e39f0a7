/- Contract of html.attributes. -/
import Derived.Test.YtkfnkeflalcphaaGreatDoorKHrM
import Derived.Deep.CutBlock
set_option maxHeartbeats 4000000
set_option maxRecDepth 100000
namespace Go.Proofs.YtkfnkeflalcphaaGreatDoor
open Go.RowKit
set_option linter.unusedVariables false
set_option linter.unusedSimpArgs false
theorem Cu:∀ (l:List ByteArray),Lib.join (l.map (·.data.toList)) [32]=(zu l).data.toList
 | []=>rfl
 | [x]=>by simp [Lib.join,zu]
 | x::y::l=>by
  have:=Cu (y::l);simp only [List.map_cons,Lib.join,zu] at this ⊢;simp [this,ByteArray.data_append,MX]
theorem wR:∀ (l:List ByteArray) (n:Nat),(∀ x∈l,x.size<=n)->(zu l).size<=l.length*(n+1)
 | [],_,_=>by simp [zu];rfl
 | [x],n,h=>by have:=h x (by simp);simp [zu];omega
 | x::y::l,n,h=>by
  have h1:=h x (by simp);have h2:=wR (y::l) n (fun z hz=>h z (by simp [hz]));have e:(MX:ByteArray).size=1:=rfl;simp only [zu,ByteArray.size_append,List.length_cons,e] at h2 ⊢;rw [Nat.add_mul (l.length+1)];omega
theorem Cv (s:ByteArray):(⟨s.data.toList.toArray⟩:ByteArray)=s:=by apply ByteArray.ext;simp
theorem aH.sG {T:TypeId} {k U:Nat} {w0 wb w:World} {ds:List D} {rows:List (List Value)} {v:Value} (h:aH T k (fun _=>False) U w0 ds rows v w) (hs:wb.heap.size<=w0.heap.size) (hb:Below wb.heap.size wb w):aH T k (fun _=>False) U wb ds rows v w:=
 ⟨NU h.own hs,aQ.keep (fun b hb _=>⟨⟨.inr (by rcases hb.1 with h1 | h1;exact h1.elim;omega),hb.2.1,hb.2.2⟩,rfl⟩) _ _ h.red,h.len,hb,h.oU,Nat.le_trans hs h.H6,h.Lv⟩
structure pI (wb w:World) (more:List ByteArray) (v:Value):Prop where
 aN:Below wb.heap.size wb w
 own:w.ownsRow wb.heap.size 9 1 v more.length (more.map Value.string)
theorem pI.nil {wb:World}:pI wb wb [] (.slice none 0 0):=⟨Below.refl _ _,⟨by simp,.inl ⟨rfl,rfl⟩⟩⟩
theorem pI.one (wb:World) (s:ByteArray):pI wb (wb.alloc (.cells #[.string s] 9)) [s] (.slice (some ⟨wb.heap.size,0,none⟩) 1 1):=
 ⟨(Below.refl _ _).alloc (Nat.le_refl _) _,⟨by simp,.inr ⟨wb.heap.size,1,#[.string s],rfl,Nat.le_refl _,heap_alloc_new wb _,by simp,by unfold maxLen;omega,by simp,by simp⟩⟩⟩
theorem q1z (a:At) (more:List ByteArray) (vc vp vm:Value) (wb w:World) (hm:pI wb w more vm) (hR:AtR (·<w.heap.size) w a vc vp) (hl:(more++a.cls).length<=100) (hc:∀ c∈more++a.cls,c.size<=1000) : Calls Tryz.prog 137 #[.agg #[.string a.id,vc,vp],vm] w (bI wb (q0z a more)):=by
 obtain ⟨iP,hiP,zJ,zK,zL⟩:=info_parts pV;obtain ⟨iS,hiS,jf9,jfj,jfk⟩:=info_parts JU;obtain ⟨Ac,Xe,ja0,hvc,hc1,hc2,hc3,hc4,MQ⟩:=Rd.reads hR.cls;obtain ⟨ap,np,cp,rfl⟩:=Rd.au hR.aP;have hrw:=aQ.oG a.cls ja0 hc3;rw [List.length_map] at hvc hc1 MQ;rw [hrw,oH] at MQ;subst hvc;obtain ⟨nm,hnm⟩:∃ nm,nm=more.length:=⟨_,rfl⟩;obtain ⟨nc,hnc⟩:∃ nc,nc=a.cls.length:=⟨_,rfl⟩;obtain ⟨L,hL⟩:∃ L,L=more++a.cls:=⟨_,rfl⟩;have hLn:L.length=nm+nc:=by rw [hL,List.length_append,hnm,hnc]
 have hown:=hm.own;rw [<- hnm] at hown;rw [<- hnc] at hc1 MQ;rw [<- hnc];obtain ⟨am,cm,rfl⟩:=tT hown;obtain ⟨S,hS⟩:∃ S,S=w.heap.size:=⟨_,rfl⟩;obtain ⟨W1,hW1⟩:∃ W,W=w.alloc (.cells #[.string a.id,.slice Ac nc Xe,.slice ap np cp] 45):=⟨_,rfl⟩;have z1:W1.heap.size=S+1:=by rw [hW1,hS];simp
 have k1:CB 45 S [.string a.id,.slice Ac nc Xe,.slice ap np cp] W1:=by rw [hW1,hS];exact CB.new _ _ w
 have b1:Below w.heap.size w W1:=by rw [hW1];exact (Below.refl _ _).alloc (Nat.le_refl _) _
 have hbS:wb.heap.size<=S:=by rw [hS];exact hm.aN.size
 have HB1:=Lib.hid (hm.aN.trans (b1.mono hm.aN.size));have HOWN:=Lib.hid (Y5 hown b1);have HVM:Hid (∀ g,(Value.slice am nm cm).ownBlock=some g->g<S):=fun g hg=>by rw [hS];exact (hown.lt g hg).2
 have HRC:=Lib.hid (MQ.below b1);have HLL:Hid (L=more++a.cls):=hL;have hlL:nm+nc<=100:=by rw [<- hLn,hL];exact hl
 have mX:Hid (∀ c∈L,c.size<=1000):=by rw [hL];exact hc
 have Ec:=Lib.hid hLn;have HNC:=Lib.hid hnc;have HNM:=Lib.hid hnm;have HS:=Lib.hid hS;have HW1:=Lib.hid hW1;have K1:=Lib.hid k1;have Z1:=Lib.hid z1;have e0:=k1.cell 0 _ rfl;have HW0:Hid (wb.heap.size<=W1.heap.size):=by show _<=_;omega
 have EX:a.id.toList.isEmpty=q01 a.id:=by rw [Lib.toList_data,Bool.eq_iff_iff,List.isEmpty_iff,q01,decide_eq_true_iff]
 clear hm hR hl hc hc1 hc2 hc3 hc4 MQ hrw hnm hnc hL hLn hown hS hW1 k1 z1 b1;go_enter Tryz.func137,Tryz.ntmps137
 go_upto_if 9 with (fail)
 rw [<- HS.out,<- HW1.out]
 go_cut [5] (fun v wx=>∃ rows,aH 61 2 (fun _=>False) wx.heap.size W1 ((iJ jZ a.id).map Pr.d) rows v wx)
 case first=>
  by_cases hid:q01 a.id=true
  ·have q1:(!q01 a.id)=false:=by rw [hid];rfl
   have E:Hid (iJ jZ a.id=[]):=by show _=_;unfold iJ;rw [if_pos hid]
   rw [q1];clear hid q1 EX;go_wp2
   go_meet
   rw [E.out];exact ⟨_,aH.nil _ _ _ _⟩
  ·have q1:(!q01 a.id)=true:=by simpa using hid
   have E:Hid ((iJ jZ a.id).map Pr.d=[(⟨jZ,a.id⟩:Pr).d]):=by show _=_;unfold iJ;rw [if_neg hid];rfl
   have RN:=Lib.hid (aH.nil 61 2 (fun _=>False) W1);rw [q1];clear hid q1 EX;go_wp2_with (at_builtin;refine jN (n:=0) (ds:=[]) (rows:=[]) rfl _ _ 24 rfl iP _ 32 Tryz.underlying24 hiP zJ zK zL rfl (by decide) RN.out (fun _=>False.elim) (⟨jZ,a.id⟩:Pr).d [.string ⟨#[105,100]⟩,.string a.id] (Pr.iH _ _ ⟨jZ,a.id⟩) rfl qV rfl (by decide) (by decide) rfl rfl ?_)
   intro a' c' w5 hrow hg5;have bU:=Lib.hid hrow;clear hrow hg5;go_wp2
   go_meet
   rw [E.out];exact ⟨_,bU.out⟩
 case rest=>
  obtain ⟨rows,hrow⟩:=hcut;obtain ⟨w2,hw2⟩:∃ w2:World,w2=wc:=⟨_,rfl⟩;subst hw2;obtain ⟨n0,hn0⟩:∃ n0,n0=((iJ jZ a.id).map Pr.d).length:=⟨_,rfl⟩;obtain ⟨av,cv,rfl,-,-⟩:=hrow.cap hn0.symm;have jl9:n0<=1:=by rw [hn0];unfold iJ;split<;>simp
  have HN0:=Lib.hid hn0.symm;have hbel:=hrow.aN;have bU:=Lib.hid hrow;have KA:=Lib.hid (K1.out.below hbel);have e1:=KA.out.cell 1 _ rfl;have OW:=Lib.hid (Y5 HOWN.out hbel);have RC:=Lib.hid (HRC.out.below (hbel.mono (by have:=HS.out;have:=Z1.out;omega)));have HB2:=Lib.hid (HB1.out.trans (hbel.mono HW0.out));have hw2:=HB2.out.size;clear hrow hbel hn0 HB1 HOWN HRC e0;go_upto_region 4 with (fail)
  go_wp2_with (at_builtin;refine Wv _ rfl _ _ 43 rfl wb.heap.size 9 iS _ 1 16 Tryz.underlying43 hiS jf9 jfj jfk rfl (by decide) _ nm (more.map Value.string) rfl OW.out w.heap.size Ac nc Xe (a.cls.map Value.string) rfl RC.out (by intro u hu;obtain ⟨x,-,rfl⟩:=List.mem_map.1 hu;rfl) (by unfold maxLen;omega) (by omega) (by omega) ?_)
  intro v3 w3 hown3 hg3 uQ;obtain ⟨a3,c3,rfl⟩:=tT hown3;have RU3:∃ w0',w0'.heap.size=W1.heap.size/\aH 61 2 (fun _=>False) w2.heap.size w0' ((iJ jZ a.id).map Pr.d) rows (.slice av n0 cv) w3:=by
   cases hob:(Value.slice am nm cm).ownBlock with
   | none=>rw [hob] at hg3;exact ⟨W1,rfl,bU.out.grown hg3⟩
   | some g=>
    rw [hob] at hg3;exact bU.out.hop2 (by have:=HVM.out g hob;have:=Z1.out;omega) hg3
  obtain ⟨w0',hz0',hrow3⟩:=RU3;have U3:=Lib.hid hrow3;have HB3:=Lib.hid (HB2.out.grown hg3 hw2 (fun g hg=>(OW.out.lt g hg).1));have OW3:Hid (w3.ownsRow wb.heap.size 9 1 (.slice a3 (nm+nc) c3) L.length (L.map Value.string)):=by show World.ownsRow _ _ _ _ _ _ _;rw [Ec.out,HLL.out,List.map_append];exact hown3
  have HZ0:=Lib.hid hz0';clear hown3 hg3 uQ hrow3 hz0' OW RC bU KA e1;by_cases h0:nm+nc=0
  ·have E:Hid (q0z a more=iJ jZ a.id):=by
    show _=_;have:more++a.cls=[]:=by rw [<- HLL.out];exact List.eq_nil_of_length_eq_zero (by rw [Ec.out,h0])
    unfold q0z Hw;rw [this];simp
   have HF:Hid (bI wb (q0z a more) (.returned (.slice av n0 cv)) w3):=by show bI _ _ _ _;rw [E.out];exact ⟨rows,_,rfl,(U3.out.sG (by have:=HZ0.out;have:=HW0.out;omega) HB3.out).top⟩
   rw [h0];clear h0;go_wp2;go_ret;exact HF.out
  ·have q1:decide ((0:Int)<((nm+nc:Nat):Int))=true:=decide_eq_true (by omega);have q2:decide (0<nm+nc)=true:=decide_eq_true (by omega);obtain ⟨n,hn⟩:∃ n,n=nm+nc:=⟨_,rfl⟩;have hjl:=wR L 1000 mX.out;have jlj:0<n:=by omega
   have jl0:n<=100:=by omega
   have JN:=NJ L ⟨#[32]⟩ (.slice a3 n c3) w3 (by rw [hn];have:=RY.Xf OW3.out;rwa [Ec.out] at this ⊢) (by
    rw [show (⟨#[32]⟩:ByteArray).data.toList=[32] from rfl,Cu];have:(zu L).data.toList.length=(zu L).size:=by simp
    rw [this];rw [Ec.out] at hjl;omega) (by rw [Ec.out];omega)
   rw [show (⟨#[32]⟩:ByteArray).data.toList=[32] from rfl,Cu,Cv] at JN;have HJ:=Lib.hid JN;have E:Hid ((q0z a more).map Pr.d=(iJ jZ a.id).map Pr.d++[(⟨eX,zu L⟩:Pr).d]):=by
    show _=_;unfold q0z Hw;have hne:¬ (more++a.cls).isEmpty=true:=by rw [<- HLL.out,List.isEmpty_iff];intro e;have h9:=Ec.out;rw [e,List.length_nil] at h9;omega
    rw [if_neg hne,List.map_append,HLL.out];rfl
   rw [<- hn];have q3:decide ((0:Int)<(n:Int))=true:=decide_eq_true (by omega);have q4:decide (0<n)=true:=decide_eq_true (by omega);clear JN h0 q1 q2 hn hjl;go_wp2_with fail
   (with_reducible refine HJ.out.mono ?_)
   rintro e w4 ⟨rfl,b4⟩;have U4:=Lib.hid (U3.out.below b4);have zm:=Lib.hid (HB3.out.trans (b4.mono HB3.out.size));clear HJ b4 U3 HB3 OW3;go_wp2_with (at_builtin;refine jN (n:=n0) rfl _ _ 24 rfl iP _ 32 Tryz.underlying24 hiP zJ zK zL rfl (by decide) U4.out (fun _=>False.elim) (⟨eX,zu L⟩:Pr).d [.string ⟨#[99,108,97,115,115]⟩,.string (zu L)] (Pr.iH _ _ ⟨eX,zu L⟩) rfl qV HN0.out (by omega) (by decide) rfl rfl ?_)
   intro a5 c5 w5 hrow hg5;have HF:Hid (bI wb (q0z a more) (.returned (.slice a5 (n0+1) c5)) w5):=by have h1:=zm.out;have h2:Below wb.heap.size wb w5:=(h1.alloc h1.size _).grown hg5 (by have:=h1.size;simp;omega) (fun g hg=>by have:=(U4.out.own.lt g hg).1;have:=HZ0.out;have:=HW0.out;omega);have h3:=hrow.sG (by have:=HZ0.out;have:=HW0.out;omega) h2;rw [<- E.out] at h3;exact ⟨_,_,rfl,h3⟩
   clear hrow hg5 U4 zm;go_wp2;go_ret;exact HF.out
end Go.Proofs.YtkfnkeflalcphaaGreatDoor

