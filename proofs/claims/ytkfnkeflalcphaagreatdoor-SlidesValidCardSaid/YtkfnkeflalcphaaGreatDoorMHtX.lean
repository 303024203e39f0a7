/- Contract of html.attributes. Contract of html.inline, given that of html.line at the Kids. Contract of publisherref33.Same: at equal nodes it answers true. Contract of the function that markup.Values calls for each node (markup.Values$1): the values of a key, one behind the other. Contracts of markup.Values and html.Anchors. -/
import Derived.Test.YtkfnkeflalcphaaGreatDoorMHrM
import Derived.Deep.CutBlock
set_option maxHeartbeats 4000000
set_option maxRecDepth 100000
namespace Go.Proofs.YtkfnkeflalcphaaGreatDoor
open Tryz
open Go.RowKit.Below renaming refl->jK7,heap_setCell->jL1
open Nat renaming le_refl->jK8,le_trans->jK9
open Go renaming World->jN9,Value->jNk
open Go.RowKit renaming Below->jNj
open Go.RowKit
set_option linter.unusedVariables false
set_option linter.unusedSimpArgs false
theorem Gn:∀ (l:List ByteArray),Lib.join (l.map (·.data.toList)) [32]=(C9 l).data.toList
 | []=>rfl
 | [x]=>by simp [Lib.join,C9]
 | x::y::l=>by
  have:=Gn (y::l);simp only [List.map_cons,Lib.join,C9] at this ⊢;simp [this,ByteArray.data_append,TA]
theorem Af:∀ (l:List ByteArray) (n:Nat),(∀ x∈l,x.size<=n)->(C9 l).size<=l.length*(n+1)
 | [],_,_=>by simp [C9];rfl
 | [x],n,h=>by have:=h x (by simp);simp [C9];omega
 | x::y::l,n,h=>by
  have h1:=h x (by simp);have h2:=Af (y::l) n (fun z hz=>h z (by simp [hz]));have e:(TA:ByteArray).size=1:=rfl;simp only [C9,ByteArray.size_append,List.length_cons,e] at h2 ⊢;rw [Nat.add_mul (l.length+1)];omega
theorem Gp (s:ByteArray):(⟨s.data.toList.toArray⟩:ByteArray)=s:=by apply ByteArray.ext;simp
theorem aC.Ag {T:TypeId} {k U:Nat} {w0 wb w:jN9} {ds:List D} {rows:List (List jNk)} {v:jNk} (h:aC T k (fun _=>False) U w0 ds rows v w) (hs:wb.heap.size<=w0.heap.size) (hb:jNj wb.heap.size wb w):aC T k (fun _=>False) U wb ds rows v w:=
 ⟨Jf h.own hs,aO.keep (fun b hb _=>⟨⟨.inr (by rcases hb.1 with h1 | h1;exact h1.elim;omega),hb.2.1,hb.2.2⟩,rfl⟩) _ _ h.red,h.len,hb,h.oU,jK9 hs h.qL,h.CZ⟩
structure qK (wb w:jN9) (more:List ByteArray) (v:jNk):Prop where
 aY:jNj wb.heap.size wb w
 own:w.ownsRow wb.heap.size 9 1 v more.length (more.map Value.string)
theorem qK.nil {wb:jN9}:qK wb wb [] (.slice none 0 0):=⟨jK7 _ _,⟨by simp,.inl ⟨rfl,rfl⟩⟩⟩
theorem qK.one (wb:jN9) (s:ByteArray):qK wb (wb.alloc (.cells #[.string s] 9)) [s] (.slice (some ⟨wb.heap.size,0,none⟩) 1 1):=
 ⟨(jK7 _ _).alloc (jK8 _) _,⟨by simp,.inr ⟨wb.heap.size,1,#[.string s],rfl,jK8 _,heap_alloc_new wb _,by simp,by unfold maxLen;omega,by simp,by simp⟩⟩⟩
theorem q2m (a:At) (more:List ByteArray) (vc vp vm:jNk) (wb w:jN9) (hm:qK wb w more vm) (hR:AtR (·<w.heap.size) w a vc vp) (hl:(more++a.cls).length<=100) (hc:∀ c∈more++a.cls,c.size<=1000) : Calls prog 137 #[.agg #[.string a.id,vc,vp],vm] w (bV wb (ko a more)):=by
 obtain ⟨iP,hiP,Du,Dv,Dw⟩:=info_parts qZ;obtain ⟨iS,hiS,jrq,jrx,jrz⟩:=info_parts Jd;obtain ⟨Ac,js0,jx7,hvc,hc1,hc2,hc3,hc4,Q5⟩:=Rd.reads hR.cls;obtain ⟨ap,np,cp,rfl⟩:=Rd.au hR.aD;have hrw:=aO.pO a.cls jx7 hc3;rw [List.length_map] at hvc hc1 Q5;rw [hrw,pQ] at Q5;subst hvc;obtain ⟨nm,hnm⟩:∃ nm,nm=more.length:=⟨_,rfl⟩;obtain ⟨nc,hnc⟩:∃ nc,nc=a.cls.length:=⟨_,rfl⟩;obtain ⟨L,hL⟩:∃ L,L=more++a.cls:=⟨_,rfl⟩;have hLn:L.length=nm+nc:=by rw [hL,List.length_append,hnm,hnc]
 have hown:=hm.own;rw [<- hnm] at hown;rw [<- hnc] at hc1 Q5;rw [<- hnc];obtain ⟨am,cm,rfl⟩:=lD hown;obtain ⟨S,hS⟩:∃ S,S=w.heap.size:=⟨_,rfl⟩;obtain ⟨W1,hW1⟩:∃ W,W=w.alloc (.cells #[.string a.id,.slice Ac nc js0,.slice ap np cp] 45):=⟨_,rfl⟩;have z1:W1.heap.size=S+1:=by rw [hW1,hS];simp
 have k1:CB 45 S [.string a.id,.slice Ac nc js0,.slice ap np cp] W1:=by rw [hW1,hS];exact CB.new _ _ w
 have b1:jNj w.heap.size w W1:=by rw [hW1];exact (jK7 _ _).alloc (jK8 _) _
 have hbS:wb.heap.size<=S:=by rw [hS];exact hm.aY.size
 have HB1:=Lib.hid (hm.aY.trans (b1.mono hm.aY.size));have HOWN:=Lib.hid (UW hown b1);have HVM:Hid (∀ g,(Value.slice am nm cm).ownBlock=some g->g<S):=fun g hg=>by rw [hS];exact (hown.lt g hg).2
 have O9:=Lib.hid (Q5.below b1);have HLL:Hid (L=more++a.cls):=hL;have hlL:nm+nc<=100:=by rw [<- hLn,hL];exact hl
 have nu:Hid (∀ c∈L,c.size<=1000):=by rw [hL];exact hc
 have TD:=Lib.hid hLn;have HNC:=Lib.hid hnc;have HNM:=Lib.hid hnm;have HS:=Lib.hid hS;have HW1:=Lib.hid hW1;have K1:=Lib.hid k1;have Z1:=Lib.hid z1;have e0:=k1.cell 0 _ rfl;have HW0:Hid (wb.heap.size<=W1.heap.size):=by show _<=_;omega
 have UJ:a.id.toList.isEmpty=aV a.id:=by rw [Lib.toList_data,Bool.eq_iff_iff,List.isEmpty_iff,aV,decide_eq_true_iff]
 clear hm hR hl hc hc1 hc2 hc3 hc4 Q5 hrw hnm hnc hL hLn hown hS hW1 k1 z1 b1;go_enter func137,ntmps137
 go_upto_if 9 with (fail)
 rw [<- HS.out,<- HW1.out]
 go_cut [5] (fun v wx=>∃ rows,aC 61 2 (fun _=>False) wx.heap.size W1 ((jm pR a.id).map Pr.d) rows v wx)
 case first=>
  by_cases hid:aV a.id=true
  ·have q1:(!aV a.id)=false:=by rw [hid];rfl
   have E:Hid (jm pR a.id=[]):=by show _=_;unfold jm;rw [if_pos hid]
   rw [q1];clear hid q1 UJ;go_wp2
   go_meet
   rw [E.out];exact ⟨_,aC.nil _ _ _ _⟩
  ·have q1:(!aV a.id)=true:=by simpa using hid
   have E:Hid ((jm pR a.id).map Pr.d=[(⟨pR,a.id⟩:Pr).d]):=by show _=_;unfold jm;rw [if_neg hid];rfl
   have RN:=Lib.hid (aC.nil 61 2 (fun _=>False) W1);rw [q1];clear hid q1 UJ;go_wp2_with (at_builtin;refine fF (n:=0) (ds:=[]) (rows:=[]) rfl _ _ 24 rfl iP _ 32 underlying24 hiP Du Dv Dw rfl (by decide) RN.out (fun _=>False.elim) (⟨pR,a.id⟩:Pr).d [.string ⟨#[105,100]⟩,.string a.id] (Pr.fC _ _ ⟨pR,a.id⟩) rfl yR rfl (by decide) (by decide) rfl rfl ?_)
   intro a' c' w5 hrow hg5;have bR:=Lib.hid hrow;clear hrow hg5;go_wp2
   go_meet
   rw [E.out];exact ⟨_,bR.out⟩
 case rest=>
  obtain ⟨rows,hrow⟩:=hcut;obtain ⟨w2,hw2⟩:∃ w2:jN9,w2=wc:=⟨_,rfl⟩;subst hw2;obtain ⟨n0,hn0⟩:∃ n0,n0=((jm pR a.id).map Pr.d).length:=⟨_,rfl⟩;obtain ⟨av,cv,rfl,-,-⟩:=hrow.cap hn0.symm;have jIx:n0<=1:=by rw [hn0];unfold jm;split<;>simp
  have HN0:=Lib.hid hn0.symm;have hbel:=hrow.aY;have bR:=Lib.hid hrow;have KA:=Lib.hid (K1.out.below hbel);have e1:=KA.out.cell 1 _ rfl;have OW:=Lib.hid (UW HOWN.out hbel);have RC:=Lib.hid (O9.out.below (hbel.mono (by have:=HS.out;have:=Z1.out;omega)));have HB2:=Lib.hid (HB1.out.trans (hbel.mono HW0.out));have hw2:=HB2.out.size;clear hrow hbel hn0 HB1 HOWN O9 e0;go_upto_region 4 with (fail)
  go_wp2_with (at_builtin;refine Iu _ rfl _ _ 43 rfl wb.heap.size 9 iS _ 1 16 underlying43 hiS jrq jrx jrz rfl (by decide) _ nm (more.map Value.string) rfl OW.out w.heap.size Ac nc js0 (a.cls.map Value.string) rfl RC.out (by intro u hu;obtain ⟨x,-,rfl⟩:=List.mem_map.1 hu;rfl) (by unfold maxLen;omega) (by omega) (by omega) ?_)
  intro v3 w3 hown3 hg3 zX;obtain ⟨a3,c3,rfl⟩:=lD hown3;have RU3:∃ w0',w0'.heap.size=W1.heap.size/\aC 61 2 (fun _=>False) w2.heap.size w0' ((jm pR a.id).map Pr.d) rows (.slice av n0 cv) w3:=by
   cases hob:(Value.slice am nm cm).ownBlock with
   | none=>rw [hob] at hg3;exact ⟨W1,rfl,bR.out.grown hg3⟩
   | some g=>
    rw [hob] at hg3;exact bR.out.hop2 (by have:=HVM.out g hob;have:=Z1.out;omega) hg3
  obtain ⟨w0',hz0',hrow3⟩:=RU3;have U3:=Lib.hid hrow3;have HB3:=Lib.hid (HB2.out.grown hg3 hw2 (fun g hg=>(OW.out.lt g hg).1));have OW3:Hid (w3.ownsRow wb.heap.size 9 1 (.slice a3 (nm+nc) c3) L.length (L.map Value.string)):=by show World.ownsRow _ _ _ _ _ _ _;rw [TD.out,HLL.out,List.map_append];exact hown3
  have HZ0:=Lib.hid hz0';clear hown3 hg3 zX hrow3 hz0' OW RC bR KA e1;by_cases h0:nm+nc=0
  ·have E:Hid (ko a more=jm pR a.id):=by
    show _=_;have:more++a.cls=[]:=by rw [<- HLL.out];exact List.eq_nil_of_length_eq_zero (by rw [TD.out,h0])
    unfold ko MK;rw [this];simp
   have HF:Hid (bV wb (ko a more) (.returned (.slice av n0 cv)) w3):=by show bV _ _ _ _;rw [E.out];exact ⟨rows,_,rfl,(U3.out.Ag (by have:=HZ0.out;have:=HW0.out;omega) HB3.out).top⟩
   rw [h0];clear h0;go_wp2;go_ret;exact HF.out
  ·have q1:decide ((0:Int)<((nm+nc:Nat):Int))=true:=decide_eq_true (by omega);have q2:decide (0<nm+nc)=true:=decide_eq_true (by omega);obtain ⟨n,hn⟩:∃ n,n=nm+nc:=⟨_,rfl⟩;have hjl:=Af L 1000 nu.out;have jIz:0<n:=by omega
   have jI5:n<=100:=by omega
   have JN:=U0 L ⟨#[32]⟩ (.slice a3 n c3) w3 (by rw [hn];have:=Dt.mE OW3.out;rwa [TD.out] at this ⊢) (by
    rw [show (⟨#[32]⟩:ByteArray).data.toList=[32] from rfl,Gn];have:(C9 L).data.toList.length=(C9 L).size:=by simp
    rw [this];rw [TD.out] at hjl;omega) (by rw [TD.out];omega)
   rw [show (⟨#[32]⟩:ByteArray).data.toList=[32] from rfl,Gn,Gp] at JN;have HJ:=Lib.hid JN;have E:Hid ((ko a more).map Pr.d=(jm pR a.id).map Pr.d++[(⟨gV,C9 L⟩:Pr).d]):=by
    show _=_;unfold ko MK;have hne:¬ (more++a.cls).isEmpty=true:=by rw [<- HLL.out,List.isEmpty_iff];intro e;have h9:=TD.out;rw [e,List.length_nil] at h9;omega
    rw [if_neg hne,List.map_append,HLL.out];rfl
   rw [<- hn];have q3:decide ((0:Int)<(n:Int))=true:=decide_eq_true (by omega);have q4:decide (0<n)=true:=decide_eq_true (by omega);clear JN h0 q1 q2 hn hjl;go_wp2_with fail
   (with_reducible refine HJ.out.mono ?_)
   rintro e w4 ⟨rfl,b4⟩;have U4:=Lib.hid (U3.out.below b4);have lC:=Lib.hid (HB3.out.trans (b4.mono HB3.out.size));clear HJ b4 U3 HB3 OW3;go_wp2_with (at_builtin;refine fF (n:=n0) rfl _ _ 24 rfl iP _ 32 underlying24 hiP Du Dv Dw rfl (by decide) U4.out (fun _=>False.elim) (⟨gV,C9 L⟩:Pr).d [.string ⟨#[99,108,97,115,115]⟩,.string (C9 L)] (Pr.fC _ _ ⟨gV,C9 L⟩) rfl yR HN0.out (by omega) (by decide) rfl rfl ?_)
   intro a5 c5 w5 hrow hg5;have HF:Hid (bV wb (ko a more) (.returned (.slice a5 (n0+1) c5)) w5):=by have h1:=lC.out;have h2:jNj wb.heap.size wb w5:=(h1.alloc h1.size _).grown hg5 (by have:=h1.size;simp;omega) (fun g hg=>by have:=(U4.out.own.lt g hg).1;have:=HZ0.out;have:=HW0.out;omega);have h3:=hrow.Ag (by have:=HZ0.out;have:=HW0.out;omega) h2;rw [<- E.out] at h3;exact ⟨_,_,rfl,h3⟩
   clear hrow hg5 U4 lC;go_wp2;go_ret;exact HF.out
open Go.RowKit
def Jr (w:jN9) (ks:List aj) (vk:jNk):Prop:=∀ W:jN9,jNj w.heap.size w W->Calls prog 78 #[vk] W (dP W (kP ks))
def LQ:List jNk:=[.string ⟨#[]⟩,.string ⟨#[]⟩,.slice none 0 0,.slice none 0 0]
def four (w:jN9) (p:Nat) (c0 c1 c2 c3:jNk):jN9:=(((w.setCell ⟨p,0,none⟩ c0).setCell ⟨p,1,none⟩ c1).setCell ⟨p,2,none⟩ c2).setCell ⟨p,3,none⟩ c3
theorem iH (w:jN9) (p:Nat) (c0 c1 c2 c3:jNk) (b:Nat) (h:b≠p):(four w p c0 c1 c2 c3).heap[b]?=w.heap[b]?:=by unfold four;rw [jL1 _ ⟨p,3,none⟩ _ b h,jL1 _ ⟨p,2,none⟩ _ b h,jL1 _ ⟨p,1,none⟩ _ b h,jL1 _ ⟨p,0,none⟩ _ b h]
theorem Q6 {w:jN9} {p:Nat} {c0 c1 c2 c3:jNk} {b o:Nat} {v:jNk} (h:w.cell? ⟨b,o,none⟩=some v) (hb:b≠p):(four w p c0 c1 c2 c3).cell? ⟨b,o,none⟩=some v:=by rw [lI (iH w p c0 c1 c2 c3 b hb)];exact h
theorem xG (S:Nat) (w:jN9) (a b c d:jNk) (o:Nat) (v:jNk) (h:w.cell? ⟨S,o,none⟩=some v) : World.cell? ((((w.setCell ⟨S+1,0,none⟩ a).setCell ⟨S+1,1,none⟩ b).setCell ⟨S+1,2,none⟩ c).setCell ⟨S+1,3,none⟩ d) ⟨S,o,none⟩=some v:=Q6 h (by show S≠S+1;omega)
theorem dS {T:TypeId} {p:Nat} {cs:List jNk} {w:jN9} (h:CB T p cs w) (j:Nat) (u:jNk):CB T p (cs.set j u) (w.setCell ⟨p,j,none⟩ u):=by unfold CB at h ⊢;exact Jo
theorem Pb {T:TypeId} {p:Nat} {a0 a1 a2 a3:jNk} {w:jN9} (h:CB T p [a0,a1,a2,a3] w) (c0 c1 c2 c3:jNk):CB T p [c0,c1,c2,c3] (four w p c0 c1 c2 c3):=
 dS (dS (dS (dS h 0 c0) 1 c1) 2 c2) 3 c3
theorem Ah {B p:Nat} {a w:jN9} (h:jNj B a w) (hp:B<=p) (c0 c1 c2 c3:jNk):jNj B a (four w p c0 c1 c2 c3):=
 (((h.setCell (p:=⟨p,0,none⟩) hp c0).setCell (p:=⟨p,1,none⟩) hp c1).setCell (p:=⟨p,2,none⟩) hp c2).setCell (p:=⟨p,3,none⟩) hp c3
theorem vT (T:TypeId) (w:jN9) (xc:List jNk):∃ S W0,S=w.heap.size/\W0=(w.alloc (.cells xc.toArray T)).alloc (.cells LQ.toArray 35)/\W0.heap.size=S+2/\CB T S xc W0/\CB 35 (S+1) LQ W0/\jNj S w W0:=by
 refine ⟨_,_,rfl,rfl,by simp,?_,?_,((jK7 _ _).alloc (jK8 _) _).alloc (by simp) _⟩
 ·exact (Below.heap_alloc _ _ _ (by simp)).trans (CB.new _ _ w)
 ·have:=CB.new 35 LQ (w.alloc (.cells xc.toArray T))
  rwa [World.size_alloc] at this
theorem jx8 {T:TypeId} {S:Nat} {W0:jN9} {x0 x1 x2 x3 x4 x5 x6 x7 x8 x9:jNk} (k0:CB T S [x0,x1,x2,x3,x4,x5,x6,x7,x8,x9] W0) : Hid (∀ w':jN9,jNj W0.heap.size W0 w'->w'.cell? ⟨S,1,none⟩=some x1/\w'.cell? ⟨S,2,none⟩=some x2/\w'.cell? ⟨S,3,none⟩=some x3/\w'.cell? ⟨S,4,none⟩=some x4/\w'.cell? ⟨S,5,none⟩=some x5/\w'.cell? ⟨S,6,none⟩=some x6/\w'.cell? ⟨S,9,none⟩=some x9):=
 fun w' hb=>⟨(k0.below hb).cell 1 _ rfl,(k0.below hb).cell 2 _ rfl,(k0.below hb).cell 3 _ rfl,(k0.below hb).cell 4 _ rfl,(k0.below hb).cell 5 _ rfl,(k0.below hb).cell 6 _ rfl,(k0.below hb).cell 9 _ rfl⟩
theorem jx9 {T:TypeId} {S:Nat} {W0:jN9} {x0 x1 x2 x3 x4 x5 x6 x7 x8 x9 x10:jNk} (k0:CB T S [x0,x1,x2,x3,x4,x5,x6,x7,x8,x9,x10] W0) : Hid (∀ w':jN9,jNj W0.heap.size W0 w'->w'.cell? ⟨S,1,none⟩=some x1/\w'.cell? ⟨S,2,none⟩=some x2/\w'.cell? ⟨S,3,none⟩=some x3/\w'.cell? ⟨S,4,none⟩=some x4/\w'.cell? ⟨S,5,none⟩=some x5/\w'.cell? ⟨S,6,none⟩=some x6/\w'.cell? ⟨S,7,none⟩=some x7/\w'.cell? ⟨S,8,none⟩=some x8/\w'.cell? ⟨S,9,none⟩=some x9/\w'.cell? ⟨S,10,none⟩=some x10):=
 fun w' hb=>⟨(k0.below hb).cell 1 _ rfl,(k0.below hb).cell 2 _ rfl,(k0.below hb).cell 3 _ rfl,(k0.below hb).cell 4 _ rfl,(k0.below hb).cell 5 _ rfl,(k0.below hb).cell 6 _ rfl,(k0.below hb).cell 7 _ rfl,(k0.below hb).cell 8 _ rfl,(k0.below hb).cell 9 _ rfl,(k0.below hb).cell 10 _ rfl⟩
theorem vD.upH {S:Nat} {w W0:jN9} {at_:At} {ar:List ByteArray} {ci:List Ci} {ks:List aj} {vc vp va vi vk:jNk} (hS:S=w.heap.size) (hR:vD (·<w.heap.size) w at_ ar ci ks vc vp va vi vk) (b0:jNj S w W0):Hid (vD (·<S) W0 at_ ar ci ks vc vp va vi vk):=by subst hS;exact ⟨hR.at_.below b0,hR.args.below b0,hR.dH.below b0,hR.kids.below b0⟩
theorem kG.upH {S:Nat} {w W0:jN9} {at_:At} {li:List aj} {ks:List ah} {vc vp vl vk:jNk} (hS:S=w.heap.size) (hR:kG (·<w.heap.size) w at_ li ks vc vp vl vk) (b0:jNj S w W0):Hid (kG (·<S) W0 at_ li ks vc vp vl vk):=by subst hS;exact ⟨hR.at_.below b0,hR.line.below b0,hR.kids.below b0⟩
theorem Uy {S:Nat} {w W0:jN9} {P:jN9->Prop} (hS:S=w.heap.size) (hl:∀ W,jNj w.heap.size w W->P W) (b0:jNj S w W0):Hid (∀ W,jNj W0.heap.size W0 W->P W):=
 fun W hW=>hl W (by rw [<- hS];exact b0.trans (hW.mono (by have:=b0.size;omega)))
theorem lS {P:jN9->Prop} {at_:At} {ar:List ByteArray} {ci:List Ci} {ks:List aj} {vc vp va vi vk:jNk} {w:jN9} (kv:jNk) (t d ti:ByteArray) (hR:vD (·<w.heap.size) w at_ ar ci ks vc vp va vi vk) (hl:∀ W,jNj w.heap.size w W->P W) : ∃ ac nc cc ap np cp aa na ca ai ni yx ak nk ck S W0,vc=.slice ac nc cc/\vp=.slice ap np cp/\va=.slice aa na ca/\vi=.slice ai ni yx/\vk=.slice ak nk ck/\Hid (S=w.heap.size) /\ Hid (W0=(w.alloc (.cells [kv,.string t,.string d,.string ti,.string at_.id,vc,vp,va,vi,vk].toArray 66)).alloc (.cells LQ.toArray 35))/\W0.cell? ⟨S,0,none⟩=some kv /\ Hid (∀ w':jN9,jNj W0.heap.size W0 w'->w'.cell? ⟨S,1,none⟩=some (.string t)/\w'.cell? ⟨S,2,none⟩=some (.string d)/\w'.cell? ⟨S,3,none⟩=some (.string ti)/\w'.cell? ⟨S,4,none⟩=some (.string at_.id)/\w'.cell? ⟨S,5,none⟩=some vc/\w'.cell? ⟨S,6,none⟩=some vp/\w'.cell? ⟨S,9,none⟩=some vk) /\ Hid (∀ W,jNj W0.heap.size W0 W->P W)/\Hid (vD (·<S) W0 at_ ar ci ks vc vp va vi vk)/\Hid (W0.heap.size=S+2)/\Hid (jNj S w W0)/\Hid (CB 35 (S+1) LQ W0):=by
 obtain ⟨ac,nc,cc,rfl⟩:=Rd.au hR.at_.cls
 obtain ⟨ap,np,cp,rfl⟩:=Rd.au hR.at_.aD
 obtain ⟨aa,na,ca,rfl⟩:=Rd.au hR.args;obtain ⟨ai,ni,yx,rfl⟩:=Rd.au hR.dH;obtain ⟨ak,nk,ck,rfl⟩:=Rd.au hR.kids;obtain ⟨S,W0,hS,hW0,z0,k0,k1,b0⟩:=vT 66 w [kv,.string t,.string d,.string ti,.string at_.id,.slice ac nc cc,.slice ap np cp,.slice aa na ca,.slice ai ni yx,.slice ak nk ck];exact ⟨ac,nc,cc,ap,np,cp,aa,na,ca,ai,ni,yx,ak,nk,ck,S,W0,rfl,rfl,rfl,rfl,rfl,hS,hW0,k0.cell 0 _ rfl,jx8 k0,Uy hS hl b0,vD.upH hS hR b0,z0,b0,k1⟩
theorem lM {at_:At} {li:List aj} {ks:List ah} {vc vp vl vk:jNk} {w:jN9} (kv:jNk) (lv:Int) (i t d ti:ByteArray) (hR:kG (·<w.heap.size) w at_ li ks vc vp vl vk) : ∃ ac nc cc ap np cp al nl cl ak nk ck S W0,vc=.slice ac nc cc/\vp=.slice ap np cp/\vl=.slice al nl cl/\vk=.slice ak nk ck/\Hid (S=w.heap.size) /\ Hid (W0=(w.alloc (.cells [kv,.int .i64 lv,.string i,.string t,.string d,.string ti,.string at_.id,vc,vp,vl,vk].toArray 48)).alloc (.cells LQ.toArray 35))/\W0.cell? ⟨S,0,none⟩=some kv /\ Hid (∀ w':jN9,jNj W0.heap.size W0 w'->w'.cell? ⟨S,1,none⟩=some (.int .i64 lv)/\w'.cell? ⟨S,2,none⟩=some (.string i)/\w'.cell? ⟨S,3,none⟩=some (.string t)/\w'.cell? ⟨S,4,none⟩=some (.string d)/\w'.cell? ⟨S,5,none⟩=some (.string ti)/\w'.cell? ⟨S,6,none⟩=some (.string at_.id)/\w'.cell? ⟨S,7,none⟩=some vc/\w'.cell? ⟨S,8,none⟩=some vp/\w'.cell? ⟨S,9,none⟩=some vl/\w'.cell? ⟨S,10,none⟩=some vk) /\ Hid (kG (·<S) W0 at_ li ks vc vp vl vk)/\Hid (W0.heap.size=S+2)/\Hid (jNj S w W0)/\Hid (CB 35 (S+1) LQ W0):=by
 obtain ⟨ac,nc,cc,rfl⟩:=Rd.au hR.at_.cls
 obtain ⟨ap,np,cp,rfl⟩:=Rd.au hR.at_.aD
 obtain ⟨al,nl,cl,rfl⟩:=Rd.au hR.line;obtain ⟨ak,nk,ck,rfl⟩:=Rd.au hR.kids;obtain ⟨S,W0,hS,hW0,z0,k0,k1,b0⟩:=vT 48 w [kv,.int .i64 lv,.string i,.string t,.string d,.string ti,.string at_.id,.slice ac nc cc,.slice ap np cp,.slice al nl cl,.slice ak nk ck];exact ⟨ac,nc,cc,ap,np,cp,al,nl,cl,ak,nk,ck,S,W0,rfl,rfl,rfl,rfl,hS,hW0,k0.cell 0 _ rfl,jx9 k0,kG.upH hS hR b0,z0,b0,k1⟩
theorem Aj {T:TypeId} {p:Nat} {cs:List jNk} {w:jN9} (h:CB T p cs w) (j:Nat):w.frozen? ⟨p,j,none⟩=false:=by unfold CB at h;simp [World.frozen?,h]
theorem Ep {p:Nat} {w:jN9} (h:CB 35 p LQ w):w.cell? ⟨p,0,none⟩=some (.string ⟨#[]⟩)/\w.cell? ⟨p,1,none⟩=some (.string ⟨#[]⟩)/\w.cell? ⟨p,2,none⟩=some (.slice none 0 0)/\w.cell? ⟨p,3,none⟩=some (.slice none 0 0)/\∀ j,w.frozen? ⟨p,j,none⟩=false:=
 ⟨h.cell 0 _ rfl,h.cell 1 _ rfl,h.cell 2 _ rfl,h.cell 3 _ rfl,Aj h⟩
theorem gX {S:Nat} {w W0 w3:jN9} (n t:ByteArray) (at_:List Pr) (ks:List Nd) {va vk:jNk} (hS:S=w.heap.size) (z0:W0.heap.size=S+2) (b0:jNj S w W0) (k1:CB 35 (S+1) LQ W0) (b3:jNj W0.heap.size W0 w3) (hR:nC (W0.heap.size<=·) w3 at_ ks va vk) : CB 35 (S+1) [.string n,.string t,va,vk] (four w3 (S+1) (.string n) (.string t) va vk)/\q1z w (.mk n t at_ ks) (.returned (.agg #[.string n,.string t,va,vk])) (four w3 (S+1) (.string n) (.string t) va vk):=by refine ⟨Pb (k1.below b3) _ _ _ _,va,vk,rfl,hR.keep (fun b hb hlt=>⟨by omega,iH _ _ _ _ _ _ b (by omega)⟩),?_⟩;rw [<- hS];exact Ah (b0.trans (b3.mono (by omega))) (by omega) _ _ _ _
theorem jc {S:Nat} {w W0 w3:jN9} (n t:ByteArray) (at_:List Pr) (ks:List Nd) {va vk:jNk} (hS:Hid (S=w.heap.size)) (z0:Hid (W0.heap.size=S+2)) (b0:Hid (jNj S w W0)) (k1:Hid (CB 35 (S+1) LQ W0)) (b3:Hid (jNj W0.heap.size W0 w3)) (hR:nC (W0.heap.size<=·) w3 at_ ks va vk) : ∃ w9,w9=(((w3.setCell ⟨S+1,0,none⟩ (.string n)).setCell ⟨S+1,1,none⟩ (.string t)).setCell ⟨S+1,2,none⟩ va).setCell ⟨S+1,3,none⟩ vk /\ w9.cell? ⟨S+1,0,none⟩=some (.string n)/\w9.cell? ⟨S+1,1,none⟩=some (.string t)/\w9.cell? ⟨S+1,2,none⟩=some va/\w9.cell? ⟨S+1,3,none⟩=some vk /\ Hid (q1z w (.mk n t at_ ks) (.returned (.agg #[.string n,.string t,va,vk])) w9) /\ w3.cell? ⟨S+1,0,none⟩=some (.string ⟨#[]⟩)/\w3.cell? ⟨S+1,1,none⟩=some (.string ⟨#[]⟩)/\w3.cell? ⟨S+1,2,none⟩=some (.slice none 0 0)/\w3.cell? ⟨S+1,3,none⟩=some (.slice none 0 0)/\∀ j,w3.frozen? ⟨S+1,j,none⟩=false:=by
 have hf:=gX n t at_ ks hS.out z0.out b0.out k1.out b3.out hR
 exact ⟨_,rfl,hf.1.cell 0 _ rfl,hf.1.cell 1 _ rfl,hf.1.cell 2 _ rfl,hf.1.cell 3 _ rfl,hf.2,Ep (k1.out.below b3.out)⟩
theorem tY (l:List ByteArray) (W:jN9) (hl:l.length<=maxLen):Rd (·<(W.alloc (.cells (l.map Value.string).toArray 9)).heap.size) (W.alloc (.cells (l.map Value.string).toArray 9)) (jf l) [.slice (some ⟨W.heap.size,0,none⟩) l.length l.length]:=
 Rd.U8 (B:=W.heap.size) (e:=9) ⟨by simp,.inr ⟨W.heap.size,l.length,(l.map Value.string).toArray,rfl,jK8 _,heap_alloc_new W _,jK8 _,hl,by simp,by
  show List.take (l.length*1) (l.map Value.string)=_;rw [List.take_of_length_le (by simp)]⟩⟩ (fun g hg=>by
   have e1:W.heap.size=g:=by simpa [Value.ownBlock] using hg
   simp;omega)
theorem Zm (k v:ByteArray) (W:jN9):Calls prog 41 #[.slice (some ⟨W.heap.size,0,none⟩) 2 2] (W.alloc (.cells #[.string k,.string v] 9)) (bV (W.alloc (.cells #[.string k,.string v] 9)) [⟨k,v⟩]):=
 mH [⟨k,v⟩] _ _ (tY [k,v] W (by unfold maxLen;simp)) (by simp)
theorem Ak (k v k' v':ByteArray) (W:jN9):Calls prog 41 #[.slice (some ⟨W.heap.size,0,none⟩) 4 4] (W.alloc (.cells #[.string k,.string v,.string k',.string v'] 9)) (bV (W.alloc (.cells #[.string k,.string v,.string k',.string v'] 9)) [⟨k,v⟩,⟨k',v'⟩]):=
 mH [⟨k,v⟩,⟨k',v'⟩] _ _ (tY [k,v,k',v'] W (by unfold maxLen;simp)) (by simp)
theorem pK (W:jN9) (o:Obj):jNj W.heap.size W (W.alloc o).drew:=((jK7 _ _).alloc (jK8 _) _).drew
theorem Gq (k v:ByteArray) (W:jN9):Hid (Calls prog 41 #[.slice (some ⟨W.heap.size,0,none⟩) 2 2] (W.alloc (.cells #[.string k,.string v] 9)).drew (bV (W.alloc (.cells #[.string k,.string v] 9)).drew [⟨k,v⟩]))/\Hid (jNj W.heap.size W (W.alloc (.cells #[.string k,.string v] 9)).drew):=
 ⟨Zm k v W.drew,pK W _⟩
theorem Zy (k v k' v':ByteArray) (W:jN9):Hid (Calls prog 41 #[.slice (some ⟨W.heap.size,0,none⟩) 4 4] (W.alloc (.cells #[.string k,.string v,.string k',.string v'] 9)).drew (bV (W.alloc (.cells #[.string k,.string v,.string k',.string v'] 9)).drew [⟨k,v⟩,⟨k',v'⟩]))/\Hid (jNj W.heap.size W (W.alloc (.cells #[.string k,.string v,.string k',.string v'] 9)).drew):=
 ⟨Ak k v k' v' W.drew,pK W _⟩
theorem Zz (k v k' v':ByteArray) {B:Nat} {W0 W:jN9} (h:Hid (jNj B W0 W)) (hB:B<=W.heap.size):Hid (Calls prog 41 #[.slice (some ⟨W.heap.size,0,none⟩) 4 4] (W.alloc (.cells #[.string k,.string v,.string k',.string v'] 9)) (bV (W.alloc (.cells #[.string k,.string v,.string k',.string v'] 9)) [⟨k,v⟩,⟨k',v'⟩]))/\Hid (jNj B W0 (W.alloc (.cells #[.string k,.string v,.string k',.string v'] 9))):=
 ⟨Ak k v k' v' W,h.out.alloc hB _⟩
theorem Gf {S:Nat} {W0 w':jN9} {a:At} {vc vp:jNk} (h:AtR (·<S) W0 a vc vp) (hb:jNj W0.heap.size W0 w') (hS:S<=W0.heap.size):AtR (·<w'.heap.size) w' a vc vp:=
 ⟨Rd.keep (fun b (hb1:b<S) _=>⟨by have:=hb.size;omega,hb.block b (by omega)⟩) _ _ h.cls,Rd.keep (fun b (hb1:b<S) _=>⟨by have:=hb.size;omega,hb.block b (by omega)⟩) _ _ h.aD⟩
theorem js1 {S:Nat} {W0:jN9} {a:At} {vc vp:jNk} (hS:S<=W0.heap.size) (h:AtR (·<S) W0 a vc vp):AtR (·<W0.drew.heap.size) W0.drew a vc vp:=
 ⟨Rd.keep (w:=W0) (w':=W0.drew) (ok:=(·<S)) (fun b (hb:b<S) _=>⟨(by show b<W0.heap.size;omega),rfl⟩) _ _ h.cls,Rd.keep (w:=W0) (w':=W0.drew) (ok:=(·<S)) (fun b (hb:b<S) _=>⟨(by show b<W0.heap.size;omega),rfl⟩) _ _ h.aD⟩
theorem aC.slice3 {T:TypeId} {k U:Nat} {ok:Nat->Prop} {w0 w:jN9} {ds:List D} {rows:List (List jNk)} {v:jNk} (h:aC T k ok U w0 ds rows v w):∃ a n c,v=.slice a n c:=by obtain ⟨a,c,e⟩:=h.slice;exact ⟨a,_,c,e⟩
theorem Gr {k:Int} {t d ti:ByteArray} {a:At} {ar:List ByteArray} {ci:List Ci} {ks:List aj} (h:(aj.mk k t d ti a ar ci ks).small):([]++a.cls).length<=100/\∀ c∈[]++a.cls,c.size<=1000:=by rw [aj.small] at h;obtain ⟨-,-,-,h,-⟩:=h;unfold At.short at h;rw [List.nil_append];exact ⟨by omega,fun c hc=>by have:=h.2.2.2.1 c hc;omega⟩
def Al (k:Int):Prop:=∀ (t d ti:ByteArray) (at_:At) (ar:List ByteArray) (ci:List Ci) (ks:List aj) (vc vp va vi vk:jNk) (w:jN9),vD (·<w.heap.size) w at_ ar ci ks vc vp va vi vk->(aj.mk k t d ti at_ ar ci ks).small->Jr w ks vk ->
 Calls prog 130 #[.agg #[.int .i64 k,.string t,.string d,.string ti,.string at_.id,vc,vp,va,vi,vk]] w (q1z w (aj.mk k t d ti at_ ar ci ks).nd)
theorem dK{P Q:Prop}(q:Q)(h:Nonempty Q->P:=by
 intro qQ;rw [<- HS.out];have hk0:=HW0.out;simp only [LQ] at hk0;rw [<- hk0];clear hk0;exact qQ.elim fun x=>x):P:=h ⟨q⟩
theorem lT{P Q:Prop}(q:Q)(h:Nonempty Q->P:=by
 intro qQ;have jK:=Lib.hid hs;have hst:t.size<=300:=by rw [aj.small] at hs;exact hs.1
 revert jK hst;exact qQ.elim fun x=>x):P:=h ⟨q⟩
theorem js2:Al 2:=by
 intro t d ti at_ ar ci ks vc vp va vi vk w hR hs hl
 have E:Hid ((aj.mk 2 t d ti at_ ar ci ks).nd=Jk TA):=by show _=_;rw [aj.nd];rfl
 rw [E.out];obtain ⟨ac,nc,cc,ap,np,cp,aa,na,ca,ai,ni,yx,ak,nk,ck,S,W0,rfl,rfl,rfl,rfl,rfl,HS,HW0,e0,SX,nu,HR,Z0,B0,K1⟩:=lS (.int .i64 2) t d ti hR hl;refine lT ?_;intro jK hst;clear hR hs hl E;go_enter func130,ntmps130;go_upto_region 3 with (fail)
 refine dK ?_;have BL:Hid (jNj W0.heap.size W0 W0):=jK7 _ _;have f1:=K1.out;obtain ⟨w9,hw8,r0,r1,r2,r3,HP,x0,x1,x2,x3,xf⟩:=jc ⟨#[]⟩ ⟨#[32]⟩ [] [] HS Z0 B0 K1 BL ⟨Rd.aI _ _ _,Rd.aI _ _ _⟩;go_wp2;rw [<- hw8];exact bodyPost_ret (v:=.agg #[.string ⟨#[]⟩,.string ⟨#[32]⟩,(.slice none 0 0),(.slice none 0 0)]) (by simp [results,results130,go_sem,r0,r1,r2,r3]) rfl HP.out
theorem U9 (k:Int) (t d ti:ByteArray) (at_:At) (ar:List ByteArray) (ci:List Ci) (ks:List aj) (vc vp va vi vk:jNk) (w:jN9) (hR:vD (·<w.heap.size) w at_ ar ci ks vc vp va vi vk) (hs:(aj.mk k t d ti at_ ar ci ks).small) (hl:Jr w ks vk) (hk:k≠2/\k≠3/\k≠4/\k≠5/\k≠6/\k≠7/\k≠8/\k≠9/\k≠10/\k≠11/\k≠12/\k≠16) : Calls prog 130 #[.agg #[.int .i64 k,.string t,.string d,.string ti,.string at_.id,vc,vp,va,vi,vk]] w (q1z w (aj.mk k t d ti at_ ar ci ks).nd):=by
 have E:Hid ((aj.mk k t d ti at_ ar ci ks).nd=Jk t):=by show _=_;rw [aj.nd];obtain ⟨h2,h3,h4,h5,h6,h7,h8,h9,h10,h11,h12,h16⟩:=hk;rw [if_neg h2,if_neg h3,if_neg h4,if_neg h5,if_neg h6,if_neg h7,if_neg h8,if_neg h9,if_neg h10,if_neg h11,if_neg h12,if_neg h16]
 rw [E.out];obtain ⟨ac,nc,cc,ap,np,cp,aa,na,ca,ai,ni,yx,ak,nk,ck,S,W0,rfl,rfl,rfl,rfl,rfl,HS,HW0,e0,SX,nu,HR,Z0,B0,K1⟩:=lS (.int .i64 k) t d ti hR hl;refine lT ?_;intro jK hst;have q2:(k==2)=false:=by rw [beq_eq_false_iff_ne];exact hk.1
 have q3:(k==3)=false:=by rw [beq_eq_false_iff_ne];exact hk.2.1
 have q4:(k==4)=false:=by rw [beq_eq_false_iff_ne];exact hk.2.2.1
 have q5:(k==5)=false:=by rw [beq_eq_false_iff_ne];exact hk.2.2.2.1
 have q6:(k==6)=false:=by rw [beq_eq_false_iff_ne];exact hk.2.2.2.2.1
 have q7:(k==7)=false:=by rw [beq_eq_false_iff_ne];exact hk.2.2.2.2.2.1
 have q8:(k==8)=false:=by rw [beq_eq_false_iff_ne];exact hk.2.2.2.2.2.2.1
 have q9:(k==9)=false:=by rw [beq_eq_false_iff_ne];exact hk.2.2.2.2.2.2.2.1
 have q10:(k==10)=false:=by rw [beq_eq_false_iff_ne];exact hk.2.2.2.2.2.2.2.2.1
 have q11:(k==11)=false:=by rw [beq_eq_false_iff_ne];exact hk.2.2.2.2.2.2.2.2.2.1
 have q12:(k==12)=false:=by rw [beq_eq_false_iff_ne];exact hk.2.2.2.2.2.2.2.2.2.2.1
 have q16:(k==16)=false:=by rw [beq_eq_false_iff_ne];exact hk.2.2.2.2.2.2.2.2.2.2.2
 clear hk;clear hR hs hl E;go_enter func130,ntmps130;go_upto_region 27 with (fail)
 refine dK ?_;have BL:Hid (jNj W0.heap.size W0 W0):=jK7 _ _;have g1:=(SX.out W0 (jK7 _ _)).1;obtain ⟨w9,hw8,r0,r1,r2,r3,HP,x0,x1,x2,x3,xf⟩:=jc ⟨#[]⟩ t [] [] HS Z0 B0 K1 BL ⟨Rd.aI _ _ _,Rd.aI _ _ _⟩;go_wp2;rw [<- hw8];exact bodyPost_ret (v:=.agg #[.string ⟨#[]⟩,.string t,(.slice none 0 0),(.slice none 0 0)]) (by simp [results,results130,go_sem,r0,r1,r2,r3]) rfl HP.out
theorem js3:Al 3:=by
 intro t d ti at_ ar ci ks vc vp va vi vk w hR hs hl
 have E:Hid ((aj.mk 3 t d ti at_ ar ci ks).nd=aW nBr [] []):=by show _=_;rw [aj.nd];rfl
 rw [E.out];obtain ⟨ac,nc,cc,ap,np,cp,aa,na,ca,ai,ni,yx,ak,nk,ck,S,W0,rfl,rfl,rfl,rfl,rfl,HS,HW0,e0,SX,nu,HR,Z0,B0,K1⟩:=lS (.int .i64 3) t d ti hR hl;refine lT ?_;intro jK hst;clear hR hs hl E;go_enter func130,ntmps130;go_upto_region 5 with (fail)
 refine dK ?_;have EC:=Lib.hid (ny ⟨#[98,114]⟩ none none 0 0 0 0 W0);have B4:Hid (jNj W0.heap.size W0 W0):=jK7 _ _;go_wp2_with fail
 (with_reducible refine EC.out.mono ?_)
 rintro e w5 ⟨rfl,b5⟩;have BL:=Lib.hid (q01 B4.out b5);clear b5;obtain ⟨w9,hw8,r0,r1,r2,r3,HP,x0,x1,x2,x3,xf⟩:=jc ⟨#[98,114]⟩ ⟨#[]⟩ [] [] HS Z0 B0 K1 BL ⟨Rd.aI _ _ _,Rd.aI _ _ _⟩;go_wp2;rw [<- hw8];exact bodyPost_ret (v:=.agg #[.string ⟨#[98,114]⟩,.string ⟨#[]⟩,(.slice none 0 0),(.slice none 0 0)]) (by simp [results,results130,go_sem,r0,r1,r2,r3]) rfl HP.out
theorem js4:Al 4:=by
 intro t d ti at_ ar ci ks vc vp va vi vk w hR hs hl
 have E:Hid ((aj.mk 4 t d ti at_ ar ci ks).nd=aW jA [] (bY t)):=by show _=_;rw [aj.nd];rfl
 rw [E.out];obtain ⟨ac,nc,cc,ap,np,cp,aa,na,ca,ai,ni,yx,ak,nk,ck,S,W0,rfl,rfl,rfl,rfl,rfl,HS,HW0,e0,SX,nu,HR,Z0,B0,K1⟩:=lS (.int .i64 4) t d ti hR hl;refine lT ?_;intro jK hst;clear hR hs hl E;go_enter func130,ntmps130;go_upto_region 7 with (fail)
 refine dK ?_;have DC:=Lib.hid (jd t W0);have g1:=(SX.out W0 (jK7 _ _)).1;go_wp2_with fail
 (with_reducible refine DC.out.mono ?_)
 rintro e w4 ⟨eH,v4,rfl,hrow4⟩;obtain ⟨a4,n4,c4,rfl⟩:=hrow4.slice3;have b4:=hrow4.aY;have B4:=Lib.hid (q01 (jK7 W0.heap.size W0) b4);have gN:=Lib.hid (show Rd (W0.heap.size<=·) w4 (dR (bY t)) [.slice a4 n4 c4] from hrow4.iZ.weaken (fun b hb=>jK9 ((jK7 W0.heap.size W0)).size hb));have EC:=Lib.hid (ny ⟨#[99,111,100,101]⟩ none a4 0 n4 0 c4 w4);clear b4 hrow4 DC g1;go_wp2_with fail
 (with_reducible refine EC.out.mono ?_)
 rintro e w5 ⟨rfl,b5⟩;have BL:=Lib.hid (q01 B4.out b5);have HN:=Lib.hid (show nC (W0.heap.size<=·) w5 [] (bY t) (.slice none 0 0) (.slice a4 n4 c4) from ⟨Rd.aI _ _ _,gN.out.bP b5⟩);clear b5 gN EC;obtain ⟨w9,hw8,r0,r1,r2,r3,HP,x0,x1,x2,x3,xf⟩:=jc ⟨#[99,111,100,101]⟩ ⟨#[]⟩ [] (bY t) HS Z0 B0 K1 BL HN.out;go_wp2;rw [<- hw8];exact bodyPost_ret (v:=.agg #[.string ⟨#[99,111,100,101]⟩,.string ⟨#[]⟩,(.slice none 0 0),(.slice a4 n4 c4)]) (by simp [results,results130,go_sem,r0,r1,r2,r3]) rfl HP.out
theorem Va{P Q:Prop}(q:Q)(h:Nonempty Q->P:=by
 intro qQ;have BL:=Lib.hid (q01 B4.out b5);have HN:=Lib.hid (show nC (W0.heap.size<=·) w5 [] (kP ks) (.slice none 0 0) (.slice a4 n4 c4) from ⟨Rd.aI _ _ _,gN.out.bP b5⟩);revert BL HN;exact qQ.elim fun x=>x):P:=h ⟨q⟩
theorem Vb{P Q:Prop}(q:Q)(h:Nonempty Q->P:=by
 intro qQ;have b4:=hrow4.aY;have B4:=Lib.hid b4;have gN:=Lib.hid (show Rd (W0.heap.size<=·) w4 (dR (kP ks)) [.slice a4 n4 c4] from hrow4.iZ);revert b4 B4 gN;exact qQ.elim fun x=>x):P:=h ⟨q⟩
theorem Vd{P Q:Prop}(q:Q)(h:Nonempty Q->P:=by
 intro qQ;have LC:=Lib.hid (nu.out W0 (jK7 _ _));have g9:=(SX.out W0 (jK7 _ _)).2.2.2.2.2.2;revert LC g9;exact qQ.elim fun x=>x):P:=h ⟨q⟩
theorem js5:Al 6:=by
 intro t d ti at_ ar ci ks vc vp va vi vk w hR hs hl
 have E:Hid ((aj.mk 6 t d ti at_ ar ci ks).nd=aW nEm [] (kP ks)):=by show _=_;rw [aj.nd];rfl
 rw [E.out];obtain ⟨ac,nc,cc,ap,np,cp,aa,na,ca,ai,ni,yx,ak,nk,ck,S,W0,rfl,rfl,rfl,rfl,rfl,HS,HW0,e0,SX,nu,HR,Z0,B0,K1⟩:=lS (.int .i64 6) t d ti hR hl;refine lT ?_;intro jK hst;clear hR hs hl E;go_enter func130,ntmps130;go_upto_region 11 with (fail)
 refine dK ?_;refine Vd ?_;intro LC g9;go_wp2_with fail
 (with_reducible refine LC.out.mono ?_)
 rintro e w4 ⟨eH,v4,rfl,hrow4⟩;obtain ⟨a4,n4,c4,rfl⟩:=hrow4.slice3;refine Vb ?_;intro b4 B4 gN;have EC:=Lib.hid (ny ⟨#[101,109]⟩ none a4 0 n4 0 c4 w4);clear b4 hrow4 LC g9;go_wp2_with fail
 (with_reducible refine EC.out.mono ?_)
 rintro e w5 ⟨rfl,b5⟩;refine Va ?_;intro BL HN;clear b5 gN EC;obtain ⟨w9,hw8,r0,r1,r2,r3,HP,x0,x1,x2,x3,xf⟩:=jc ⟨#[101,109]⟩ ⟨#[]⟩ [] (kP ks) HS Z0 B0 K1 BL HN.out;go_wp2;rw [<- hw8];exact bodyPost_ret (v:=.agg #[.string ⟨#[101,109]⟩,.string ⟨#[]⟩,(.slice none 0 0),(.slice a4 n4 c4)]) (by simp [results,results130,go_sem,r0,r1,r2,r3]) rfl HP.out
theorem js6:Al 7:=by
 intro t d ti at_ ar ci ks vc vp va vi vk w hR hs hl
 have E:Hid ((aj.mk 7 t d ti at_ ar ci ks).nd=aW Pf [] (kP ks)):=by show _=_;rw [aj.nd];rfl
 rw [E.out];obtain ⟨ac,nc,cc,ap,np,cp,aa,na,ca,ai,ni,yx,ak,nk,ck,S,W0,rfl,rfl,rfl,rfl,rfl,HS,HW0,e0,SX,nu,HR,Z0,B0,K1⟩:=lS (.int .i64 7) t d ti hR hl;refine lT ?_;intro jK hst;clear hR hs hl E;go_enter func130,ntmps130;go_upto_region 13 with (fail)
 refine dK ?_;refine Vd ?_;intro LC g9;go_wp2_with fail
 (with_reducible refine LC.out.mono ?_)
 rintro e w4 ⟨eH,v4,rfl,hrow4⟩;obtain ⟨a4,n4,c4,rfl⟩:=hrow4.slice3;refine Vb ?_;intro b4 B4 gN;have EC:=Lib.hid (ny ⟨#[115,116,114,111,110,103]⟩ none a4 0 n4 0 c4 w4);clear b4 hrow4 LC g9;go_wp2_with fail
 (with_reducible refine EC.out.mono ?_)
 rintro e w5 ⟨rfl,b5⟩;refine Va ?_;intro BL HN;clear b5 gN EC;obtain ⟨w9,hw8,r0,r1,r2,r3,HP,x0,x1,x2,x3,xf⟩:=jc ⟨#[115,116,114,111,110,103]⟩ ⟨#[]⟩ [] (kP ks) HS Z0 B0 K1 BL HN.out;go_wp2;rw [<- hw8];exact bodyPost_ret (v:=.agg #[.string ⟨#[115,116,114,111,110,103]⟩,.string ⟨#[]⟩,(.slice none 0 0),(.slice a4 n4 c4)]) (by simp [results,results130,go_sem,r0,r1,r2,r3]) rfl HP.out
theorem js7:Al 8:=by
 intro t d ti at_ ar ci ks vc vp va vi vk w hR hs hl
 have E:Hid ((aj.mk 8 t d ti at_ ar ci ks).nd=aW nS [] (kP ks)):=by show _=_;rw [aj.nd];rfl
 rw [E.out];obtain ⟨ac,nc,cc,ap,np,cp,aa,na,ca,ai,ni,yx,ak,nk,ck,S,W0,rfl,rfl,rfl,rfl,rfl,HS,HW0,e0,SX,nu,HR,Z0,B0,K1⟩:=lS (.int .i64 8) t d ti hR hl;refine lT ?_;intro jK hst;clear hR hs hl E;go_enter func130,ntmps130;go_upto_region 15 with (fail)
 refine dK ?_;refine Vd ?_;intro LC g9;go_wp2_with fail
 (with_reducible refine LC.out.mono ?_)
 rintro e w4 ⟨eH,v4,rfl,hrow4⟩;obtain ⟨a4,n4,c4,rfl⟩:=hrow4.slice3;refine Vb ?_;intro b4 B4 gN;have EC:=Lib.hid (ny ⟨#[115]⟩ none a4 0 n4 0 c4 w4);clear b4 hrow4 LC g9;go_wp2_with fail
 (with_reducible refine EC.out.mono ?_)
 rintro e w5 ⟨rfl,b5⟩;refine Va ?_;intro BL HN;clear b5 gN EC;obtain ⟨w9,hw8,r0,r1,r2,r3,HP,x0,x1,x2,x3,xf⟩:=jc ⟨#[115]⟩ ⟨#[]⟩ [] (kP ks) HS Z0 B0 K1 BL HN.out;go_wp2;rw [<- hw8];exact bodyPost_ret (v:=.agg #[.string ⟨#[115]⟩,.string ⟨#[]⟩,(.slice none 0 0),(.slice a4 n4 c4)]) (by simp [results,results130,go_sem,r0,r1,r2,r3]) rfl HP.out
theorem tK{P Q:Prop}(q:Q)(h:Nonempty Q->P:=by
 intro qQ;rw [<- hw8];have r0:=HC.out.cell 0 _ rfl;have r1:=HC.out.cell 1 _ rfl;have r2:=HC.out.cell 2 _ rfl;have r3:=HC.out.cell 3 _ rfl;revert r0 r1 r2 r3;exact qQ.elim fun x=>x):P:=h ⟨q⟩
theorem Ez{P Q:Prop}(q:Q)(h:Nonempty Q->P:=by
 intro qQ;have HC:=Lib.hid hf.1;have HP:=Lib.hid hf.2;have hw8:=dB;simp only [four] at hw8;obtain ⟨x0,x1,x2,x3,xf⟩:=Ep (K1.out.below BL.out);revert HC HP hw8 x0 x1 x2 x3 xf;exact qQ.elim fun x=>x):P:=h ⟨q⟩
theorem jfj{P Q:Prop}(q:Q)(h:Nonempty Q->P:=by
 intro qQ;have SF:=Lib.hid (fun (w':jN9) (hb:jNj W0.heap.size W0 w')=>((SX.out w' hb).1:w'.cell? ⟨S,1,none⟩=some (.string t)));have S0:=SF.out _ (jK7 _ _).drew;have S1:=SF.out _ nQ.out;have Zp:Hid (∀ W:jN9,Calls prog 53 #[.string t] W (dP W (bY t))):=fun W=>jd t W
 revert SF S0 S1 Zp;exact qQ.elim fun x=>x):P:=h ⟨q⟩
theorem js8:Al 5:=by
 intro t d ti at_ ar ci ks vc vp va vi vk w hR hs hl
 have E:Hid ((aj.mk 5 t d ti at_ ar ci ks).nd=aW Pg [⟨gV,qM⟩] (bY t)):=by show _=_;rw [aj.nd];rfl
 rw [E.out];obtain ⟨ac,nc,cc,ap,np,cp,aa,na,ca,ai,ni,yx,ak,nk,ck,S,W0,rfl,rfl,rfl,rfl,rfl,HS,HW0,e0,SX,nu,HR,Z0,B0,K1⟩:=lS (.int .i64 5) t d ti hR hl;refine lT ?_;intro jK hst;clear hR hs hl E;go_enter func130,ntmps130;go_upto_region 9 with (fail)
 refine dK ?_;obtain ⟨PC,nQ⟩:=Gq ⟨#[99,108,97,115,115]⟩ ⟨#[109,97,116,104]⟩ W0;refine jfj ?_;intro SF S0 S1 Zp;go_wp2_with fail
 go_region_held3 (fun w'=>w'.cell? ⟨S,1,none⟩=some (.string t))
  (with_reducible assumption)
  (first
   | (go_simp;go_at_call 41;(with_reducible refine PC.out.mono ?_);rintro e w2 ⟨bI,v2,rfl,hrow2⟩;obtain ⟨a2,c2,rfl,-,-⟩:=hrow2.cap (n:=1) rfl;have B2:=Lib.hid (nQ.out.trans (hrow2.aY.mono nQ.out.size));have zU:=Lib.hid (show Rd (W0.heap.size<=·) w2 (dx [⟨gV,qM⟩]) [.slice a2 1 c2] from hrow2.iZ.weaken (fun b hb=>jK9 nQ.out.size hb));have S2:=SF.out w2 B2.out;have DC:=Lib.hid (Zp.out w2))
   | (go_simp;go_at_call 53;(with_reducible refine DC.out.mono ?_);rintro e w4 ⟨eH,v4,rfl,hrow4⟩;obtain ⟨a4,n4,c4,rfl⟩:=hrow4.slice3;have b4:=hrow4.aY;have B4:=Lib.hid (q01 B2.out b4);have gN:=Lib.hid (show Rd (W0.heap.size<=·) w4 (dR (bY t)) [.slice a4 n4 c4] from hrow4.iZ.weaken (fun b hb=>jK9 (B2.out).size hb));have qX:=Lib.hid (zU.out.bP b4);have S4:=SF.out w4 B4.out;have EC:=Lib.hid (ny ⟨#[115,112,97,110]⟩ a2 a4 1 n4 c2 c4 w4))
   | (go_simp;go_at_call 40;(with_reducible refine EC.out.mono ?_);rintro e w5 ⟨rfl,b5⟩;have BL:=Lib.hid (q01 B4.out b5);obtain ⟨x0,x1,x2,x3,xf⟩:=Ep (K1.out.below BL.out);have S5:=SF.out w5 BL.out;have K6:=xG S w5 (.string ⟨#[115,112,97,110]⟩) (.string ⟨#[]⟩) (.slice a2 1 c2) (.slice a4 n4 c4);have S6:=K6 _ _ (SF.out w5 BL.out);clear K6))
 all_goals
  have HN:=Lib.hid (show nC (W0.heap.size<=·) w5 [⟨gV,qM⟩] (bY t) (.slice a2 1 c2) (.slice a4 n4 c4) from ⟨qX.out.bP b5,gN.out.bP b5⟩);clear b5 gN EC qX hrow2 hrow4 b4 S0 S1 S2 S4 S5 S6 zU;obtain ⟨w9,dB⟩:∃ w9,w9=four w5 (S+1) (.string ⟨#[115,112,97,110]⟩) (.string ⟨#[]⟩) (.slice a2 1 c2) (.slice a4 n4 c4):=⟨_,rfl⟩;have hf:=gX ⟨#[115,112,97,110]⟩ ⟨#[]⟩ [⟨gV,qM⟩] (bY t) HS.out Z0.out B0.out K1.out BL.out HN.out;rw [<- dB] at hf;refine Ez ?_;clear hf dB;intro HC HP hw8 x0 x1 x2 x3 xf;go_wp2;refine tK ?_;intro r0 r1 r2 r3;exact bodyPost_ret (v:=.agg #[.string ⟨#[115,112,97,110]⟩,.string ⟨#[]⟩,(.slice a2 1 c2),(.slice a4 n4 c4)]) (by simp [results,results130,go_sem,r0,r1,r2,r3]) rfl HP.out
theorem ZB:Al 12:=by
 intro t d ti at_ ar ci ks vc vp va vi vk w hR hs hl
 have E:Hid ((aj.mk 12 t d ti at_ ar ci ks).nd=aW nA [⟨fJ,ru++t⟩,⟨gV,lU⟩] (bY t)):=by show _=_;rw [aj.nd];rfl
 rw [E.out];obtain ⟨ac,nc,cc,ap,np,cp,aa,na,ca,ai,ni,yx,ak,nk,ck,S,W0,rfl,rfl,rfl,rfl,rfl,HS,HW0,e0,SX,nu,HR,Z0,B0,K1⟩:=lS (.int .i64 12) t d ti hR hl;refine lT ?_;intro jK hst;clear hR hs hl E;go_enter func130,ntmps130;go_upto_region 24 with (fail)
 refine dK ?_;obtain ⟨PC,nQ⟩:=Zy ⟨#[104,114,101,102]⟩ (⟨#[35,110,111,116,101,45]⟩++t) ⟨#[99,108,97,115,115]⟩ ⟨#[110,111,116,101,114,101,102]⟩ W0;refine jfj ?_;intro SF S0 S1 Zp;have q5:(⟨#[35,110,111,116,101,45]⟩:ByteArray).size+t.size<=9223372036854775807:=by have:(⟨#[35,110,111,116,101,45]⟩:ByteArray).size=6:=rfl;omega
 have q6:6+t.size<=9223372036854775807:=by omega
 have hadd:∀ w:jN9,(Op.stringOp .add (⟨#[35,110,111,116,101,45]⟩:ByteArray) t).run prog w=.ok (.string (⟨#[35,110,111,116,101,45]⟩++t)) w:=fun w=>run_string_add_sum w _ _ q5
 go_wp2_with fail
 go_region_held3 (fun w'=>w'.cell? ⟨S,1,none⟩=some (.string t))
  (with_reducible assumption)
  (first
   | (go_simp;go_at_call 41;(with_reducible refine PC.out.mono ?_);rintro e w2 ⟨bI,v2,rfl,hrow2⟩;obtain ⟨a2,c2,rfl,-,-⟩:=hrow2.cap (n:=2) rfl;have B2:=Lib.hid (nQ.out.trans (hrow2.aY.mono nQ.out.size));have zU:=Lib.hid (show Rd (W0.heap.size<=·) w2 (dx [⟨fJ,ru++t⟩,⟨gV,lU⟩]) [.slice a2 2 c2] from hrow2.iZ.weaken (fun b hb=>jK9 nQ.out.size hb));have S2:=SF.out w2 B2.out;have DC:=Lib.hid (Zp.out w2))
   | (go_simp;go_at_call 53;(with_reducible refine DC.out.mono ?_);rintro e w4 ⟨eH,v4,rfl,hrow4⟩;obtain ⟨a4,n4,c4,rfl⟩:=hrow4.slice3;have b4:=hrow4.aY;have B4:=Lib.hid (q01 B2.out b4);have gN:=Lib.hid (show Rd (W0.heap.size<=·) w4 (dR (bY t)) [.slice a4 n4 c4] from hrow4.iZ.weaken (fun b hb=>jK9 (B2.out).size hb));have qX:=Lib.hid (zU.out.bP b4);have S4:=SF.out w4 B4.out;have EC:=Lib.hid (ny ⟨#[97]⟩ a2 a4 2 n4 c2 c4 w4))
   | (go_simp;go_at_call 40;(with_reducible refine EC.out.mono ?_);rintro e w5 ⟨rfl,b5⟩;have BL:=Lib.hid (q01 B4.out b5);obtain ⟨x0,x1,x2,x3,xf⟩:=Ep (K1.out.below BL.out);have S5:=SF.out w5 BL.out;have K6:=xG S w5 (.string ⟨#[97]⟩) (.string ⟨#[]⟩) (.slice a2 2 c2) (.slice a4 n4 c4);have S6:=K6 _ _ (SF.out w5 BL.out);clear K6))
 all_goals
  have HN:=Lib.hid (show nC (W0.heap.size<=·) w5 [⟨fJ,ru++t⟩,⟨gV,lU⟩] (bY t) (.slice a2 2 c2) (.slice a4 n4 c4) from ⟨qX.out.bP b5,gN.out.bP b5⟩);clear b5 gN EC qX hrow2 hrow4 b4 S0 S1 S2 S4 S5 S6 zU;obtain ⟨w9,dB⟩:∃ w9,w9=four w5 (S+1) (.string ⟨#[97]⟩) (.string ⟨#[]⟩) (.slice a2 2 c2) (.slice a4 n4 c4):=⟨_,rfl⟩;have hf:=gX ⟨#[97]⟩ ⟨#[]⟩ [⟨fJ,ru++t⟩,⟨gV,lU⟩] (bY t) HS.out Z0.out B0.out K1.out BL.out HN.out;rw [<- dB] at hf;refine Ez ?_;clear hf dB;intro HC HP hw8 x0 x1 x2 x3 xf;go_wp2;refine tK ?_;intro r0 r1 r2 r3;exact bodyPost_ret (v:=.agg #[.string ⟨#[97]⟩,.string ⟨#[]⟩,(.slice a2 2 c2),(.slice a4 n4 c4)]) (by simp [results,results130,go_sem,r0,r1,r2,r3]) rfl HP.out
theorem ZC:Al 16:=by
 intro t d ti at_ ar ci ks vc vp va vi vk w hR hs hl
 have E:Hid ((aj.mk 16 t d ti at_ ar ci ks).nd=aW nA [⟨fJ,d⟩] (bY d)):=by show _=_;rw [aj.nd];rfl
 rw [E.out];obtain ⟨ac,nc,cc,ap,np,cp,aa,na,ca,ai,ni,yx,ak,nk,ck,S,W0,rfl,rfl,rfl,rfl,rfl,HS,HW0,e0,SX,nu,HR,Z0,B0,K1⟩:=lS (.int .i64 16) t d ti hR hl;refine lT ?_;intro jK hst;clear hR hs hl E;go_enter func130,ntmps130;go_upto_region 26 with (fail)
 refine dK ?_;obtain ⟨PC,nQ⟩:=Gq ⟨#[104,114,101,102]⟩ d W0;have SF:=Lib.hid (fun (w':jN9) (hb:jNj W0.heap.size W0 w')=>((SX.out w' hb).2.1:w'.cell? ⟨S,2,none⟩=some (.string d)));have S0:=SF.out _ (jK7 _ _).drew;have S1:=SF.out _ nQ.out;have Zp:Hid (∀ W:jN9,Calls prog 53 #[.string d] W (dP W (bY d))):=fun W=>jd d W
 go_wp2_with fail
 go_region_held3 (fun w'=>w'.cell? ⟨S,2,none⟩=some (.string d))
  (with_reducible assumption)
  (first
   | (go_simp;go_at_call 41;(with_reducible refine PC.out.mono ?_);rintro e w2 ⟨bI,v2,rfl,hrow2⟩;obtain ⟨a2,c2,rfl,-,-⟩:=hrow2.cap (n:=1) rfl;have B2:=Lib.hid (nQ.out.trans (hrow2.aY.mono nQ.out.size));have zU:=Lib.hid (show Rd (W0.heap.size<=·) w2 (dx [⟨fJ,d⟩]) [.slice a2 1 c2] from hrow2.iZ.weaken (fun b hb=>jK9 nQ.out.size hb));have S2:=SF.out w2 B2.out;have DC:=Lib.hid (Zp.out w2))
   | (go_simp;go_at_call 53;(with_reducible refine DC.out.mono ?_);rintro e w4 ⟨eH,v4,rfl,hrow4⟩;obtain ⟨a4,n4,c4,rfl⟩:=hrow4.slice3;have b4:=hrow4.aY;have B4:=Lib.hid (q01 B2.out b4);have gN:=Lib.hid (show Rd (W0.heap.size<=·) w4 (dR (bY d)) [.slice a4 n4 c4] from hrow4.iZ.weaken (fun b hb=>jK9 (B2.out).size hb));have qX:=Lib.hid (zU.out.bP b4);have S4:=SF.out w4 B4.out;have EC:=Lib.hid (ny ⟨#[97]⟩ a2 a4 1 n4 c2 c4 w4))
   | (go_simp;go_at_call 40;(with_reducible refine EC.out.mono ?_);rintro e w5 ⟨rfl,b5⟩;have BL:=Lib.hid (q01 B4.out b5);obtain ⟨x0,x1,x2,x3,xf⟩:=Ep (K1.out.below BL.out);have S5:=SF.out w5 BL.out;have K6:=xG S w5 (.string ⟨#[97]⟩) (.string ⟨#[]⟩) (.slice a2 1 c2) (.slice a4 n4 c4);have S6:=K6 _ _ (SF.out w5 BL.out);clear K6))
 all_goals
  have HN:=Lib.hid (show nC (W0.heap.size<=·) w5 [⟨fJ,d⟩] (bY d) (.slice a2 1 c2) (.slice a4 n4 c4) from ⟨qX.out.bP b5,gN.out.bP b5⟩);clear b5 gN EC qX hrow2 hrow4 b4 S0 S1 S2 S4 S5 S6 zU;obtain ⟨w9,dB⟩:∃ w9,w9=four w5 (S+1) (.string ⟨#[97]⟩) (.string ⟨#[]⟩) (.slice a2 1 c2) (.slice a4 n4 c4):=⟨_,rfl⟩;have hf:=gX ⟨#[97]⟩ ⟨#[]⟩ [⟨fJ,d⟩] (bY d) HS.out Z0.out B0.out K1.out BL.out HN.out;rw [<- dB] at hf;refine Ez ?_;clear hf dB;intro HC HP hw8 x0 x1 x2 x3 xf;go_wp2;refine tK ?_;intro r0 r1 r2 r3;exact bodyPost_ret (v:=.agg #[.string ⟨#[97]⟩,.string ⟨#[]⟩,(.slice a2 1 c2),(.slice a4 n4 c4)]) (by simp [results,results130,go_sem,r0,r1,r2,r3]) rfl HP.out
theorem jfk{P Q:Prop}(q:Q)(h:Nonempty Q->P:=by
 intro qQ;have SF:=Lib.hid (fun (w':jN9) (hb:jNj W0.heap.size W0 w')=>(⟨(SX.out w' hb).2.1,(SX.out w' hb).2.2.1,(SX.out w' hb).2.2.2.2.2.2⟩:w'.cell? ⟨S,2,none⟩=some (.string d)/\w'.cell? ⟨S,3,none⟩=some (.string ti)/\w'.cell? ⟨S,9,none⟩=some (.slice ak nk ck)));have S0:=SF.out _ (jK7 _ _).drew;revert SF S0;exact qQ.elim fun x=>x):P:=h ⟨q⟩
theorem js9:Al 9:=by
 intro t d ti at_ ar ci ks vc vp va vi vk w hR hs hl
 have E:Hid ((aj.mk 9 t d ti at_ ar ci ks).nd=aW nA (⟨fJ,d⟩::jm q32 ti) (kP ks)):=by show _=_;rw [aj.nd];rfl
 rw [E.out];obtain ⟨ac,nc,cc,ap,np,cp,aa,na,ca,ai,ni,yx,ak,nk,ck,S,W0,rfl,rfl,rfl,rfl,rfl,HS,HW0,e0,SX,nu,HR,Z0,B0,K1⟩:=lS (.int .i64 9) t d ti hR hl;refine lT ?_;intro jK hst;clear hR hs hl E;go_enter func130,ntmps130;go_upto_region 17 with (fail)
 refine dK ?_;obtain ⟨PC,nQ⟩:=Gq ⟨#[104,114,101,102]⟩ d W0;refine jfk ?_;intro SF S0;have S1:=SF.out _ nQ.out;go_wp2_with fail
 go_region_held3 (fun w'=>w'.cell? ⟨S,2,none⟩=some (.string d)/\w'.cell? ⟨S,3,none⟩=some (.string ti)/\w'.cell? ⟨S,9,none⟩=some (.slice ak nk ck))
  (with_reducible assumption)
  (first
   | (go_simp;go_at_call 41;(with_reducible refine PC.out.mono ?_);rintro e w2 ⟨bI,v2,rfl,hrow2⟩;obtain ⟨a2,c2,rfl,-,-⟩:=hrow2.cap (n:=1) rfl;have B2:=Lib.hid (nQ.out.trans (hrow2.aY.mono nQ.out.size));have zU:=Lib.hid (show Rd (W0.heap.size<=·) w2 (dx [⟨fJ,d⟩]) [.slice a2 1 c2] from hrow2.iZ.weaken (fun b hb=>jK9 nQ.out.size hb));have S2:=SF.out w2 B2.out;have TC:=Lib.hid (Ad [⟨fJ,d⟩] ti _ bI _ _ w2 hrow2 (by simp)))
   | (go_simp;go_at_call 163;(with_reducible refine TC.out.mono ?_);rintro e w3 ⟨gW,v3,rfl,hrow3,hg3⟩;obtain ⟨a3,n3,c3,rfl⟩:=hrow3.slice3;have B3:=Lib.hid (nQ.out.trans (hrow3.aY.mono nQ.out.size));have Gg:=Lib.hid (show Rd (W0.heap.size<=·) w3 (dx ([⟨fJ,d⟩]++jm q32 ti)) [.slice a3 n3 c3] from hrow3.iZ.weaken (fun b hb=>jK9 nQ.out.size hb));have S3:=SF.out w3 B3.out;have LC:=Lib.hid (nu.out w3 B3.out))
   | (go_simp;go_at_call 78;(with_reducible refine LC.out.mono ?_);rintro e w4 ⟨eH,v4,rfl,hrow4⟩;obtain ⟨a4,n4,c4,rfl⟩:=hrow4.slice3;have b4:=hrow4.aY;have B4:=Lib.hid (q01 B3.out b4);have gN:=Lib.hid (show Rd (W0.heap.size<=·) w4 (dR (kP ks)) [.slice a4 n4 c4] from hrow4.iZ.weaken (fun b hb=>jK9 B3.out.size hb));have qX:=Lib.hid (Gg.out.bP b4);have S4:=SF.out w4 B4.out;have EC:=Lib.hid (ny ⟨#[97]⟩ a3 a4 n3 n4 c3 c4 w4))
   | (go_simp;go_at_call 40;(with_reducible refine EC.out.mono ?_);rintro e w5 ⟨rfl,b5⟩;have BL:=Lib.hid (q01 B4.out b5);obtain ⟨x0,x1,x2,x3,xf⟩:=Ep (K1.out.below BL.out);have S5:=SF.out w5 BL.out;have K6:=xG S w5 (.string ⟨#[97]⟩) (.string ⟨#[]⟩) (.slice a3 n3 c3) (.slice a4 n4 c4);have S6:=And.imp (K6 _ _) (And.imp (K6 _ _) (K6 _ _)) (SF.out w5 BL.out);clear K6))
 all_goals
  have HN:=Lib.hid (show nC (W0.heap.size<=·) w5 ([⟨fJ,d⟩]++jm q32 ti) (kP ks) (.slice a3 n3 c3) (.slice a4 n4 c4) from ⟨qX.out.bP b5,gN.out.bP b5⟩);clear b5 gN EC qX hrow2 hrow3 hrow4 hg3 b4 S0 S1 S2 S3 S4 S5 S6 zU Gg;obtain ⟨w9,dB⟩:∃ w9,w9=four w5 (S+1) (.string ⟨#[97]⟩) (.string ⟨#[]⟩) (.slice a3 n3 c3) (.slice a4 n4 c4):=⟨_,rfl⟩;have hf:=gX ⟨#[97]⟩ ⟨#[]⟩ ([⟨fJ,d⟩]++jm q32 ti) (kP ks) HS.out Z0.out B0.out K1.out BL.out HN.out;rw [<- dB] at hf;refine Ez ?_;clear hf dB;intro HC HP hw8 x0 x1 x2 x3 xf;go_wp2;refine tK ?_;intro r0 r1 r2 r3;exact bodyPost_ret (v:=.agg #[.string ⟨#[97]⟩,.string ⟨#[]⟩,(.slice a3 n3 c3),(.slice a4 n4 c4)]) (by simp [results,results130,go_sem,r0,r1,r2,r3]) rfl HP.out
theorem ZE:Al 11:=by
 intro t d ti at_ ar ci ks vc vp va vi vk w hR hs hl
 have E:Hid ((aj.mk 11 t d ti at_ ar ci ks).nd=aW Pg (ko at_ []) (kP ks)):=by show _=_;rw [aj.nd];rfl
 rw [E.out];obtain ⟨ac,nc,cc,ap,np,cp,aa,na,ca,ai,ni,yx,ak,nk,ck,S,W0,rfl,rfl,rfl,rfl,rfl,HS,HW0,e0,SX,nu,HR,Z0,B0,K1⟩:=lS (.int .i64 11) t d ti hR hl;refine lT ?_;intro jK hst;clear hR hs hl E;go_enter func130,ntmps130;go_upto_region 22 with (fail)
 refine dK ?_;have AC:=Lib.hid (q2m at_ [] (.slice ac nc cc) (.slice ap np cp) (.slice none 0 0) W0.drew W0.drew qK.nil (js1 (by have:=Z0.out;omega) HR.out.at_) (Gr jK.out).1 (Gr jK.out).2);have SF:=Lib.hid (fun (w':jN9) (hb:jNj W0.heap.size W0 w')=>(⟨(SX.out w' hb).2.2.2.1,(SX.out w' hb).2.2.2.2.1,(SX.out w' hb).2.2.2.2.2.1,(SX.out w' hb).2.2.2.2.2.2⟩:w'.cell? ⟨S,4,none⟩=some (.string at_.id)/\w'.cell? ⟨S,5,none⟩=some (.slice ac nc cc)/\w'.cell? ⟨S,6,none⟩=some (.slice ap np cp)/\w'.cell? ⟨S,9,none⟩=some (.slice ak nk ck)));have S0:=SF.out _ (jK7 _ _).drew;go_wp2_with fail
 go_region_held3 (fun w'=>w'.cell? ⟨S,4,none⟩=some (.string at_.id)/\w'.cell? ⟨S,5,none⟩=some (.slice ac nc cc)/\w'.cell? ⟨S,6,none⟩=some (.slice ap np cp)/\w'.cell? ⟨S,9,none⟩=some (.slice ak nk ck))
  (with_reducible assumption)
  (first
   | (go_simp;go_at_call 137;(with_reducible refine AC.out.mono ?_);rintro e w3 ⟨gW,v3,rfl,hrow3⟩;obtain ⟨a3,n3,c3,rfl⟩:=hrow3.slice3;have B3:Hid (jNj W0.heap.size W0 w3):=((jK7 W0.heap.size W0).drew).trans hrow3.aY;have Gg:Hid (Rd (W0.heap.size<=·) w3 (dx (ko at_ [])) [.slice a3 n3 c3]):=hrow3.iZ;have S3:=SF.out w3 B3.out;have LC:=Lib.hid (nu.out w3 B3.out))
   | (go_simp;go_at_call 78;(with_reducible refine LC.out.mono ?_);rintro e w4 ⟨eH,v4,rfl,hrow4⟩;obtain ⟨a4,n4,c4,rfl⟩:=hrow4.slice3;have b4:=hrow4.aY;have B4:=Lib.hid (q01 B3.out b4);have gN:=Lib.hid (show Rd (W0.heap.size<=·) w4 (dR (kP ks)) [.slice a4 n4 c4] from hrow4.iZ.weaken (fun b hb=>jK9 B3.out.size hb));have qX:=Lib.hid (Gg.out.bP b4);have S4:=SF.out w4 B4.out;have EC:=Lib.hid (ny ⟨#[115,112,97,110]⟩ a3 a4 n3 n4 c3 c4 w4))
   | (go_simp;go_at_call 40;(with_reducible refine EC.out.mono ?_);rintro e w5 ⟨rfl,b5⟩;have BL:=Lib.hid (q01 B4.out b5);obtain ⟨x0,x1,x2,x3,xf⟩:=Ep (K1.out.below BL.out);have S5:=SF.out w5 BL.out;have K6:=xG S w5 (.string ⟨#[115,112,97,110]⟩) (.string ⟨#[]⟩) (.slice a3 n3 c3) (.slice a4 n4 c4);have S6:=And.imp (K6 _ _) (And.imp (K6 _ _) (And.imp (K6 _ _) (K6 _ _))) (SF.out w5 BL.out);clear K6))
 all_goals
  have HN:=Lib.hid (show nC (W0.heap.size<=·) w5 (ko at_ []) (kP ks) (.slice a3 n3 c3) (.slice a4 n4 c4) from ⟨qX.out.bP b5,gN.out.bP b5⟩);clear b5 gN EC qX hrow3 hrow4 b4 S0 S3 S4 S5 S6 Gg;obtain ⟨w9,dB⟩:∃ w9,w9=four w5 (S+1) (.string ⟨#[115,112,97,110]⟩) (.string ⟨#[]⟩) (.slice a3 n3 c3) (.slice a4 n4 c4):=⟨_,rfl⟩;have hf:=gX ⟨#[115,112,97,110]⟩ ⟨#[]⟩ (ko at_ []) (kP ks) HS.out Z0.out B0.out K1.out BL.out HN.out;rw [<- dB] at hf;refine Ez ?_;clear hf dB;intro HC HP hw8 x0 x1 x2 x3 xf;go_wp2;refine tK ?_;intro r0 r1 r2 r3;exact bodyPost_ret (v:=.agg #[.string ⟨#[115,112,97,110]⟩,.string ⟨#[]⟩,(.slice a3 n3 c3),(.slice a4 n4 c4)]) (by simp [results,results130,go_sem,r0,r1,r2,r3]) rfl HP.out
theorem ZF (t d ti:ByteArray) (at_:At) (ar:List ByteArray) (ci:List Ci) (ks:List aj) (vc vp va vi vk:jNk) (w:jN9) (hR:vD (·<w.heap.size) w at_ ar ci ks vc vp va vi vk) (hs:(aj.mk (10:Int) t d ti at_ ar ci ks).small) (hl:Jr w ks vk) (hz:aj.aU ks<=1000000) : Calls prog 130 #[.agg #[.int .i64 10,.string t,.string d,.string ti,.string at_.id,vc,vp,va,vi,vk]] w (q1z w (aj.mk (10:Int) t d ti at_ ar ci ks).nd):=by
 have E:Hid ((aj.mk 10 t d ti at_ ar ci ks).nd=aW ZG ([⟨Dy,d⟩,⟨Dz,mJ ks⟩]++jm q32 ti++ko at_ []) []):=by show _=_;rw [aj.nd];rfl
 rw [E.out];obtain ⟨ac,nc,cc,ap,np,cp,aa,na,ca,ai,ni,yx,ak,nk,ck,S,W0,rfl,rfl,rfl,rfl,rfl,HS,HW0,e0,SX,nu,HR,Z0,B0,K1⟩:=lS (.int .i64 10) t d ti hR hl;refine lT ?_;intro jK hst;clear hR hs hl E;go_enter func130,ntmps130;go_upto_region 19 with (fail)
 refine dK ?_;have hpl:(aj.aR ks).length<=1000000000:=by have h:=jK.out;rw [aj.small] at h;have:=aj.pU ks h.2.2.2.2.2.2.2.2;omega
 have PL:=Lib.hid (Md ks (.slice ak nk ck) W0.drew (Rd.keep (w:=W0) (w':=W0.drew) (ok:=(·<S)) (fun b (hb:b<S) _=>⟨by have:=Z0.out;show b<W0.heap.size;omega,rfl⟩) _ _ HR.out.kids) hpl);refine jfk ?_;intro SF S0;clear hpl;go_wp2_with fail
 go_region_held3 (fun w'=>w'.cell? ⟨S,2,none⟩=some (.string d)/\w'.cell? ⟨S,3,none⟩=some (.string ti)/\w'.cell? ⟨S,9,none⟩=some (.slice ak nk ck))
  (with_reducible assumption)
  (first
   | (go_simp;go_at_call 164;(with_reducible refine PL.out.mono ?_);rintro e w1 ⟨rfl,b1⟩;have B1:Hid (jNj W0.heap.size W0 w1):=((jK7 W0.heap.size W0).drew).trans b1;obtain ⟨PC,nQ⟩:=Zz ⟨#[115,114,99]⟩ d ⟨#[97,108,116]⟩ ⟨(aj.aR ks).toArray⟩ B1 B1.out.size;have S1:=SF.out w1 B1.out;have S1a:=SF.out _ nQ.out)
   | (go_simp;go_at_call 41;(with_reducible refine PC.out.mono ?_);rintro e w2 ⟨bI,v2,rfl,hrow2⟩;obtain ⟨a2,c2,rfl,-,-⟩:=hrow2.cap (n:=2) rfl;have B2:=Lib.hid (nQ.out.trans (hrow2.aY.mono nQ.out.size));have zU:=Lib.hid (show Rd (W0.heap.size<=·) w2 (dx [⟨Dy,d⟩,⟨Dz,mJ ks⟩]) [.slice a2 2 c2] from hrow2.iZ.weaken (fun b hb=>jK9 nQ.out.size hb));have BWX:=nQ;have S2:=SF.out w2 B2.out;have TC:=Lib.hid (Ad [⟨Dy,d⟩,⟨Dz,mJ ks⟩] ti _ bI _ _ w2 hrow2 (by simp)))
   | (go_simp;go_at_call 163;(with_reducible refine TC.out.mono ?_);rintro e w3 ⟨gW,v3,rfl,hrow3,hg3⟩;have B3:=Lib.hid (nQ.out.trans (hrow3.aY.mono nQ.out.size));have S3:=SF.out w3 B3.out))
 all_goals
  obtain ⟨m3,TF⟩:∃ m,m=(List.map Pr.d ([⟨Dy,d⟩,⟨Dz,mJ ks⟩]++jm q32 ti)).length:=⟨_,rfl⟩;obtain ⟨a3,c3,rfl,-,-⟩:=hrow3.cap TF.symm;have jE0:m3<=3:=by rw [TF];unfold jm;split<;>simp
  have HM3:=Lib.hid TF.symm;have U3:=Lib.hid hrow3;obtain ⟨-,-,-,g4,g5,g6,-⟩:=SX.out w3 B3.out;have AC:=Lib.hid (q2m at_ [] (.slice ac nc cc) (.slice ap np cp) (.slice none 0 0) w3 w3 qK.nil (Gf HR.out.at_ B3.out (by have:=Z0.out;omega)) (Gr jK.out).1 (Gr jK.out).2);clear TF hrow3 hrow2 hg3 b1 S0 S1 S1a S2 S3 PL PC TC zU nQ B2;go_wp2_with fail
  (with_reducible refine AC.out.mono ?_)
  rintro e w4 ⟨eH,v4,rfl,hrow4⟩;obtain ⟨m4,YV⟩:∃ m,m=(List.map Pr.d (ko at_ [])).length:=⟨_,rfl⟩;obtain ⟨a4,c4,rfl,-,-⟩:=hrow4.cap YV.symm;have jJ0:m4<=2:=by rw [YV];unfold ko jm MK;split<;>split<;>simp
  have HM4:=Lib.hid YV.symm;have b4:=hrow4.aY;have U4:=Lib.hid (U3.out.below b4);have X4:=Lib.hid (show Rd (fun b=>False\/w3.heap.size<=b) w4 (.sl 2 (List.map Pr.d (ko at_ []))) [.slice a4 m4 c4] from hrow4.iZ.weaken (fun b hb=>.inr hb));have B4:=Lib.hid (q01 B3.out b4);have O1:=Lib.hid (fun (rs:List (List jNk)) (ok':Nat->Prop) h=>Ve (ko at_ []) rs ok' w4 h);obtain ⟨iP,hiP,Du,Dv,Dw⟩:=info_parts qZ;clear YV hrow4 b4 g4 g5 g6 AC;go_wp2_with (at_builtin;refine Js (n:=m3) (m:=m4) rfl _ _ 24 rfl iP _ 32 underlying24 hiP Du Dv Dw rfl (by decide) U4.out (fun _=>False.elim) (.slice a4 m4 c4) X4.out O1.out HM3.out HM4.out (by omega) (by decide) rfl rfl ?_)
  intro a5 c5 Am w5 bZ hg5;have B5:=Lib.hid (BWX.out.trans (bZ.aY.mono BWX.out.size));have AT5:Hid (Rd (W0.heap.size<=·) w5 (dx ([⟨Dy,d⟩,⟨Dz,mJ ks⟩]++jm q32 ti++ko at_ [])) [.slice a5 (m3+m4) c5]):=by have h:=bZ.iZ.weaken (ok':=(W0.heap.size<=·)) (fun b hb=>jK9 BWX.out.size hb);show Rd _ _ (.sl 2 (List.map Pr.d _)) _;rw [List.map_append];exact h
  have EC:=Lib.hid (ny ⟨#[105,109,103]⟩ a5 none (m3+m4) 0 c5 0 w5);clear bZ hg5 U4 X4 O1 U3;go_wp2_with fail
  (with_reducible refine EC.out.mono ?_)
  rintro e w6 ⟨rfl,b6⟩;have BL:=Lib.hid (q01 B5.out b6);have HN:=Lib.hid (show nC (W0.heap.size<=·) w6 ([⟨Dy,d⟩,⟨Dz,mJ ks⟩]++jm q32 ti++ko at_ []) [] (.slice a5 (m3+m4) c5) (.slice none 0 0) from ⟨AT5.out.bP b6,Rd.aI _ _ _⟩);clear b6 EC AT5;obtain ⟨w9,dB⟩:∃ w9,w9=four w6 (S+1) (.string ⟨#[105,109,103]⟩) (.string ⟨#[]⟩) (.slice a5 (m3+m4) c5) (.slice none 0 0):=⟨_,rfl⟩;have hf:=gX ⟨#[105,109,103]⟩ ⟨#[]⟩ ([⟨Dy,d⟩,⟨Dz,mJ ks⟩]++jm q32 ti++ko at_ []) [] HS.out Z0.out B0.out K1.out BL.out HN.out;rw [<- dB] at hf;refine Ez ?_;clear hf dB;intro HC HP hw8 x0 x1 x2 x3 xf;go_wp2;refine tK ?_;intro r0 r1 r2 r3;exact bodyPost_ret (v:=.agg #[.string ⟨#[105,109,103]⟩,.string ⟨#[]⟩,(.slice a5 (m3+m4) c5),(.slice none 0 0)]) (by simp [results,results130,go_sem,r0,r1,r2,r3]) rfl HP.out
theorem ML (k:Int) (t d ti:ByteArray) (at_:At) (ar:List ByteArray) (ci:List Ci) (ks:List aj) (vc vp va vi vk:jNk) (w:jN9) (hR:vD (·<w.heap.size) w at_ ar ci ks vc vp va vi vk) (hs:(aj.mk k t d ti at_ ar ci ks).small) (hl:Jr w ks vk) (hz:aj.aU ks<=1000000) : Calls prog 130 #[.agg #[.int .i64 k,.string t,.string d,.string ti,.string at_.id,vc,vp,va,vi,vk]] w (q1z w (aj.mk k t d ti at_ ar ci ks).nd):=by
 by_cases h2:k=2
 ·subst h2;exact js2 t d ti at_ ar ci ks vc vp va vi vk w hR hs hl
 by_cases h3:k=3
 ·subst h3;exact js3 t d ti at_ ar ci ks vc vp va vi vk w hR hs hl
 by_cases h4:k=4
 ·subst h4;exact js4 t d ti at_ ar ci ks vc vp va vi vk w hR hs hl
 by_cases h5:k=5
 ·subst h5;exact js8 t d ti at_ ar ci ks vc vp va vi vk w hR hs hl
 by_cases h6:k=6
 ·subst h6;exact js5 t d ti at_ ar ci ks vc vp va vi vk w hR hs hl
 by_cases h7:k=7
 ·subst h7;exact js6 t d ti at_ ar ci ks vc vp va vi vk w hR hs hl
 by_cases h8:k=8
 ·subst h8;exact js7 t d ti at_ ar ci ks vc vp va vi vk w hR hs hl
 by_cases h9:k=9
 ·subst h9;exact js9 t d ti at_ ar ci ks vc vp va vi vk w hR hs hl
 by_cases h10:k=10
 ·subst h10;exact ZF t d ti at_ ar ci ks vc vp va vi vk w hR hs hl hz
 by_cases h11:k=11
 ·subst h11;exact ZE t d ti at_ ar ci ks vc vp va vi vk w hR hs hl
 by_cases h12:k=12
 ·subst h12;exact ZB t d ti at_ ar ci ks vc vp va vi vk w hR hs hl
 by_cases h16:k=16
 ·subst h16;exact ZC t d ti at_ ar ci ks vc vp va vi vk w hR hs hl
 exact U9 k t d ti at_ ar ci ks vc vp va vi vk w hR hs hl ⟨h2,h3,h4,h5,h6,h7,h8,h9,h10,h11,h12,h16⟩
open Go.RowKit
open Go.RowKit
def fv (key:ByteArray) (a:List Pr):List ByteArray:=(a.filter fun p=>decide (p.key=key)).map (·.val)
theorem Vf (key:ByteArray) (a b:List Pr):fv key (a++b)=fv key a++fv key b:=by unfold fv;simp
theorem Zu (key:ByteArray) (a:List Pr) (k:Nat) (p:Pr) (h:a[k]?=some p):fv key (a.take (k+1))=fv key (a.take k)++if p.key=key then [p.val] else []:=by rw [List.take_add_one,h,Vf];unfold fv;by_cases hk:p.key=key<;>simp [hk]
theorem jr8 (key:ByteArray) (a:List Pr) (k:Nat):(fv key (a.take k)).length<=(fv key a).length:=by
 have h:fv key a=fv key (a.take k)++fv key (a.drop k):=by rw [<- Vf,List.take_append_drop]
 rw [h,List.length_append];omega
theorem MH (key:ByteArray) (l:List Nd) (k:Nat) (x:Nd) (h:l[k]?=some x):Nd.dn key (l.take (k+1))=Nd.dn key (l.take k)++x.vals key:=by rw [List.take_add_one,h,EA];show _++Nd.dn key [x]=_;rw [Nd.dn,Nd.dn,List.append_nil]
theorem Eu (key:ByteArray) (l:List Nd) (k:Nat):(Nd.dn key (l.take k)).length<=(Nd.dn key l).length:=by
 have h:Nd.dn key l=Nd.dn key (l.take k)++Nd.dn key (l.drop k):=by rw [<- EA,List.take_append_drop]
 rw [h,List.length_append];omega
open Go.RowKit
def tO (w:jN9) (l:List ByteArray) (e:Ending) (w':jN9):Prop:=
 ∃ v,e=.returned v/\w'.ownsRow w.heap.size 9 1 v l.length (l.map Value.string)/\jNj w.heap.size w w'
end Go.Proofs.YtkfnkeflalcphaaGreatDoor

