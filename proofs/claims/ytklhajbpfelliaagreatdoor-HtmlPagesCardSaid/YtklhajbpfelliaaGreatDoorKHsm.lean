/- Contract of html.attributes. Contract of html.inline, given that of html.line at the Kids. Contract of publisherref33.Same: at equal nodes it answers true. -/
import Derived.Test.YtklhajbpfelliaaGreatDoorKHrM
import Derived.Deep.CutBlock
set_option maxHeartbeats 8000000
set_option maxRecDepth 100000
namespace Go.Proofs.YtklhajbpfelliaaGreatDoor
open Go.RowKit.Below renaming refl->jFj,heap_setCell->jG4
open Nat renaming le_refl->jFk,le_trans->jFq
open Go renaming World->jIq,Value->jIz
open Go.RowKit renaming Below->jIx
open Go.RowKit
set_option linter.unusedVariables false
set_option linter.unusedSimpArgs false
theorem EU:∀ (l:List ByteArray),Lib.join (l.map (·.data.toList)) [32]=(Br l).data.toList
 | []=>rfl
 | [x]=>by simp [Lib.join,Br]
 | x::y::l=>by
  have:=EU (y::l);simp only [List.map_cons,Lib.join,Br] at this ⊢;simp [this,ByteArray.data_append,Kk]
theorem zC:∀ (l:List ByteArray) (n:Nat),(∀ x∈l,x.size<=n)->(Br l).size<=l.length*(n+1)
 | [],_,_=>by simp [Br];rfl
 | [x],n,h=>by have:=h x (by simp);simp [Br];omega
 | x::y::l,n,h=>by
  have h1:=h x (by simp);have h2:=zC (y::l) n (fun z hz=>h z (by simp [hz]));have e:(Kk:ByteArray).size=1:=rfl;simp only [Br,ByteArray.size_append,List.length_cons,e] at h2 ⊢;rw [Nat.add_mul (l.length+1)];omega
theorem EL (s:ByteArray):(⟨s.data.toList.toArray⟩:ByteArray)=s:=by apply ByteArray.ext;simp
theorem aG.l7 {T:TypeId} {k U:Nat} {w0 wb w:jIq} {ds:List D} {rows:List (List jIz)} {v:jIz} (h:aG T k (fun _=>False) U w0 ds rows v w) (hs:wb.heap.size<=w0.heap.size) (hb:jIx wb.heap.size wb w):aG T k (fun _=>False) U wb ds rows v w:=
 ⟨zo h.own hs,aU.keep (fun b hb _=>⟨⟨.inr (by rcases hb.1 with h1 | h1;exact h1.elim;omega),hb.2.1,hb.2.2⟩,rfl⟩) _ _ h.red,h.len,hb,h.oU,jFq hs h.GK,h.J6⟩
structure qL (wb w:jIq) (more:List ByteArray) (v:jIz):Prop where
 aO:jIx wb.heap.size wb w
 own:w.ownsRow wb.heap.size 9 1 v more.length (more.map Value.string)
theorem qL.nil {wb:jIq}:qL wb wb [] (.slice none 0 0):=⟨jFj _ _,⟨by simp,.inl ⟨rfl,rfl⟩⟩⟩
theorem qL.one (wb:jIq) (s:ByteArray):qL wb (wb.alloc (.cells #[.string s] 9)) [s] (.slice (some ⟨wb.heap.size,0,none⟩) 1 1):=
 ⟨(jFj _ _).alloc (jFk _) _,⟨by simp,.inr ⟨wb.heap.size,1,#[.string s],rfl,jFk _,heap_alloc_new wb _,by simp,by unfold maxLen;omega,by simp,by simp⟩⟩⟩
theorem q2v (a:At) (more:List ByteArray) (vc vp vm:jIz) (wb w:jIq) (hm:qL wb w more vm) (hR:AtR (·<w.heap.size) w a vc vp) (hl:(more++a.cls).length<=100) (hc:∀ c∈more++a.cls,c.size<=1000) : Calls Tryz.prog 87 #[.agg #[.string a.id,vc,vp],vm] w (aW wb (eX a more)):=by
 obtain ⟨iP,hiP,qy,qz,qA⟩:=info_parts kT;obtain ⟨iS,hiS,jz6,jz7,jz8⟩:=info_parts GD;obtain ⟨Ac,jn7,jtz,hvc,hc1,hc2,hc3,hc4,QL⟩:=Rd.reads hR.cls;obtain ⟨ap,np,cp,rfl⟩:=Rd.au hR.aF;have hrw:=aU.oW a.cls jtz hc3;rw [List.length_map] at hvc hc1 QL;rw [hrw,oZ] at QL;subst hvc;obtain ⟨nm,hnm⟩:∃ nm,nm=more.length:=⟨_,rfl⟩;obtain ⟨nc,hnc⟩:∃ nc,nc=a.cls.length:=⟨_,rfl⟩;obtain ⟨L,hL⟩:∃ L,L=more++a.cls:=⟨_,rfl⟩;have hLn:L.length=nm+nc:=by rw [hL,List.length_append,hnm,hnc]
 have hown:=hm.own;rw [<- hnm] at hown;rw [<- hnc] at hc1 QL;rw [<- hnc];obtain ⟨am,cm,rfl⟩:=kY hown;obtain ⟨S,hS⟩:∃ S,S=w.heap.size:=⟨_,rfl⟩;obtain ⟨W1,hW1⟩:∃ W,W=w.alloc (.cells #[.string a.id,.slice Ac nc jn7,.slice ap np cp] 43):=⟨_,rfl⟩;have z1:W1.heap.size=S+1:=by rw [hW1,hS];simp
 have k1:CB 43 S [.string a.id,.slice Ac nc jn7,.slice ap np cp] W1:=by rw [hW1,hS];exact CB.new _ _ w
 have b1:jIx w.heap.size w W1:=by rw [hW1];exact (jFj _ _).alloc (jFk _) _
 have hbS:wb.heap.size<=S:=by rw [hS];exact hm.aO.size
 have HB1:=Lib.hid (hm.aO.trans (b1.mono hm.aO.size));have HOWN:=Lib.hid (WM hown b1);have HVM:Hid (∀ g,(Value.slice am nm cm).ownBlock=some g->g<S):=fun g hg=>by rw [hS];exact (hown.lt g hg).2
 have HRC:=Lib.hid (QL.below b1);have HLL:Hid (L=more++a.cls):=hL;have hlL:nm+nc<=100:=by rw [<- hLn,hL];exact hl
 have dW:Hid (∀ c∈L,c.size<=1000):=by rw [hL];exact hc
 have HLN:=Lib.hid hLn;have HNC:=Lib.hid hnc;have HNM:=Lib.hid hnm;have HS:=Lib.hid hS;have HW1:=Lib.hid hW1;have K1:=Lib.hid k1;have Z1:=Lib.hid z1;have e0:=k1.cell 0 _ rfl;have HW0:Hid (wb.heap.size<=W1.heap.size):=by show _<=_;omega
 have WJ:a.id.toList.isEmpty=bq a.id:=by rw [Lib.toList_data,Bool.eq_iff_iff,List.isEmpty_iff,bq,decide_eq_true_iff]
 clear hm hR hl hc hc1 hc2 hc3 hc4 QL hrw hnm hnc hL hLn hown hS hW1 k1 z1 b1;go_enter Tryz.func87,Tryz.ntmps87
 go_upto_if 9 with (fail)
 rw [<- HS.out,<- HW1.out]
 go_cut [5] (fun v wx=>∃ rows,aG 37 2 (fun _=>False) wx.heap.size W1 ((cO jX a.id).map Pr.d) rows v wx)
 case first=>
  by_cases hid:bq a.id=true
  ·have q1:(!bq a.id)=false:=by rw [hid];rfl
   have E:Hid (cO jX a.id=[]):=by show _=_;unfold cO;rw [if_pos hid]
   rw [q1];clear hid q1 WJ;go_wp2
   go_meet
   rw [E.out];exact ⟨_,aG.nil _ _ _ _⟩
  ·have q1:(!bq a.id)=true:=by simpa using hid
   have E:Hid ((cO jX a.id).map Pr.d=[(⟨jX,a.id⟩:Pr).d]):=by show _=_;unfold cO;rw [if_neg hid];rfl
   have RN:=Lib.hid (aG.nil 37 2 (fun _=>False) W1);rw [q1];clear hid q1 WJ;go_wp2_with (at_builtin;refine OP (n:=0) (ds:=[]) (rows:=[]) rfl _ _ 22 rfl iP _ 32 Tryz.underlying22 hiP qy qz qA rfl (by decide) RN.out (fun _=>False.elim) (⟨jX,a.id⟩:Pr).d [.string ⟨#[105,100]⟩,.string a.id] (Pr.dJ _ _ ⟨jX,a.id⟩) rfl xO rfl (by decide) (by decide) rfl rfl ?_)
   intro a' c' w5 hrow hg5;have bE:=Lib.hid hrow;clear hrow hg5;go_wp2
   go_meet
   rw [E.out];exact ⟨_,bE.out⟩
 case rest=>
  obtain ⟨rows,hrow⟩:=hcut;obtain ⟨w2,hw2⟩:∃ w2:jIq,w2=wc:=⟨_,rfl⟩;subst hw2;obtain ⟨n0,hn0⟩:∃ n0,n0=((cO jX a.id).map Pr.d).length:=⟨_,rfl⟩;obtain ⟨av,cv,rfl,-,-⟩:=hrow.cap hn0.symm;have jE4:n0<=1:=by rw [hn0];unfold cO;split<;>simp
  have HN0:=Lib.hid hn0.symm;have hbel:=hrow.aO;have bE:=Lib.hid hrow;have KA:=Lib.hid (K1.out.below hbel);have e1:=KA.out.cell 1 _ rfl;have OW:=Lib.hid (WM HOWN.out hbel);have RC:=Lib.hid (HRC.out.below (hbel.mono (by have:=HS.out;have:=Z1.out;omega)));have HB2:=Lib.hid (HB1.out.trans (hbel.mono HW0.out));have hw2:=HB2.out.size;clear hrow hbel hn0 HB1 HOWN HRC e0;go_upto_region 4 with (fail)
  go_wp2_with (at_builtin;refine ME _ rfl _ _ 41 rfl wb.heap.size 9 iS _ 1 16 Tryz.underlying41 hiS jz6 jz7 jz8 rfl (by decide) _ nm (more.map Value.string) rfl OW.out w.heap.size Ac nc jn7 (a.cls.map Value.string) rfl RC.out (by intro u hu;obtain ⟨x,-,rfl⟩:=List.mem_map.1 hu;rfl) (by unfold maxLen;omega) (by omega) (by omega) ?_)
  intro v3 w3 hown3 hg3 xw;obtain ⟨a3,c3,rfl⟩:=kY hown3;have RU3:∃ w0',w0'.heap.size=W1.heap.size/\aG 37 2 (fun _=>False) w2.heap.size w0' ((cO jX a.id).map Pr.d) rows (.slice av n0 cv) w3:=by
   cases hob:(Value.slice am nm cm).ownBlock with
   | none=>rw [hob] at hg3;exact ⟨W1,rfl,bE.out.grown hg3⟩
   | some g=>
    rw [hob] at hg3;exact bE.out.hop2 (by have:=HVM.out g hob;have:=Z1.out;omega) hg3
  obtain ⟨w0',hz0',hrow3⟩:=RU3;have U3:=Lib.hid hrow3;have HB3:=Lib.hid (HB2.out.grown hg3 hw2 (fun g hg=>(OW.out.lt g hg).1));have OW3:Hid (w3.ownsRow wb.heap.size 9 1 (.slice a3 (nm+nc) c3) L.length (L.map Value.string)):=by show World.ownsRow _ _ _ _ _ _ _;rw [HLN.out,HLL.out,List.map_append];exact hown3
  have HZ0:=Lib.hid hz0';clear hown3 hg3 xw hrow3 hz0' OW RC bE KA e1;by_cases h0:nm+nc=0
  ·have E:Hid (eX a more=cO jX a.id):=by
    show _=_;have:more++a.cls=[]:=by rw [<- HLL.out];exact List.eq_nil_of_length_eq_zero (by rw [HLN.out,h0])
    unfold eX H7;rw [this];simp
   have HF:Hid (aW wb (eX a more) (.returned (.slice av n0 cv)) w3):=by show aW _ _ _ _;rw [E.out];exact ⟨rows,_,rfl,(U3.out.l7 (by have:=HZ0.out;have:=HW0.out;omega) HB3.out).top⟩
   rw [h0];clear h0;go_wp2;go_ret;exact HF.out
  ·have q1:decide ((0:Int)<((nm+nc:Nat):Int))=true:=decide_eq_true (by omega);have q2:decide (0<nm+nc)=true:=decide_eq_true (by omega);obtain ⟨n,hn⟩:∃ n,n=nm+nc:=⟨_,rfl⟩;have hjl:=zC L 1000 dW.out;have jE5:0<n:=by omega
   have jD4:n<=100:=by omega
   have JN:=SV L ⟨#[32]⟩ (.slice a3 n c3) w3 (by rw [hn];have:=ES.qR OW3.out;rwa [HLN.out] at this ⊢) (by
    rw [show (⟨#[32]⟩:ByteArray).data.toList=[32] from rfl,EU];have:(Br L).data.toList.length=(Br L).size:=by simp
    rw [this];rw [HLN.out] at hjl;omega) (by rw [HLN.out];omega)
   rw [show (⟨#[32]⟩:ByteArray).data.toList=[32] from rfl,EU,EL] at JN;have HJ:=Lib.hid JN;have E:Hid ((eX a more).map Pr.d=(cO jX a.id).map Pr.d++[(⟨dD,Br L⟩:Pr).d]):=by
    show _=_;unfold eX H7;have hne:¬ (more++a.cls).isEmpty=true:=by rw [<- HLL.out,List.isEmpty_iff];intro e;have h9:=HLN.out;rw [e,List.length_nil] at h9;omega
    rw [if_neg hne,List.map_append,HLL.out];rfl
   rw [<- hn];have q3:decide ((0:Int)<(n:Int))=true:=decide_eq_true (by omega);have q4:decide (0<n)=true:=decide_eq_true (by omega);clear JN h0 q1 q2 hn hjl;go_wp2_with fail
   (with_reducible refine HJ.out.mono ?_)
   rintro e w4 ⟨rfl,b4⟩;have U4:=Lib.hid (U3.out.below b4);have kS:=Lib.hid (HB3.out.trans (b4.mono HB3.out.size));clear HJ b4 U3 HB3 OW3;go_wp2_with (at_builtin;refine OP (n:=n0) rfl _ _ 22 rfl iP _ 32 Tryz.underlying22 hiP qy qz qA rfl (by decide) U4.out (fun _=>False.elim) (⟨dD,Br L⟩:Pr).d [.string ⟨#[99,108,97,115,115]⟩,.string (Br L)] (Pr.dJ _ _ ⟨dD,Br L⟩) rfl xO HN0.out (by omega) (by decide) rfl rfl ?_)
   intro a5 c5 w5 hrow hg5;have HF:Hid (aW wb (eX a more) (.returned (.slice a5 (n0+1) c5)) w5):=by have h1:=kS.out;have h2:jIx wb.heap.size wb w5:=(h1.alloc h1.size _).grown hg5 (by have:=h1.size;simp;omega) (fun g hg=>by have:=(U4.out.own.lt g hg).1;have:=HZ0.out;have:=HW0.out;omega);have h3:=hrow.l7 (by have:=HZ0.out;have:=HW0.out;omega) h2;rw [<- E.out] at h3;exact ⟨_,_,rfl,h3⟩
   clear hrow hg5 U4 kS;go_wp2;go_ret;exact HF.out
open Go.RowKit
def G8 (w:jIq) (ks:List aj) (vk:jIz):Prop:=∀ W:jIq,jIx w.heap.size w W->Calls Tryz.prog 28 #[vk] W (aQ W (dV ks))
def Gc:List jIz:=[.string ⟨#[]⟩,.string ⟨#[]⟩,.slice none 0 0,.slice none 0 0]
def jV (w:jIq) (p:Nat) (c0 c1 c2 c3:jIz):jIq:=(((w.setCell ⟨p,0,none⟩ c0).setCell ⟨p,1,none⟩ c1).setCell ⟨p,2,none⟩ c2).setCell ⟨p,3,none⟩ c3
theorem gq (w:jIq) (p:Nat) (c0 c1 c2 c3:jIz) (b:Nat) (h:b≠p):(jV w p c0 c1 c2 c3).heap[b]?=w.heap[b]?:=by unfold jV;rw [jG4 _ ⟨p,3,none⟩ _ b h,jG4 _ ⟨p,2,none⟩ _ b h,jG4 _ ⟨p,1,none⟩ _ b h,jG4 _ ⟨p,0,none⟩ _ b h]
theorem Pk {w:jIq} {p:Nat} {c0 c1 c2 c3:jIz} {b o:Nat} {v:jIz} (h:w.cell? ⟨b,o,none⟩=some v) (hb:b≠p):(jV w p c0 c1 c2 c3).cell? ⟨b,o,none⟩=some v:=by rw [jy (gq w p c0 c1 c2 c3 b hb)];exact h
theorem jI (S:Nat) (w:jIq) (a b c d:jIz) (o:Nat) (v:jIz) (h:w.cell? ⟨S,o,none⟩=some v) : World.cell? ((((w.setCell ⟨S+1,0,none⟩ a).setCell ⟨S+1,1,none⟩ b).setCell ⟨S+1,2,none⟩ c).setCell ⟨S+1,3,none⟩ d) ⟨S,o,none⟩=some v:=Pk h (by show S≠S+1;omega)
theorem Dn {T:TypeId} {p:Nat} {cs:List jIz} {w:jIq} (h:CB T p cs w) (j:Nat) (u:jIz):CB T p (cs.set j u) (w.setCell ⟨p,j,none⟩ u):=by unfold CB at h ⊢;exact GH
theorem EO {T:TypeId} {p:Nat} {a0 a1 a2 a3:jIz} {w:jIq} (h:CB T p [a0,a1,a2,a3] w) (c0 c1 c2 c3:jIz):CB T p [c0,c1,c2,c3] (jV w p c0 c1 c2 c3):=
 Dn (Dn (Dn (Dn h 0 c0) 1 c1) 2 c2) 3 c3
theorem rD {B p:Nat} {a w:jIq} (h:jIx B a w) (hp:B<=p) (c0 c1 c2 c3:jIz):jIx B a (jV w p c0 c1 c2 c3):=
 (((h.setCell (p:=⟨p,0,none⟩) hp c0).setCell (p:=⟨p,1,none⟩) hp c1).setCell (p:=⟨p,2,none⟩) hp c2).setCell (p:=⟨p,3,none⟩) hp c3
theorem uU (T:TypeId) (w:jIq) (xc:List jIz):∃ S W0,S=w.heap.size/\W0=(w.alloc (.cells xc.toArray T)).alloc (.cells Gc.toArray 30)/\W0.heap.size=S+2/\CB T S xc W0/\CB 30 (S+1) Gc W0/\jIx S w W0:=by
 refine ⟨_,_,rfl,rfl,by simp,?_,?_,((jFj _ _).alloc (jFk _) _).alloc (by simp) _⟩
 ·exact (Below.heap_alloc _ _ _ (by simp)).trans (CB.new _ _ w)
 ·have:=CB.new 30 Gc (w.alloc (.cells xc.toArray T))
  rwa [World.size_alloc] at this
theorem ju0 {T:TypeId} {S:Nat} {W0:jIq} {x0 x1 x2 x3 x4 x5 x6 x7 x8 x9:jIz} (k0:CB T S [x0,x1,x2,x3,x4,x5,x6,x7,x8,x9] W0) : Hid (∀ w':jIq,jIx W0.heap.size W0 w'->w'.cell? ⟨S,1,none⟩=some x1/\w'.cell? ⟨S,2,none⟩=some x2/\w'.cell? ⟨S,3,none⟩=some x3/\w'.cell? ⟨S,4,none⟩=some x4/\w'.cell? ⟨S,5,none⟩=some x5/\w'.cell? ⟨S,6,none⟩=some x6/\w'.cell? ⟨S,9,none⟩=some x9):=
 fun w' hb=>⟨(k0.below hb).cell 1 _ rfl,(k0.below hb).cell 2 _ rfl,(k0.below hb).cell 3 _ rfl,(k0.below hb).cell 4 _ rfl,(k0.below hb).cell 5 _ rfl,(k0.below hb).cell 6 _ rfl,(k0.below hb).cell 9 _ rfl⟩
theorem Sv {T:TypeId} {S:Nat} {W0:jIq} {x0 x1 x2 x3 x4 x5 x6 x7 x8 x9 x10:jIz} (k0:CB T S [x0,x1,x2,x3,x4,x5,x6,x7,x8,x9,x10] W0) : Hid (∀ w':jIq,jIx W0.heap.size W0 w'->w'.cell? ⟨S,1,none⟩=some x1/\w'.cell? ⟨S,2,none⟩=some x2/\w'.cell? ⟨S,3,none⟩=some x3/\w'.cell? ⟨S,4,none⟩=some x4/\w'.cell? ⟨S,5,none⟩=some x5/\w'.cell? ⟨S,6,none⟩=some x6/\w'.cell? ⟨S,7,none⟩=some x7/\w'.cell? ⟨S,8,none⟩=some x8/\w'.cell? ⟨S,9,none⟩=some x9/\w'.cell? ⟨S,10,none⟩=some x10):=
 fun w' hb=>⟨(k0.below hb).cell 1 _ rfl,(k0.below hb).cell 2 _ rfl,(k0.below hb).cell 3 _ rfl,(k0.below hb).cell 4 _ rfl,(k0.below hb).cell 5 _ rfl,(k0.below hb).cell 6 _ rfl,(k0.below hb).cell 7 _ rfl,(k0.below hb).cell 8 _ rfl,(k0.below hb).cell 9 _ rfl,(k0.below hb).cell 10 _ rfl⟩
theorem rz.upH {S:Nat} {w W0:jIq} {at_:At} {ar:List ByteArray} {ci:List Ci} {ks:List aj} {vc vp va vi vk:jIz} (hS:S=w.heap.size) (hR:rz (·<w.heap.size) w at_ ar ci ks vc vp va vi vk) (b0:jIx S w W0):Hid (rz (·<S) W0 at_ ar ci ks vc vp va vi vk):=by subst hS;exact ⟨hR.at_.below b0,hR.args.below b0,hR.fC.below b0,hR.kids.below b0⟩
theorem eT.upH {S:Nat} {w W0:jIq} {at_:At} {li:List aj} {ks:List ah} {vc vp vl vk:jIz} (hS:S=w.heap.size) (hR:eT (·<w.heap.size) w at_ li ks vc vp vl vk) (b0:jIx S w W0):Hid (eT (·<S) W0 at_ li ks vc vp vl vk):=by subst hS;exact ⟨hR.at_.below b0,hR.line.below b0,hR.kids.below b0⟩
theorem Te {S:Nat} {w W0:jIq} {P:jIq->Prop} (hS:S=w.heap.size) (hl:∀ W,jIx w.heap.size w W->P W) (b0:jIx S w W0):Hid (∀ W,jIx W0.heap.size W0 W->P W):=
 fun W hW=>hl W (by rw [<- hS];exact b0.trans (hW.mono (by have:=b0.size;omega)))
theorem dK {P:jIq->Prop} {at_:At} {ar:List ByteArray} {ci:List Ci} {ks:List aj} {vc vp va vi vk:jIz} {w:jIq} (kv:jIz) (t d ti:ByteArray) (hR:rz (·<w.heap.size) w at_ ar ci ks vc vp va vi vk) (hl:∀ W,jIx w.heap.size w W->P W) : ∃ ac nc cc ap np cp aa na ca ai ni mR ak nk ck S W0,vc=.slice ac nc cc/\vp=.slice ap np cp/\va=.slice aa na ca/\vi=.slice ai ni mR/\vk=.slice ak nk ck/\Hid (S=w.heap.size) /\ Hid (W0=(w.alloc (.cells [kv,.string t,.string d,.string ti,.string at_.id,vc,vp,va,vi,vk].toArray 47)).alloc (.cells Gc.toArray 30))/\W0.cell? ⟨S,0,none⟩=some kv /\ Hid (∀ w':jIq,jIx W0.heap.size W0 w'->w'.cell? ⟨S,1,none⟩=some (.string t)/\w'.cell? ⟨S,2,none⟩=some (.string d)/\w'.cell? ⟨S,3,none⟩=some (.string ti)/\w'.cell? ⟨S,4,none⟩=some (.string at_.id)/\w'.cell? ⟨S,5,none⟩=some vc/\w'.cell? ⟨S,6,none⟩=some vp/\w'.cell? ⟨S,9,none⟩=some vk) /\ Hid (∀ W,jIx W0.heap.size W0 W->P W)/\Hid (rz (·<S) W0 at_ ar ci ks vc vp va vi vk)/\Hid (W0.heap.size=S+2)/\Hid (jIx S w W0)/\Hid (CB 30 (S+1) Gc W0):=by
 obtain ⟨ac,nc,cc,rfl⟩:=Rd.au hR.at_.cls
 obtain ⟨ap,np,cp,rfl⟩:=Rd.au hR.at_.aF
 obtain ⟨aa,na,ca,rfl⟩:=Rd.au hR.args;obtain ⟨ai,ni,mR,rfl⟩:=Rd.au hR.fC;obtain ⟨ak,nk,ck,rfl⟩:=Rd.au hR.kids;obtain ⟨S,W0,hS,hW0,z0,k0,k1,b0⟩:=uU 47 w [kv,.string t,.string d,.string ti,.string at_.id,.slice ac nc cc,.slice ap np cp,.slice aa na ca,.slice ai ni mR,.slice ak nk ck];exact ⟨ac,nc,cc,ap,np,cp,aa,na,ca,ai,ni,mR,ak,nk,ck,S,W0,rfl,rfl,rfl,rfl,rfl,hS,hW0,k0.cell 0 _ rfl,ju0 k0,Te hS hl b0,rz.upH hS hR b0,z0,b0,k1⟩
theorem lJ {at_:At} {li:List aj} {ks:List ah} {vc vp vl vk:jIz} {w:jIq} (kv:jIz) (lv:Int) (i t d ti:ByteArray) (hR:eT (·<w.heap.size) w at_ li ks vc vp vl vk) : ∃ ac nc cc ap np cp al nl cl ak nk ck S W0,vc=.slice ac nc cc/\vp=.slice ap np cp/\vl=.slice al nl cl/\vk=.slice ak nk ck/\Hid (S=w.heap.size) /\ Hid (W0=(w.alloc (.cells [kv,.int .i64 lv,.string i,.string t,.string d,.string ti,.string at_.id,vc,vp,vl,vk].toArray 51)).alloc (.cells Gc.toArray 30))/\W0.cell? ⟨S,0,none⟩=some kv /\ Hid (∀ w':jIq,jIx W0.heap.size W0 w'->w'.cell? ⟨S,1,none⟩=some (.int .i64 lv)/\w'.cell? ⟨S,2,none⟩=some (.string i)/\w'.cell? ⟨S,3,none⟩=some (.string t)/\w'.cell? ⟨S,4,none⟩=some (.string d)/\w'.cell? ⟨S,5,none⟩=some (.string ti)/\w'.cell? ⟨S,6,none⟩=some (.string at_.id)/\w'.cell? ⟨S,7,none⟩=some vc/\w'.cell? ⟨S,8,none⟩=some vp/\w'.cell? ⟨S,9,none⟩=some vl/\w'.cell? ⟨S,10,none⟩=some vk) /\ Hid (eT (·<S) W0 at_ li ks vc vp vl vk)/\Hid (W0.heap.size=S+2)/\Hid (jIx S w W0)/\Hid (CB 30 (S+1) Gc W0):=by
 obtain ⟨ac,nc,cc,rfl⟩:=Rd.au hR.at_.cls
 obtain ⟨ap,np,cp,rfl⟩:=Rd.au hR.at_.aF
 obtain ⟨al,nl,cl,rfl⟩:=Rd.au hR.line;obtain ⟨ak,nk,ck,rfl⟩:=Rd.au hR.kids;obtain ⟨S,W0,hS,hW0,z0,k0,k1,b0⟩:=uU 51 w [kv,.int .i64 lv,.string i,.string t,.string d,.string ti,.string at_.id,.slice ac nc cc,.slice ap np cp,.slice al nl cl,.slice ak nk ck];exact ⟨ac,nc,cc,ap,np,cp,al,nl,cl,ak,nk,ck,S,W0,rfl,rfl,rfl,rfl,hS,hW0,k0.cell 0 _ rfl,Sv k0,eT.upH hS hR b0,z0,b0,k1⟩
theorem ER {T:TypeId} {p:Nat} {cs:List jIz} {w:jIq} (h:CB T p cs w) (j:Nat):w.frozen? ⟨p,j,none⟩=false:=by unfold CB at h;simp [World.frozen?,h]
theorem pq {p:Nat} {w:jIq} (h:CB 30 p Gc w):w.cell? ⟨p,0,none⟩=some (.string ⟨#[]⟩)/\w.cell? ⟨p,1,none⟩=some (.string ⟨#[]⟩)/\w.cell? ⟨p,2,none⟩=some (.slice none 0 0)/\w.cell? ⟨p,3,none⟩=some (.slice none 0 0)/\∀ j,w.frozen? ⟨p,j,none⟩=false:=
 ⟨h.cell 0 _ rfl,h.cell 1 _ rfl,h.cell 2 _ rfl,h.cell 3 _ rfl,ER h⟩
theorem uP {S:Nat} {w W0 w3:jIq} (n t:ByteArray) (at_:List Pr) (ks:List Nd) {va vk:jIz} (hS:S=w.heap.size) (z0:W0.heap.size=S+2) (b0:jIx S w W0) (k1:CB 30 (S+1) Gc W0) (b3:jIx W0.heap.size W0 w3) (hR:gP (W0.heap.size<=·) w3 at_ ks va vk) : CB 30 (S+1) [.string n,.string t,va,vk] (jV w3 (S+1) (.string n) (.string t) va vk)/\o8 w (.mk n t at_ ks) (.returned (.agg #[.string n,.string t,va,vk])) (jV w3 (S+1) (.string n) (.string t) va vk):=by refine ⟨EO (k1.below b3) _ _ _ _,va,vk,rfl,hR.keep (fun b hb hlt=>⟨by omega,gq _ _ _ _ _ _ b (by omega)⟩),?_⟩;rw [<- hS];exact rD (b0.trans (b3.mono (by omega))) (by omega) _ _ _ _
theorem dS {S:Nat} {w W0 w3:jIq} (n t:ByteArray) (at_:List Pr) (ks:List Nd) {va vk:jIz} (hS:Hid (S=w.heap.size)) (z0:Hid (W0.heap.size=S+2)) (b0:Hid (jIx S w W0)) (k1:Hid (CB 30 (S+1) Gc W0)) (b3:Hid (jIx W0.heap.size W0 w3)) (hR:gP (W0.heap.size<=·) w3 at_ ks va vk) : ∃ w9,w9=(((w3.setCell ⟨S+1,0,none⟩ (.string n)).setCell ⟨S+1,1,none⟩ (.string t)).setCell ⟨S+1,2,none⟩ va).setCell ⟨S+1,3,none⟩ vk /\ w9.cell? ⟨S+1,0,none⟩=some (.string n)/\w9.cell? ⟨S+1,1,none⟩=some (.string t)/\w9.cell? ⟨S+1,2,none⟩=some va/\w9.cell? ⟨S+1,3,none⟩=some vk /\ Hid (o8 w (.mk n t at_ ks) (.returned (.agg #[.string n,.string t,va,vk])) w9) /\ w3.cell? ⟨S+1,0,none⟩=some (.string ⟨#[]⟩)/\w3.cell? ⟨S+1,1,none⟩=some (.string ⟨#[]⟩)/\w3.cell? ⟨S+1,2,none⟩=some (.slice none 0 0)/\w3.cell? ⟨S+1,3,none⟩=some (.slice none 0 0)/\∀ j,w3.frozen? ⟨S+1,j,none⟩=false:=by
 have hf:=uP n t at_ ks hS.out z0.out b0.out k1.out b3.out hR
 exact ⟨_,rfl,hf.1.cell 0 _ rfl,hf.1.cell 1 _ rfl,hf.1.cell 2 _ rfl,hf.1.cell 3 _ rfl,hf.2,pq (k1.out.below b3.out)⟩
theorem sV (l:List ByteArray) (W:jIq) (hl:l.length<=maxLen):Rd (·<(W.alloc (.cells (l.map Value.string).toArray 9)).heap.size) (W.alloc (.cells (l.map Value.string).toArray 9)) (ku l) [.slice (some ⟨W.heap.size,0,none⟩) l.length l.length]:=
 Rd.Tf (B:=W.heap.size) (e:=9) ⟨by simp,.inr ⟨W.heap.size,l.length,(l.map Value.string).toArray,rfl,jFk _,heap_alloc_new W _,jFk _,hl,by simp,by
  show List.take (l.length*1) (l.map Value.string)=_;rw [List.take_of_length_le (by simp)]⟩⟩ (fun g hg=>by
   have e1:W.heap.size=g:=by simpa [Value.ownBlock] using hg
   simp;omega)
theorem XR (k v:ByteArray) (W:jIq):Calls Tryz.prog 18 #[.slice (some ⟨W.heap.size,0,none⟩) 2 2] (W.alloc (.cells #[.string k,.string v] 9)) (aW (W.alloc (.cells #[.string k,.string v] 9)) [⟨k,v⟩]):=
 mh [⟨k,v⟩] _ _ (sV [k,v] W (by unfold maxLen;simp)) (by simp)
theorem zD (k v k' v':ByteArray) (W:jIq):Calls Tryz.prog 18 #[.slice (some ⟨W.heap.size,0,none⟩) 4 4] (W.alloc (.cells #[.string k,.string v,.string k',.string v'] 9)) (aW (W.alloc (.cells #[.string k,.string v,.string k',.string v'] 9)) [⟨k,v⟩,⟨k',v'⟩]):=
 mh [⟨k,v⟩,⟨k',v'⟩] _ _ (sV [k,v,k',v'] W (by unfold maxLen;simp)) (by simp)
theorem gu (W:jIq) (o:Obj):jIx W.heap.size W (W.alloc o).drew:=((jFj _ _).alloc (jFk _) _).drew
theorem EW (k v:ByteArray) (W:jIq):Hid (Calls Tryz.prog 18 #[.slice (some ⟨W.heap.size,0,none⟩) 2 2] (W.alloc (.cells #[.string k,.string v] 9)).drew (aW (W.alloc (.cells #[.string k,.string v] 9)).drew [⟨k,v⟩]))/\Hid (jIx W.heap.size W (W.alloc (.cells #[.string k,.string v] 9)).drew):=
 ⟨XR k v W.drew,gu W _⟩
theorem XT (k v k' v':ByteArray) (W:jIq):Hid (Calls Tryz.prog 18 #[.slice (some ⟨W.heap.size,0,none⟩) 4 4] (W.alloc (.cells #[.string k,.string v,.string k',.string v'] 9)).drew (aW (W.alloc (.cells #[.string k,.string v,.string k',.string v'] 9)).drew [⟨k,v⟩,⟨k',v'⟩]))/\Hid (jIx W.heap.size W (W.alloc (.cells #[.string k,.string v,.string k',.string v'] 9)).drew):=
 ⟨zD k v k' v' W.drew,gu W _⟩
theorem XU (k v k' v':ByteArray) {B:Nat} {W0 W:jIq} (h:Hid (jIx B W0 W)) (hB:B<=W.heap.size):Hid (Calls Tryz.prog 18 #[.slice (some ⟨W.heap.size,0,none⟩) 4 4] (W.alloc (.cells #[.string k,.string v,.string k',.string v'] 9)) (aW (W.alloc (.cells #[.string k,.string v,.string k',.string v'] 9)) [⟨k,v⟩,⟨k',v'⟩]))/\Hid (jIx B W0 (W.alloc (.cells #[.string k,.string v,.string k',.string v'] 9))):=
 ⟨zD k v k' v' W,h.out.alloc hB _⟩
theorem zB {S:Nat} {W0 w':jIq} {a:At} {vc vp:jIz} (h:AtR (·<S) W0 a vc vp) (hb:jIx W0.heap.size W0 w') (hS:S<=W0.heap.size):AtR (·<w'.heap.size) w' a vc vp:=
 ⟨Rd.keep (fun b (hb1:b<S) _=>⟨by have:=hb.size;omega,hb.block b (by omega)⟩) _ _ h.cls,Rd.keep (fun b (hb1:b<S) _=>⟨by have:=hb.size;omega,hb.block b (by omega)⟩) _ _ h.aF⟩
theorem Td {S:Nat} {W0:jIq} {a:At} {vc vp:jIz} (hS:S<=W0.heap.size) (h:AtR (·<S) W0 a vc vp):AtR (·<W0.drew.heap.size) W0.drew a vc vp:=
 ⟨Rd.keep (w:=W0) (w':=W0.drew) (ok:=(·<S)) (fun b (hb:b<S) _=>⟨(by show b<W0.heap.size;omega),rfl⟩) _ _ h.cls,Rd.keep (w:=W0) (w':=W0.drew) (ok:=(·<S)) (fun b (hb:b<S) _=>⟨(by show b<W0.heap.size;omega),rfl⟩) _ _ h.aF⟩
theorem aG.slice3 {T:TypeId} {k U:Nat} {ok:Nat->Prop} {w0 w:jIq} {ds:List D} {rows:List (List jIz)} {v:jIz} (h:aG T k ok U w0 ds rows v w):∃ a n c,v=.slice a n c:=by obtain ⟨a,c,e⟩:=h.slice;exact ⟨a,_,c,e⟩
theorem uW {k:Int} {t d ti:ByteArray} {a:At} {ar:List ByteArray} {ci:List Ci} {ks:List aj} (h:(aj.mk k t d ti a ar ci ks).small):([]++a.cls).length<=100/\∀ c∈[]++a.cls,c.size<=1000:=by rw [aj.small] at h;obtain ⟨-,-,-,h,-⟩:=h;unfold At.short at h;rw [List.nil_append];exact ⟨by omega,fun c hc=>by have:=h.2.2.2.1 c hc;omega⟩
def zF (k:Int):Prop:=∀ (t d ti:ByteArray) (at_:At) (ar:List ByteArray) (ci:List Ci) (ks:List aj) (vc vp va vi vk:jIz) (w:jIq),rz (·<w.heap.size) w at_ ar ci ks vc vp va vi vk->(aj.mk k t d ti at_ ar ci ks).small->G8 w ks vk ->
 Calls Tryz.prog 60 #[.agg #[.int .i64 k,.string t,.string d,.string ti,.string at_.id,vc,vp,va,vi,vk]] w (o8 w (aj.mk k t d ti at_ ar ci ks).nd)
theorem bO{P Q:Prop}(q:Q)(h:Nonempty Q->P:=by
 intro qQ;rw [<- HS.out];have hk0:=HW0.out;simp only [Gc] at hk0;rw [<- hk0];clear hk0;exact qQ.elim fun x=>x):P:=h ⟨q⟩
theorem mV{P Q:Prop}(q:Q)(h:Nonempty Q->P:=by
 intro qQ;have dw:=Lib.hid hs;have hst:t.size<=300:=by rw [aj.small] at hs;exact hs.1
 revert dw hst;exact qQ.elim fun x=>x):P:=h ⟨q⟩
theorem jn8:zF 2:=by
 intro t d ti at_ ar ci ks vc vp va vi vk w hR hs hl
 have E:Hid ((aj.mk 2 t d ti at_ ar ci ks).nd=Da Kk):=by show _=_;rw [aj.nd];rfl
 rw [E.out];obtain ⟨ac,nc,cc,ap,np,cp,aa,na,ca,ai,ni,mR,ak,nk,ck,S,W0,rfl,rfl,rfl,rfl,rfl,HS,HW0,e0,SX,dW,HR,Z0,B0,K1⟩:=dK (.int .i64 2) t d ti hR hl;refine mV ?_;intro dw hst;clear hR hs hl E;go_enter Tryz.func60,Tryz.ntmps60;go_upto_region 3 with (fail)
 refine bO ?_;have BL:Hid (jIx W0.heap.size W0 W0):=jFj _ _;have f1:=K1.out;obtain ⟨w9,hw8,r0,r1,r2,r3,HP,x0,x1,x2,x3,xf⟩:=dS ⟨#[]⟩ ⟨#[32]⟩ [] [] HS Z0 B0 K1 BL ⟨Rd.aD _ _ _,Rd.aD _ _ _⟩;go_wp2;rw [<- hw8];exact bodyPost_ret (v:=.agg #[.string ⟨#[]⟩,.string ⟨#[32]⟩,(.slice none 0 0),(.slice none 0 0)]) (by simp [results,Tryz.results60,go_sem,r0,r1,r2,r3]) rfl HP.out
theorem jc1{P Q:Prop}(q:Q)(h:Nonempty Q->P:=by
 intro qQ;have hst:t.size<=300:=by rw [aj.small] at hs;exact hs.1
 have q2:(k==2)=false:=by rw [beq_eq_false_iff_ne];exact hk.1
 have q3:(k==3)=false:=by rw [beq_eq_false_iff_ne];exact hk.2.1
 have q4:(k==4)=false:=by rw [beq_eq_false_iff_ne];exact hk.2.2.1
 have q5:(k==5)=false:=by rw [beq_eq_false_iff_ne];exact hk.2.2.2.1
 have q6:(k==6)=false:=by rw [beq_eq_false_iff_ne];exact hk.2.2.2.2.1
 have q7:(k==7)=false:=by rw [beq_eq_false_iff_ne];exact hk.2.2.2.2.2.1
 have q8:(k==8)=false:=by rw [beq_eq_false_iff_ne];exact hk.2.2.2.2.2.2.1
 have q9:(k==9)=false:=by rw [beq_eq_false_iff_ne];exact hk.2.2.2.2.2.2.2.1
 have q10:(k==10)=false:=by rw [beq_eq_false_iff_ne];exact hk.2.2.2.2.2.2.2.2.1
 have q11:(k==11)=false:=by rw [beq_eq_false_iff_ne];exact hk.2.2.2.2.2.2.2.2.2.1
 have q12:(k==12)=false:=by rw [beq_eq_false_iff_ne];exact hk.2.2.2.2.2.2.2.2.2.2.1
 have q16:(k==16)=false:=by rw [beq_eq_false_iff_ne];exact hk.2.2.2.2.2.2.2.2.2.2.2
 revert hst q2 q3 q4 q5 q6 q7 q8 q9 q10 q11 q12 q16;exact qQ.elim fun x=>x):P:=h ⟨q⟩
theorem jc0{P Q:Prop}(q:Q)(h:Nonempty Q->P:=by
 intro qQ;have E:Hid ((aj.mk k t d ti at_ ar ci ks).nd=Da t):=by show _=_;rw [aj.nd];obtain ⟨h2,h3,h4,h5,h6,h7,h8,h9,h10,h11,h12,h16⟩:=hk;rw [if_neg h2,if_neg h3,if_neg h4,if_neg h5,if_neg h6,if_neg h7,if_neg h8,if_neg h9,if_neg h10,if_neg h11,if_neg h12,if_neg h16]
 rw [E.out];revert E;exact qQ.elim fun x=>x):P:=h ⟨q⟩
theorem Tg (k:Int) (t d ti:ByteArray) (at_:At) (ar:List ByteArray) (ci:List Ci) (ks:List aj) (vc vp va vi vk:jIz) (w:jIq) (hR:rz (·<w.heap.size) w at_ ar ci ks vc vp va vi vk) (hs:(aj.mk k t d ti at_ ar ci ks).small) (hl:G8 w ks vk) (hk:k≠2/\k≠3/\k≠4/\k≠5/\k≠6/\k≠7/\k≠8/\k≠9/\k≠10/\k≠11/\k≠12/\k≠16) : Calls Tryz.prog 60 #[.agg #[.int .i64 k,.string t,.string d,.string ti,.string at_.id,vc,vp,va,vi,vk]] w (o8 w (aj.mk k t d ti at_ ar ci ks).nd):=by
 refine jc0 ?_;intro E;obtain ⟨ac,nc,cc,ap,np,cp,aa,na,ca,ai,ni,mR,ak,nk,ck,S,W0,rfl,rfl,rfl,rfl,rfl,HS,HW0,e0,SX,dW,HR,Z0,B0,K1⟩:=dK (.int .i64 k) t d ti hR hl;have dw:=Lib.hid hs;refine jc1 ?_;intro hst q2 q3 q4 q5 q6 q7 q8 q9 q10 q11 q12 q16;clear hk;clear hR hs hl E;go_enter Tryz.func60,Tryz.ntmps60;go_upto_region 27 with (fail)
 refine bO ?_;have BL:Hid (jIx W0.heap.size W0 W0):=jFj _ _;have g1:=(SX.out W0 (jFj _ _)).1;obtain ⟨w9,hw8,r0,r1,r2,r3,HP,x0,x1,x2,x3,xf⟩:=dS ⟨#[]⟩ t [] [] HS Z0 B0 K1 BL ⟨Rd.aD _ _ _,Rd.aD _ _ _⟩;go_wp2;rw [<- hw8];exact bodyPost_ret (v:=.agg #[.string ⟨#[]⟩,.string t,(.slice none 0 0),(.slice none 0 0)]) (by simp [results,Tryz.results60,go_sem,r0,r1,r2,r3]) rfl HP.out
theorem jn9:zF 3:=by
 intro t d ti at_ ar ci ks vc vp va vi vk w hR hs hl
 have E:Hid ((aj.mk 3 t d ti at_ ar ci ks).nd=aH nBr [] []):=by show _=_;rw [aj.nd];rfl
 rw [E.out];obtain ⟨ac,nc,cc,ap,np,cp,aa,na,ca,ai,ni,mR,ak,nk,ck,S,W0,rfl,rfl,rfl,rfl,rfl,HS,HW0,e0,SX,dW,HR,Z0,B0,K1⟩:=dK (.int .i64 3) t d ti hR hl;refine mV ?_;intro dw hst;clear hR hs hl E;go_enter Tryz.func60,Tryz.ntmps60;go_upto_region 5 with (fail)
 refine bO ?_;have EC:=Lib.hid (mg ⟨#[98,114]⟩ none none 0 0 0 0 W0);have B4:Hid (jIx W0.heap.size W0 W0):=jFj _ _;go_wp2_with fail
 (with_reducible refine EC.out.mono ?_)
 rintro e w5 ⟨rfl,b5⟩;have BL:=Lib.hid (q01 B4.out b5);clear b5;obtain ⟨w9,hw8,r0,r1,r2,r3,HP,x0,x1,x2,x3,xf⟩:=dS ⟨#[98,114]⟩ ⟨#[]⟩ [] [] HS Z0 B0 K1 BL ⟨Rd.aD _ _ _,Rd.aD _ _ _⟩;go_wp2;rw [<- hw8];exact bodyPost_ret (v:=.agg #[.string ⟨#[98,114]⟩,.string ⟨#[]⟩,(.slice none 0 0),(.slice none 0 0)]) (by simp [results,Tryz.results60,go_sem,r0,r1,r2,r3]) rfl HP.out
theorem jnj:zF 4:=by
 intro t d ti at_ ar ci ks vc vp va vi vk w hR hs hl
 have E:Hid ((aj.mk 4 t d ti at_ ar ci ks).nd=aH dO [] (bK t)):=by show _=_;rw [aj.nd];rfl
 rw [E.out];obtain ⟨ac,nc,cc,ap,np,cp,aa,na,ca,ai,ni,mR,ak,nk,ck,S,W0,rfl,rfl,rfl,rfl,rfl,HS,HW0,e0,SX,dW,HR,Z0,B0,K1⟩:=dK (.int .i64 4) t d ti hR hl;refine mV ?_;intro dw hst;clear hR hs hl E;go_enter Tryz.func60,Tryz.ntmps60;go_upto_region 7 with (fail)
 refine bO ?_;have DC:=Lib.hid (jD t W0);have g1:=(SX.out W0 (jFj _ _)).1;go_wp2_with fail
 (with_reducible refine DC.out.mono ?_)
 rintro e w4 ⟨bG,v4,rfl,hrow4⟩;obtain ⟨a4,n4,c4,rfl⟩:=hrow4.slice3;have b4:=hrow4.aO;have B4:=Lib.hid (q01 (jFj W0.heap.size W0) b4);have cZ:=Lib.hid (show Rd (W0.heap.size<=·) w4 (gH (bK t)) [.slice a4 n4 c4] from hrow4.cu.weaken (fun b hb=>jFq ((jFj W0.heap.size W0)).size hb));have EC:=Lib.hid (mg ⟨#[99,111,100,101]⟩ none a4 0 n4 0 c4 w4);clear b4 hrow4 DC g1;go_wp2_with fail
 (with_reducible refine EC.out.mono ?_)
 rintro e w5 ⟨rfl,b5⟩;have BL:=Lib.hid (q01 B4.out b5);have HN:=Lib.hid (show gP (W0.heap.size<=·) w5 [] (bK t) (.slice none 0 0) (.slice a4 n4 c4) from ⟨Rd.aD _ _ _,cZ.out.aX b5⟩);clear b5 cZ EC;obtain ⟨w9,hw8,r0,r1,r2,r3,HP,x0,x1,x2,x3,xf⟩:=dS ⟨#[99,111,100,101]⟩ ⟨#[]⟩ [] (bK t) HS Z0 B0 K1 BL HN.out;go_wp2;rw [<- hw8];exact bodyPost_ret (v:=.agg #[.string ⟨#[99,111,100,101]⟩,.string ⟨#[]⟩,(.slice none 0 0),(.slice a4 n4 c4)]) (by simp [results,Tryz.results60,go_sem,r0,r1,r2,r3]) rfl HP.out
theorem Ti{P Q:Prop}(q:Q)(h:Nonempty Q->P:=by
 intro qQ;have BL:=Lib.hid (q01 B4.out b5);have HN:=Lib.hid (show gP (W0.heap.size<=·) w5 [] (dV ks) (.slice none 0 0) (.slice a4 n4 c4) from ⟨Rd.aD _ _ _,cZ.out.aX b5⟩);revert BL HN;exact qQ.elim fun x=>x):P:=h ⟨q⟩
theorem Tj{P Q:Prop}(q:Q)(h:Nonempty Q->P:=by
 intro qQ;have b4:=hrow4.aO;have B4:=Lib.hid b4;have cZ:=Lib.hid (show Rd (W0.heap.size<=·) w4 (gH (dV ks)) [.slice a4 n4 c4] from hrow4.cu);revert b4 B4 cZ;exact qQ.elim fun x=>x):P:=h ⟨q⟩
theorem Tk{P Q:Prop}(q:Q)(h:Nonempty Q->P:=by
 intro qQ;have LC:=Lib.hid (dW.out W0 (jFj _ _));have g9:=(SX.out W0 (jFj _ _)).2.2.2.2.2.2;revert LC g9;exact qQ.elim fun x=>x):P:=h ⟨q⟩
theorem jnk:zF 6:=by
 intro t d ti at_ ar ci ks vc vp va vi vk w hR hs hl
 have E:Hid ((aj.mk 6 t d ti at_ ar ci ks).nd=aH nEm [] (dV ks)):=by show _=_;rw [aj.nd];rfl
 rw [E.out];obtain ⟨ac,nc,cc,ap,np,cp,aa,na,ca,ai,ni,mR,ak,nk,ck,S,W0,rfl,rfl,rfl,rfl,rfl,HS,HW0,e0,SX,dW,HR,Z0,B0,K1⟩:=dK (.int .i64 6) t d ti hR hl;refine mV ?_;intro dw hst;clear hR hs hl E;go_enter Tryz.func60,Tryz.ntmps60;go_upto_region 11 with (fail)
 refine bO ?_;refine Tk ?_;intro LC g9;go_wp2_with fail
 (with_reducible refine LC.out.mono ?_)
 rintro e w4 ⟨bG,v4,rfl,hrow4⟩;obtain ⟨a4,n4,c4,rfl⟩:=hrow4.slice3;refine Tj ?_;intro b4 B4 cZ;have EC:=Lib.hid (mg ⟨#[101,109]⟩ none a4 0 n4 0 c4 w4);clear b4 hrow4 LC g9;go_wp2_with fail
 (with_reducible refine EC.out.mono ?_)
 rintro e w5 ⟨rfl,b5⟩;refine Ti ?_;intro BL HN;clear b5 cZ EC;obtain ⟨w9,hw8,r0,r1,r2,r3,HP,x0,x1,x2,x3,xf⟩:=dS ⟨#[101,109]⟩ ⟨#[]⟩ [] (dV ks) HS Z0 B0 K1 BL HN.out;go_wp2;rw [<- hw8];exact bodyPost_ret (v:=.agg #[.string ⟨#[101,109]⟩,.string ⟨#[]⟩,(.slice none 0 0),(.slice a4 n4 c4)]) (by simp [results,Tryz.results60,go_sem,r0,r1,r2,r3]) rfl HP.out
theorem jnq:zF 7:=by
 intro t d ti at_ ar ci ks vc vp va vi vk w hR hs hl
 have E:Hid ((aj.mk 7 t d ti at_ ar ci ks).nd=aH ET [] (dV ks)):=by show _=_;rw [aj.nd];rfl
 rw [E.out];obtain ⟨ac,nc,cc,ap,np,cp,aa,na,ca,ai,ni,mR,ak,nk,ck,S,W0,rfl,rfl,rfl,rfl,rfl,HS,HW0,e0,SX,dW,HR,Z0,B0,K1⟩:=dK (.int .i64 7) t d ti hR hl;refine mV ?_;intro dw hst;clear hR hs hl E;go_enter Tryz.func60,Tryz.ntmps60;go_upto_region 13 with (fail)
 refine bO ?_;refine Tk ?_;intro LC g9;go_wp2_with fail
 (with_reducible refine LC.out.mono ?_)
 rintro e w4 ⟨bG,v4,rfl,hrow4⟩;obtain ⟨a4,n4,c4,rfl⟩:=hrow4.slice3;refine Tj ?_;intro b4 B4 cZ;have EC:=Lib.hid (mg ⟨#[115,116,114,111,110,103]⟩ none a4 0 n4 0 c4 w4);clear b4 hrow4 LC g9;go_wp2_with fail
 (with_reducible refine EC.out.mono ?_)
 rintro e w5 ⟨rfl,b5⟩;refine Ti ?_;intro BL HN;clear b5 cZ EC;obtain ⟨w9,hw8,r0,r1,r2,r3,HP,x0,x1,x2,x3,xf⟩:=dS ⟨#[115,116,114,111,110,103]⟩ ⟨#[]⟩ [] (dV ks) HS Z0 B0 K1 BL HN.out;go_wp2;rw [<- hw8];exact bodyPost_ret (v:=.agg #[.string ⟨#[115,116,114,111,110,103]⟩,.string ⟨#[]⟩,(.slice none 0 0),(.slice a4 n4 c4)]) (by simp [results,Tryz.results60,go_sem,r0,r1,r2,r3]) rfl HP.out
theorem jnx:zF 8:=by
 intro t d ti at_ ar ci ks vc vp va vi vk w hR hs hl
 have E:Hid ((aj.mk 8 t d ti at_ ar ci ks).nd=aH nS [] (dV ks)):=by show _=_;rw [aj.nd];rfl
 rw [E.out];obtain ⟨ac,nc,cc,ap,np,cp,aa,na,ca,ai,ni,mR,ak,nk,ck,S,W0,rfl,rfl,rfl,rfl,rfl,HS,HW0,e0,SX,dW,HR,Z0,B0,K1⟩:=dK (.int .i64 8) t d ti hR hl;refine mV ?_;intro dw hst;clear hR hs hl E;go_enter Tryz.func60,Tryz.ntmps60;go_upto_region 15 with (fail)
 refine bO ?_;refine Tk ?_;intro LC g9;go_wp2_with fail
 (with_reducible refine LC.out.mono ?_)
 rintro e w4 ⟨bG,v4,rfl,hrow4⟩;obtain ⟨a4,n4,c4,rfl⟩:=hrow4.slice3;refine Tj ?_;intro b4 B4 cZ;have EC:=Lib.hid (mg ⟨#[115]⟩ none a4 0 n4 0 c4 w4);clear b4 hrow4 LC g9;go_wp2_with fail
 (with_reducible refine EC.out.mono ?_)
 rintro e w5 ⟨rfl,b5⟩;refine Ti ?_;intro BL HN;clear b5 cZ EC;obtain ⟨w9,hw8,r0,r1,r2,r3,HP,x0,x1,x2,x3,xf⟩:=dS ⟨#[115]⟩ ⟨#[]⟩ [] (dV ks) HS Z0 B0 K1 BL HN.out;go_wp2;rw [<- hw8];exact bodyPost_ret (v:=.agg #[.string ⟨#[115]⟩,.string ⟨#[]⟩,(.slice none 0 0),(.slice a4 n4 c4)]) (by simp [results,Tryz.results60,go_sem,r0,r1,r2,r3]) rfl HP.out
theorem lI{P Q:Prop}(q:Q)(h:Nonempty Q->P:=by
 intro qQ;rw [<- hw8];have r0:=HC.out.cell 0 _ rfl;have r1:=HC.out.cell 1 _ rfl;have r2:=HC.out.cell 2 _ rfl;have r3:=HC.out.cell 3 _ rfl;revert r0 r1 r2 r3;exact qQ.elim fun x=>x):P:=h ⟨q⟩
theorem lH{P Q:Prop}(q:Q)(h:Nonempty Q->P:=by
 intro qQ;have hw8:=bZ;simp only [jV] at hw8;obtain ⟨x0,x1,x2,x3,xf⟩:=pq (K1.out.below BL.out);revert hw8 x0 x1 x2 x3 xf;exact qQ.elim fun x=>x):P:=h ⟨q⟩
theorem vY{P Q:Prop}(q:Q)(h:Nonempty Q->P:=by
 intro qQ;have S0:=SF.out _ (jFj _ _).drew;have S1:=SF.out _ je.out;revert S0 S1;exact qQ.elim fun x=>x):P:=h ⟨q⟩
theorem jc2{P Q:Prop}(q:Q)(h:Nonempty Q->P:=by
 intro qQ;obtain ⟨w9,bZ⟩:∃ w9,w9=jV w5 (S+1) (.string ⟨#[115,112,97,110]⟩) (.string ⟨#[]⟩) (.slice a2 1 c2) (.slice a4 n4 c4):=⟨_,rfl⟩;have hf:=uP ⟨#[115,112,97,110]⟩ ⟨#[]⟩ [⟨dD,oq⟩] (bK t) HS.out Z0.out B0.out K1.out BL.out HN.out;rw [<- bZ] at hf;revert w9 bZ hf;exact qQ.elim fun x=>x):P:=h ⟨q⟩
theorem Tm{P Q:Prop}(q:Q)(h:Nonempty Q->P:=by
 intro qQ;have Tc:Hid (∀ W:jIq,Calls Tryz.prog 19 #[.string t] W (aQ W (bK t))):=fun W=>jD t W
 revert Tc;exact qQ.elim fun x=>x):P:=h ⟨q⟩
theorem jnz:zF 5:=by
 intro t d ti at_ ar ci ks vc vp va vi vk w hR hs hl
 have E:Hid ((aj.mk 5 t d ti at_ ar ci ks).nd=aH Dt [⟨dD,oq⟩] (bK t)):=by show _=_;rw [aj.nd];rfl
 rw [E.out];obtain ⟨ac,nc,cc,ap,np,cp,aa,na,ca,ai,ni,mR,ak,nk,ck,S,W0,rfl,rfl,rfl,rfl,rfl,HS,HW0,e0,SX,dW,HR,Z0,B0,K1⟩:=dK (.int .i64 5) t d ti hR hl;refine mV ?_;intro dw hst;clear hR hs hl E;go_enter Tryz.func60,Tryz.ntmps60;go_upto_region 9 with (fail)
 refine bO ?_;obtain ⟨PC,je⟩:=EW ⟨#[99,108,97,115,115]⟩ ⟨#[109,97,116,104]⟩ W0;have SF:=Lib.hid (fun (w':jIq) (hb:jIx W0.heap.size W0 w')=>((SX.out w' hb).1:w'.cell? ⟨S,1,none⟩=some (.string t)));refine vY ?_;intro S0 S1;refine Tm ?_;intro Tc;go_wp2_with fail
 go_region_held3 (fun w'=>w'.cell? ⟨S,1,none⟩=some (.string t))
  (with_reducible assumption)
  (first
   | (go_simp;go_at_call 18;(with_reducible refine PC.out.mono ?_);rintro e w2 ⟨bD,v2,rfl,hrow2⟩;obtain ⟨a2,c2,rfl,-,-⟩:=hrow2.cap (n:=1) rfl;have B2:=Lib.hid (je.out.trans (hrow2.aO.mono je.out.size));have xA:=Lib.hid (show Rd (W0.heap.size<=·) w2 (fJ [⟨dD,oq⟩]) [.slice a2 1 c2] from hrow2.cu.weaken (fun b hb=>jFq je.out.size hb));have S2:=SF.out w2 B2.out;have DC:=Lib.hid (Tc.out w2))
   | (go_simp;go_at_call 19;(with_reducible refine DC.out.mono ?_);rintro e w4 ⟨bG,v4,rfl,hrow4⟩;obtain ⟨a4,n4,c4,rfl⟩:=hrow4.slice3;have b4:=hrow4.aO;have B4:=Lib.hid (q01 B2.out b4);have cZ:=Lib.hid (show Rd (W0.heap.size<=·) w4 (gH (bK t)) [.slice a4 n4 c4] from hrow4.cu.weaken (fun b hb=>jFq (B2.out).size hb));have jY:=Lib.hid (xA.out.aX b4);have S4:=SF.out w4 B4.out;have EC:=Lib.hid (mg ⟨#[115,112,97,110]⟩ a2 a4 1 n4 c2 c4 w4))
   | (go_simp;go_at_call 17;(with_reducible refine EC.out.mono ?_);rintro e w5 ⟨rfl,b5⟩;have BL:=Lib.hid (q01 B4.out b5);obtain ⟨x0,x1,x2,x3,xf⟩:=pq (K1.out.below BL.out);have S5:=SF.out w5 BL.out;have K6:=jI S w5 (.string ⟨#[115,112,97,110]⟩) (.string ⟨#[]⟩) (.slice a2 1 c2) (.slice a4 n4 c4);have S6:=K6 _ _ (SF.out w5 BL.out);clear K6))
 all_goals
  have HN:=Lib.hid (show gP (W0.heap.size<=·) w5 [⟨dD,oq⟩] (bK t) (.slice a2 1 c2) (.slice a4 n4 c4) from ⟨jY.out.aX b5,cZ.out.aX b5⟩);clear b5 cZ EC jY hrow2 hrow4 b4 S0 S1 S2 S4 S5 S6 xA;refine jc2 ?_;intro w9 bZ hf;have HC:=Lib.hid hf.1;have HP:=Lib.hid hf.2;clear hf;refine lH ?_;clear bZ;intro hw8 x0 x1 x2 x3 xf;go_wp2;refine lI ?_;intro r0 r1 r2 r3;exact bodyPost_ret (v:=.agg #[.string ⟨#[115,112,97,110]⟩,.string ⟨#[]⟩,(.slice a2 1 c2),(.slice a4 n4 c4)]) (by simp [results,Tryz.results60,go_sem,r0,r1,r2,r3]) rfl HP.out
theorem jc3{P Q:Prop}(q:Q)(h:Nonempty Q->P:=by
 intro qQ;have q5:(⟨#[35,110,111,116,101,45]⟩:ByteArray).size+t.size<=9223372036854775807:=by have:(⟨#[35,110,111,116,101,45]⟩:ByteArray).size=6:=rfl;omega
 have q6:6+t.size<=9223372036854775807:=by omega
 have hadd:∀ w:jIq,(Op.stringOp .add (⟨#[35,110,111,116,101,45]⟩:ByteArray) t).run Tryz.prog w=.ok (.string (⟨#[35,110,111,116,101,45]⟩++t)) w:=fun w=>run_string_add_sum w _ _ q5
 revert q5 q6 hadd;exact qQ.elim fun x=>x):P:=h ⟨q⟩
theorem XV:zF 12:=by
 intro t d ti at_ ar ci ks vc vp va vi vk w hR hs hl
 have E:Hid ((aj.mk 12 t d ti at_ ar ci ks).nd=aH nA [⟨kF,gT++t⟩,⟨dD,Nr⟩] (bK t)):=by show _=_;rw [aj.nd];rfl
 rw [E.out];obtain ⟨ac,nc,cc,ap,np,cp,aa,na,ca,ai,ni,mR,ak,nk,ck,S,W0,rfl,rfl,rfl,rfl,rfl,HS,HW0,e0,SX,dW,HR,Z0,B0,K1⟩:=dK (.int .i64 12) t d ti hR hl;refine mV ?_;intro dw hst;clear hR hs hl E;go_enter Tryz.func60,Tryz.ntmps60;go_upto_region 24 with (fail)
 refine bO ?_;obtain ⟨PC,je⟩:=XT ⟨#[104,114,101,102]⟩ (⟨#[35,110,111,116,101,45]⟩++t) ⟨#[99,108,97,115,115]⟩ ⟨#[110,111,116,101,114,101,102]⟩ W0;have SF:=Lib.hid (fun (w':jIq) (hb:jIx W0.heap.size W0 w')=>((SX.out w' hb).1:w'.cell? ⟨S,1,none⟩=some (.string t)));refine vY ?_;intro S0 S1;refine Tm ?_;intro Tc;refine jc3 ?_;intro q5 q6 hadd;go_wp2_with fail
 go_region_held3 (fun w'=>w'.cell? ⟨S,1,none⟩=some (.string t))
  (with_reducible assumption)
  (first
   | (go_simp;go_at_call 18;(with_reducible refine PC.out.mono ?_);rintro e w2 ⟨bD,v2,rfl,hrow2⟩;obtain ⟨a2,c2,rfl,-,-⟩:=hrow2.cap (n:=2) rfl;have B2:=Lib.hid (je.out.trans (hrow2.aO.mono je.out.size));have xA:=Lib.hid (show Rd (W0.heap.size<=·) w2 (fJ [⟨kF,gT++t⟩,⟨dD,Nr⟩]) [.slice a2 2 c2] from hrow2.cu.weaken (fun b hb=>jFq je.out.size hb));have S2:=SF.out w2 B2.out;have DC:=Lib.hid (Tc.out w2))
   | (go_simp;go_at_call 19;(with_reducible refine DC.out.mono ?_);rintro e w4 ⟨bG,v4,rfl,hrow4⟩;obtain ⟨a4,n4,c4,rfl⟩:=hrow4.slice3;have b4:=hrow4.aO;have B4:=Lib.hid (q01 B2.out b4);have cZ:=Lib.hid (show Rd (W0.heap.size<=·) w4 (gH (bK t)) [.slice a4 n4 c4] from hrow4.cu.weaken (fun b hb=>jFq (B2.out).size hb));have jY:=Lib.hid (xA.out.aX b4);have S4:=SF.out w4 B4.out;have EC:=Lib.hid (mg ⟨#[97]⟩ a2 a4 2 n4 c2 c4 w4))
   | (go_simp;go_at_call 17;(with_reducible refine EC.out.mono ?_);rintro e w5 ⟨rfl,b5⟩;have BL:=Lib.hid (q01 B4.out b5);obtain ⟨x0,x1,x2,x3,xf⟩:=pq (K1.out.below BL.out);have S5:=SF.out w5 BL.out;have K6:=jI S w5 (.string ⟨#[97]⟩) (.string ⟨#[]⟩) (.slice a2 2 c2) (.slice a4 n4 c4);have S6:=K6 _ _ (SF.out w5 BL.out);clear K6))
 all_goals
  have HN:=Lib.hid (show gP (W0.heap.size<=·) w5 [⟨kF,gT++t⟩,⟨dD,Nr⟩] (bK t) (.slice a2 2 c2) (.slice a4 n4 c4) from ⟨jY.out.aX b5,cZ.out.aX b5⟩);clear b5 cZ EC jY hrow2 hrow4 b4 S0 S1 S2 S4 S5 S6 xA;obtain ⟨w9,bZ⟩:∃ w9,w9=jV w5 (S+1) (.string ⟨#[97]⟩) (.string ⟨#[]⟩) (.slice a2 2 c2) (.slice a4 n4 c4):=⟨_,rfl⟩;have hf:=uP ⟨#[97]⟩ ⟨#[]⟩ [⟨kF,gT++t⟩,⟨dD,Nr⟩] (bK t) HS.out Z0.out B0.out K1.out BL.out HN.out;rw [<- bZ] at hf;have HC:=Lib.hid hf.1;have HP:=Lib.hid hf.2;clear hf;refine lH ?_;clear bZ;intro hw8 x0 x1 x2 x3 xf;go_wp2;refine lI ?_;intro r0 r1 r2 r3;exact bodyPost_ret (v:=.agg #[.string ⟨#[97]⟩,.string ⟨#[]⟩,(.slice a2 2 c2),(.slice a4 n4 c4)]) (by simp [results,Tryz.results60,go_sem,r0,r1,r2,r3]) rfl HP.out
theorem XW:zF 16:=by
 intro t d ti at_ ar ci ks vc vp va vi vk w hR hs hl
 have E:Hid ((aj.mk 16 t d ti at_ ar ci ks).nd=aH nA [⟨kF,d⟩] (bK d)):=by show _=_;rw [aj.nd];rfl
 rw [E.out];obtain ⟨ac,nc,cc,ap,np,cp,aa,na,ca,ai,ni,mR,ak,nk,ck,S,W0,rfl,rfl,rfl,rfl,rfl,HS,HW0,e0,SX,dW,HR,Z0,B0,K1⟩:=dK (.int .i64 16) t d ti hR hl;refine mV ?_;intro dw hst;clear hR hs hl E;go_enter Tryz.func60,Tryz.ntmps60;go_upto_region 26 with (fail)
 refine bO ?_;obtain ⟨PC,je⟩:=EW ⟨#[104,114,101,102]⟩ d W0;have SF:=Lib.hid (fun (w':jIq) (hb:jIx W0.heap.size W0 w')=>((SX.out w' hb).2.1:w'.cell? ⟨S,2,none⟩=some (.string d)));refine vY ?_;intro S0 S1;have Tc:Hid (∀ W:jIq,Calls Tryz.prog 19 #[.string d] W (aQ W (bK d))):=fun W=>jD d W
 go_wp2_with fail
 go_region_held3 (fun w'=>w'.cell? ⟨S,2,none⟩=some (.string d))
  (with_reducible assumption)
  (first
   | (go_simp;go_at_call 18;(with_reducible refine PC.out.mono ?_);rintro e w2 ⟨bD,v2,rfl,hrow2⟩;obtain ⟨a2,c2,rfl,-,-⟩:=hrow2.cap (n:=1) rfl;have B2:=Lib.hid (je.out.trans (hrow2.aO.mono je.out.size));have xA:=Lib.hid (show Rd (W0.heap.size<=·) w2 (fJ [⟨kF,d⟩]) [.slice a2 1 c2] from hrow2.cu.weaken (fun b hb=>jFq je.out.size hb));have S2:=SF.out w2 B2.out;have DC:=Lib.hid (Tc.out w2))
   | (go_simp;go_at_call 19;(with_reducible refine DC.out.mono ?_);rintro e w4 ⟨bG,v4,rfl,hrow4⟩;obtain ⟨a4,n4,c4,rfl⟩:=hrow4.slice3;have b4:=hrow4.aO;have B4:=Lib.hid (q01 B2.out b4);have cZ:=Lib.hid (show Rd (W0.heap.size<=·) w4 (gH (bK d)) [.slice a4 n4 c4] from hrow4.cu.weaken (fun b hb=>jFq (B2.out).size hb));have jY:=Lib.hid (xA.out.aX b4);have S4:=SF.out w4 B4.out;have EC:=Lib.hid (mg ⟨#[97]⟩ a2 a4 1 n4 c2 c4 w4))
   | (go_simp;go_at_call 17;(with_reducible refine EC.out.mono ?_);rintro e w5 ⟨rfl,b5⟩;have BL:=Lib.hid (q01 B4.out b5);obtain ⟨x0,x1,x2,x3,xf⟩:=pq (K1.out.below BL.out);have S5:=SF.out w5 BL.out;have K6:=jI S w5 (.string ⟨#[97]⟩) (.string ⟨#[]⟩) (.slice a2 1 c2) (.slice a4 n4 c4);have S6:=K6 _ _ (SF.out w5 BL.out);clear K6))
 all_goals
  have HN:=Lib.hid (show gP (W0.heap.size<=·) w5 [⟨kF,d⟩] (bK d) (.slice a2 1 c2) (.slice a4 n4 c4) from ⟨jY.out.aX b5,cZ.out.aX b5⟩);clear b5 cZ EC jY hrow2 hrow4 b4 S0 S1 S2 S4 S5 S6 xA;obtain ⟨w9,bZ⟩:∃ w9,w9=jV w5 (S+1) (.string ⟨#[97]⟩) (.string ⟨#[]⟩) (.slice a2 1 c2) (.slice a4 n4 c4):=⟨_,rfl⟩;have hf:=uP ⟨#[97]⟩ ⟨#[]⟩ [⟨kF,d⟩] (bK d) HS.out Z0.out B0.out K1.out BL.out HN.out;rw [<- bZ] at hf;have HC:=Lib.hid hf.1;have HP:=Lib.hid hf.2;clear hf;refine lH ?_;clear bZ;intro hw8 x0 x1 x2 x3 xf;go_wp2;refine lI ?_;intro r0 r1 r2 r3;exact bodyPost_ret (v:=.agg #[.string ⟨#[97]⟩,.string ⟨#[]⟩,(.slice a2 1 c2),(.slice a4 n4 c4)]) (by simp [results,Tryz.results60,go_sem,r0,r1,r2,r3]) rfl HP.out
theorem jc7{P Q:Prop}(q:Q)(h:Nonempty Q->P:=by
 intro qQ;have SF:=Lib.hid (fun (w':jIq) (hb:jIx W0.heap.size W0 w')=>(⟨(SX.out w' hb).2.1,(SX.out w' hb).2.2.1,(SX.out w' hb).2.2.2.2.2.2⟩:w'.cell? ⟨S,2,none⟩=some (.string d)/\w'.cell? ⟨S,3,none⟩=some (.string ti)/\w'.cell? ⟨S,9,none⟩=some (.slice ak nk ck)));revert SF;exact qQ.elim fun x=>x):P:=h ⟨q⟩
theorem jo0:zF 9:=by
 intro t d ti at_ ar ci ks vc vp va vi vk w hR hs hl
 have E:Hid ((aj.mk 9 t d ti at_ ar ci ks).nd=aH nA (⟨kF,d⟩::cO lV ti) (dV ks)):=by show _=_;rw [aj.nd];rfl
 rw [E.out];obtain ⟨ac,nc,cc,ap,np,cp,aa,na,ca,ai,ni,mR,ak,nk,ck,S,W0,rfl,rfl,rfl,rfl,rfl,HS,HW0,e0,SX,dW,HR,Z0,B0,K1⟩:=dK (.int .i64 9) t d ti hR hl;refine mV ?_;intro dw hst;clear hR hs hl E;go_enter Tryz.func60,Tryz.ntmps60;go_upto_region 17 with (fail)
 refine bO ?_;obtain ⟨PC,je⟩:=EW ⟨#[104,114,101,102]⟩ d W0;refine jc7 ?_;intro SF;refine vY ?_;intro S0 S1;go_wp2_with fail
 go_region_held3 (fun w'=>w'.cell? ⟨S,2,none⟩=some (.string d)/\w'.cell? ⟨S,3,none⟩=some (.string ti)/\w'.cell? ⟨S,9,none⟩=some (.slice ak nk ck))
  (with_reducible assumption)
  (first
   | (go_simp;go_at_call 18;(with_reducible refine PC.out.mono ?_);rintro e w2 ⟨bD,v2,rfl,hrow2⟩;obtain ⟨a2,c2,rfl,-,-⟩:=hrow2.cap (n:=1) rfl;have B2:=Lib.hid (je.out.trans (hrow2.aO.mono je.out.size));have xA:=Lib.hid (show Rd (W0.heap.size<=·) w2 (fJ [⟨kF,d⟩]) [.slice a2 1 c2] from hrow2.cu.weaken (fun b hb=>jFq je.out.size hb));have S2:=SF.out w2 B2.out;have TC:=Lib.hid (zx [⟨kF,d⟩] ti _ bD _ _ w2 hrow2 (by simp)))
   | (go_simp;go_at_call 85;(with_reducible refine TC.out.mono ?_);rintro e w3 ⟨dH,v3,rfl,hrow3,hg3⟩;obtain ⟨a3,n3,c3,rfl⟩:=hrow3.slice3;have B3:=Lib.hid (je.out.trans (hrow3.aO.mono je.out.size));have xL:=Lib.hid (show Rd (W0.heap.size<=·) w3 (fJ ([⟨kF,d⟩]++cO lV ti)) [.slice a3 n3 c3] from hrow3.cu.weaken (fun b hb=>jFq je.out.size hb));have S3:=SF.out w3 B3.out;have LC:=Lib.hid (dW.out w3 B3.out))
   | (go_simp;go_at_call 28;(with_reducible refine LC.out.mono ?_);rintro e w4 ⟨bG,v4,rfl,hrow4⟩;obtain ⟨a4,n4,c4,rfl⟩:=hrow4.slice3;have b4:=hrow4.aO;have B4:=Lib.hid (q01 B3.out b4);have cZ:=Lib.hid (show Rd (W0.heap.size<=·) w4 (gH (dV ks)) [.slice a4 n4 c4] from hrow4.cu.weaken (fun b hb=>jFq B3.out.size hb));have jY:=Lib.hid (xL.out.aX b4);have S4:=SF.out w4 B4.out;have EC:=Lib.hid (mg ⟨#[97]⟩ a3 a4 n3 n4 c3 c4 w4))
   | (go_simp;go_at_call 17;(with_reducible refine EC.out.mono ?_);rintro e w5 ⟨rfl,b5⟩;have BL:=Lib.hid (q01 B4.out b5);obtain ⟨x0,x1,x2,x3,xf⟩:=pq (K1.out.below BL.out);have S5:=SF.out w5 BL.out;have K6:=jI S w5 (.string ⟨#[97]⟩) (.string ⟨#[]⟩) (.slice a3 n3 c3) (.slice a4 n4 c4);have S6:=And.imp (K6 _ _) (And.imp (K6 _ _) (K6 _ _)) (SF.out w5 BL.out);clear K6))
 all_goals
  have HN:=Lib.hid (show gP (W0.heap.size<=·) w5 ([⟨kF,d⟩]++cO lV ti) (dV ks) (.slice a3 n3 c3) (.slice a4 n4 c4) from ⟨jY.out.aX b5,cZ.out.aX b5⟩);clear b5 cZ EC jY hrow2 hrow3 hrow4 hg3 b4 S0 S1 S2 S3 S4 S5 S6 xA xL;obtain ⟨w9,bZ⟩:∃ w9,w9=jV w5 (S+1) (.string ⟨#[97]⟩) (.string ⟨#[]⟩) (.slice a3 n3 c3) (.slice a4 n4 c4):=⟨_,rfl⟩;have hf:=uP ⟨#[97]⟩ ⟨#[]⟩ ([⟨kF,d⟩]++cO lV ti) (dV ks) HS.out Z0.out B0.out K1.out BL.out HN.out;rw [<- bZ] at hf;have HC:=Lib.hid hf.1;have HP:=Lib.hid hf.2;clear hf;refine lH ?_;clear bZ;intro hw8 x0 x1 x2 x3 xf;go_wp2;refine lI ?_;intro r0 r1 r2 r3;exact bodyPost_ret (v:=.agg #[.string ⟨#[97]⟩,.string ⟨#[]⟩,(.slice a3 n3 c3),(.slice a4 n4 c4)]) (by simp [results,Tryz.results60,go_sem,r0,r1,r2,r3]) rfl HP.out
theorem jc5{P Q:Prop}(q:Q)(h:Nonempty Q->P:=by
 intro qQ;obtain ⟨w9,bZ⟩:∃ w9,w9=jV w5 (S+1) (.string ⟨#[115,112,97,110]⟩) (.string ⟨#[]⟩) (.slice a3 n3 c3) (.slice a4 n4 c4):=⟨_,rfl⟩;have hf:=uP ⟨#[115,112,97,110]⟩ ⟨#[]⟩ (eX at_ []) (dV ks) HS.out Z0.out B0.out K1.out BL.out HN.out;rw [<- bZ] at hf;revert w9 bZ hf;exact qQ.elim fun x=>x):P:=h ⟨q⟩
theorem XY:zF 11:=by
 intro t d ti at_ ar ci ks vc vp va vi vk w hR hs hl
 have E:Hid ((aj.mk 11 t d ti at_ ar ci ks).nd=aH Dt (eX at_ []) (dV ks)):=by show _=_;rw [aj.nd];rfl
 rw [E.out];obtain ⟨ac,nc,cc,ap,np,cp,aa,na,ca,ai,ni,mR,ak,nk,ck,S,W0,rfl,rfl,rfl,rfl,rfl,HS,HW0,e0,SX,dW,HR,Z0,B0,K1⟩:=dK (.int .i64 11) t d ti hR hl;refine mV ?_;intro dw hst;clear hR hs hl E;go_enter Tryz.func60,Tryz.ntmps60;go_upto_region 22 with (fail)
 refine bO ?_;have AC:=Lib.hid (q2v at_ [] (.slice ac nc cc) (.slice ap np cp) (.slice none 0 0) W0.drew W0.drew qL.nil (Td (by have:=Z0.out;omega) HR.out.at_) (uW dw.out).1 (uW dw.out).2);have SF:=Lib.hid (fun (w':jIq) (hb:jIx W0.heap.size W0 w')=>(⟨(SX.out w' hb).2.2.2.1,(SX.out w' hb).2.2.2.2.1,(SX.out w' hb).2.2.2.2.2.1,(SX.out w' hb).2.2.2.2.2.2⟩:w'.cell? ⟨S,4,none⟩=some (.string at_.id)/\w'.cell? ⟨S,5,none⟩=some (.slice ac nc cc)/\w'.cell? ⟨S,6,none⟩=some (.slice ap np cp)/\w'.cell? ⟨S,9,none⟩=some (.slice ak nk ck)));have S0:=SF.out _ (jFj _ _).drew;go_wp2_with fail
 go_region_held3 (fun w'=>w'.cell? ⟨S,4,none⟩=some (.string at_.id)/\w'.cell? ⟨S,5,none⟩=some (.slice ac nc cc)/\w'.cell? ⟨S,6,none⟩=some (.slice ap np cp)/\w'.cell? ⟨S,9,none⟩=some (.slice ak nk ck))
  (with_reducible assumption)
  (first
   | (go_simp;go_at_call 87;(with_reducible refine AC.out.mono ?_);rintro e w3 ⟨dH,v3,rfl,hrow3⟩;obtain ⟨a3,n3,c3,rfl⟩:=hrow3.slice3;have B3:Hid (jIx W0.heap.size W0 w3):=((jFj W0.heap.size W0).drew).trans hrow3.aO;have xL:Hid (Rd (W0.heap.size<=·) w3 (fJ (eX at_ [])) [.slice a3 n3 c3]):=hrow3.cu;have S3:=SF.out w3 B3.out;have LC:=Lib.hid (dW.out w3 B3.out))
   | (go_simp;go_at_call 28;(with_reducible refine LC.out.mono ?_);rintro e w4 ⟨bG,v4,rfl,hrow4⟩;obtain ⟨a4,n4,c4,rfl⟩:=hrow4.slice3;have b4:=hrow4.aO;have B4:=Lib.hid (q01 B3.out b4);have cZ:=Lib.hid (show Rd (W0.heap.size<=·) w4 (gH (dV ks)) [.slice a4 n4 c4] from hrow4.cu.weaken (fun b hb=>jFq B3.out.size hb));have jY:=Lib.hid (xL.out.aX b4);have S4:=SF.out w4 B4.out;have EC:=Lib.hid (mg ⟨#[115,112,97,110]⟩ a3 a4 n3 n4 c3 c4 w4))
   | (go_simp;go_at_call 17;(with_reducible refine EC.out.mono ?_);rintro e w5 ⟨rfl,b5⟩;have BL:=Lib.hid (q01 B4.out b5);obtain ⟨x0,x1,x2,x3,xf⟩:=pq (K1.out.below BL.out);have S5:=SF.out w5 BL.out;have K6:=jI S w5 (.string ⟨#[115,112,97,110]⟩) (.string ⟨#[]⟩) (.slice a3 n3 c3) (.slice a4 n4 c4);have S6:=And.imp (K6 _ _) (And.imp (K6 _ _) (And.imp (K6 _ _) (K6 _ _))) (SF.out w5 BL.out);clear K6))
 all_goals
  have HN:=Lib.hid (show gP (W0.heap.size<=·) w5 (eX at_ []) (dV ks) (.slice a3 n3 c3) (.slice a4 n4 c4) from ⟨jY.out.aX b5,cZ.out.aX b5⟩);clear b5 cZ EC jY hrow3 hrow4 b4 S0 S3 S4 S5 S6 xL;refine jc5 ?_;intro w9 bZ hf;have HC:=Lib.hid hf.1;have HP:=Lib.hid hf.2;clear hf;refine lH ?_;clear bZ;intro hw8 x0 x1 x2 x3 xf;go_wp2;refine lI ?_;intro r0 r1 r2 r3;exact bodyPost_ret (v:=.agg #[.string ⟨#[115,112,97,110]⟩,.string ⟨#[]⟩,(.slice a3 n3 c3),(.slice a4 n4 c4)]) (by simp [results,Tryz.results60,go_sem,r0,r1,r2,r3]) rfl HP.out
theorem jc6{P Q:Prop}(q:Q)(h:Nonempty Q->P:=by
 intro qQ;have E:Hid ((aj.mk 10 t d ti at_ ar ci ks).nd=aH ju1 ([⟨rF,d⟩,⟨rG,fO ks⟩]++cO lV ti++eX at_ []) []):=by show _=_;rw [aj.nd];rfl
 rw [E.out];revert E;exact qQ.elim fun x=>x):P:=h ⟨q⟩
theorem XZ (t d ti:ByteArray) (at_:At) (ar:List ByteArray) (ci:List Ci) (ks:List aj) (vc vp va vi vk:jIz) (w:jIq) (hR:rz (·<w.heap.size) w at_ ar ci ks vc vp va vi vk) (hs:(aj.mk (10:Int) t d ti at_ ar ci ks).small) (hl:G8 w ks vk) (hz:aj.aY ks<=1000000) : Calls Tryz.prog 60 #[.agg #[.int .i64 10,.string t,.string d,.string ti,.string at_.id,vc,vp,va,vi,vk]] w (o8 w (aj.mk (10:Int) t d ti at_ ar ci ks).nd):=by
 refine jc6 ?_;intro E;obtain ⟨ac,nc,cc,ap,np,cp,aa,na,ca,ai,ni,mR,ak,nk,ck,S,W0,rfl,rfl,rfl,rfl,rfl,HS,HW0,e0,SX,dW,HR,Z0,B0,K1⟩:=dK (.int .i64 10) t d ti hR hl;refine mV ?_;intro dw hst;clear hR hs hl E;go_enter Tryz.func60,Tryz.ntmps60;go_upto_region 19 with (fail)
 refine bO ?_;have hpl:(aj.aI ks).length<=1000000000:=by have h:=dw.out;rw [aj.small] at h;have:=aj.pI ks h.2.2.2.2.2.2.2.2;omega
 have PL:=Lib.hid (JF ks (.slice ak nk ck) W0.drew (Rd.keep (w:=W0) (w':=W0.drew) (ok:=(·<S)) (fun b (hb:b<S) _=>⟨by have:=Z0.out;show b<W0.heap.size;omega,rfl⟩) _ _ HR.out.kids) hpl);refine jc7 ?_;intro SF;have S0:=SF.out _ (jFj _ _).drew;clear hpl;go_wp2_with fail
 go_region_held3 (fun w'=>w'.cell? ⟨S,2,none⟩=some (.string d)/\w'.cell? ⟨S,3,none⟩=some (.string ti)/\w'.cell? ⟨S,9,none⟩=some (.slice ak nk ck))
  (with_reducible assumption)
  (first
   | (go_simp;go_at_call 86;(with_reducible refine PL.out.mono ?_);rintro e w1 ⟨rfl,b1⟩;have B1:Hid (jIx W0.heap.size W0 w1):=((jFj W0.heap.size W0).drew).trans b1;obtain ⟨PC,je⟩:=XU ⟨#[115,114,99]⟩ d ⟨#[97,108,116]⟩ ⟨(aj.aI ks).toArray⟩ B1 B1.out.size;have S1:=SF.out w1 B1.out;have S1a:=SF.out _ je.out)
   | (go_simp;go_at_call 18;(with_reducible refine PC.out.mono ?_);rintro e w2 ⟨bD,v2,rfl,hrow2⟩;obtain ⟨a2,c2,rfl,-,-⟩:=hrow2.cap (n:=2) rfl;have B2:=Lib.hid (je.out.trans (hrow2.aO.mono je.out.size));have xA:=Lib.hid (show Rd (W0.heap.size<=·) w2 (fJ [⟨rF,d⟩,⟨rG,fO ks⟩]) [.slice a2 2 c2] from hrow2.cu.weaken (fun b hb=>jFq je.out.size hb));have BWX:=je;have S2:=SF.out w2 B2.out;have TC:=Lib.hid (zx [⟨rF,d⟩,⟨rG,fO ks⟩] ti _ bD _ _ w2 hrow2 (by simp)))
   | (go_simp;go_at_call 85;(with_reducible refine TC.out.mono ?_);rintro e w3 ⟨dH,v3,rfl,hrow3,hg3⟩;have B3:=Lib.hid (je.out.trans (hrow3.aO.mono je.out.size));have S3:=SF.out w3 B3.out))
 all_goals
  obtain ⟨m3,Kt⟩:∃ m,m=(List.map Pr.d ([⟨rF,d⟩,⟨rG,fO ks⟩]++cO lV ti)).length:=⟨_,rfl⟩;obtain ⟨a3,c3,rfl,-,-⟩:=hrow3.cap Kt.symm;have jt3:m3<=3:=by rw [Kt];unfold cO;split<;>simp
  have WH:=Lib.hid Kt.symm;have U3:=Lib.hid hrow3;obtain ⟨-,-,-,g4,g5,g6,-⟩:=SX.out w3 B3.out;have AC:=Lib.hid (q2v at_ [] (.slice ac nc cc) (.slice ap np cp) (.slice none 0 0) w3 w3 qL.nil (zB HR.out.at_ B3.out (by have:=Z0.out;omega)) (uW dw.out).1 (uW dw.out).2);clear Kt hrow3 hrow2 hg3 b1 S0 S1 S1a S2 S3 PL PC TC xA je B2;go_wp2_with fail
  (with_reducible refine AC.out.mono ?_)
  rintro e w4 ⟨bG,v4,rfl,hrow4⟩;obtain ⟨m4,OI⟩:∃ m,m=(List.map Pr.d (eX at_ [])).length:=⟨_,rfl⟩;obtain ⟨a4,c4,rfl,-,-⟩:=hrow4.cap OI.symm;have jz5:m4<=2:=by rw [OI];unfold eX cO H7;split<;>split<;>simp
  have HM4:=Lib.hid OI.symm;have b4:=hrow4.aO;have U4:=Lib.hid (U3.out.below b4);have X4:=Lib.hid (show Rd (fun b=>False\/w3.heap.size<=b) w4 (.sl 2 (List.map Pr.d (eX at_ []))) [.slice a4 m4 c4] from hrow4.cu.weaken (fun b hb=>.inr hb));have B4:=Lib.hid (q01 B3.out b4);have O1:=Lib.hid (fun (rs:List (List jIz)) (ok':Nat->Prop) h=>lG (eX at_ []) rs ok' w4 h);obtain ⟨iP,hiP,qy,qz,qA⟩:=info_parts kT;clear OI hrow4 b4 g4 g5 g6 AC;go_wp2_with (at_builtin;refine iT (n:=m3) (m:=m4) rfl _ _ 22 rfl iP _ 32 Tryz.underlying22 hiP qy qz qA rfl (by decide) U4.out (fun _=>False.elim) (.slice a4 m4 c4) X4.out O1.out WH.out HM4.out (by omega) (by decide) rfl rfl ?_)
  intro a5 c5 nZ w5 bC hg5;have B5:=Lib.hid (BWX.out.trans (bC.aO.mono BWX.out.size));have AT5:Hid (Rd (W0.heap.size<=·) w5 (fJ ([⟨rF,d⟩,⟨rG,fO ks⟩]++cO lV ti++eX at_ [])) [.slice a5 (m3+m4) c5]):=by have h:=bC.cu.weaken (ok':=(W0.heap.size<=·)) (fun b hb=>jFq BWX.out.size hb);show Rd _ _ (.sl 2 (List.map Pr.d _)) _;rw [List.map_append];exact h
  have EC:=Lib.hid (mg ⟨#[105,109,103]⟩ a5 none (m3+m4) 0 c5 0 w5);clear bC hg5 U4 X4 O1 U3;go_wp2_with fail
  (with_reducible refine EC.out.mono ?_)
  rintro e w6 ⟨rfl,b6⟩;have BL:=Lib.hid (q01 B5.out b6);have HN:=Lib.hid (show gP (W0.heap.size<=·) w6 ([⟨rF,d⟩,⟨rG,fO ks⟩]++cO lV ti++eX at_ []) [] (.slice a5 (m3+m4) c5) (.slice none 0 0) from ⟨AT5.out.aX b6,Rd.aD _ _ _⟩);clear b6 EC AT5;obtain ⟨w9,bZ⟩:∃ w9,w9=jV w6 (S+1) (.string ⟨#[105,109,103]⟩) (.string ⟨#[]⟩) (.slice a5 (m3+m4) c5) (.slice none 0 0):=⟨_,rfl⟩;have hf:=uP ⟨#[105,109,103]⟩ ⟨#[]⟩ ([⟨rF,d⟩,⟨rG,fO ks⟩]++cO lV ti++eX at_ []) [] HS.out Z0.out B0.out K1.out BL.out HN.out;rw [<- bZ] at hf;have HC:=Lib.hid hf.1;have HP:=Lib.hid hf.2;clear hf;refine lH ?_;clear bZ;intro hw8 x0 x1 x2 x3 xf;go_wp2;refine lI ?_;intro r0 r1 r2 r3;exact bodyPost_ret (v:=.agg #[.string ⟨#[105,109,103]⟩,.string ⟨#[]⟩,(.slice a5 (m3+m4) c5),(.slice none 0 0)]) (by simp [results,Tryz.results60,go_sem,r0,r1,r2,r3]) rfl HP.out
theorem Kq (k:Int) (t d ti:ByteArray) (at_:At) (ar:List ByteArray) (ci:List Ci) (ks:List aj) (vc vp va vi vk:jIz) (w:jIq) (hR:rz (·<w.heap.size) w at_ ar ci ks vc vp va vi vk) (hs:(aj.mk k t d ti at_ ar ci ks).small) (hl:G8 w ks vk) (hz:aj.aY ks<=1000000) : Calls Tryz.prog 60 #[.agg #[.int .i64 k,.string t,.string d,.string ti,.string at_.id,vc,vp,va,vi,vk]] w (o8 w (aj.mk k t d ti at_ ar ci ks).nd):=by
 by_cases h2:k=2
 ·subst h2;exact jn8 t d ti at_ ar ci ks vc vp va vi vk w hR hs hl
 by_cases h3:k=3
 ·subst h3;exact jn9 t d ti at_ ar ci ks vc vp va vi vk w hR hs hl
 by_cases h4:k=4
 ·subst h4;exact jnj t d ti at_ ar ci ks vc vp va vi vk w hR hs hl
 by_cases h5:k=5
 ·subst h5;exact jnz t d ti at_ ar ci ks vc vp va vi vk w hR hs hl
 by_cases h6:k=6
 ·subst h6;exact jnk t d ti at_ ar ci ks vc vp va vi vk w hR hs hl
 by_cases h7:k=7
 ·subst h7;exact jnq t d ti at_ ar ci ks vc vp va vi vk w hR hs hl
 by_cases h8:k=8
 ·subst h8;exact jnx t d ti at_ ar ci ks vc vp va vi vk w hR hs hl
 by_cases h9:k=9
 ·subst h9;exact jo0 t d ti at_ ar ci ks vc vp va vi vk w hR hs hl
 by_cases h10:k=10
 ·subst h10;exact XZ t d ti at_ ar ci ks vc vp va vi vk w hR hs hl hz
 by_cases h11:k=11
 ·subst h11;exact XY t d ti at_ ar ci ks vc vp va vi vk w hR hs hl
 by_cases h12:k=12
 ·subst h12;exact XV t d ti at_ ar ci ks vc vp va vi vk w hR hs hl
 by_cases h16:k=16
 ·subst h16;exact XW t d ti at_ ar ci ks vc vp va vi vk w hR hs hl
 exact Tg k t d ti at_ ar ci ks vc vp va vi vk w hR hs hl ⟨h2,h3,h4,h5,h6,h7,h8,h9,h10,h11,h12,h16⟩
open Go.RowKit
def jo1 (w:jIq) (e:Ending) (w':jIq):Prop:=e=.returned (.bool true)/\jIx w.heap.size w w'
def ju2 (W1:jIq) (n:Nat) (vi:jIz) (wr:jIq):Prop:=∃ k q:Nat,k<=n/\vi=.int .i64 k/\wr=W1.drewN q
def ju3 (W1:jIq) (n:Nat) (vi:jIz) (wr:jIq):Prop:=∃ k:Nat,k<=n/\vi=.int .i64 k/\jIx W1.heap.size W1 wr
theorem KG (N:Nat):∀ (x:Nd) (va vk vb vl:jIz) (w:jIq),x.sz<=N->gP (·<w.heap.size) w x.at_ x.ks va vk->gP (·<w.heap.size) w x.at_ x.ks vb vl -> Calls Tryz.prog 8 #[.agg #[.string x.nm,.string x.tx,va,vk],.agg #[.string x.nm,.string x.tx,vb,vl]] w (jo1 w):=by
 induction N using Nat.strongRecOn with
 | _ N ih=>
  intro x va vk vb vl w hN hA hB;obtain ⟨nm,tx,at_,ks⟩:=x;dsimp only [Nd.nm,Nd.tx,Nd.at_,Nd.ks] at hA hB ⊢;obtain ⟨a1,c1,h1,s1⟩:=Rd.ay hA.at_
  obtain ⟨a2,c2,h2,s2⟩:=Rd.ay hA.ks;obtain ⟨b1,d1,h3,s3⟩:=Rd.ay hB.at_
  obtain ⟨b2,d2,h4,s4⟩:=Rd.ay hB.ks;obtain ⟨n1,hn1⟩:∃ n,n=at_.length:=⟨_,rfl⟩
  obtain ⟨n2,hn2⟩:∃ n,n=ks.length:=⟨_,rfl⟩;obtain rfl:va=.slice a1 n1 c1:=by rw [hn1];simpa using h1
  obtain rfl:vk=.slice a2 n2 c2:=by rw [hn2];simpa using h2
  obtain rfl:vb=.slice b1 n1 d1:=by rw [hn1];simpa using h3
  obtain rfl:vl=.slice b2 n2 d2:=by rw [hn2];simpa using h4
  have l1:=s1.le;have l2:=s2.le;have l3:=s3.le;have l4:=s4.le;rw [List.length_map,<- hn1] at l1 l3;rw [List.length_map,<- hn2] at l2 l4;have m1:=s1.max;have m2:=s2.max;have m3:=s3.max;have m4:=s4.max;unfold maxLen at m1 m2 m3 m4;rw [Nd.sz] at hN;have hks:=Nd.bI ks;obtain ⟨S,hS⟩:∃ S,S=w.heap.size:=⟨_,rfl⟩;obtain ⟨W1,hW1⟩:∃ W,W=(w.alloc (.cells #[.string nm,.string tx,.slice a1 n1 c1,.slice a2 n2 c2] 30)).alloc (.cells #[.string nm,.string tx,.slice b1 n1 d1,.slice b2 n2 d2] 30):=⟨_,rfl⟩;have z1:W1.heap.size=S+2:=by rw [hW1,hS];simp
  have k0:CB 30 S [.string nm,.string tx,.slice a1 n1 c1,.slice a2 n2 c2] W1:=by rw [hW1,hS];exact (Below.heap_alloc _ _ _ (by simp)).trans (CB.new _ _ w)
  have k1:CB 30 (S+1) [.string nm,.string tx,.slice b1 n1 d1,.slice b2 n2 d2] W1:=by have:=CB.new 30 [.string nm,.string tx,.slice b1 n1 d1,.slice b2 n2 d2] (w.alloc (.cells #[.string nm,.string tx,.slice a1 n1 c1,.slice a2 n2 c2] 30));rw [World.size_alloc] at this;rw [hW1,hS];exact this
  have bW:jIx w.heap.size w W1:=by rw [hW1];exact ((jFj _ _).alloc (jFk _) _).alloc (by simp) _
  have CL:Hid (∀ w':jIq,jIx W1.heap.size W1 w'->w'.cell? ⟨S,0,none⟩=some (.string nm)/\w'.cell? ⟨S,1,none⟩=some (.string tx)/\w'.cell? ⟨S,2,none⟩=some (.slice a1 n1 c1)/\w'.cell? ⟨S,3,none⟩=some (.slice a2 n2 c2)/\w'.cell? ⟨S+1,0,none⟩=some (.string nm)/\w'.cell? ⟨S+1,1,none⟩=some (.string tx)/\w'.cell? ⟨S+1,2,none⟩=some (.slice b1 n1 d1)/\w'.cell? ⟨S+1,3,none⟩=some (.slice b2 n2 d2)):=
   fun w' hb=>⟨(k0.below hb).cell 0 _ rfl,(k0.below hb).cell 1 _ rfl,(k0.below hb).cell 2 _ rfl,(k0.below hb).cell 3 _ rfl,(k1.below hb).cell 0 _ rfl,(k1.below hb).cell 1 _ rfl,(k1.below hb).cell 2 _ rfl,(k1.below hb).cell 3 _ rfl⟩
  obtain ⟨e0,e1,e2,e3,f0,f1,f2,f3⟩:=CL.out W1 (jFj _ _);have H1:=Lib.hid s1;have H2:=Lib.hid s2;have H3:=Lib.hid s3;have H4:=Lib.hid s4;have IH:=Lib.hid ih;have KH:=Lib.hid hks;have BW:=Lib.hid bW;have Z1:=Lib.hid z1;have HS:=Lib.hid hS;have HW1:=Lib.hid hW1;have HN1:=Lib.hid hn1;have JO:=Lib.hid hn2;have R0:Hid (ju2 W1 n1 (.int .i64 0) W1):=⟨0,0,Nat.zero_le _,rfl,rfl⟩;have p1:(nm.toList != nm.toList)=false:=by simp
  have p2:(nm.toList==nm.toList)=true:=by simp
  have p3:(tx.toList != tx.toList)=false:=by simp
  have p4:(tx.toList==tx.toList)=true:=by simp
  have p5:((n1:Int) != (n1:Int))=false:=by simp
  have p6:((n2:Int) != (n2:Int))=false:=by simp
  clear hA hB h1 h2 h3 h4 s1 s2 s3 s4 ih hks z1 k0 k1 bW hS hW1 hn1 hn2;go_enter Tryz.func8,Tryz.ntmps8;go_upto_region 1 with (fail)
  rw [<- HS.out,<- HW1.out];go_wp2
  go_loopw [5] (fun vi wr=>ju2 W1 n1 vi wr) (fun i _=>n1-(intOf i).toNat)
  case atStart=>exact R0.out
  case round=>
   clear R0;obtain ⟨k,q,hk,rfl,rfl⟩:=hrel;by_cases hlt:k<n1
   ·obtain ⟨y,hy⟩:∃ y,at_[k]?=some y:=⟨_,List.getElem?_eq_getElem (by have:=HN1.out;omega)⟩
    obtain ⟨g1,o1,rfl,-,hg1,k1,k2⟩:=jB H1.out hy;obtain ⟨g2,o2,rfl,-,hg2,k3,k4⟩:=jB H3.out hy;have r1:W1.cell? ⟨g1,o1+k*2,none⟩=some (.string y.key):=(BW.out.cell (p:=⟨g1,_,none⟩) hg1).trans k1;have r2:W1.cell? ⟨g1,o1+k*2+1,none⟩=some (.string y.val):=(BW.out.cell (p:=⟨g1,_,none⟩) hg1).trans k2;have r3:W1.cell? ⟨g2,o2+k*2,none⟩=some (.string y.key):=(BW.out.cell (p:=⟨g2,_,none⟩) hg2).trans k3;have r4:W1.cell? ⟨g2,o2+k*2+1,none⟩=some (.string y.val):=(BW.out.cell (p:=⟨g2,_,none⟩) hg2).trans k4;clear hy k1 k2 k3 k4;obtain ⟨yk,yv⟩:=y;dsimp only at r1 r2 r3 r4;have hne1:(yk.toList != yk.toList)=false:=by simp
    have hne2:(yv.toList != yv.toList)=false:=by simp
    have jE6:(yk.toList==yk.toList)=true:=by simp
    have jE7:(yv.toList==yv.toList)=true:=by simp
    go_wp2_with fail
    go_quiet (fail)
    go_wp2;go_roundw;case rel=>exact ⟨k+1,_,by omega,by go_num,rfl⟩
    case measure=>simp [intOf];omega
   ·have hkl:k=n1:=by omega
    subst hkl;have R2:Hid (ju3 W1 n2 (.int .i64 0) (W1.drewN q)):=⟨0,Nat.zero_le _,rfl,ig (jFj _ _) q⟩;go_wp2
    go_loopw [6] (fun vi wr=>ju3 W1 n2 vi wr) (fun i _=>n2-(intOf i).toNat)
    case atStart=>exact R2.out
    case round=>
     clear R2 e0 e1 e2 e3 f0 f1 f2 f3;obtain ⟨j,hj,rfl,hbel⟩:=hrel;obtain ⟨e0,e1,e2,e3,f0,f1,f2,f3⟩:=CL.out _ hbel;by_cases hlt2:j<n2
     ·obtain ⟨y,hy⟩:∃ y,ks[j]?=some y:=⟨_,List.getElem?_eq_getElem (by have:=JO.out;omega)⟩;have jz9:=KH.out j y hy;obtain ⟨yn,yt,ya,yk⟩:=y;obtain ⟨g1,o1,u1,u2,rfl,-,hg1,x0,x1,x2,x3,hR1⟩:=om H2.out hy;obtain ⟨g2,o2,u3,u4,rfl,-,hg2,y0,y1,y2,y3,hR2⟩:=om H4.out hy;obtain ⟨i1,i2,i3,rfl⟩:=Rd.au hR1.at_
      obtain ⟨i4,i5,i6,rfl⟩:=Rd.au hR1.ks;obtain ⟨j1,j2,j3,rfl⟩:=Rd.au hR2.at_
      obtain ⟨j4,j5,j6,rfl⟩:=Rd.au hR2.ks;have hwW:=BW.out.trans (hbel.mono BW.out.size);have hgc:∀ {b o:Nat} {u:jIz},b<w.heap.size->w.cell? ⟨b,o,none⟩=some u->∀ w',jIx w.heap.size w w'->w'.cell? ⟨b,o,none⟩=some u:=fun hb h w' hw=>(hw.cell (p:=⟨_,_,none⟩) hb).trans h
      have CK:Hid (∀ w':jIq,jIx W1.heap.size W1 w'->w'.cell? ⟨S,3,none⟩=some (.slice (some ⟨g1,o1,none⟩) n2 c2)/\w'.cell? ⟨S+1,3,none⟩=some (.slice (some ⟨g2,o2,none⟩) n2 d2)/\w'.cell? ⟨g1,o1+j*4,none⟩=some (.string yn)/\w'.cell? ⟨g1,o1+j*4+1,none⟩=some (.string yt)/\w'.cell? ⟨g1,o1+j*4+2,none⟩=some (.slice i1 i2 i3)/\w'.cell? ⟨g1,o1+j*4+3,none⟩=some (.slice i4 i5 i6) /\
        w'.cell? ⟨g2,o2+j*4,none⟩=some (.string yn)/\w'.cell? ⟨g2,o2+j*4+1,none⟩=some (.string yt)/\w'.cell? ⟨g2,o2+j*4+2,none⟩=some (.slice j1 j2 j3)/\w'.cell? ⟨g2,o2+j*4+3,none⟩=some (.slice j4 j5 j6)):=fun w' hb=>by
       obtain ⟨-,-,-,q3,-,-,-,q7⟩:=CL.out w' hb;have hb2:=BW.out.trans (hb.mono BW.out.size);exact ⟨q3,q7,hgc hg1 x0 w' hb2,hgc hg1 x1 w' hb2,hgc hg1 x2 w' hb2,hgc hg1 x3 w' hb2,hgc hg2 y0 w' hb2,hgc hg2 y1 w' hb2,hgc hg2 y2 w' hb2,hgc hg2 y3 w' hb2⟩
      have S0:=CK.out _ hbel.drew;have hRx:∀ {va vk:jIz},gP (·<w.heap.size) w ya yk va vk->gP (·<wr.drew.heap.size) wr.drew ya yk va vk:=fun h=>h.keep (fun b (hb:b<w.heap.size) _=>⟨Nat.lt_of_lt_of_le hb hwW.size,hwW.block b hb⟩)
      have IC:Hid (Calls Tryz.prog 8 #[.agg #[.string yn,.string yt,.slice i1 i2 i3,.slice i4 i5 i6],.agg #[.string yn,.string yt,.slice j1 j2 j3,.slice j4 j5 j6]] wr.drew (jo1 wr.drew)):=IH.out (Nd.mk yn yt ya yk).sz (by omega) (Nd.mk yn yt ya yk) (.slice i1 i2 i3) (.slice i4 i5 i6) (.slice j1 j2 j3) (.slice j4 j5 j6) wr.drew (jFk _) (hRx hR1) (hRx hR2);have qp:=Lib.hid hbel.drew;have t1:(j:Int)<(n2:Int):=by omega
      have t2:(0:Int)<=(j:Int):=by omega
      clear hRx hR1 hR2 hgc hwW jz9 hy x0 x1 x2 x3 y0 y1 y2 y3 e0 e1 e2 e3 f0 f1 f2 f3;obtain ⟨-,-,-,e3,-,-,-,f3⟩:=CL.out _ hbel;go_wp2_with fail
      go_region_held3 (fun w'=>w'.cell? ⟨S,3,none⟩=some (.slice (some ⟨g1,o1,none⟩) n2 c2)/\w'.cell? ⟨S+1,3,none⟩=some (.slice (some ⟨g2,o2,none⟩) n2 d2)/\w'.cell? ⟨g1,o1+j*4,none⟩=some (.string yn)/\w'.cell? ⟨g1,o1+j*4+1,none⟩=some (.string yt)/\w'.cell? ⟨g1,o1+j*4+2,none⟩=some (.slice i1 i2 i3)/\w'.cell? ⟨g1,o1+j*4+3,none⟩=some (.slice i4 i5 i6)/\w'.cell? ⟨g2,o2+j*4,none⟩=some (.string yn)/\w'.cell? ⟨g2,o2+j*4+1,none⟩=some (.string yt)/\w'.cell? ⟨g2,o2+j*4+2,none⟩=some (.slice j1 j2 j3)/\w'.cell? ⟨g2,o2+j*4+3,none⟩=some (.slice j4 j5 j6))
       (with_reducible assumption)
       (first | (go_simp;go_at_call 8;(with_reducible refine IC.out.mono ?_);rintro e w5 ⟨rfl,b5⟩;have B5:=Lib.hid (qp.out.trans (b5.mono qp.out.size));have S5:=CK.out w5 B5.out))
      all_goals
       clear b5 S0 S5 IC;go_wp2;go_roundw;case rel=>exact ⟨j+1,by omega,by go_num,B5.out⟩
       case measure=>simp [intOf];omega
     ·have hjl:j=n2:=by omega
      have HB:=Lib.hid (BW.out.trans (hbel.mono BW.out.size));clear hbel;go_wp2;go_ret;exact ⟨rfl,HB.out⟩
end Go.Proofs.YtklhajbpfelliaaGreatDoor

