/- Contract of html.attributes. Contract of html.inline, given that of html.line at the Kids. Contract of publisherref33.Same: at equal nodes it answers true. -/
import Derived.Test.YtkfnkeflalcphaaGreatDoorKHrM
import Derived.Deep.CutBlock
set_option maxHeartbeats 8000000
set_option maxRecDepth 100000
namespace Go.Proofs.YtkfnkeflalcphaaGreatDoor
open Go.RowKit.Below renaming refl->jD7,heap_setCell->jE1
open Nat renaming le_refl->jD8,le_trans->jD9
open Go renaming World->jG9,Value->jGk
open Go.RowKit renaming Below->jGj
open Go.RowKit
set_option linter.unusedVariables false
set_option linter.unusedSimpArgs false
theorem EH:∀ (l:List ByteArray),Lib.join (l.map (·.data.toList)) [32]=(AU l).data.toList
 | []=>rfl
 | [x]=>by simp [Lib.join,AU]
 | x::y::l=>by
  have:=EH (y::l);simp only [List.map_cons,Lib.join,AU] at this ⊢;simp [this,ByteArray.data_append,J6]
theorem zq:∀ (l:List ByteArray) (n:Nat),(∀ x∈l,x.size<=n)->(AU l).size<=l.length*(n+1)
 | [],_,_=>by simp [AU];rfl
 | [x],n,h=>by have:=h x (by simp);simp [AU];omega
 | x::y::l,n,h=>by
  have h1:=h x (by simp);have h2:=zq (y::l) n (fun z hz=>h z (by simp [hz]));have e:(J6:ByteArray).size=1:=rfl;simp only [AU,ByteArray.size_append,List.length_cons,e] at h2 ⊢;rw [Nat.add_mul (l.length+1)];omega
theorem Ey (s:ByteArray):(⟨s.data.toList.toArray⟩:ByteArray)=s:=by apply ByteArray.ext;simp
theorem aF.lV {T:TypeId} {k U:Nat} {w0 wb w:jG9} {ds:List D} {rows:List (List jGk)} {v:jGk} (h:aF T k (fun _=>False) U w0 ds rows v w) (hs:wb.heap.size<=w0.heap.size) (hb:jGj wb.heap.size wb w):aF T k (fun _=>False) U wb ds rows v w:=
 ⟨ze h.own hs,aR.keep (fun b hb _=>⟨⟨.inr (by rcases hb.1 with h1 | h1;exact h1.elim;omega),hb.2.1,hb.2.2⟩,rfl⟩) _ _ h.red,h.len,hb,h.oU,jD9 hs h.Gg,h.JJ⟩
structure qF (wb w:jG9) (more:List ByteArray) (v:jGk):Prop where
 aM:jGj wb.heap.size wb w
 own:w.ownsRow wb.heap.size 9 1 v more.length (more.map Value.string)
theorem qF.nil {wb:jG9}:qF wb wb [] (.slice none 0 0):=⟨jD7 _ _,⟨by simp,.inl ⟨rfl,rfl⟩⟩⟩
theorem qF.one (wb:jG9) (s:ByteArray):qF wb (wb.alloc (.cells #[.string s] 9)) [s] (.slice (some ⟨wb.heap.size,0,none⟩) 1 1):=
 ⟨(jD7 _ _).alloc (jD8 _) _,⟨by simp,.inr ⟨wb.heap.size,1,#[.string s],rfl,jD8 _,heap_alloc_new wb _,by simp,by unfold maxLen;omega,by simp,by simp⟩⟩⟩
theorem q2s (a:At) (more:List ByteArray) (vc vp vm:jGk) (wb w:jG9) (hm:qF wb w more vm) (hR:AtR (·<w.heap.size) w a vc vp) (hl:(more++a.cls).length<=100) (hc:∀ c∈more++a.cls,c.size<=1000) : Calls Tryz.prog 137 #[.agg #[.string a.id,vc,vp],vm] w (aU wb (eT a more)):=by
 obtain ⟨iP,hiP,qg,qh,qj⟩:=info_parts kN;obtain ⟨iS,hiS,jxk,jxq,jxx⟩:=info_parts Gb;obtain ⟨Ac,jm1,jrq,hvc,hc1,hc2,hc3,hc4,Qk⟩:=Rd.reads hR.cls;obtain ⟨ap,np,cp,rfl⟩:=Rd.au hR.aD;have hrw:=aR.oP a.cls jrq hc3;rw [List.length_map] at hvc hc1 Qk;rw [hrw,oQ] at Qk;subst hvc;obtain ⟨nm,hnm⟩:∃ nm,nm=more.length:=⟨_,rfl⟩;obtain ⟨nc,hnc⟩:∃ nc,nc=a.cls.length:=⟨_,rfl⟩;obtain ⟨L,hL⟩:∃ L,L=more++a.cls:=⟨_,rfl⟩;have hLn:L.length=nm+nc:=by rw [hL,List.length_append,hnm,hnc]
 have hown:=hm.own;rw [<- hnm] at hown;rw [<- hnc] at hc1 Qk;rw [<- hnc];obtain ⟨am,cm,rfl⟩:=kW hown;obtain ⟨S,hS⟩:∃ S,S=w.heap.size:=⟨_,rfl⟩;obtain ⟨W1,hW1⟩:∃ W,W=w.alloc (.cells #[.string a.id,.slice Ac nc jm1,.slice ap np cp] 45):=⟨_,rfl⟩;have z1:W1.heap.size=S+1:=by rw [hW1,hS];simp
 have k1:CB 45 S [.string a.id,.slice Ac nc jm1,.slice ap np cp] W1:=by rw [hW1,hS];exact CB.new _ _ w
 have b1:jGj w.heap.size w W1:=by rw [hW1];exact (jD7 _ _).alloc (jD8 _) _
 have hbS:wb.heap.size<=S:=by rw [hS];exact hm.aM.size
 have HB1:=Lib.hid (hm.aM.trans (b1.mono hm.aM.size));have HOWN:=Lib.hid (q24 hown b1);have HVM:Hid (∀ g,(Value.slice am nm cm).ownBlock=some g->g<S):=fun g hg=>by rw [hS];exact (hown.lt g hg).2
 have HRC:=Lib.hid (Qk.below b1);have HLL:Hid (L=more++a.cls):=hL;have hlL:nm+nc<=100:=by rw [<- hLn,hL];exact hl
 have dR:Hid (∀ c∈L,c.size<=1000):=by rw [hL];exact hc
 have HLN:=Lib.hid hLn;have HNC:=Lib.hid hnc;have HNM:=Lib.hid hnm;have HS:=Lib.hid hS;have HW1:=Lib.hid hW1;have K1:=Lib.hid k1;have Z1:=Lib.hid z1;have e0:=k1.cell 0 _ rfl;have HW0:Hid (wb.heap.size<=W1.heap.size):=by show _<=_;omega
 have VY:a.id.toList.isEmpty=aW a.id:=by rw [Lib.toList_data,Bool.eq_iff_iff,List.isEmpty_iff,aW,decide_eq_true_iff]
 clear hm hR hl hc hc1 hc2 hc3 hc4 Qk hrw hnm hnc hL hLn hown hS hW1 k1 z1 b1;go_enter Tryz.func137,Tryz.ntmps137
 go_upto_if 9 with (fail)
 rw [<- HS.out,<- HW1.out]
 go_cut [5] (fun v wx=>∃ rows,aF 61 2 (fun _=>False) wx.heap.size W1 ((bU jT a.id).map Pr.d) rows v wx)
 case first=>
  by_cases hid:aW a.id=true
  ·have q1:(!aW a.id)=false:=by rw [hid];rfl
   have E:Hid (bU jT a.id=[]):=by show _=_;unfold bU;rw [if_pos hid]
   rw [q1];clear hid q1 VY;go_wp2
   go_meet
   rw [E.out];exact ⟨_,aF.nil _ _ _ _⟩
  ·have q1:(!aW a.id)=true:=by simpa using hid
   have E:Hid ((bU jT a.id).map Pr.d=[(⟨jT,a.id⟩:Pr).d]):=by show _=_;unfold bU;rw [if_neg hid];rfl
   have RN:=Lib.hid (aF.nil 61 2 (fun _=>False) W1);rw [q1];clear hid q1 VY;go_wp2_with (at_builtin;refine Oh (n:=0) (ds:=[]) (rows:=[]) rfl _ _ 24 rfl iP _ 32 Tryz.underlying24 hiP qg qh qj rfl (by decide) RN.out (fun _=>False.elim) (⟨jT,a.id⟩:Pr).d [.string ⟨#[105,100]⟩,.string a.id] (Pr.dJ _ _ ⟨jT,a.id⟩) rfl xq rfl (by decide) (by decide) rfl rfl ?_)
   intro a' c' w5 hrow hg5;have bg:=Lib.hid hrow;clear hrow hg5;go_wp2
   go_meet
   rw [E.out];exact ⟨_,bg.out⟩
 case rest=>
  obtain ⟨rows,hrow⟩:=hcut;obtain ⟨w2,hw2⟩:∃ w2:jG9,w2=wc:=⟨_,rfl⟩;subst hw2;obtain ⟨n0,hn0⟩:∃ n0,n0=((bU jT a.id).map Pr.d).length:=⟨_,rfl⟩;obtain ⟨av,cv,rfl,-,-⟩:=hrow.cap hn0.symm;have jBx:n0<=1:=by rw [hn0];unfold bU;split<;>simp
  have HN0:=Lib.hid hn0.symm;have hbel:=hrow.aM;have bg:=Lib.hid hrow;have KA:=Lib.hid (K1.out.below hbel);have e1:=KA.out.cell 1 _ rfl;have OW:=Lib.hid (q24 HOWN.out hbel);have RC:=Lib.hid (HRC.out.below (hbel.mono (by have:=HS.out;have:=Z1.out;omega)));have HB2:=Lib.hid (HB1.out.trans (hbel.mono HW0.out));have hw2:=HB2.out.size;clear hrow hbel hn0 HB1 HOWN HRC e0;go_upto_region 4 with (fail)
  go_wp2_with (at_builtin;refine Ma _ rfl _ _ 43 rfl wb.heap.size 9 iS _ 1 16 Tryz.underlying43 hiS jxk jxq jxx rfl (by decide) _ nm (more.map Value.string) rfl OW.out w.heap.size Ac nc jm1 (a.cls.map Value.string) rfl RC.out (by intro u hu;obtain ⟨x,-,rfl⟩:=List.mem_map.1 hu;rfl) (by unfold maxLen;omega) (by omega) (by omega) ?_)
  intro v3 w3 hown3 hg3 wM;obtain ⟨a3,c3,rfl⟩:=kW hown3;have RU3:∃ w0',w0'.heap.size=W1.heap.size/\aF 61 2 (fun _=>False) w2.heap.size w0' ((bU jT a.id).map Pr.d) rows (.slice av n0 cv) w3:=by
   cases hob:(Value.slice am nm cm).ownBlock with
   | none=>rw [hob] at hg3;exact ⟨W1,rfl,bg.out.grown hg3⟩
   | some g=>
    rw [hob] at hg3;exact bg.out.hop2 (by have:=HVM.out g hob;have:=Z1.out;omega) hg3
  obtain ⟨w0',hz0',hrow3⟩:=RU3;have U3:=Lib.hid hrow3;have HB3:=Lib.hid (HB2.out.grown hg3 hw2 (fun g hg=>(OW.out.lt g hg).1));have OW3:Hid (w3.ownsRow wb.heap.size 9 1 (.slice a3 (nm+nc) c3) L.length (L.map Value.string)):=by show World.ownsRow _ _ _ _ _ _ _;rw [HLN.out,HLL.out,List.map_append];exact hown3
  have HZ0:=Lib.hid hz0';clear hown3 hg3 wM hrow3 hz0' OW RC bg KA e1;by_cases h0:nm+nc=0
  ·have E:Hid (eT a more=bU jT a.id):=by
    show _=_;have:more++a.cls=[]:=by rw [<- HLL.out];exact List.eq_nil_of_length_eq_zero (by rw [HLN.out,h0])
    unfold eT G5;rw [this];simp
   have HF:Hid (aU wb (eT a more) (.returned (.slice av n0 cv)) w3):=by show aU _ _ _ _;rw [E.out];exact ⟨rows,_,rfl,(U3.out.lV (by have:=HZ0.out;have:=HW0.out;omega) HB3.out).top⟩
   rw [h0];clear h0;go_wp2;go_ret;exact HF.out
  ·have q1:decide ((0:Int)<((nm+nc:Nat):Int))=true:=decide_eq_true (by omega);have q2:decide (0<nm+nc)=true:=decide_eq_true (by omega);obtain ⟨n,hn⟩:∃ n,n=nm+nc:=⟨_,rfl⟩;have hjl:=zq L 1000 dR.out;have jBz:0<n:=by omega
   have jB0:n<=100:=by omega
   have JN:=Sk L ⟨#[32]⟩ (.slice a3 n c3) w3 (by rw [hn];have:=EF.qJ OW3.out;rwa [HLN.out] at this ⊢) (by
    rw [show (⟨#[32]⟩:ByteArray).data.toList=[32] from rfl,EH];have:(AU L).data.toList.length=(AU L).size:=by simp
    rw [this];rw [HLN.out] at hjl;omega) (by rw [HLN.out];omega)
   rw [show (⟨#[32]⟩:ByteArray).data.toList=[32] from rfl,EH,Ey] at JN;have HJ:=Lib.hid JN;have E:Hid ((eT a more).map Pr.d=(bU jT a.id).map Pr.d++[(⟨dx,AU L⟩:Pr).d]):=by
    show _=_;unfold eT G5;have hne:¬ (more++a.cls).isEmpty=true:=by rw [<- HLL.out,List.isEmpty_iff];intro e;have h9:=HLN.out;rw [e,List.length_nil] at h9;omega
    rw [if_neg hne,List.map_append,HLL.out];rfl
   rw [<- hn];have q3:decide ((0:Int)<(n:Int))=true:=decide_eq_true (by omega);have q4:decide (0<n)=true:=decide_eq_true (by omega);clear JN h0 q1 q2 hn hjl;go_wp2_with fail
   (with_reducible refine HJ.out.mono ?_)
   rintro e w4 ⟨rfl,b4⟩;have U4:=Lib.hid (U3.out.below b4);have kM:=Lib.hid (HB3.out.trans (b4.mono HB3.out.size));clear HJ b4 U3 HB3 OW3;go_wp2_with (at_builtin;refine Oh (n:=n0) rfl _ _ 24 rfl iP _ 32 Tryz.underlying24 hiP qg qh qj rfl (by decide) U4.out (fun _=>False.elim) (⟨dx,AU L⟩:Pr).d [.string ⟨#[99,108,97,115,115]⟩,.string (AU L)] (Pr.dJ _ _ ⟨dx,AU L⟩) rfl xq HN0.out (by omega) (by decide) rfl rfl ?_)
   intro a5 c5 w5 hrow hg5;have HF:Hid (aU wb (eT a more) (.returned (.slice a5 (n0+1) c5)) w5):=by have h1:=kM.out;have h2:jGj wb.heap.size wb w5:=(h1.alloc h1.size _).grown hg5 (by have:=h1.size;simp;omega) (fun g hg=>by have:=(U4.out.own.lt g hg).1;have:=HZ0.out;have:=HW0.out;omega);have h3:=hrow.lV (by have:=HZ0.out;have:=HW0.out;omega) h2;rw [<- E.out] at h3;exact ⟨_,_,rfl,h3⟩
   clear hrow hg5 U4 kM;go_wp2;go_ret;exact HF.out
open Go.RowKit
def GA (w:jG9) (ks:List aj) (vk:jGk):Prop:=∀ W:jG9,jGj w.heap.size w W->Calls Tryz.prog 78 #[vk] W (aO W (dQ ks))
def Jh:List jGk:=[.string ⟨#[]⟩,.string ⟨#[]⟩,.slice none 0 0,.slice none 0 0]
def kX (w:jG9) (p:Nat) (c0 c1 c2 c3:jGk):jG9:=(((w.setCell ⟨p,0,none⟩ c0).setCell ⟨p,1,none⟩ c1).setCell ⟨p,2,none⟩ c2).setCell ⟨p,3,none⟩ c3
theorem iy (w:jG9) (p:Nat) (c0 c1 c2 c3:jGk) (b:Nat) (h:b≠p):(kX w p c0 c1 c2 c3).heap[b]?=w.heap[b]?:=by unfold kX;rw [jE1 _ ⟨p,3,none⟩ _ b h,jE1 _ ⟨p,2,none⟩ _ b h,jE1 _ ⟨p,1,none⟩ _ b h,jE1 _ ⟨p,0,none⟩ _ b h]
theorem OH {w:jG9} {p:Nat} {c0 c1 c2 c3:jGk} {b o:Nat} {v:jGk} (h:w.cell? ⟨b,o,none⟩=some v) (hb:b≠p):(kX w p c0 c1 c2 c3).cell? ⟨b,o,none⟩=some v:=by rw [jq (iy w p c0 c1 c2 c3 b hb)];exact h
theorem jH (S:Nat) (w:jG9) (a b c d:jGk) (o:Nat) (v:jGk) (h:w.cell? ⟨S,o,none⟩=some v) : World.cell? ((((w.setCell ⟨S+1,0,none⟩ a).setCell ⟨S+1,1,none⟩ b).setCell ⟨S+1,2,none⟩ c).setCell ⟨S+1,3,none⟩ d) ⟨S,o,none⟩=some v:=OH h (by show S≠S+1;omega)
theorem CU {T:TypeId} {p:Nat} {cs:List jGk} {w:jG9} (h:CB T p cs w) (j:Nat) (u:jGk):CB T p (cs.set j u) (w.setCell ⟨p,j,none⟩ u):=by unfold CB at h ⊢;exact Gc
theorem MZ {T:TypeId} {p:Nat} {a0 a1 a2 a3:jGk} {w:jG9} (h:CB T p [a0,a1,a2,a3] w) (c0 c1 c2 c3:jGk):CB T p [c0,c1,c2,c3] (kX w p c0 c1 c2 c3):=
 CU (CU (CU (CU h 0 c0) 1 c1) 2 c2) 3 c3
theorem zi {B p:Nat} {a w:jG9} (h:jGj B a w) (hp:B<=p) (c0 c1 c2 c3:jGk):jGj B a (kX w p c0 c1 c2 c3):=
 (((h.setCell (p:=⟨p,0,none⟩) hp c0).setCell (p:=⟨p,1,none⟩) hp c1).setCell (p:=⟨p,2,none⟩) hp c2).setCell (p:=⟨p,3,none⟩) hp c3
theorem zk (T:TypeId) (w:jG9) (xc:List jGk):∃ S W0,S=w.heap.size/\W0=(w.alloc (.cells xc.toArray T)).alloc (.cells Jh.toArray 35)/\W0.heap.size=S+2/\CB T S xc W0/\CB 35 (S+1) Jh W0/\jGj S w W0:=by
 refine ⟨_,_,rfl,rfl,by simp,?_,?_,((jD7 _ _).alloc (jD8 _) _).alloc (by simp) _⟩
 ·exact (Below.heap_alloc _ _ _ (by simp)).trans (CB.new _ _ w)
 ·have:=CB.new 35 Jh (w.alloc (.cells xc.toArray T))
  rwa [World.size_alloc] at this
theorem jrx {T:TypeId} {S:Nat} {W0:jG9} {x0 x1 x2 x3 x4 x5 x6 x7 x8 x9:jGk} (k0:CB T S [x0,x1,x2,x3,x4,x5,x6,x7,x8,x9] W0) : Hid (∀ w':jG9,jGj W0.heap.size W0 w'->w'.cell? ⟨S,1,none⟩=some x1/\w'.cell? ⟨S,2,none⟩=some x2/\w'.cell? ⟨S,3,none⟩=some x3/\w'.cell? ⟨S,4,none⟩=some x4/\w'.cell? ⟨S,5,none⟩=some x5/\w'.cell? ⟨S,6,none⟩=some x6/\w'.cell? ⟨S,9,none⟩=some x9):=
 fun w' hb=>⟨(k0.below hb).cell 1 _ rfl,(k0.below hb).cell 2 _ rfl,(k0.below hb).cell 3 _ rfl,(k0.below hb).cell 4 _ rfl,(k0.below hb).cell 5 _ rfl,(k0.below hb).cell 6 _ rfl,(k0.below hb).cell 9 _ rfl⟩
theorem RU {T:TypeId} {S:Nat} {W0:jG9} {x0 x1 x2 x3 x4 x5 x6 x7 x8 x9 x10:jGk} (k0:CB T S [x0,x1,x2,x3,x4,x5,x6,x7,x8,x9,x10] W0) : Hid (∀ w':jG9,jGj W0.heap.size W0 w'->w'.cell? ⟨S,1,none⟩=some x1/\w'.cell? ⟨S,2,none⟩=some x2/\w'.cell? ⟨S,3,none⟩=some x3/\w'.cell? ⟨S,4,none⟩=some x4/\w'.cell? ⟨S,5,none⟩=some x5/\w'.cell? ⟨S,6,none⟩=some x6/\w'.cell? ⟨S,7,none⟩=some x7/\w'.cell? ⟨S,8,none⟩=some x8/\w'.cell? ⟨S,9,none⟩=some x9/\w'.cell? ⟨S,10,none⟩=some x10):=
 fun w' hb=>⟨(k0.below hb).cell 1 _ rfl,(k0.below hb).cell 2 _ rfl,(k0.below hb).cell 3 _ rfl,(k0.below hb).cell 4 _ rfl,(k0.below hb).cell 5 _ rfl,(k0.below hb).cell 6 _ rfl,(k0.below hb).cell 7 _ rfl,(k0.below hb).cell 8 _ rfl,(k0.below hb).cell 9 _ rfl,(k0.below hb).cell 10 _ rfl⟩
theorem qV.upH {S:Nat} {w W0:jG9} {at_:At} {ar:List ByteArray} {ci:List Ci} {ks:List aj} {vc vp va vi vk:jGk} (hS:S=w.heap.size) (hR:qV (·<w.heap.size) w at_ ar ci ks vc vp va vi vk) (b0:jGj S w W0):Hid (qV (·<S) W0 at_ ar ci ks vc vp va vi vk):=by subst hS;exact ⟨hR.at_.below b0,hR.args.below b0,hR.fu.below b0,hR.kids.below b0⟩
theorem eP.upH {S:Nat} {w W0:jG9} {at_:At} {li:List aj} {ks:List ah} {vc vp vl vk:jGk} (hS:S=w.heap.size) (hR:eP (·<w.heap.size) w at_ li ks vc vp vl vk) (b0:jGj S w W0):Hid (eP (·<S) W0 at_ li ks vc vp vl vk):=by subst hS;exact ⟨hR.at_.below b0,hR.line.below b0,hR.kids.below b0⟩
theorem Sv {S:Nat} {w W0:jG9} {P:jG9->Prop} (hS:S=w.heap.size) (hl:∀ W,jGj w.heap.size w W->P W) (b0:jGj S w W0):Hid (∀ W,jGj W0.heap.size W0 W->P W):=
 fun W hW=>hl W (by rw [<- hS];exact b0.trans (hW.mono (by have:=b0.size;omega)))
theorem dH {P:jG9->Prop} {at_:At} {ar:List ByteArray} {ci:List Ci} {ks:List aj} {vc vp va vi vk:jGk} {w:jG9} (kv:jGk) (t d ti:ByteArray) (hR:qV (·<w.heap.size) w at_ ar ci ks vc vp va vi vk) (hl:∀ W,jGj w.heap.size w W->P W) : ∃ ac nc cc ap np cp aa na ca ai ni mM ak nk ck S W0,vc=.slice ac nc cc/\vp=.slice ap np cp/\va=.slice aa na ca/\vi=.slice ai ni mM/\vk=.slice ak nk ck/\Hid (S=w.heap.size) /\ Hid (W0=(w.alloc (.cells [kv,.string t,.string d,.string ti,.string at_.id,vc,vp,va,vi,vk].toArray 66)).alloc (.cells Jh.toArray 35))/\W0.cell? ⟨S,0,none⟩=some kv /\ Hid (∀ w':jG9,jGj W0.heap.size W0 w'->w'.cell? ⟨S,1,none⟩=some (.string t)/\w'.cell? ⟨S,2,none⟩=some (.string d)/\w'.cell? ⟨S,3,none⟩=some (.string ti)/\w'.cell? ⟨S,4,none⟩=some (.string at_.id)/\w'.cell? ⟨S,5,none⟩=some vc/\w'.cell? ⟨S,6,none⟩=some vp/\w'.cell? ⟨S,9,none⟩=some vk) /\ Hid (∀ W,jGj W0.heap.size W0 W->P W)/\Hid (qV (·<S) W0 at_ ar ci ks vc vp va vi vk)/\Hid (W0.heap.size=S+2)/\Hid (jGj S w W0)/\Hid (CB 35 (S+1) Jh W0):=by
 obtain ⟨ac,nc,cc,rfl⟩:=Rd.au hR.at_.cls
 obtain ⟨ap,np,cp,rfl⟩:=Rd.au hR.at_.aD
 obtain ⟨aa,na,ca,rfl⟩:=Rd.au hR.args;obtain ⟨ai,ni,mM,rfl⟩:=Rd.au hR.fu;obtain ⟨ak,nk,ck,rfl⟩:=Rd.au hR.kids;obtain ⟨S,W0,hS,hW0,z0,k0,k1,b0⟩:=zk 66 w [kv,.string t,.string d,.string ti,.string at_.id,.slice ac nc cc,.slice ap np cp,.slice aa na ca,.slice ai ni mM,.slice ak nk ck];exact ⟨ac,nc,cc,ap,np,cp,aa,na,ca,ai,ni,mM,ak,nk,ck,S,W0,rfl,rfl,rfl,rfl,rfl,hS,hW0,k0.cell 0 _ rfl,jrx k0,Sv hS hl b0,qV.upH hS hR b0,z0,b0,k1⟩
theorem lJ {at_:At} {li:List aj} {ks:List ah} {vc vp vl vk:jGk} {w:jG9} (kv:jGk) (lv:Int) (i t d ti:ByteArray) (hR:eP (·<w.heap.size) w at_ li ks vc vp vl vk) : ∃ ac nc cc ap np cp al nl cl ak nk ck S W0,vc=.slice ac nc cc/\vp=.slice ap np cp/\vl=.slice al nl cl/\vk=.slice ak nk ck/\Hid (S=w.heap.size) /\ Hid (W0=(w.alloc (.cells [kv,.int .i64 lv,.string i,.string t,.string d,.string ti,.string at_.id,vc,vp,vl,vk].toArray 48)).alloc (.cells Jh.toArray 35))/\W0.cell? ⟨S,0,none⟩=some kv /\ Hid (∀ w':jG9,jGj W0.heap.size W0 w'->w'.cell? ⟨S,1,none⟩=some (.int .i64 lv)/\w'.cell? ⟨S,2,none⟩=some (.string i)/\w'.cell? ⟨S,3,none⟩=some (.string t)/\w'.cell? ⟨S,4,none⟩=some (.string d)/\w'.cell? ⟨S,5,none⟩=some (.string ti)/\w'.cell? ⟨S,6,none⟩=some (.string at_.id)/\w'.cell? ⟨S,7,none⟩=some vc/\w'.cell? ⟨S,8,none⟩=some vp/\w'.cell? ⟨S,9,none⟩=some vl/\w'.cell? ⟨S,10,none⟩=some vk) /\ Hid (eP (·<S) W0 at_ li ks vc vp vl vk)/\Hid (W0.heap.size=S+2)/\Hid (jGj S w W0)/\Hid (CB 35 (S+1) Jh W0):=by
 obtain ⟨ac,nc,cc,rfl⟩:=Rd.au hR.at_.cls
 obtain ⟨ap,np,cp,rfl⟩:=Rd.au hR.at_.aD
 obtain ⟨al,nl,cl,rfl⟩:=Rd.au hR.line;obtain ⟨ak,nk,ck,rfl⟩:=Rd.au hR.kids;obtain ⟨S,W0,hS,hW0,z0,k0,k1,b0⟩:=zk 48 w [kv,.int .i64 lv,.string i,.string t,.string d,.string ti,.string at_.id,.slice ac nc cc,.slice ap np cp,.slice al nl cl,.slice ak nk ck];exact ⟨ac,nc,cc,ap,np,cp,al,nl,cl,ak,nk,ck,S,W0,rfl,rfl,rfl,rfl,hS,hW0,k0.cell 0 _ rfl,RU k0,eP.upH hS hR b0,z0,b0,k1⟩
theorem ED {T:TypeId} {p:Nat} {cs:List jGk} {w:jG9} (h:CB T p cs w) (j:Nat):w.frozen? ⟨p,j,none⟩=false:=by unfold CB at h;simp [World.frozen?,h]
theorem qC {p:Nat} {w:jG9} (h:CB 35 p Jh w):w.cell? ⟨p,0,none⟩=some (.string ⟨#[]⟩)/\w.cell? ⟨p,1,none⟩=some (.string ⟨#[]⟩)/\w.cell? ⟨p,2,none⟩=some (.slice none 0 0)/\w.cell? ⟨p,3,none⟩=some (.slice none 0 0)/\∀ j,w.frozen? ⟨p,j,none⟩=false:=
 ⟨h.cell 0 _ rfl,h.cell 1 _ rfl,h.cell 2 _ rfl,h.cell 3 _ rfl,ED h⟩
theorem vL {S:Nat} {w W0 w3:jG9} (n t:ByteArray) (at_:List Pr) (ks:List Nd) {va vk:jGk} (hS:S=w.heap.size) (z0:W0.heap.size=S+2) (b0:jGj S w W0) (k1:CB 35 (S+1) Jh W0) (b3:jGj W0.heap.size W0 w3) (hR:gZ (W0.heap.size<=·) w3 at_ ks va vk) : CB 35 (S+1) [.string n,.string t,va,vk] (kX w3 (S+1) (.string n) (.string t) va vk)/\qc w (.mk n t at_ ks) (.returned (.agg #[.string n,.string t,va,vk])) (kX w3 (S+1) (.string n) (.string t) va vk):=by refine ⟨MZ (k1.below b3) _ _ _ _,va,vk,rfl,hR.keep (fun b hb hlt=>⟨by omega,iy _ _ _ _ _ _ b (by omega)⟩),?_⟩;rw [<- hS];exact zi (b0.trans (b3.mono (by omega))) (by omega) _ _ _ _
theorem dP {S:Nat} {w W0 w3:jG9} (n t:ByteArray) (at_:List Pr) (ks:List Nd) {va vk:jGk} (hS:Hid (S=w.heap.size)) (z0:Hid (W0.heap.size=S+2)) (b0:Hid (jGj S w W0)) (k1:Hid (CB 35 (S+1) Jh W0)) (b3:Hid (jGj W0.heap.size W0 w3)) (hR:gZ (W0.heap.size<=·) w3 at_ ks va vk) : ∃ w9,w9=(((w3.setCell ⟨S+1,0,none⟩ (.string n)).setCell ⟨S+1,1,none⟩ (.string t)).setCell ⟨S+1,2,none⟩ va).setCell ⟨S+1,3,none⟩ vk /\ w9.cell? ⟨S+1,0,none⟩=some (.string n)/\w9.cell? ⟨S+1,1,none⟩=some (.string t)/\w9.cell? ⟨S+1,2,none⟩=some va/\w9.cell? ⟨S+1,3,none⟩=some vk /\ Hid (qc w (.mk n t at_ ks) (.returned (.agg #[.string n,.string t,va,vk])) w9) /\ w3.cell? ⟨S+1,0,none⟩=some (.string ⟨#[]⟩)/\w3.cell? ⟨S+1,1,none⟩=some (.string ⟨#[]⟩)/\w3.cell? ⟨S+1,2,none⟩=some (.slice none 0 0)/\w3.cell? ⟨S+1,3,none⟩=some (.slice none 0 0)/\∀ j,w3.frozen? ⟨S+1,j,none⟩=false:=by
 have hf:=vL n t at_ ks hS.out z0.out b0.out k1.out b3.out hR
 exact ⟨_,rfl,hf.1.cell 0 _ rfl,hf.1.cell 1 _ rfl,hf.1.cell 2 _ rfl,hf.1.cell 3 _ rfl,hf.2,qC (k1.out.below b3.out)⟩
theorem sS (l:List ByteArray) (W:jG9) (hl:l.length<=maxLen):Rd (·<(W.alloc (.cells (l.map Value.string).toArray 9)).heap.size) (W.alloc (.cells (l.map Value.string).toArray 9)) (jZ l) [.slice (some ⟨W.heap.size,0,none⟩) l.length l.length]:=
 Rd.Sw (B:=W.heap.size) (e:=9) ⟨by simp,.inr ⟨W.heap.size,l.length,(l.map Value.string).toArray,rfl,jD8 _,heap_alloc_new W _,jD8 _,hl,by simp,by
  show List.take (l.length*1) (l.map Value.string)=_;rw [List.take_of_length_le (by simp)]⟩⟩ (fun g hg=>by
   have e1:W.heap.size=g:=by simpa [Value.ownBlock] using hg
   simp;omega)
theorem Xj (k v:ByteArray) (W:jG9):Calls Tryz.prog 41 #[.slice (some ⟨W.heap.size,0,none⟩) 2 2] (W.alloc (.cells #[.string k,.string v] 9)) (aU (W.alloc (.cells #[.string k,.string v] 9)) [⟨k,v⟩]):=
 l8 [⟨k,v⟩] _ _ (sS [k,v] W (by unfold maxLen;simp)) (by simp)
theorem zu (k v k' v':ByteArray) (W:jG9):Calls Tryz.prog 41 #[.slice (some ⟨W.heap.size,0,none⟩) 4 4] (W.alloc (.cells #[.string k,.string v,.string k',.string v'] 9)) (aU (W.alloc (.cells #[.string k,.string v,.string k',.string v'] 9)) [⟨k,v⟩,⟨k',v'⟩]):=
 l8 [⟨k,v⟩,⟨k',v'⟩] _ _ (sS [k,v,k',v'] W (by unfold maxLen;simp)) (by simp)
theorem fQ (W:jG9) (o:Obj):jGj W.heap.size W (W.alloc o).drew:=((jD7 _ _).alloc (jD8 _) _).drew
theorem EI (k v:ByteArray) (W:jG9):Hid (Calls Tryz.prog 41 #[.slice (some ⟨W.heap.size,0,none⟩) 2 2] (W.alloc (.cells #[.string k,.string v] 9)).drew (aU (W.alloc (.cells #[.string k,.string v] 9)).drew [⟨k,v⟩]))/\Hid (jGj W.heap.size W (W.alloc (.cells #[.string k,.string v] 9)).drew):=
 ⟨Xj k v W.drew,fQ W _⟩
theorem Xk (k v k' v':ByteArray) (W:jG9):Hid (Calls Tryz.prog 41 #[.slice (some ⟨W.heap.size,0,none⟩) 4 4] (W.alloc (.cells #[.string k,.string v,.string k',.string v'] 9)).drew (aU (W.alloc (.cells #[.string k,.string v,.string k',.string v'] 9)).drew [⟨k,v⟩,⟨k',v'⟩]))/\Hid (jGj W.heap.size W (W.alloc (.cells #[.string k,.string v,.string k',.string v'] 9)).drew):=
 ⟨zu k v k' v' W.drew,fQ W _⟩
theorem Xl (k v k' v':ByteArray) {B:Nat} {W0 W:jG9} (h:Hid (jGj B W0 W)) (hB:B<=W.heap.size):Hid (Calls Tryz.prog 41 #[.slice (some ⟨W.heap.size,0,none⟩) 4 4] (W.alloc (.cells #[.string k,.string v,.string k',.string v'] 9)) (aU (W.alloc (.cells #[.string k,.string v,.string k',.string v'] 9)) [⟨k,v⟩,⟨k',v'⟩]))/\Hid (jGj B W0 (W.alloc (.cells #[.string k,.string v,.string k',.string v'] 9))):=
 ⟨zu k v k' v' W,h.out.alloc hB _⟩
theorem zo {S:Nat} {W0 w':jG9} {a:At} {vc vp:jGk} (h:AtR (·<S) W0 a vc vp) (hb:jGj W0.heap.size W0 w') (hS:S<=W0.heap.size):AtR (·<w'.heap.size) w' a vc vp:=
 ⟨Rd.keep (fun b (hb1:b<S) _=>⟨by have:=hb.size;omega,hb.block b (by omega)⟩) _ _ h.cls,Rd.keep (fun b (hb1:b<S) _=>⟨by have:=hb.size;omega,hb.block b (by omega)⟩) _ _ h.aD⟩
theorem Sr {S:Nat} {W0:jG9} {a:At} {vc vp:jGk} (hS:S<=W0.heap.size) (h:AtR (·<S) W0 a vc vp):AtR (·<W0.drew.heap.size) W0.drew a vc vp:=
 ⟨Rd.keep (w:=W0) (w':=W0.drew) (ok:=(·<S)) (fun b (hb:b<S) _=>⟨(by show b<W0.heap.size;omega),rfl⟩) _ _ h.cls,Rd.keep (w:=W0) (w':=W0.drew) (ok:=(·<S)) (fun b (hb:b<S) _=>⟨(by show b<W0.heap.size;omega),rfl⟩) _ _ h.aD⟩
theorem aF.slice3 {T:TypeId} {k U:Nat} {ok:Nat->Prop} {w0 w:jG9} {ds:List D} {rows:List (List jGk)} {v:jGk} (h:aF T k ok U w0 ds rows v w):∃ a n c,v=.slice a n c:=by obtain ⟨a,c,e⟩:=h.slice;exact ⟨a,_,c,e⟩
theorem uL {k:Int} {t d ti:ByteArray} {a:At} {ar:List ByteArray} {ci:List Ci} {ks:List aj} (h:(aj.mk k t d ti a ar ci ks).small):([]++a.cls).length<=100/\∀ c∈[]++a.cls,c.size<=1000:=by rw [aj.small] at h;obtain ⟨-,-,-,h,-⟩:=h;unfold At.short at h;rw [List.nil_append];exact ⟨by omega,fun c hc=>by have:=h.2.2.2.1 c hc;omega⟩
def zw (k:Int):Prop:=∀ (t d ti:ByteArray) (at_:At) (ar:List ByteArray) (ci:List Ci) (ks:List aj) (vc vp va vi vk:jGk) (w:jG9),qV (·<w.heap.size) w at_ ar ci ks vc vp va vi vk->(aj.mk k t d ti at_ ar ci ks).small->GA w ks vk ->
 Calls Tryz.prog 130 #[.agg #[.int .i64 k,.string t,.string d,.string ti,.string at_.id,vc,vp,va,vi,vk]] w (qc w (aj.mk k t d ti at_ ar ci ks).nd)
theorem bK{P Q:Prop}(q:Q)(h:Nonempty Q->P:=by
 intro qQ;rw [<- HS.out];have hk0:=HW0.out;simp only [Jh] at hk0;rw [<- hk0];clear hk0;exact qQ.elim fun x=>x):P:=h ⟨q⟩
theorem mP{P Q:Prop}(q:Q)(h:Nonempty Q->P:=by
 intro qQ;have cO:=Lib.hid hs;have hst:t.size<=300:=by rw [aj.small] at hs;exact hs.1
 revert cO hst;exact qQ.elim fun x=>x):P:=h ⟨q⟩
theorem jm2:zw 2:=by
 intro t d ti at_ ar ci ks vc vp va vi vk w hR hs hl
 have E:Hid ((aj.mk 2 t d ti at_ ar ci ks).nd=Cm J6):=by show _=_;rw [aj.nd];rfl
 rw [E.out];obtain ⟨ac,nc,cc,ap,np,cp,aa,na,ca,ai,ni,mM,ak,nk,ck,S,W0,rfl,rfl,rfl,rfl,rfl,HS,HW0,e0,SX,dR,HR,Z0,B0,K1⟩:=dH (.int .i64 2) t d ti hR hl;refine mP ?_;intro cO hst;clear hR hs hl E;go_enter Tryz.func130,Tryz.ntmps130;go_upto_region 3 with (fail)
 refine bK ?_;have BL:Hid (jGj W0.heap.size W0 W0):=jD7 _ _;have f1:=K1.out;obtain ⟨w9,hw8,r0,r1,r2,r3,HP,x0,x1,x2,x3,xf⟩:=dP ⟨#[]⟩ ⟨#[32]⟩ [] [] HS Z0 B0 K1 BL ⟨Rd.aC _ _ _,Rd.aC _ _ _⟩;go_wp2;rw [<- hw8];exact bodyPost_ret (v:=.agg #[.string ⟨#[]⟩,.string ⟨#[32]⟩,(.slice none 0 0),(.slice none 0 0)]) (by simp [results,Tryz.results130,go_sem,r0,r1,r2,r3]) rfl HP.out
theorem jaj{P Q:Prop}(q:Q)(h:Nonempty Q->P:=by
 intro qQ;have hst:t.size<=300:=by rw [aj.small] at hs;exact hs.1
 have q2:(k==2)=false:=by rw [beq_eq_false_iff_ne];exact hk.1
 have q3:(k==3)=false:=by rw [beq_eq_false_iff_ne];exact hk.2.1
 have q4:(k==4)=false:=by rw [beq_eq_false_iff_ne];exact hk.2.2.1
 have q5:(k==5)=false:=by rw [beq_eq_false_iff_ne];exact hk.2.2.2.1
 have q6:(k==6)=false:=by rw [beq_eq_false_iff_ne];exact hk.2.2.2.2.1
 have q7:(k==7)=false:=by rw [beq_eq_false_iff_ne];exact hk.2.2.2.2.2.1
 have q8:(k==8)=false:=by rw [beq_eq_false_iff_ne];exact hk.2.2.2.2.2.2.1
 have q9:(k==9)=false:=by rw [beq_eq_false_iff_ne];exact hk.2.2.2.2.2.2.2.1
 have q10:(k==10)=false:=by rw [beq_eq_false_iff_ne];exact hk.2.2.2.2.2.2.2.2.1
 have q11:(k==11)=false:=by rw [beq_eq_false_iff_ne];exact hk.2.2.2.2.2.2.2.2.2.1
 have q12:(k==12)=false:=by rw [beq_eq_false_iff_ne];exact hk.2.2.2.2.2.2.2.2.2.2.1
 have q16:(k==16)=false:=by rw [beq_eq_false_iff_ne];exact hk.2.2.2.2.2.2.2.2.2.2.2
 revert hst q2 q3 q4 q5 q6 q7 q8 q9 q10 q11 q12 q16;exact qQ.elim fun x=>x):P:=h ⟨q⟩
theorem ja9{P Q:Prop}(q:Q)(h:Nonempty Q->P:=by
 intro qQ;have E:Hid ((aj.mk k t d ti at_ ar ci ks).nd=Cm t):=by show _=_;rw [aj.nd];obtain ⟨h2,h3,h4,h5,h6,h7,h8,h9,h10,h11,h12,h16⟩:=hk;rw [if_neg h2,if_neg h3,if_neg h4,if_neg h5,if_neg h6,if_neg h7,if_neg h8,if_neg h9,if_neg h10,if_neg h11,if_neg h12,if_neg h16]
 rw [E.out];revert E;exact qQ.elim fun x=>x):P:=h ⟨q⟩
theorem Sy (k:Int) (t d ti:ByteArray) (at_:At) (ar:List ByteArray) (ci:List Ci) (ks:List aj) (vc vp va vi vk:jGk) (w:jG9) (hR:qV (·<w.heap.size) w at_ ar ci ks vc vp va vi vk) (hs:(aj.mk k t d ti at_ ar ci ks).small) (hl:GA w ks vk) (hk:k≠2/\k≠3/\k≠4/\k≠5/\k≠6/\k≠7/\k≠8/\k≠9/\k≠10/\k≠11/\k≠12/\k≠16) : Calls Tryz.prog 130 #[.agg #[.int .i64 k,.string t,.string d,.string ti,.string at_.id,vc,vp,va,vi,vk]] w (qc w (aj.mk k t d ti at_ ar ci ks).nd):=by
 refine ja9 ?_;intro E;obtain ⟨ac,nc,cc,ap,np,cp,aa,na,ca,ai,ni,mM,ak,nk,ck,S,W0,rfl,rfl,rfl,rfl,rfl,HS,HW0,e0,SX,dR,HR,Z0,B0,K1⟩:=dH (.int .i64 k) t d ti hR hl;have cO:=Lib.hid hs;refine jaj ?_;intro hst q2 q3 q4 q5 q6 q7 q8 q9 q10 q11 q12 q16;clear hk;clear hR hs hl E;go_enter Tryz.func130,Tryz.ntmps130;go_upto_region 27 with (fail)
 refine bK ?_;have BL:Hid (jGj W0.heap.size W0 W0):=jD7 _ _;have g1:=(SX.out W0 (jD7 _ _)).1;obtain ⟨w9,hw8,r0,r1,r2,r3,HP,x0,x1,x2,x3,xf⟩:=dP ⟨#[]⟩ t [] [] HS Z0 B0 K1 BL ⟨Rd.aC _ _ _,Rd.aC _ _ _⟩;go_wp2;rw [<- hw8];exact bodyPost_ret (v:=.agg #[.string ⟨#[]⟩,.string t,(.slice none 0 0),(.slice none 0 0)]) (by simp [results,Tryz.results130,go_sem,r0,r1,r2,r3]) rfl HP.out
theorem jm3:zw 3:=by
 intro t d ti at_ ar ci ks vc vp va vi vk w hR hs hl
 have E:Hid ((aj.mk 3 t d ti at_ ar ci ks).nd=aJ nBr [] []):=by show _=_;rw [aj.nd];rfl
 rw [E.out];obtain ⟨ac,nc,cc,ap,np,cp,aa,na,ca,ai,ni,mM,ak,nk,ck,S,W0,rfl,rfl,rfl,rfl,rfl,HS,HW0,e0,SX,dR,HR,Z0,B0,K1⟩:=dH (.int .i64 3) t d ti hR hl;refine mP ?_;intro cO hst;clear hR hs hl E;go_enter Tryz.func130,Tryz.ntmps130;go_upto_region 5 with (fail)
 refine bK ?_;have EC:=Lib.hid (l7 ⟨#[98,114]⟩ none none 0 0 0 0 W0);have B4:Hid (jGj W0.heap.size W0 W0):=jD7 _ _;go_wp2_with fail
 (with_reducible refine EC.out.mono ?_)
 rintro e w5 ⟨rfl,b5⟩;have BL:=Lib.hid (q01 B4.out b5);clear b5;obtain ⟨w9,hw8,r0,r1,r2,r3,HP,x0,x1,x2,x3,xf⟩:=dP ⟨#[98,114]⟩ ⟨#[]⟩ [] [] HS Z0 B0 K1 BL ⟨Rd.aC _ _ _,Rd.aC _ _ _⟩;go_wp2;rw [<- hw8];exact bodyPost_ret (v:=.agg #[.string ⟨#[98,114]⟩,.string ⟨#[]⟩,(.slice none 0 0),(.slice none 0 0)]) (by simp [results,Tryz.results130,go_sem,r0,r1,r2,r3]) rfl HP.out
theorem jm4:zw 4:=by
 intro t d ti at_ ar ci ks vc vp va vi vk w hR hs hl
 have E:Hid ((aj.mk 4 t d ti at_ ar ci ks).nd=aJ dK [] (bI t)):=by show _=_;rw [aj.nd];rfl
 rw [E.out];obtain ⟨ac,nc,cc,ap,np,cp,aa,na,ca,ai,ni,mM,ak,nk,ck,S,W0,rfl,rfl,rfl,rfl,rfl,HS,HW0,e0,SX,dR,HR,Z0,B0,K1⟩:=dH (.int .i64 4) t d ti hR hl;refine mP ?_;intro cO hst;clear hR hs hl E;go_enter Tryz.func130,Tryz.ntmps130;go_upto_region 7 with (fail)
 refine bK ?_;have DC:=Lib.hid (jD t W0);have g1:=(SX.out W0 (jD7 _ _)).1;go_wp2_with fail
 (with_reducible refine DC.out.mono ?_)
 rintro e w4 ⟨bD,v4,rfl,hrow4⟩;obtain ⟨a4,n4,c4,rfl⟩:=hrow4.slice3;have b4:=hrow4.aM;have B4:=Lib.hid (q01 (jD7 W0.heap.size W0) b4);have bV:=Lib.hid (show Rd (W0.heap.size<=·) w4 (gD (bI t)) [.slice a4 n4 c4] from hrow4.bZ.weaken (fun b hb=>jD9 ((jD7 W0.heap.size W0)).size hb));have EC:=Lib.hid (l7 ⟨#[99,111,100,101]⟩ none a4 0 n4 0 c4 w4);clear b4 hrow4 DC g1;go_wp2_with fail
 (with_reducible refine EC.out.mono ?_)
 rintro e w5 ⟨rfl,b5⟩;have BL:=Lib.hid (q01 B4.out b5);have HN:=Lib.hid (show gZ (W0.heap.size<=·) w5 [] (bI t) (.slice none 0 0) (.slice a4 n4 c4) from ⟨Rd.aC _ _ _,bV.out.bC b5⟩);clear b5 bV EC;obtain ⟨w9,hw8,r0,r1,r2,r3,HP,x0,x1,x2,x3,xf⟩:=dP ⟨#[99,111,100,101]⟩ ⟨#[]⟩ [] (bI t) HS Z0 B0 K1 BL HN.out;go_wp2;rw [<- hw8];exact bodyPost_ret (v:=.agg #[.string ⟨#[99,111,100,101]⟩,.string ⟨#[]⟩,(.slice none 0 0),(.slice a4 n4 c4)]) (by simp [results,Tryz.results130,go_sem,r0,r1,r2,r3]) rfl HP.out
theorem Sz{P Q:Prop}(q:Q)(h:Nonempty Q->P:=by
 intro qQ;have BL:=Lib.hid (q01 B4.out b5);have HN:=Lib.hid (show gZ (W0.heap.size<=·) w5 [] (dQ ks) (.slice none 0 0) (.slice a4 n4 c4) from ⟨Rd.aC _ _ _,bV.out.bC b5⟩);revert BL HN;exact qQ.elim fun x=>x):P:=h ⟨q⟩
theorem SE{P Q:Prop}(q:Q)(h:Nonempty Q->P:=by
 intro qQ;have b4:=hrow4.aM;have B4:=Lib.hid b4;have bV:=Lib.hid (show Rd (W0.heap.size<=·) w4 (gD (dQ ks)) [.slice a4 n4 c4] from hrow4.bZ);revert b4 B4 bV;exact qQ.elim fun x=>x):P:=h ⟨q⟩
theorem SG{P Q:Prop}(q:Q)(h:Nonempty Q->P:=by
 intro qQ;have LC:=Lib.hid (dR.out W0 (jD7 _ _));have g9:=(SX.out W0 (jD7 _ _)).2.2.2.2.2.2;revert LC g9;exact qQ.elim fun x=>x):P:=h ⟨q⟩
theorem jm5:zw 6:=by
 intro t d ti at_ ar ci ks vc vp va vi vk w hR hs hl
 have E:Hid ((aj.mk 6 t d ti at_ ar ci ks).nd=aJ nEm [] (dQ ks)):=by show _=_;rw [aj.nd];rfl
 rw [E.out];obtain ⟨ac,nc,cc,ap,np,cp,aa,na,ca,ai,ni,mM,ak,nk,ck,S,W0,rfl,rfl,rfl,rfl,rfl,HS,HW0,e0,SX,dR,HR,Z0,B0,K1⟩:=dH (.int .i64 6) t d ti hR hl;refine mP ?_;intro cO hst;clear hR hs hl E;go_enter Tryz.func130,Tryz.ntmps130;go_upto_region 11 with (fail)
 refine bK ?_;refine SG ?_;intro LC g9;go_wp2_with fail
 (with_reducible refine LC.out.mono ?_)
 rintro e w4 ⟨bD,v4,rfl,hrow4⟩;obtain ⟨a4,n4,c4,rfl⟩:=hrow4.slice3;refine SE ?_;intro b4 B4 bV;have EC:=Lib.hid (l7 ⟨#[101,109]⟩ none a4 0 n4 0 c4 w4);clear b4 hrow4 LC g9;go_wp2_with fail
 (with_reducible refine EC.out.mono ?_)
 rintro e w5 ⟨rfl,b5⟩;refine Sz ?_;intro BL HN;clear b5 bV EC;obtain ⟨w9,hw8,r0,r1,r2,r3,HP,x0,x1,x2,x3,xf⟩:=dP ⟨#[101,109]⟩ ⟨#[]⟩ [] (dQ ks) HS Z0 B0 K1 BL HN.out;go_wp2;rw [<- hw8];exact bodyPost_ret (v:=.agg #[.string ⟨#[101,109]⟩,.string ⟨#[]⟩,(.slice none 0 0),(.slice a4 n4 c4)]) (by simp [results,Tryz.results130,go_sem,r0,r1,r2,r3]) rfl HP.out
theorem jm6:zw 7:=by
 intro t d ti at_ ar ci ks vc vp va vi vk w hR hs hl
 have E:Hid ((aj.mk 7 t d ti at_ ar ci ks).nd=aJ EG [] (dQ ks)):=by show _=_;rw [aj.nd];rfl
 rw [E.out];obtain ⟨ac,nc,cc,ap,np,cp,aa,na,ca,ai,ni,mM,ak,nk,ck,S,W0,rfl,rfl,rfl,rfl,rfl,HS,HW0,e0,SX,dR,HR,Z0,B0,K1⟩:=dH (.int .i64 7) t d ti hR hl;refine mP ?_;intro cO hst;clear hR hs hl E;go_enter Tryz.func130,Tryz.ntmps130;go_upto_region 13 with (fail)
 refine bK ?_;refine SG ?_;intro LC g9;go_wp2_with fail
 (with_reducible refine LC.out.mono ?_)
 rintro e w4 ⟨bD,v4,rfl,hrow4⟩;obtain ⟨a4,n4,c4,rfl⟩:=hrow4.slice3;refine SE ?_;intro b4 B4 bV;have EC:=Lib.hid (l7 ⟨#[115,116,114,111,110,103]⟩ none a4 0 n4 0 c4 w4);clear b4 hrow4 LC g9;go_wp2_with fail
 (with_reducible refine EC.out.mono ?_)
 rintro e w5 ⟨rfl,b5⟩;refine Sz ?_;intro BL HN;clear b5 bV EC;obtain ⟨w9,hw8,r0,r1,r2,r3,HP,x0,x1,x2,x3,xf⟩:=dP ⟨#[115,116,114,111,110,103]⟩ ⟨#[]⟩ [] (dQ ks) HS Z0 B0 K1 BL HN.out;go_wp2;rw [<- hw8];exact bodyPost_ret (v:=.agg #[.string ⟨#[115,116,114,111,110,103]⟩,.string ⟨#[]⟩,(.slice none 0 0),(.slice a4 n4 c4)]) (by simp [results,Tryz.results130,go_sem,r0,r1,r2,r3]) rfl HP.out
theorem jm7:zw 8:=by
 intro t d ti at_ ar ci ks vc vp va vi vk w hR hs hl
 have E:Hid ((aj.mk 8 t d ti at_ ar ci ks).nd=aJ nS [] (dQ ks)):=by show _=_;rw [aj.nd];rfl
 rw [E.out];obtain ⟨ac,nc,cc,ap,np,cp,aa,na,ca,ai,ni,mM,ak,nk,ck,S,W0,rfl,rfl,rfl,rfl,rfl,HS,HW0,e0,SX,dR,HR,Z0,B0,K1⟩:=dH (.int .i64 8) t d ti hR hl;refine mP ?_;intro cO hst;clear hR hs hl E;go_enter Tryz.func130,Tryz.ntmps130;go_upto_region 15 with (fail)
 refine bK ?_;refine SG ?_;intro LC g9;go_wp2_with fail
 (with_reducible refine LC.out.mono ?_)
 rintro e w4 ⟨bD,v4,rfl,hrow4⟩;obtain ⟨a4,n4,c4,rfl⟩:=hrow4.slice3;refine SE ?_;intro b4 B4 bV;have EC:=Lib.hid (l7 ⟨#[115]⟩ none a4 0 n4 0 c4 w4);clear b4 hrow4 LC g9;go_wp2_with fail
 (with_reducible refine EC.out.mono ?_)
 rintro e w5 ⟨rfl,b5⟩;refine Sz ?_;intro BL HN;clear b5 bV EC;obtain ⟨w9,hw8,r0,r1,r2,r3,HP,x0,x1,x2,x3,xf⟩:=dP ⟨#[115]⟩ ⟨#[]⟩ [] (dQ ks) HS Z0 B0 K1 BL HN.out;go_wp2;rw [<- hw8];exact bodyPost_ret (v:=.agg #[.string ⟨#[115]⟩,.string ⟨#[]⟩,(.slice none 0 0),(.slice a4 n4 c4)]) (by simp [results,Tryz.results130,go_sem,r0,r1,r2,r3]) rfl HP.out
theorem lI{P Q:Prop}(q:Q)(h:Nonempty Q->P:=by
 intro qQ;rw [<- hw8];have r0:=HC.out.cell 0 _ rfl;have r1:=HC.out.cell 1 _ rfl;have r2:=HC.out.cell 2 _ rfl;have r3:=HC.out.cell 3 _ rfl;revert r0 r1 r2 r3;exact qQ.elim fun x=>x):P:=h ⟨q⟩
theorem lH{P Q:Prop}(q:Q)(h:Nonempty Q->P:=by
 intro qQ;have hw8:=dn;simp only [kX] at hw8;obtain ⟨x0,x1,x2,x3,xf⟩:=qC (K1.out.below BL.out);revert hw8 x0 x1 x2 x3 xf;exact qQ.elim fun x=>x):P:=h ⟨q⟩
theorem vS{P Q:Prop}(q:Q)(h:Nonempty Q->P:=by
 intro qQ;have S0:=SF.out _ (jD7 _ _).drew;have S1:=SF.out _ iZ.out;revert S0 S1;exact qQ.elim fun x=>x):P:=h ⟨q⟩
theorem jak{P Q:Prop}(q:Q)(h:Nonempty Q->P:=by
 intro qQ;obtain ⟨w9,dn⟩:∃ w9,w9=kX w5 (S+1) (.string ⟨#[115,112,97,110]⟩) (.string ⟨#[]⟩) (.slice a2 1 c2) (.slice a4 n4 c4):=⟨_,rfl⟩;have hf:=vL ⟨#[115,112,97,110]⟩ ⟨#[]⟩ [⟨dx,oh⟩] (bI t) HS.out Z0.out B0.out K1.out BL.out HN.out;rw [<- dn] at hf;revert w9 dn hf;exact qQ.elim fun x=>x):P:=h ⟨q⟩
theorem SH{P Q:Prop}(q:Q)(h:Nonempty Q->P:=by
 intro qQ;have Sq:Hid (∀ W:jG9,Calls Tryz.prog 53 #[.string t] W (aO W (bI t))):=fun W=>jD t W
 revert Sq;exact qQ.elim fun x=>x):P:=h ⟨q⟩
theorem jm8:zw 5:=by
 intro t d ti at_ ar ci ks vc vp va vi vk w hR hs hl
 have E:Hid ((aj.mk 5 t d ti at_ ar ci ks).nd=aJ C9 [⟨dx,oh⟩] (bI t)):=by show _=_;rw [aj.nd];rfl
 rw [E.out];obtain ⟨ac,nc,cc,ap,np,cp,aa,na,ca,ai,ni,mM,ak,nk,ck,S,W0,rfl,rfl,rfl,rfl,rfl,HS,HW0,e0,SX,dR,HR,Z0,B0,K1⟩:=dH (.int .i64 5) t d ti hR hl;refine mP ?_;intro cO hst;clear hR hs hl E;go_enter Tryz.func130,Tryz.ntmps130;go_upto_region 9 with (fail)
 refine bK ?_;obtain ⟨PC,iZ⟩:=EI ⟨#[99,108,97,115,115]⟩ ⟨#[109,97,116,104]⟩ W0;have SF:=Lib.hid (fun (w':jG9) (hb:jGj W0.heap.size W0 w')=>((SX.out w' hb).1:w'.cell? ⟨S,1,none⟩=some (.string t)));refine vS ?_;intro S0 S1;refine SH ?_;intro Sq;go_wp2_with fail
 go_region_held3 (fun w'=>w'.cell? ⟨S,1,none⟩=some (.string t))
  (with_reducible assumption)
  (first
   | (go_simp;go_at_call 41;(with_reducible refine PC.out.mono ?_);rintro e w2 ⟨aZ,v2,rfl,hrow2⟩;obtain ⟨a2,c2,rfl,-,-⟩:=hrow2.cap (n:=1) rfl;have B2:=Lib.hid (iZ.out.trans (hrow2.aM.mono iZ.out.size));have wR:=Lib.hid (show Rd (W0.heap.size<=·) w2 (q32 [⟨dx,oh⟩]) [.slice a2 1 c2] from hrow2.bZ.weaken (fun b hb=>jD9 iZ.out.size hb));have S2:=SF.out w2 B2.out;have DC:=Lib.hid (Sq.out w2))
   | (go_simp;go_at_call 53;(with_reducible refine DC.out.mono ?_);rintro e w4 ⟨bD,v4,rfl,hrow4⟩;obtain ⟨a4,n4,c4,rfl⟩:=hrow4.slice3;have b4:=hrow4.aM;have B4:=Lib.hid (q01 B2.out b4);have bV:=Lib.hid (show Rd (W0.heap.size<=·) w4 (gD (bI t)) [.slice a4 n4 c4] from hrow4.bZ.weaken (fun b hb=>jD9 (B2.out).size hb));have jV:=Lib.hid (wR.out.bC b4);have S4:=SF.out w4 B4.out;have EC:=Lib.hid (l7 ⟨#[115,112,97,110]⟩ a2 a4 1 n4 c2 c4 w4))
   | (go_simp;go_at_call 40;(with_reducible refine EC.out.mono ?_);rintro e w5 ⟨rfl,b5⟩;have BL:=Lib.hid (q01 B4.out b5);obtain ⟨x0,x1,x2,x3,xf⟩:=qC (K1.out.below BL.out);have S5:=SF.out w5 BL.out;have K6:=jH S w5 (.string ⟨#[115,112,97,110]⟩) (.string ⟨#[]⟩) (.slice a2 1 c2) (.slice a4 n4 c4);have S6:=K6 _ _ (SF.out w5 BL.out);clear K6))
 all_goals
  have HN:=Lib.hid (show gZ (W0.heap.size<=·) w5 [⟨dx,oh⟩] (bI t) (.slice a2 1 c2) (.slice a4 n4 c4) from ⟨jV.out.bC b5,bV.out.bC b5⟩);clear b5 bV EC jV hrow2 hrow4 b4 S0 S1 S2 S4 S5 S6 wR;refine jak ?_;intro w9 dn hf;have HC:=Lib.hid hf.1;have HP:=Lib.hid hf.2;clear hf;refine lH ?_;clear dn;intro hw8 x0 x1 x2 x3 xf;go_wp2;refine lI ?_;intro r0 r1 r2 r3;exact bodyPost_ret (v:=.agg #[.string ⟨#[115,112,97,110]⟩,.string ⟨#[]⟩,(.slice a2 1 c2),(.slice a4 n4 c4)]) (by simp [results,Tryz.results130,go_sem,r0,r1,r2,r3]) rfl HP.out
theorem jaq{P Q:Prop}(q:Q)(h:Nonempty Q->P:=by
 intro qQ;have q5:(⟨#[35,110,111,116,101,45]⟩:ByteArray).size+t.size<=9223372036854775807:=by have:(⟨#[35,110,111,116,101,45]⟩:ByteArray).size=6:=rfl;omega
 have q6:6+t.size<=9223372036854775807:=by omega
 have hadd:∀ w:jG9,(Op.stringOp .add (⟨#[35,110,111,116,101,45]⟩:ByteArray) t).run Tryz.prog w=.ok (.string (⟨#[35,110,111,116,101,45]⟩++t)) w:=fun w=>run_string_add_sum w _ _ q5
 revert q5 q6 hadd;exact qQ.elim fun x=>x):P:=h ⟨q⟩
theorem Xm:zw 12:=by
 intro t d ti at_ ar ci ks vc vp va vi vk w hR hs hl
 have E:Hid ((aj.mk 12 t d ti at_ ar ci ks).nd=aJ nA [⟨kC,gH++t⟩,⟨dx,M9⟩] (bI t)):=by show _=_;rw [aj.nd];rfl
 rw [E.out];obtain ⟨ac,nc,cc,ap,np,cp,aa,na,ca,ai,ni,mM,ak,nk,ck,S,W0,rfl,rfl,rfl,rfl,rfl,HS,HW0,e0,SX,dR,HR,Z0,B0,K1⟩:=dH (.int .i64 12) t d ti hR hl;refine mP ?_;intro cO hst;clear hR hs hl E;go_enter Tryz.func130,Tryz.ntmps130;go_upto_region 24 with (fail)
 refine bK ?_;obtain ⟨PC,iZ⟩:=Xk ⟨#[104,114,101,102]⟩ (⟨#[35,110,111,116,101,45]⟩++t) ⟨#[99,108,97,115,115]⟩ ⟨#[110,111,116,101,114,101,102]⟩ W0;have SF:=Lib.hid (fun (w':jG9) (hb:jGj W0.heap.size W0 w')=>((SX.out w' hb).1:w'.cell? ⟨S,1,none⟩=some (.string t)));refine vS ?_;intro S0 S1;refine SH ?_;intro Sq;refine jaq ?_;intro q5 q6 hadd;go_wp2_with fail
 go_region_held3 (fun w'=>w'.cell? ⟨S,1,none⟩=some (.string t))
  (with_reducible assumption)
  (first
   | (go_simp;go_at_call 41;(with_reducible refine PC.out.mono ?_);rintro e w2 ⟨aZ,v2,rfl,hrow2⟩;obtain ⟨a2,c2,rfl,-,-⟩:=hrow2.cap (n:=2) rfl;have B2:=Lib.hid (iZ.out.trans (hrow2.aM.mono iZ.out.size));have wR:=Lib.hid (show Rd (W0.heap.size<=·) w2 (q32 [⟨kC,gH++t⟩,⟨dx,M9⟩]) [.slice a2 2 c2] from hrow2.bZ.weaken (fun b hb=>jD9 iZ.out.size hb));have S2:=SF.out w2 B2.out;have DC:=Lib.hid (Sq.out w2))
   | (go_simp;go_at_call 53;(with_reducible refine DC.out.mono ?_);rintro e w4 ⟨bD,v4,rfl,hrow4⟩;obtain ⟨a4,n4,c4,rfl⟩:=hrow4.slice3;have b4:=hrow4.aM;have B4:=Lib.hid (q01 B2.out b4);have bV:=Lib.hid (show Rd (W0.heap.size<=·) w4 (gD (bI t)) [.slice a4 n4 c4] from hrow4.bZ.weaken (fun b hb=>jD9 (B2.out).size hb));have jV:=Lib.hid (wR.out.bC b4);have S4:=SF.out w4 B4.out;have EC:=Lib.hid (l7 ⟨#[97]⟩ a2 a4 2 n4 c2 c4 w4))
   | (go_simp;go_at_call 40;(with_reducible refine EC.out.mono ?_);rintro e w5 ⟨rfl,b5⟩;have BL:=Lib.hid (q01 B4.out b5);obtain ⟨x0,x1,x2,x3,xf⟩:=qC (K1.out.below BL.out);have S5:=SF.out w5 BL.out;have K6:=jH S w5 (.string ⟨#[97]⟩) (.string ⟨#[]⟩) (.slice a2 2 c2) (.slice a4 n4 c4);have S6:=K6 _ _ (SF.out w5 BL.out);clear K6))
 all_goals
  have HN:=Lib.hid (show gZ (W0.heap.size<=·) w5 [⟨kC,gH++t⟩,⟨dx,M9⟩] (bI t) (.slice a2 2 c2) (.slice a4 n4 c4) from ⟨jV.out.bC b5,bV.out.bC b5⟩);clear b5 bV EC jV hrow2 hrow4 b4 S0 S1 S2 S4 S5 S6 wR;obtain ⟨w9,dn⟩:∃ w9,w9=kX w5 (S+1) (.string ⟨#[97]⟩) (.string ⟨#[]⟩) (.slice a2 2 c2) (.slice a4 n4 c4):=⟨_,rfl⟩;have hf:=vL ⟨#[97]⟩ ⟨#[]⟩ [⟨kC,gH++t⟩,⟨dx,M9⟩] (bI t) HS.out Z0.out B0.out K1.out BL.out HN.out;rw [<- dn] at hf;have HC:=Lib.hid hf.1;have HP:=Lib.hid hf.2;clear hf;refine lH ?_;clear dn;intro hw8 x0 x1 x2 x3 xf;go_wp2;refine lI ?_;intro r0 r1 r2 r3;exact bodyPost_ret (v:=.agg #[.string ⟨#[97]⟩,.string ⟨#[]⟩,(.slice a2 2 c2),(.slice a4 n4 c4)]) (by simp [results,Tryz.results130,go_sem,r0,r1,r2,r3]) rfl HP.out
theorem Xn:zw 16:=by
 intro t d ti at_ ar ci ks vc vp va vi vk w hR hs hl
 have E:Hid ((aj.mk 16 t d ti at_ ar ci ks).nd=aJ nA [⟨kC,d⟩] (bI d)):=by show _=_;rw [aj.nd];rfl
 rw [E.out];obtain ⟨ac,nc,cc,ap,np,cp,aa,na,ca,ai,ni,mM,ak,nk,ck,S,W0,rfl,rfl,rfl,rfl,rfl,HS,HW0,e0,SX,dR,HR,Z0,B0,K1⟩:=dH (.int .i64 16) t d ti hR hl;refine mP ?_;intro cO hst;clear hR hs hl E;go_enter Tryz.func130,Tryz.ntmps130;go_upto_region 26 with (fail)
 refine bK ?_;obtain ⟨PC,iZ⟩:=EI ⟨#[104,114,101,102]⟩ d W0;have SF:=Lib.hid (fun (w':jG9) (hb:jGj W0.heap.size W0 w')=>((SX.out w' hb).2.1:w'.cell? ⟨S,2,none⟩=some (.string d)));refine vS ?_;intro S0 S1;have Sq:Hid (∀ W:jG9,Calls Tryz.prog 53 #[.string d] W (aO W (bI d))):=fun W=>jD d W
 go_wp2_with fail
 go_region_held3 (fun w'=>w'.cell? ⟨S,2,none⟩=some (.string d))
  (with_reducible assumption)
  (first
   | (go_simp;go_at_call 41;(with_reducible refine PC.out.mono ?_);rintro e w2 ⟨aZ,v2,rfl,hrow2⟩;obtain ⟨a2,c2,rfl,-,-⟩:=hrow2.cap (n:=1) rfl;have B2:=Lib.hid (iZ.out.trans (hrow2.aM.mono iZ.out.size));have wR:=Lib.hid (show Rd (W0.heap.size<=·) w2 (q32 [⟨kC,d⟩]) [.slice a2 1 c2] from hrow2.bZ.weaken (fun b hb=>jD9 iZ.out.size hb));have S2:=SF.out w2 B2.out;have DC:=Lib.hid (Sq.out w2))
   | (go_simp;go_at_call 53;(with_reducible refine DC.out.mono ?_);rintro e w4 ⟨bD,v4,rfl,hrow4⟩;obtain ⟨a4,n4,c4,rfl⟩:=hrow4.slice3;have b4:=hrow4.aM;have B4:=Lib.hid (q01 B2.out b4);have bV:=Lib.hid (show Rd (W0.heap.size<=·) w4 (gD (bI d)) [.slice a4 n4 c4] from hrow4.bZ.weaken (fun b hb=>jD9 (B2.out).size hb));have jV:=Lib.hid (wR.out.bC b4);have S4:=SF.out w4 B4.out;have EC:=Lib.hid (l7 ⟨#[97]⟩ a2 a4 1 n4 c2 c4 w4))
   | (go_simp;go_at_call 40;(with_reducible refine EC.out.mono ?_);rintro e w5 ⟨rfl,b5⟩;have BL:=Lib.hid (q01 B4.out b5);obtain ⟨x0,x1,x2,x3,xf⟩:=qC (K1.out.below BL.out);have S5:=SF.out w5 BL.out;have K6:=jH S w5 (.string ⟨#[97]⟩) (.string ⟨#[]⟩) (.slice a2 1 c2) (.slice a4 n4 c4);have S6:=K6 _ _ (SF.out w5 BL.out);clear K6))
 all_goals
  have HN:=Lib.hid (show gZ (W0.heap.size<=·) w5 [⟨kC,d⟩] (bI d) (.slice a2 1 c2) (.slice a4 n4 c4) from ⟨jV.out.bC b5,bV.out.bC b5⟩);clear b5 bV EC jV hrow2 hrow4 b4 S0 S1 S2 S4 S5 S6 wR;obtain ⟨w9,dn⟩:∃ w9,w9=kX w5 (S+1) (.string ⟨#[97]⟩) (.string ⟨#[]⟩) (.slice a2 1 c2) (.slice a4 n4 c4):=⟨_,rfl⟩;have hf:=vL ⟨#[97]⟩ ⟨#[]⟩ [⟨kC,d⟩] (bI d) HS.out Z0.out B0.out K1.out BL.out HN.out;rw [<- dn] at hf;have HC:=Lib.hid hf.1;have HP:=Lib.hid hf.2;clear hf;refine lH ?_;clear dn;intro hw8 x0 x1 x2 x3 xf;go_wp2;refine lI ?_;intro r0 r1 r2 r3;exact bodyPost_ret (v:=.agg #[.string ⟨#[97]⟩,.string ⟨#[]⟩,(.slice a2 1 c2),(.slice a4 n4 c4)]) (by simp [results,Tryz.results130,go_sem,r0,r1,r2,r3]) rfl HP.out
theorem jb1{P Q:Prop}(q:Q)(h:Nonempty Q->P:=by
 intro qQ;have SF:=Lib.hid (fun (w':jG9) (hb:jGj W0.heap.size W0 w')=>(⟨(SX.out w' hb).2.1,(SX.out w' hb).2.2.1,(SX.out w' hb).2.2.2.2.2.2⟩:w'.cell? ⟨S,2,none⟩=some (.string d)/\w'.cell? ⟨S,3,none⟩=some (.string ti)/\w'.cell? ⟨S,9,none⟩=some (.slice ak nk ck)));revert SF;exact qQ.elim fun x=>x):P:=h ⟨q⟩
theorem jm9:zw 9:=by
 intro t d ti at_ ar ci ks vc vp va vi vk w hR hs hl
 have E:Hid ((aj.mk 9 t d ti at_ ar ci ks).nd=aJ nA (⟨kC,d⟩::bU lS ti) (dQ ks)):=by show _=_;rw [aj.nd];rfl
 rw [E.out];obtain ⟨ac,nc,cc,ap,np,cp,aa,na,ca,ai,ni,mM,ak,nk,ck,S,W0,rfl,rfl,rfl,rfl,rfl,HS,HW0,e0,SX,dR,HR,Z0,B0,K1⟩:=dH (.int .i64 9) t d ti hR hl;refine mP ?_;intro cO hst;clear hR hs hl E;go_enter Tryz.func130,Tryz.ntmps130;go_upto_region 17 with (fail)
 refine bK ?_;obtain ⟨PC,iZ⟩:=EI ⟨#[104,114,101,102]⟩ d W0;refine jb1 ?_;intro SF;refine vS ?_;intro S0 S1;go_wp2_with fail
 go_region_held3 (fun w'=>w'.cell? ⟨S,2,none⟩=some (.string d)/\w'.cell? ⟨S,3,none⟩=some (.string ti)/\w'.cell? ⟨S,9,none⟩=some (.slice ak nk ck))
  (with_reducible assumption)
  (first
   | (go_simp;go_at_call 41;(with_reducible refine PC.out.mono ?_);rintro e w2 ⟨aZ,v2,rfl,hrow2⟩;obtain ⟨a2,c2,rfl,-,-⟩:=hrow2.cap (n:=1) rfl;have B2:=Lib.hid (iZ.out.trans (hrow2.aM.mono iZ.out.size));have wR:=Lib.hid (show Rd (W0.heap.size<=·) w2 (q32 [⟨kC,d⟩]) [.slice a2 1 c2] from hrow2.bZ.weaken (fun b hb=>jD9 iZ.out.size hb));have S2:=SF.out w2 B2.out;have TC:=Lib.hid (zm [⟨kC,d⟩] ti _ aZ _ _ w2 hrow2 (by simp)))
   | (go_simp;go_at_call 163;(with_reducible refine TC.out.mono ?_);rintro e w3 ⟨dD,v3,rfl,hrow3,hg3⟩;obtain ⟨a3,n3,c3,rfl⟩:=hrow3.slice3;have B3:=Lib.hid (iZ.out.trans (hrow3.aM.mono iZ.out.size));have xg:=Lib.hid (show Rd (W0.heap.size<=·) w3 (q32 ([⟨kC,d⟩]++bU lS ti)) [.slice a3 n3 c3] from hrow3.bZ.weaken (fun b hb=>jD9 iZ.out.size hb));have S3:=SF.out w3 B3.out;have LC:=Lib.hid (dR.out w3 B3.out))
   | (go_simp;go_at_call 78;(with_reducible refine LC.out.mono ?_);rintro e w4 ⟨bD,v4,rfl,hrow4⟩;obtain ⟨a4,n4,c4,rfl⟩:=hrow4.slice3;have b4:=hrow4.aM;have B4:=Lib.hid (q01 B3.out b4);have bV:=Lib.hid (show Rd (W0.heap.size<=·) w4 (gD (dQ ks)) [.slice a4 n4 c4] from hrow4.bZ.weaken (fun b hb=>jD9 B3.out.size hb));have jV:=Lib.hid (xg.out.bC b4);have S4:=SF.out w4 B4.out;have EC:=Lib.hid (l7 ⟨#[97]⟩ a3 a4 n3 n4 c3 c4 w4))
   | (go_simp;go_at_call 40;(with_reducible refine EC.out.mono ?_);rintro e w5 ⟨rfl,b5⟩;have BL:=Lib.hid (q01 B4.out b5);obtain ⟨x0,x1,x2,x3,xf⟩:=qC (K1.out.below BL.out);have S5:=SF.out w5 BL.out;have K6:=jH S w5 (.string ⟨#[97]⟩) (.string ⟨#[]⟩) (.slice a3 n3 c3) (.slice a4 n4 c4);have S6:=And.imp (K6 _ _) (And.imp (K6 _ _) (K6 _ _)) (SF.out w5 BL.out);clear K6))
 all_goals
  have HN:=Lib.hid (show gZ (W0.heap.size<=·) w5 ([⟨kC,d⟩]++bU lS ti) (dQ ks) (.slice a3 n3 c3) (.slice a4 n4 c4) from ⟨jV.out.bC b5,bV.out.bC b5⟩);clear b5 bV EC jV hrow2 hrow3 hrow4 hg3 b4 S0 S1 S2 S3 S4 S5 S6 wR xg;obtain ⟨w9,dn⟩:∃ w9,w9=kX w5 (S+1) (.string ⟨#[97]⟩) (.string ⟨#[]⟩) (.slice a3 n3 c3) (.slice a4 n4 c4):=⟨_,rfl⟩;have hf:=vL ⟨#[97]⟩ ⟨#[]⟩ ([⟨kC,d⟩]++bU lS ti) (dQ ks) HS.out Z0.out B0.out K1.out BL.out HN.out;rw [<- dn] at hf;have HC:=Lib.hid hf.1;have HP:=Lib.hid hf.2;clear hf;refine lH ?_;clear dn;intro hw8 x0 x1 x2 x3 xf;go_wp2;refine lI ?_;intro r0 r1 r2 r3;exact bodyPost_ret (v:=.agg #[.string ⟨#[97]⟩,.string ⟨#[]⟩,(.slice a3 n3 c3),(.slice a4 n4 c4)]) (by simp [results,Tryz.results130,go_sem,r0,r1,r2,r3]) rfl HP.out
theorem jaz{P Q:Prop}(q:Q)(h:Nonempty Q->P:=by
 intro qQ;obtain ⟨w9,dn⟩:∃ w9,w9=kX w5 (S+1) (.string ⟨#[115,112,97,110]⟩) (.string ⟨#[]⟩) (.slice a3 n3 c3) (.slice a4 n4 c4):=⟨_,rfl⟩;have hf:=vL ⟨#[115,112,97,110]⟩ ⟨#[]⟩ (eT at_ []) (dQ ks) HS.out Z0.out B0.out K1.out BL.out HN.out;rw [<- dn] at hf;revert w9 dn hf;exact qQ.elim fun x=>x):P:=h ⟨q⟩
theorem Xo:zw 11:=by
 intro t d ti at_ ar ci ks vc vp va vi vk w hR hs hl
 have E:Hid ((aj.mk 11 t d ti at_ ar ci ks).nd=aJ C9 (eT at_ []) (dQ ks)):=by show _=_;rw [aj.nd];rfl
 rw [E.out];obtain ⟨ac,nc,cc,ap,np,cp,aa,na,ca,ai,ni,mM,ak,nk,ck,S,W0,rfl,rfl,rfl,rfl,rfl,HS,HW0,e0,SX,dR,HR,Z0,B0,K1⟩:=dH (.int .i64 11) t d ti hR hl;refine mP ?_;intro cO hst;clear hR hs hl E;go_enter Tryz.func130,Tryz.ntmps130;go_upto_region 22 with (fail)
 refine bK ?_;have AC:=Lib.hid (q2s at_ [] (.slice ac nc cc) (.slice ap np cp) (.slice none 0 0) W0.drew W0.drew qF.nil (Sr (by have:=Z0.out;omega) HR.out.at_) (uL cO.out).1 (uL cO.out).2);have SF:=Lib.hid (fun (w':jG9) (hb:jGj W0.heap.size W0 w')=>(⟨(SX.out w' hb).2.2.2.1,(SX.out w' hb).2.2.2.2.1,(SX.out w' hb).2.2.2.2.2.1,(SX.out w' hb).2.2.2.2.2.2⟩:w'.cell? ⟨S,4,none⟩=some (.string at_.id)/\w'.cell? ⟨S,5,none⟩=some (.slice ac nc cc)/\w'.cell? ⟨S,6,none⟩=some (.slice ap np cp)/\w'.cell? ⟨S,9,none⟩=some (.slice ak nk ck)));have S0:=SF.out _ (jD7 _ _).drew;go_wp2_with fail
 go_region_held3 (fun w'=>w'.cell? ⟨S,4,none⟩=some (.string at_.id)/\w'.cell? ⟨S,5,none⟩=some (.slice ac nc cc)/\w'.cell? ⟨S,6,none⟩=some (.slice ap np cp)/\w'.cell? ⟨S,9,none⟩=some (.slice ak nk ck))
  (with_reducible assumption)
  (first
   | (go_simp;go_at_call 137;(with_reducible refine AC.out.mono ?_);rintro e w3 ⟨dD,v3,rfl,hrow3⟩;obtain ⟨a3,n3,c3,rfl⟩:=hrow3.slice3;have B3:Hid (jGj W0.heap.size W0 w3):=((jD7 W0.heap.size W0).drew).trans hrow3.aM;have xg:Hid (Rd (W0.heap.size<=·) w3 (q32 (eT at_ [])) [.slice a3 n3 c3]):=hrow3.bZ;have S3:=SF.out w3 B3.out;have LC:=Lib.hid (dR.out w3 B3.out))
   | (go_simp;go_at_call 78;(with_reducible refine LC.out.mono ?_);rintro e w4 ⟨bD,v4,rfl,hrow4⟩;obtain ⟨a4,n4,c4,rfl⟩:=hrow4.slice3;have b4:=hrow4.aM;have B4:=Lib.hid (q01 B3.out b4);have bV:=Lib.hid (show Rd (W0.heap.size<=·) w4 (gD (dQ ks)) [.slice a4 n4 c4] from hrow4.bZ.weaken (fun b hb=>jD9 B3.out.size hb));have jV:=Lib.hid (xg.out.bC b4);have S4:=SF.out w4 B4.out;have EC:=Lib.hid (l7 ⟨#[115,112,97,110]⟩ a3 a4 n3 n4 c3 c4 w4))
   | (go_simp;go_at_call 40;(with_reducible refine EC.out.mono ?_);rintro e w5 ⟨rfl,b5⟩;have BL:=Lib.hid (q01 B4.out b5);obtain ⟨x0,x1,x2,x3,xf⟩:=qC (K1.out.below BL.out);have S5:=SF.out w5 BL.out;have K6:=jH S w5 (.string ⟨#[115,112,97,110]⟩) (.string ⟨#[]⟩) (.slice a3 n3 c3) (.slice a4 n4 c4);have S6:=And.imp (K6 _ _) (And.imp (K6 _ _) (And.imp (K6 _ _) (K6 _ _))) (SF.out w5 BL.out);clear K6))
 all_goals
  have HN:=Lib.hid (show gZ (W0.heap.size<=·) w5 (eT at_ []) (dQ ks) (.slice a3 n3 c3) (.slice a4 n4 c4) from ⟨jV.out.bC b5,bV.out.bC b5⟩);clear b5 bV EC jV hrow3 hrow4 b4 S0 S3 S4 S5 S6 xg;refine jaz ?_;intro w9 dn hf;have HC:=Lib.hid hf.1;have HP:=Lib.hid hf.2;clear hf;refine lH ?_;clear dn;intro hw8 x0 x1 x2 x3 xf;go_wp2;refine lI ?_;intro r0 r1 r2 r3;exact bodyPost_ret (v:=.agg #[.string ⟨#[115,112,97,110]⟩,.string ⟨#[]⟩,(.slice a3 n3 c3),(.slice a4 n4 c4)]) (by simp [results,Tryz.results130,go_sem,r0,r1,r2,r3]) rfl HP.out
theorem jb0{P Q:Prop}(q:Q)(h:Nonempty Q->P:=by
 intro qQ;have E:Hid ((aj.mk 10 t d ti at_ ar ci ks).nd=aJ jrz ([⟨qX,d⟩,⟨qY,fI ks⟩]++bU lS ti++eT at_ []) []):=by show _=_;rw [aj.nd];rfl
 rw [E.out];revert E;exact qQ.elim fun x=>x):P:=h ⟨q⟩
theorem Xp (t d ti:ByteArray) (at_:At) (ar:List ByteArray) (ci:List Ci) (ks:List aj) (vc vp va vi vk:jGk) (w:jG9) (hR:qV (·<w.heap.size) w at_ ar ci ks vc vp va vi vk) (hs:(aj.mk (10:Int) t d ti at_ ar ci ks).small) (hl:GA w ks vk) (hz:aj.aY ks<=1000000) : Calls Tryz.prog 130 #[.agg #[.int .i64 10,.string t,.string d,.string ti,.string at_.id,vc,vp,va,vi,vk]] w (qc w (aj.mk (10:Int) t d ti at_ ar ci ks).nd):=by
 refine jb0 ?_;intro E;obtain ⟨ac,nc,cc,ap,np,cp,aa,na,ca,ai,ni,mM,ak,nk,ck,S,W0,rfl,rfl,rfl,rfl,rfl,HS,HW0,e0,SX,dR,HR,Z0,B0,K1⟩:=dH (.int .i64 10) t d ti hR hl;refine mP ?_;intro cO hst;clear hR hs hl E;go_enter Tryz.func130,Tryz.ntmps130;go_upto_region 19 with (fail)
 refine bK ?_;have hpl:(aj.aG ks).length<=1000000000:=by have h:=cO.out;rw [aj.small] at h;have:=aj.pI ks h.2.2.2.2.2.2.2.2;omega
 have PL:=Lib.hid (Jm ks (.slice ak nk ck) W0.drew (Rd.keep (w:=W0) (w':=W0.drew) (ok:=(·<S)) (fun b (hb:b<S) _=>⟨by have:=Z0.out;show b<W0.heap.size;omega,rfl⟩) _ _ HR.out.kids) hpl);refine jb1 ?_;intro SF;have S0:=SF.out _ (jD7 _ _).drew;clear hpl;go_wp2_with fail
 go_region_held3 (fun w'=>w'.cell? ⟨S,2,none⟩=some (.string d)/\w'.cell? ⟨S,3,none⟩=some (.string ti)/\w'.cell? ⟨S,9,none⟩=some (.slice ak nk ck))
  (with_reducible assumption)
  (first
   | (go_simp;go_at_call 164;(with_reducible refine PL.out.mono ?_);rintro e w1 ⟨rfl,b1⟩;have B1:Hid (jGj W0.heap.size W0 w1):=((jD7 W0.heap.size W0).drew).trans b1;obtain ⟨PC,iZ⟩:=Xl ⟨#[115,114,99]⟩ d ⟨#[97,108,116]⟩ ⟨(aj.aG ks).toArray⟩ B1 B1.out.size;have S1:=SF.out w1 B1.out;have S1a:=SF.out _ iZ.out)
   | (go_simp;go_at_call 41;(with_reducible refine PC.out.mono ?_);rintro e w2 ⟨aZ,v2,rfl,hrow2⟩;obtain ⟨a2,c2,rfl,-,-⟩:=hrow2.cap (n:=2) rfl;have B2:=Lib.hid (iZ.out.trans (hrow2.aM.mono iZ.out.size));have wR:=Lib.hid (show Rd (W0.heap.size<=·) w2 (q32 [⟨qX,d⟩,⟨qY,fI ks⟩]) [.slice a2 2 c2] from hrow2.bZ.weaken (fun b hb=>jD9 iZ.out.size hb));have BWX:=iZ;have S2:=SF.out w2 B2.out;have TC:=Lib.hid (zm [⟨qX,d⟩,⟨qY,fI ks⟩] ti _ aZ _ _ w2 hrow2 (by simp)))
   | (go_simp;go_at_call 163;(with_reducible refine TC.out.mono ?_);rintro e w3 ⟨dD,v3,rfl,hrow3,hg3⟩;have B3:=Lib.hid (iZ.out.trans (hrow3.aM.mono iZ.out.size));have S3:=SF.out w3 B3.out))
 all_goals
  obtain ⟨m3,Ke⟩:∃ m,m=(List.map Pr.d ([⟨qX,d⟩,⟨qY,fI ks⟩]++bU lS ti)).length:=⟨_,rfl⟩;obtain ⟨a3,c3,rfl,-,-⟩:=hrow3.cap Ke.symm;have jr1:m3<=3:=by rw [Ke];unfold bU;split<;>simp
  have VX:=Lib.hid Ke.symm;have U3:=Lib.hid hrow3;obtain ⟨-,-,-,g4,g5,g6,-⟩:=SX.out w3 B3.out;have AC:=Lib.hid (q2s at_ [] (.slice ac nc cc) (.slice ap np cp) (.slice none 0 0) w3 w3 qF.nil (zo HR.out.at_ B3.out (by have:=Z0.out;omega)) (uL cO.out).1 (uL cO.out).2);clear Ke hrow3 hrow2 hg3 b1 S0 S1 S1a S2 S3 PL PC TC wR iZ B2;go_wp2_with fail
  (with_reducible refine AC.out.mono ?_)
  rintro e w4 ⟨bD,v4,rfl,hrow4⟩;obtain ⟨m4,Oc⟩:∃ m,m=(List.map Pr.d (eT at_ [])).length:=⟨_,rfl⟩;obtain ⟨a4,c4,rfl,-,-⟩:=hrow4.cap Oc.symm;have jxj:m4<=2:=by rw [Oc];unfold eT bU G5;split<;>split<;>simp
  have HM4:=Lib.hid Oc.symm;have b4:=hrow4.aM;have U4:=Lib.hid (U3.out.below b4);have X4:=Lib.hid (show Rd (fun b=>False\/w3.heap.size<=b) w4 (.sl 2 (List.map Pr.d (eT at_ []))) [.slice a4 m4 c4] from hrow4.bZ.weaken (fun b hb=>.inr hb));have B4:=Lib.hid (q01 B3.out b4);have O1:=Lib.hid (fun (rs:List (List jGk)) (ok':Nat->Prop) h=>lG (eT at_ []) rs ok' w4 h);obtain ⟨iP,hiP,qg,qh,qj⟩:=info_parts kN;clear Oc hrow4 b4 g4 g5 g6 AC;go_wp2_with (at_builtin;refine iK (n:=m3) (m:=m4) rfl _ _ 24 rfl iP _ 32 Tryz.underlying24 hiP qg qh qj rfl (by decide) U4.out (fun _=>False.elim) (.slice a4 m4 c4) X4.out O1.out VX.out HM4.out (by omega) (by decide) rfl rfl ?_)
  intro a5 c5 nY w5 aX hg5;have B5:=Lib.hid (BWX.out.trans (aX.aM.mono BWX.out.size));have AT5:Hid (Rd (W0.heap.size<=·) w5 (q32 ([⟨qX,d⟩,⟨qY,fI ks⟩]++bU lS ti++eT at_ [])) [.slice a5 (m3+m4) c5]):=by have h:=aX.bZ.weaken (ok':=(W0.heap.size<=·)) (fun b hb=>jD9 BWX.out.size hb);show Rd _ _ (.sl 2 (List.map Pr.d _)) _;rw [List.map_append];exact h
  have EC:=Lib.hid (l7 ⟨#[105,109,103]⟩ a5 none (m3+m4) 0 c5 0 w5);clear aX hg5 U4 X4 O1 U3;go_wp2_with fail
  (with_reducible refine EC.out.mono ?_)
  rintro e w6 ⟨rfl,b6⟩;have BL:=Lib.hid (q01 B5.out b6);have HN:=Lib.hid (show gZ (W0.heap.size<=·) w6 ([⟨qX,d⟩,⟨qY,fI ks⟩]++bU lS ti++eT at_ []) [] (.slice a5 (m3+m4) c5) (.slice none 0 0) from ⟨AT5.out.bC b6,Rd.aC _ _ _⟩);clear b6 EC AT5;obtain ⟨w9,dn⟩:∃ w9,w9=kX w6 (S+1) (.string ⟨#[105,109,103]⟩) (.string ⟨#[]⟩) (.slice a5 (m3+m4) c5) (.slice none 0 0):=⟨_,rfl⟩;have hf:=vL ⟨#[105,109,103]⟩ ⟨#[]⟩ ([⟨qX,d⟩,⟨qY,fI ks⟩]++bU lS ti++eT at_ []) [] HS.out Z0.out B0.out K1.out BL.out HN.out;rw [<- dn] at hf;have HC:=Lib.hid hf.1;have HP:=Lib.hid hf.2;clear hf;refine lH ?_;clear dn;intro hw8 x0 x1 x2 x3 xf;go_wp2;refine lI ?_;intro r0 r1 r2 r3;exact bodyPost_ret (v:=.agg #[.string ⟨#[105,109,103]⟩,.string ⟨#[]⟩,(.slice a5 (m3+m4) c5),(.slice none 0 0)]) (by simp [results,Tryz.results130,go_sem,r0,r1,r2,r3]) rfl HP.out
theorem Kc (k:Int) (t d ti:ByteArray) (at_:At) (ar:List ByteArray) (ci:List Ci) (ks:List aj) (vc vp va vi vk:jGk) (w:jG9) (hR:qV (·<w.heap.size) w at_ ar ci ks vc vp va vi vk) (hs:(aj.mk k t d ti at_ ar ci ks).small) (hl:GA w ks vk) (hz:aj.aY ks<=1000000) : Calls Tryz.prog 130 #[.agg #[.int .i64 k,.string t,.string d,.string ti,.string at_.id,vc,vp,va,vi,vk]] w (qc w (aj.mk k t d ti at_ ar ci ks).nd):=by
 by_cases h2:k=2
 ·subst h2;exact jm2 t d ti at_ ar ci ks vc vp va vi vk w hR hs hl
 by_cases h3:k=3
 ·subst h3;exact jm3 t d ti at_ ar ci ks vc vp va vi vk w hR hs hl
 by_cases h4:k=4
 ·subst h4;exact jm4 t d ti at_ ar ci ks vc vp va vi vk w hR hs hl
 by_cases h5:k=5
 ·subst h5;exact jm8 t d ti at_ ar ci ks vc vp va vi vk w hR hs hl
 by_cases h6:k=6
 ·subst h6;exact jm5 t d ti at_ ar ci ks vc vp va vi vk w hR hs hl
 by_cases h7:k=7
 ·subst h7;exact jm6 t d ti at_ ar ci ks vc vp va vi vk w hR hs hl
 by_cases h8:k=8
 ·subst h8;exact jm7 t d ti at_ ar ci ks vc vp va vi vk w hR hs hl
 by_cases h9:k=9
 ·subst h9;exact jm9 t d ti at_ ar ci ks vc vp va vi vk w hR hs hl
 by_cases h10:k=10
 ·subst h10;exact Xp t d ti at_ ar ci ks vc vp va vi vk w hR hs hl hz
 by_cases h11:k=11
 ·subst h11;exact Xo t d ti at_ ar ci ks vc vp va vi vk w hR hs hl
 by_cases h12:k=12
 ·subst h12;exact Xm t d ti at_ ar ci ks vc vp va vi vk w hR hs hl
 by_cases h16:k=16
 ·subst h16;exact Xn t d ti at_ ar ci ks vc vp va vi vk w hR hs hl
 exact Sy k t d ti at_ ar ci ks vc vp va vi vk w hR hs hl ⟨h2,h3,h4,h5,h6,h7,h8,h9,h10,h11,h12,h16⟩
open Go.RowKit
def Wt (w:jG9) (e:Ending) (w':jG9):Prop:=e=.returned (.bool true)/\jGj w.heap.size w w'
def js0 (W1:jG9) (n:Nat) (vi:jGk) (wr:jG9):Prop:=∃ k q:Nat,k<=n/\vi=.int .i64 k/\wr=W1.drewN q
def js1 (W1:jG9) (n:Nat) (vi:jGk) (wr:jG9):Prop:=∃ k:Nat,k<=n/\vi=.int .i64 k/\jGj W1.heap.size W1 wr
theorem JO (N:Nat):∀ (x:Nd) (va vk vb vl:jGk) (w:jG9),x.sz<=N->gZ (·<w.heap.size) w x.at_ x.ks va vk->gZ (·<w.heap.size) w x.at_ x.ks vb vl -> Calls Tryz.prog 18 #[.agg #[.string x.nm,.string x.tx,va,vk],.agg #[.string x.nm,.string x.tx,vb,vl]] w (Wt w):=by
 induction N using Nat.strongRecOn with
 | _ N ih=>
  intro x va vk vb vl w hN hA hB;obtain ⟨nm,tx,at_,ks⟩:=x;dsimp only [Nd.nm,Nd.tx,Nd.at_,Nd.ks] at hA hB ⊢;obtain ⟨a1,c1,h1,s1⟩:=Rd.ay hA.at_
  obtain ⟨a2,c2,h2,s2⟩:=Rd.ay hA.ks;obtain ⟨b1,d1,h3,s3⟩:=Rd.ay hB.at_
  obtain ⟨b2,d2,h4,s4⟩:=Rd.ay hB.ks;obtain ⟨n1,hn1⟩:∃ n,n=at_.length:=⟨_,rfl⟩
  obtain ⟨n2,hn2⟩:∃ n,n=ks.length:=⟨_,rfl⟩;obtain rfl:va=.slice a1 n1 c1:=by rw [hn1];simpa using h1
  obtain rfl:vk=.slice a2 n2 c2:=by rw [hn2];simpa using h2
  obtain rfl:vb=.slice b1 n1 d1:=by rw [hn1];simpa using h3
  obtain rfl:vl=.slice b2 n2 d2:=by rw [hn2];simpa using h4
  have l1:=s1.le;have l2:=s2.le;have l3:=s3.le;have l4:=s4.le;rw [List.length_map,<- hn1] at l1 l3;rw [List.length_map,<- hn2] at l2 l4;have m1:=s1.max;have m2:=s2.max;have m3:=s3.max;have m4:=s4.max;unfold maxLen at m1 m2 m3 m4;rw [Nd.sz] at hN;have hks:=Nd.bE ks;obtain ⟨S,hS⟩:∃ S,S=w.heap.size:=⟨_,rfl⟩;obtain ⟨W1,hW1⟩:∃ W,W=(w.alloc (.cells #[.string nm,.string tx,.slice a1 n1 c1,.slice a2 n2 c2] 35)).alloc (.cells #[.string nm,.string tx,.slice b1 n1 d1,.slice b2 n2 d2] 35):=⟨_,rfl⟩;have z1:W1.heap.size=S+2:=by rw [hW1,hS];simp
  have k0:CB 35 S [.string nm,.string tx,.slice a1 n1 c1,.slice a2 n2 c2] W1:=by rw [hW1,hS];exact (Below.heap_alloc _ _ _ (by simp)).trans (CB.new _ _ w)
  have k1:CB 35 (S+1) [.string nm,.string tx,.slice b1 n1 d1,.slice b2 n2 d2] W1:=by have:=CB.new 35 [.string nm,.string tx,.slice b1 n1 d1,.slice b2 n2 d2] (w.alloc (.cells #[.string nm,.string tx,.slice a1 n1 c1,.slice a2 n2 c2] 35));rw [World.size_alloc] at this;rw [hW1,hS];exact this
  have bW:jGj w.heap.size w W1:=by rw [hW1];exact ((jD7 _ _).alloc (jD8 _) _).alloc (by simp) _
  have CL:Hid (∀ w':jG9,jGj W1.heap.size W1 w'->w'.cell? ⟨S,0,none⟩=some (.string nm)/\w'.cell? ⟨S,1,none⟩=some (.string tx)/\w'.cell? ⟨S,2,none⟩=some (.slice a1 n1 c1)/\w'.cell? ⟨S,3,none⟩=some (.slice a2 n2 c2)/\w'.cell? ⟨S+1,0,none⟩=some (.string nm)/\w'.cell? ⟨S+1,1,none⟩=some (.string tx)/\w'.cell? ⟨S+1,2,none⟩=some (.slice b1 n1 d1)/\w'.cell? ⟨S+1,3,none⟩=some (.slice b2 n2 d2)):=
   fun w' hb=>⟨(k0.below hb).cell 0 _ rfl,(k0.below hb).cell 1 _ rfl,(k0.below hb).cell 2 _ rfl,(k0.below hb).cell 3 _ rfl,(k1.below hb).cell 0 _ rfl,(k1.below hb).cell 1 _ rfl,(k1.below hb).cell 2 _ rfl,(k1.below hb).cell 3 _ rfl⟩
  obtain ⟨e0,e1,e2,e3,f0,f1,f2,f3⟩:=CL.out W1 (jD7 _ _);have H1:=Lib.hid s1;have H2:=Lib.hid s2;have H3:=Lib.hid s3;have H4:=Lib.hid s4;have IH:=Lib.hid ih;have Kl:=Lib.hid hks;have BW:=Lib.hid bW;have Z1:=Lib.hid z1;have HS:=Lib.hid hS;have HW1:=Lib.hid hW1;have HN1:=Lib.hid hn1;have Oe:=Lib.hid hn2;have R0:Hid (js0 W1 n1 (.int .i64 0) W1):=⟨0,0,Nat.zero_le _,rfl,rfl⟩;have p1:(nm.toList != nm.toList)=false:=by simp
  have p2:(nm.toList==nm.toList)=true:=by simp
  have p3:(tx.toList != tx.toList)=false:=by simp
  have p4:(tx.toList==tx.toList)=true:=by simp
  have p5:((n1:Int) != (n1:Int))=false:=by simp
  have p6:((n2:Int) != (n2:Int))=false:=by simp
  clear hA hB h1 h2 h3 h4 s1 s2 s3 s4 ih hks z1 k0 k1 bW hS hW1 hn1 hn2;go_enter Tryz.func18,Tryz.ntmps18;go_upto_region 1 with (fail)
  rw [<- HS.out,<- HW1.out];go_wp2
  go_loopw [5] (fun vi wr=>js0 W1 n1 vi wr) (fun i _=>n1-(intOf i).toNat)
  case atStart=>exact R0.out
  case round=>
   clear R0;obtain ⟨k,q,hk,rfl,rfl⟩:=hrel;by_cases hlt:k<n1
   ·obtain ⟨y,hy⟩:∃ y,at_[k]?=some y:=⟨_,List.getElem?_eq_getElem (by have:=HN1.out;omega)⟩
    obtain ⟨g1,o1,rfl,-,hg1,k1,k2⟩:=lU H1.out hy;obtain ⟨g2,o2,rfl,-,hg2,k3,k4⟩:=lU H3.out hy;have r1:W1.cell? ⟨g1,o1+k*2,none⟩=some (.string y.key):=(BW.out.cell (p:=⟨g1,_,none⟩) hg1).trans k1;have r2:W1.cell? ⟨g1,o1+k*2+1,none⟩=some (.string y.val):=(BW.out.cell (p:=⟨g1,_,none⟩) hg1).trans k2;have r3:W1.cell? ⟨g2,o2+k*2,none⟩=some (.string y.key):=(BW.out.cell (p:=⟨g2,_,none⟩) hg2).trans k3;have r4:W1.cell? ⟨g2,o2+k*2+1,none⟩=some (.string y.val):=(BW.out.cell (p:=⟨g2,_,none⟩) hg2).trans k4;clear hy k1 k2 k3 k4;obtain ⟨yk,yv⟩:=y;dsimp only at r1 r2 r3 r4;have hne1:(yk.toList != yk.toList)=false:=by simp
    have hne2:(yv.toList != yv.toList)=false:=by simp
    have jC0:(yk.toList==yk.toList)=true:=by simp
    have jC1:(yv.toList==yv.toList)=true:=by simp
    go_wp2_with fail
    go_quiet (fail)
    go_wp2;go_roundw;case rel=>exact ⟨k+1,_,by omega,by go_num,rfl⟩
    case measure=>simp [intOf];omega
   ·have hkl:k=n1:=by omega
    subst hkl;have R2:Hid (js1 W1 n2 (.int .i64 0) (W1.drewN q)):=⟨0,Nat.zero_le _,rfl,iR (jD7 _ _) q⟩;go_wp2
    go_loopw [6] (fun vi wr=>js1 W1 n2 vi wr) (fun i _=>n2-(intOf i).toNat)
    case atStart=>exact R2.out
    case round=>
     clear R2 e0 e1 e2 e3 f0 f1 f2 f3;obtain ⟨j,hj,rfl,hbel⟩:=hrel;obtain ⟨e0,e1,e2,e3,f0,f1,f2,f3⟩:=CL.out _ hbel;by_cases hlt2:j<n2
     ·obtain ⟨y,hy⟩:∃ y,ks[j]?=some y:=⟨_,List.getElem?_eq_getElem (by have:=Oe.out;omega)⟩;have jxz:=Kl.out j y hy;obtain ⟨yn,yt,ya,yk⟩:=y;obtain ⟨g1,o1,u1,u2,rfl,-,hg1,x0,x1,x2,x3,hR1⟩:=nZ H2.out hy;obtain ⟨g2,o2,u3,u4,rfl,-,hg2,y0,y1,y2,y3,hR2⟩:=nZ H4.out hy;obtain ⟨i1,i2,i3,rfl⟩:=Rd.au hR1.at_
      obtain ⟨i4,i5,i6,rfl⟩:=Rd.au hR1.ks;obtain ⟨j1,j2,j3,rfl⟩:=Rd.au hR2.at_
      obtain ⟨j4,j5,j6,rfl⟩:=Rd.au hR2.ks;have hwW:=BW.out.trans (hbel.mono BW.out.size);have hgc:∀ {b o:Nat} {u:jGk},b<w.heap.size->w.cell? ⟨b,o,none⟩=some u->∀ w',jGj w.heap.size w w'->w'.cell? ⟨b,o,none⟩=some u:=fun hb h w' hw=>(hw.cell (p:=⟨_,_,none⟩) hb).trans h
      have CK:Hid (∀ w':jG9,jGj W1.heap.size W1 w'->w'.cell? ⟨S,3,none⟩=some (.slice (some ⟨g1,o1,none⟩) n2 c2)/\w'.cell? ⟨S+1,3,none⟩=some (.slice (some ⟨g2,o2,none⟩) n2 d2)/\w'.cell? ⟨g1,o1+j*4,none⟩=some (.string yn)/\w'.cell? ⟨g1,o1+j*4+1,none⟩=some (.string yt)/\w'.cell? ⟨g1,o1+j*4+2,none⟩=some (.slice i1 i2 i3)/\w'.cell? ⟨g1,o1+j*4+3,none⟩=some (.slice i4 i5 i6) /\
        w'.cell? ⟨g2,o2+j*4,none⟩=some (.string yn)/\w'.cell? ⟨g2,o2+j*4+1,none⟩=some (.string yt)/\w'.cell? ⟨g2,o2+j*4+2,none⟩=some (.slice j1 j2 j3)/\w'.cell? ⟨g2,o2+j*4+3,none⟩=some (.slice j4 j5 j6)):=fun w' hb=>by
       obtain ⟨-,-,-,q3,-,-,-,q7⟩:=CL.out w' hb;have hb2:=BW.out.trans (hb.mono BW.out.size);exact ⟨q3,q7,hgc hg1 x0 w' hb2,hgc hg1 x1 w' hb2,hgc hg1 x2 w' hb2,hgc hg1 x3 w' hb2,hgc hg2 y0 w' hb2,hgc hg2 y1 w' hb2,hgc hg2 y2 w' hb2,hgc hg2 y3 w' hb2⟩
      have S0:=CK.out _ hbel.drew;have hRx:∀ {va vk:jGk},gZ (·<w.heap.size) w ya yk va vk->gZ (·<wr.drew.heap.size) wr.drew ya yk va vk:=fun h=>h.keep (fun b (hb:b<w.heap.size) _=>⟨Nat.lt_of_lt_of_le hb hwW.size,hwW.block b hb⟩)
      have IC:Hid (Calls Tryz.prog 18 #[.agg #[.string yn,.string yt,.slice i1 i2 i3,.slice i4 i5 i6],.agg #[.string yn,.string yt,.slice j1 j2 j3,.slice j4 j5 j6]] wr.drew (Wt wr.drew)):=IH.out (Nd.mk yn yt ya yk).sz (by omega) (Nd.mk yn yt ya yk) (.slice i1 i2 i3) (.slice i4 i5 i6) (.slice j1 j2 j3) (.slice j4 j5 j6) wr.drew (jD8 _) (hRx hR1) (hRx hR2);have rR:=Lib.hid hbel.drew;have t1:(j:Int)<(n2:Int):=by omega
      have t2:(0:Int)<=(j:Int):=by omega
      clear hRx hR1 hR2 hgc hwW jxz hy x0 x1 x2 x3 y0 y1 y2 y3 e0 e1 e2 e3 f0 f1 f2 f3;obtain ⟨-,-,-,e3,-,-,-,f3⟩:=CL.out _ hbel;go_wp2_with fail
      go_region_held3 (fun w'=>w'.cell? ⟨S,3,none⟩=some (.slice (some ⟨g1,o1,none⟩) n2 c2)/\w'.cell? ⟨S+1,3,none⟩=some (.slice (some ⟨g2,o2,none⟩) n2 d2)/\w'.cell? ⟨g1,o1+j*4,none⟩=some (.string yn)/\w'.cell? ⟨g1,o1+j*4+1,none⟩=some (.string yt)/\w'.cell? ⟨g1,o1+j*4+2,none⟩=some (.slice i1 i2 i3)/\w'.cell? ⟨g1,o1+j*4+3,none⟩=some (.slice i4 i5 i6)/\w'.cell? ⟨g2,o2+j*4,none⟩=some (.string yn)/\w'.cell? ⟨g2,o2+j*4+1,none⟩=some (.string yt)/\w'.cell? ⟨g2,o2+j*4+2,none⟩=some (.slice j1 j2 j3)/\w'.cell? ⟨g2,o2+j*4+3,none⟩=some (.slice j4 j5 j6))
       (with_reducible assumption)
       (first | (go_simp;go_at_call 18;(with_reducible refine IC.out.mono ?_);rintro e w5 ⟨rfl,b5⟩;have B5:=Lib.hid (rR.out.trans (b5.mono rR.out.size));have S5:=CK.out w5 B5.out))
      all_goals
       clear b5 S0 S5 IC;go_wp2;go_roundw;case rel=>exact ⟨j+1,by omega,by go_num,B5.out⟩
       case measure=>simp [intOf];omega
     ·have hjl:j=n2:=by omega
      have HB:=Lib.hid (BW.out.trans (hbel.mono BW.out.size));clear hbel;go_wp2;go_ret;exact ⟨rfl,HB.out⟩
end Go.Proofs.YtkfnkeflalcphaaGreatDoor

