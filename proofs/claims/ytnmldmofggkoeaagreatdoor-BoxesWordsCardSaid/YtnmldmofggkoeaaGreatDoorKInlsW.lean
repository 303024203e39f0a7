/- Contracts of slices.Clone at the three types, and of tree.copyAttr. The contract of tree.copyAttr. tree.Inlines$1: what is collected, and the words for its walk. -/
import Derived.Test.YtnmldmofggkoeaaGreatDoorKRowE
set_option maxHeartbeats 4000000
set_option maxRecDepth 100000
open Go.Lib (hid)
namespace Go.Proofs.YtnmldmofggkoeaaGreatDoor
open Go.RowKit.Below renaming refl->YH,heap_setCell->YQ,heap_alloc->YR
open Nat renaming le_refl->YI,le_trans->YJ
open List renaming length_append->YM,length_map->YN
open Option.some renaming inj->YP
open Go.World renaming size_alloc->YU,setCell->Y6
open Go renaming World->Zu,Value->Zw
open Go.RowKit
set_option linter.unusedVariables false
set_option linter.unusedSimpArgs false
theorem kC {w:Zu} {B k n:Nat} {xs:List Zw} (h:Reads w B k none n xs):n=0:=by
 rcases Nat.eq_zero_or_pos n with h0 | h0
 ·exact h0
 ·obtain ⟨_,e,_⟩:=h.2 h0;cases e
theorem Ey {ok:Nat->Prop} {w:Zu} {l:List ByteArray} {rows:List (List Zw)} (h:aG ok w (l.map D.str) rows):∀ u∈rows.flatten,u.oneCell'=true:=by intro u hu;rw [aG.jK _ _ h,jL] at hu;obtain ⟨s,_,rfl⟩:=List.mem_map.1 hu;rfl
theorem pQ {ok:Nat->Prop} {w:Zu}:∀ {l:List D} {rows:List (List Zw)},aG ok w l rows->(∀ d∈l,∀ r,Rd ok w d r->∀ u∈r,u.oneCell'=true)->∀ u∈rows.flatten,u.oneCell'=true
 | [],_,h,_=>by rw [h.bC];simp
 | d::ds,_,h,hk=>by
  obtain ⟨r,rs,rfl,h1,h2⟩:=h.aA;intro u hu;rw [List.flatten_cons] at hu;rcases List.mem_append.1 hu with hu | hu
  ·exact hk d (by simp) r h1 u hu
  ·exact pQ h2 (fun d' hd'=>hk d' (by simp [hd'])) u hu
theorem GU {ok:Nat->Prop} {w:Zu} {l:List Pr} {rows:List (List Zw)} (h:aG ok w (l.map Pr.d) rows):∀ u∈rows.flatten,u.oneCell'=true:=
 pQ h fun d hd r hr u hu=>by
  obtain ⟨p,_,rfl⟩:=List.mem_map.1 hd;rw [Pr.open_ hr] at hu;simp at hu;rcases hu with rfl | rfl<;>rfl
theorem GV {ok:Nat->Prop} {w:Zu} {l:List Ci} {rows:List (List Zw)} (h:aG ok w (l.map Ci.d) rows):∀ u∈rows.flatten,u.oneCell'=true:=
 pQ h fun d hd r hr u hu=>by
  obtain ⟨p,_,rfl⟩:=List.mem_map.1 hd;rw [Ci.open_ hr] at hu;simp at hu;rcases hu with rfl | rfl | rfl | rfl<;>rfl
def yN (w:Zu) (d:D) (e:Ending) (w':Zu):Prop:=∃ v,e=.returned v/\Rd (w.heap.size<=·) w' d [v]/\Below w.heap.size w w'
theorem kD (w:Zu) (e:TypeId) (k:Nat):(w.alloc (.cells #[] e)).ownsRow w.heap.size e k (.slice (some ⟨w.heap.size,0,none⟩) 0 0) 0 []:=
 ⟨by simp,.inr ⟨w.heap.size,0,#[],rfl,YI _,heap_alloc_new w _,YI _,Nat.zero_le _,by simp,by simp⟩⟩
theorem pJ (l:List ByteArray) (B:Nat) (v:Zw) (w:Zu) (h:Rd (·<B) w (dU l) [v]) (hB:B<=w.heap.size) (hl:l.length<=1000000) : Calls Tryz.prog 41 #[v] w (yN w (dU l)):=by
 obtain ⟨i0,hi,hz0,hz1,hz2⟩:=info_parts qP;obtain ⟨A,cap,rows,rfl,h1,h2,h3,h4,h5⟩:=Rd.reads h;rw [YN] at h1 h5;have e:(l.map D.str).length=l.length:=YN _;rw [e];unfold maxLen at h2;have H3:=hid h3;have H4:=hid h4;have H5:=hid (h5.more hB);have H1:=hid (Ey h3);clear h h3 h4 h5 e;cases A with
 | none=>
  have h0:l=[]:=List.length_eq_zero_iff.1 (kC H5.out);subst h0;have hq:=fun (w:Zu) (a:Option Addr) (n c:Nat)=>Lib.run_eql_slice_nil (P:=Tryz.prog) w _ _ a n c 0 0 Tryz.underlying35
  go_enter Tryz.func41,Tryz.ntmps41;go_wp2;go_ret;exact ⟨_,rfl,Rd.aJ _ _ _,YH _ _⟩
 | some ad=>
  have hq:=fun (w:Zu) (a:Option Addr) (n c:Nat)=>Lib.run_eql_slice_nil (P:=Tryz.prog) w _ _ a n c 0 0 Tryz.underlying35
  go_enter Tryz.func41,Tryz.ntmps41;go_wp2_with (at_builtin;refine LM _ rfl (.tmp 5) (.tmp 6) 35 rfl w.heap.size 9 i0 _ 1 16 Tryz.underlying35 hi hz0 hz1 hz2 rfl (by decide) (.slice (some ⟨w.heap.size,0,none⟩) 0 0) 0 [] rfl (kD w _ _) w.heap.size (some ad) l.length cap rows.flatten rfl (H5.out.below ((YH _ w).alloc (YI _) _)) H1.out ?a1 ?a2 ?a3 ?_)
  case a1=>unfold maxLen;omega
  case a2=>omega
  case a3=>simp
  intro v' w1 hown hg _
  (try simp only [Nat.zero_add,List.nil_append] at hown)
  have b1:Below w.heap.size w w1:=((YH _ w).alloc (YI _) _).grown hg (by simp) (fun j hj=>by have e:w.heap.size=j:=YP hj;omega);have HO:=hid hown;clear hown hg;go_wp2;go_ret;refine ⟨_,rfl,Rd.pR (rows:=rows) (B:=w.heap.size) (e:=9) ?_ (aG.Ez H3.out) H4.out (fun g hg=>(HO.out.lt g hg).1),b1⟩;rw [YN];exact HO.out
theorem yM (l:List Ci) (B:Nat) (v:Zw) (w:Zu) (h:Rd (·<B) w (Gy l) [v]) (hB:B<=w.heap.size) (hl:l.length<=1000000) : Calls Tryz.prog 42 #[v] w (yN w (Gy l)):=by
 obtain ⟨i0,hi,hz0,hz1,hz2⟩:=info_parts Lc;obtain ⟨A,cap,rows,rfl,h1,h2,h3,h4,h5⟩:=Rd.reads h;rw [YN] at h1 h5;have e:(l.map Ci.d).length=l.length:=YN _;rw [e];unfold maxLen at h2;have H3:=hid h3;have H4:=hid h4;have H5:=hid (h5.more hB);have H1:=hid (GV h3);clear h h3 h4 h5 e;cases A with
 | none=>
  have h0:l=[]:=List.length_eq_zero_iff.1 (kC H5.out);subst h0;have hq:=fun (w:Zu) (a:Option Addr) (n c:Nat)=>Lib.run_eql_slice_nil (P:=Tryz.prog) w _ _ a n c 0 0 Tryz.underlying50
  go_enter Tryz.func42,Tryz.ntmps42;go_wp2;go_ret;exact ⟨_,rfl,Rd.aJ _ _ _,YH _ _⟩
 | some ad=>
  have hq:=fun (w:Zu) (a:Option Addr) (n c:Nat)=>Lib.run_eql_slice_nil (P:=Tryz.prog) w _ _ a n c 0 0 Tryz.underlying50
  go_enter Tryz.func42,Tryz.ntmps42;go_wp2_with (at_builtin;refine LM _ rfl (.tmp 5) (.tmp 6) 50 rfl w.heap.size 86 i0 _ 4 56 Tryz.underlying50 hi hz0 hz1 hz2 rfl (by decide) (.slice (some ⟨w.heap.size,0,none⟩) 0 0) 0 [] rfl (kD w _ _) w.heap.size (some ad) l.length cap rows.flatten rfl (H5.out.below ((YH _ w).alloc (YI _) _)) H1.out ?a1 ?a2 ?a3 ?_)
  case a1=>unfold maxLen;omega
  case a2=>omega
  case a3=>simp
  intro v' w1 hown hg _
  (try simp only [Nat.zero_add,List.nil_append] at hown)
  have b1:Below w.heap.size w w1:=((YH _ w).alloc (YI _) _).grown hg (by simp) (fun j hj=>by have e:w.heap.size=j:=YP hj;omega);have HO:=hid hown;clear hown hg;go_wp2;go_ret;refine ⟨_,rfl,Rd.pR (rows:=rows) (B:=w.heap.size) (e:=86) ?_ (aG.zR H3.out) H4.out (fun g hg=>(HO.out.lt g hg).1),b1⟩;rw [YN];exact HO.out
theorem yO (l:List Pr) (B:Nat) (v:Zw) (w:Zu) (h:Rd (·<B) w (Eo l) [v]) (hB:B<=w.heap.size) (hl:l.length<=1000000) : Calls Tryz.prog 53 #[v] w (yN w (Eo l)):=by
 obtain ⟨i0,hi,hz0,hz1,hz2⟩:=info_parts Ld;obtain ⟨A,cap,rows,rfl,h1,h2,h3,h4,h5⟩:=Rd.reads h;rw [YN] at h1 h5;have e:(l.map Pr.d).length=l.length:=YN _;rw [e];unfold maxLen at h2;have H3:=hid h3;have H4:=hid h4;have H5:=hid (h5.more hB);have H1:=hid (GU h3);clear h h3 h4 h5 e;cases A with
 | none=>
  have h0:l=[]:=List.length_eq_zero_iff.1 (kC H5.out);subst h0;have hq:=fun (w:Zu) (a:Option Addr) (n c:Nat)=>Lib.run_eql_slice_nil (P:=Tryz.prog) w _ _ a n c 0 0 Tryz.underlying27
  go_enter Tryz.func53,Tryz.ntmps53;go_wp2;go_ret;exact ⟨_,rfl,Rd.aJ _ _ _,YH _ _⟩
 | some ad=>
  have hq:=fun (w:Zu) (a:Option Addr) (n c:Nat)=>Lib.run_eql_slice_nil (P:=Tryz.prog) w _ _ a n c 0 0 Tryz.underlying27
  go_enter Tryz.func53,Tryz.ntmps53;go_wp2_with (at_builtin;refine LM _ rfl (.tmp 5) (.tmp 6) 27 rfl w.heap.size 57 i0 _ 2 32 Tryz.underlying27 hi hz0 hz1 hz2 rfl (by decide) (.slice (some ⟨w.heap.size,0,none⟩) 0 0) 0 [] rfl (kD w _ _) w.heap.size (some ad) l.length cap rows.flatten rfl (H5.out.below ((YH _ w).alloc (YI _) _)) H1.out ?a1 ?a2 ?a3 ?_)
  case a1=>unfold maxLen;omega
  case a2=>omega
  case a3=>simp
  intro v' w1 hown hg _
  (try simp only [Nat.zero_add,List.nil_append] at hown)
  have b1:Below w.heap.size w w1:=((YH _ w).alloc (YI _) _).grown hg (by simp) (fun j hj=>by have e:w.heap.size=j:=YP hj;omega);have HO:=hid hown;clear hown hg;go_wp2;go_ret;refine ⟨_,rfl,Rd.pR (rows:=rows) (B:=w.heap.size) (e:=57) ?_ (aG.zS H3.out) H4.out (fun g hg=>(HO.out.lt g hg).1),b1⟩;rw [YN];exact HO.out
open Go.RowKit
def AB (p:Nat) (cs:List Zw) (w:Zu):Prop:=w.heap[p]?=some (.cells cs.toArray 44 (0,0))
section
variable {p:Nat} {cs:List Zw} {w w':Zu}
theorem AB.cell (h:AB p cs w) (j:Nat) (u:Zw) (hu:cs[j]?=some u):w.cell? ⟨p,j,none⟩=some u:=by unfold AB at h;simp [World.cell?,h,hu]
theorem AB.free (h:AB p cs w) (j:Nat):w.frozen? ⟨p,j,none⟩=false:=by unfold AB at h;simp [World.frozen?,h]
theorem AB.set (h:AB p cs w) (j:Nat) (u:Zw):AB p (cs.set j u) (w.setCell ⟨p,j,none⟩ u):=by unfold AB at h ⊢;simp [Y6,Array.getElem?_modify,h]
theorem AB.far (h:AB p cs w) {q:Nat} (hq:p≠q) (j:Nat) (u:Zw):AB p cs (w.setCell ⟨q,j,none⟩ u):=(YQ w ⟨q,j,none⟩ u p hq).trans h
theorem AB.lt (h:AB p cs w):p<w.heap.size:=by unfold AB at h;exact (Array.getElem?_eq_some_iff.1 h).1
theorem AB.grown (h:AB p cs w) (hg:w.grownBy w' none):AB p cs w':=(hg.block p h.lt (by simp)).trans h
end
theorem qJ (at_:At) (vc vp:Zw) (B:Nat) (w:Zu) (h:AtR (·<B) w at_ vc vp) (hB:B<=w.heap.size) (hc:at_.cls.length<=1000000) (hp:at_.aT.length<=1000000) : Calls Tryz.prog 40 #[.agg #[.string at_.id,vc,vp]] w fun e w'=>∃ UO eB,e=.returned (.agg #[.string at_.id,UO,eB])/\AtR (w.heap.size<=·) w' at_ UO eB/\Below w.heap.size w w':=by
 obtain ⟨ac,nc,cc,rfl⟩:=Rd.au h.cls;obtain ⟨ap,np,cp,rfl⟩:=Rd.au h.aT;have HA:=hid h;clear h;go_enter Tryz.func40,Tryz.ntmps40;go_upto_region 1 with (fail)
 obtain ⟨w0,hw0⟩:∃ w0,w0=(w.alloc (.cells #[.string at_.id,.slice ac nc cc,.slice ap np cp] 44)).alloc (.cells #[.string ⟨#[]⟩,.slice none 0 0,.slice none 0 0] 44):=⟨_,rfl⟩;have P0:AB w.heap.size [.string at_.id,.slice ac nc cc,.slice ap np cp] w0:=by rw [hw0];exact (YR _ _ _ (by simp)).trans (heap_alloc_new w _)
 have Q0:AB (w.heap.size+1) [.string ⟨#[]⟩,.slice none 0 0,.slice none 0 0] w0:=by rw [hw0];have:=heap_alloc_new (w.alloc (.cells #[.string at_.id,.slice ac nc cc,.slice ap np cp] 44)) (.cells #[.string ⟨#[]⟩,.slice none 0 0,.slice none 0 0] 44);rw [YU] at this;exact this
 have b0:Below w.heap.size w w0:=by rw [hw0];exact ((YH _ w).alloc (YI _) _).alloc (by simp) _
 have hs0:w.heap.size+2<=w0.heap.size:=by rw [hw0];simp
 rw [<- hw0];clear hw0;have CS:=hid (pJ at_.cls B _ w0 (HA.out.cls.below (b0.mono hB)) (YJ hB b0.size) hc);have d1:=P0.cell 1 _ rfl;have UQ:=hid P0;have UR:=hid Q0;clear P0 Q0;go_wp2_with fail
 refine CS.out.mono ?_;rintro e w1 ⟨v1,rfl,hr1,b1⟩;obtain ⟨a1,n1,c1,rfl⟩:=Rd.au hr1;have P1:=UQ.out.grown (Es b1);have Q1:=UR.out.grown (Es b1);have UU:=hid P1;have FM:=hid Q1;have HR1:=hid (hr1.weaken (ok':=((w.heap.size+1)<·)) (fun b hb=>by omega));have hb1:=aM b0 b1;have hs1:w.heap.size+2<=w1.heap.size:=YJ hs0 b1.size;have d1:=P1.cell 1 _ rfl;have f1:=P1.free 1;clear P1 Q1 UQ UR CS hr1 b0 b1 hs0;go_upto_region 2 with (fail)
 obtain ⟨w2,hw2⟩:∃ w2,w2=w1.setCell ⟨w.heap.size,1,none⟩ (.slice a1 n1 c1):=⟨_,rfl⟩;have P2:AB w.heap.size [.string at_.id,.slice a1 n1 c1,.slice ap np cp] w2:=by rw [hw2];exact UU.out.set 1 _
 have Q2:AB (w.heap.size+1) [.string ⟨#[]⟩,.slice none 0 0,.slice none 0 0] w2:=by rw [hw2];exact FM.out.far (by omega) 1 _
 have R2:Hid (Rd ((w.heap.size+1)<·) w2 (dU at_.cls) [.slice a1 n1 c1]):=by show Rd _ _ _ _;rw [hw2];exact Rd.keep (fun b hb hlt=>⟨hb,YQ w1 ⟨w.heap.size,1,none⟩ _ b (by show b≠w.heap.size;omega)⟩) _ _ HR1.out
 have b2:Below w.heap.size w w2:=by rw [hw2];exact hb1.setCell (p:=⟨w.heap.size,1,none⟩) (YI _) _
 have hs2:w.heap.size+2<=w2.heap.size:=by rw [hw2];simpa [Y6] using hs1
 rw [<- hw2];clear hw2 UU FM HR1 hb1 hs1 d1 f1;have CP:=hid (yO at_.aT B _ w2 (HA.out.aT.below (b2.mono hB)) (YJ hB b2.size) hp);have d2:=P2.cell 2 _ rfl;have UW:=hid P2;have BX:=hid Q2;clear P2 Q2;go_wp2_with fail
 refine CP.out.mono ?_;rintro e w3 ⟨v3,rfl,hr3,b3⟩;obtain ⟨a3,n3,c3,rfl⟩:=Rd.au hr3;have P3:=UW.out.grown (Es b3);have Q3:=BX.out.grown (Es b3);have Qr:=hid (P3.set 2 (.slice a3 n3 c3));have Di:=hid (Q3.far (q:=w.heap.size) (by omega) 2 (.slice a3 n3 c3));have HR3:=hid (hr3.weaken (ok':=((w.heap.size+1)<·)) (fun b hb=>by omega));have Pz:=hid (Rd.keep (ok':=((w.heap.size+1)<·)) (fun b hb hlt=>⟨hb,b3.block b hlt⟩) _ _ R2.out);have hb3:=aM b2 b3;have d2:=P3.cell 2 _ rfl;have f2:=P3.free 2;clear P3 Q3 UW BX CP hr3 b2 b3 R2 hs2;go_upto_region 3 with (fail)
 obtain ⟨w4,hw4⟩:∃ w4,w4=w3.setCell ⟨w.heap.size,2,none⟩ (.slice a3 n3 c3):=⟨_,rfl⟩;rw [<- hw4] at Qr Di;have K4:∀ b,w.heap.size+1<b->b<w3.heap.size->w4.heap[b]?=w3.heap[b]?:=fun b hb _=>by rw [hw4];exact YQ w3 ⟨w.heap.size,2,none⟩ _ b (by show b≠w.heap.size;omega)
 have R4:=hid (Rd.keep (w':=w4) (ok':=((w.heap.size+1)<·)) (fun b hb hlt=>⟨hb,K4 b hb hlt⟩) _ _ HR3.out);have S4:=hid (Rd.keep (w':=w4) (ok':=((w.heap.size+1)<·)) (fun b hb hlt=>⟨hb,K4 b hb hlt⟩) _ _ Pz.out);have b4:Below w.heap.size w w4:=by rw [hw4];exact hb3.setCell (p:=⟨w.heap.size,2,none⟩) (YI _) _
 rw [<- hw4];clear hw4 K4 HR3 Pz hb3 d2 f2;have q0:=Qr.out.cell 0 _ rfl;have q1:=Qr.out.cell 1 _ rfl;have q2:=Qr.out.cell 2 _ rfl;have r0:=Di.out.cell 0 _ rfl;have r1:=Di.out.cell 1 _ rfl;have r2:=Di.out.cell 2 _ rfl;have g0:=Di.out.free 0;have g1:=Di.out.free 1;have g2:=Di.out.free 2;have FB:=hid (fun u0 u1 u2=>((b4.setCell (p:=⟨w.heap.size+1,0,none⟩) (by simp) u0).setCell (p:=⟨w.heap.size+1,1,none⟩) (by simp) u1).setCell (p:=⟨w.heap.size+1,2,none⟩) (by simp) u2);have AV:∀ (d:D) (cs:List Zw),Rd ((w.heap.size+1)<·) w4 d cs->∀ u0 u1 u2,Rd (w.heap.size<=·) (((w4.setCell ⟨w.heap.size+1,0,none⟩ u0).setCell ⟨w.heap.size+1,1,none⟩ u1).setCell ⟨w.heap.size+1,2,none⟩ u2) d cs:=fun d cs hd u0 u1 u2=>
  (((hd.above (bZ.set 0 u0)).above (bZ.set 1 u1)).above (bZ.set 2 u2)).weaken (fun b hb=>by omega)
 have UY:=hid AV;clear AV b4;go_wp2;exact bodyPost_ret (v:=.agg #[.string at_.id,.slice a1 n1 c1,.slice a3 n3 c3]) (by simp [results,Tryz.results40,go_sem,r0,r1,r2]) rfl ⟨_,_,rfl,⟨UY.out _ _ S4.out _ _ _,UY.out _ _ R4.out _ _ _⟩,FB.out _ _ _⟩
open Go.RowKit
mutual
def ah.deep:ah->List ah
 | .mk k t d ti a ar ci ks=>.mk k t d ti a ar ci ks::ah.aC ks
def ah.aC:List ah->List ah
 | []=>[]
 | x::l=>x.deep++ah.aC l
end
theorem ah.jF (l m:List ah):ah.aC (l++m)=ah.aC l++ah.aC m:=by
 induction l with
 | nil=>rw [ah.aC];rfl
 | cons x l ih=>rw [List.cons_append,ah.aC,ah.aC,ih,List.append_assoc]
theorem ah.pK (l:List ah) (k:Nat) (x:ah) (h:l[k]?=some x):ah.aC (l.take (k+1))=ah.aC (l.take k)++x.deep:=by rw [List.take_add_one,h,ah.jF];simp [ah.aC]
mutual
theorem ah.wh:∀ (x:ah),x.deep.length=x.sz
 | .mk _ _ _ _ _ _ _ ks=>by rw [ah.deep,ah.sz,List.length_cons,ah.gJ ks];omega
theorem ah.gJ:∀ (l:List ah),(ah.aC l).length=ah.aW l
 | []=>by rw [ah.aC,ah.aW];rfl
 | x::l=>by rw [ah.aC,ah.aW,YM,ah.wh x,ah.gJ l]
end
def FH (bo bi:Nat):Zw:=.func (.func 39) #[] #[.pointer (some ⟨bo,0,none⟩),.pointer (some ⟨bi,0,none⟩)]
def okO (B0 B:Nat) (vo:Zw) (p:Nat) (b:Nat):Prop:=b<B0\/(B<=b/\vo.ownBlock≠some b/\b≠p)
structure OL (B0 B bo bi p:Nat) (vo:Zw) (acc:List ah) (rows:List (List Zw)) (wr:Zu):Prop where
 bx:wr.heap[bo]?=some (.cells #[vo] 45 (0,0))
 fn:wr.heap[bi]?=some (.cells #[FH bo bi] 81 (0,0))
 own:wr.ownsRow B 52 10 vo acc.length rows.flatten
 red:aG (okO B0 B vo p) wr (acc.map ah.d) rows
 len:∀ r∈rows,r.length=10
 I6:B<=wr.heap.size
section
variable {B0 B bo bi p:Nat} {vo:Zw} {acc:List ah} {rows:List (List Zw)} {wr w':Zu}
theorem OL.grown (h:OL B0 B bo bi p vo acc rows wr) (hg:wr.grownBy w' none):OL B0 B bo bi p vo acc rows w':=
 ⟨(hg.block bo (Array.getElem?_eq_some_iff.1 h.bx).1 (by simp)).trans h.bx,(hg.block bi (Array.getElem?_eq_some_iff.1 h.fn).1 (by simp)).trans h.fn,h.own.kept hg (by cases vo.ownBlock<;>simp),aG.keep (fun b hb hlt=>⟨hb,hg.block b hlt (by simp)⟩) _ _ h.red,h.len,YJ h.I6 hg.size⟩
theorem OL.set (h:OL B0 B bo bi p vo acc rows wr) (ho:bo<B) (hi:bi<B) (h0:B0<=B) (hp:B<=p) (hv:vo.ownBlock≠some p) (j:Nat) (u:Zw):OL B0 B bo bi p vo acc rows (wr.setCell ⟨p,j,none⟩ u):=
 ⟨(YQ wr ⟨p,j,none⟩ u bo (by show bo≠p;omega)).trans h.bx,(YQ wr ⟨p,j,none⟩ u bi (by show bi≠p;omega)).trans h.fn,tu h.own ⟨p,j,none⟩ u hv,
  aG.keep (fun b hb hlt=>⟨hb,YQ wr ⟨p,j,none⟩ u b (by show b≠p;rcases hb with hb | hb;omega;exact hb.2.2)⟩) _ _ h.red,h.len,by have:=h.I6;simpa [Y6] using this⟩
end
def cu (bo:Nat) (vo:Zw) (w w':Zu):Prop:=w.heap.size<=w'.heap.size/\w'.os=w.os/\w'.tape=w.tape/\w'.output=w.output/\∀ b,b<w.heap.size->b≠bo->vo.ownBlock≠some b->w'.heap[b]?=w.heap[b]?
theorem cu.below {bo B0 B:Nat} {vo:Zw} {w w':Zu} (h:cu bo vo w w') (h0:B0<=bo) (h1:bo<w.heap.size) (hv:∀ g,vo.ownBlock=some g->B<=g) (hB:B0<=B):Below B0 w w':=
 ⟨h.2.1,h.2.2.1,h.2.2.2.1,h.1,fun b hb=>h.2.2.2.2 b (by omega) (by omega) (fun e=>by have:=hv b e;omega)⟩
def eX (B0 B bo bi:Nat) (vo:Zw) (w:Zu) (out:List ah) (wr:Zu):Prop:=
 ∃ R9 rows',OL B0 B bo bi bo R9 out rows' wr/\cu bo vo w wr/\(R9.ownBlock=vo.ownBlock\/∃ g,w.heap.size<=g/\R9.ownBlock=some g)
def I5 (B0 B bo bi:Nat) (vo:Zw) (w:Zu) (acc l:List ah) (vi:Zw) (wr:Zu):Prop:=
 ∃ k:Nat,k<=l.length/\vi=.int .i64 k/\eX B0 B bo bi vo w (acc++ah.aC (l.take k)) wr
structure IS (B0 B bo bi p:Nat) (vo:Zw) (acc:List ah) (rows:List (List Zw)) (cs:List Zw) (wr wx:Zu):Prop where
 ol:OL B0 B bo bi p vo acc rows wx
 pb:PB p cs wx
 bl:Below p wr wx
section
variable {B0 B bo bi p:Nat} {vo:Zw} {acc:List ah} {rows:List (List Zw)} {cs:List Zw} {wr wx w':Zu}
theorem IS.grown (h:IS B0 B bo bi p vo acc rows cs wr wx) (hg:wx.grownBy w' none):IS B0 B bo bi p vo acc rows cs wr w':=
 ⟨h.ol.grown hg,h.pb.grown hg,h.bl.grown hg (by have:=h.pb.lt;omega) (by simp)⟩
theorem IS.set (h:IS B0 B bo bi p vo acc rows cs wr wx) (ho:bo<B) (hi:bi<B) (h0:B0<=B) (hp:B<=p) (hv:vo.ownBlock≠some p) (j:Nat) (u:Zw):IS B0 B bo bi p vo acc rows (cs.set j u) wr (wx.setCell ⟨p,j,none⟩ u):=
 ⟨h.ol.set ho hi h0 hp hv j u,h.pb.set j u,h.bl.setCell (p:=⟨p,j,none⟩) (YI _) u⟩
end
theorem dF {w:Zu} {B g m cap:Nat} {e:TypeId} {xs zs:List Zw} (h:w.ownsRow B e 10 (.slice (some ⟨g,0,none⟩) (m+1) cap) (m+1) (xs++zs)) (hx:xs.length=m*10) (j:Nat) (u:Zw) (hu:zs[j]?=some u) (hj:j<10):w.cell? ⟨g,m*10+j,none⟩=some u:=by rw [h.cellAt (m*10+j) (by omega),List.getElem?_append_right (by omega),hx,<- hu];congr 1;omega
theorem GR {w:Zu} {B g m cap k:Nat} {e:TypeId} {xs:List Zw} (h:w.ownsRow B e k (.slice (some ⟨g,0,none⟩) (m+1) cap) (m+1) xs):m+1<=cap:=by
 rcases h.2 with ⟨h1,_⟩ | ⟨g',cap',cur,h1,_,_,h2,_⟩
 ·cases h1
 ·injection h1 with _ _ h3;omega
theorem K7 {w4 w5:Zu} {B bo g m n cap k:Nat} {e t:TypeId} {xs ys:List Zw} {o:Obj} {v vx:Zw} (hbx:w4.heap[bo]?=some (.cells #[vx] t (0,0))) (h:w5.ownsRow B e k (.slice (some ⟨g,0,none⟩) m cap) m xs) (hg0:(w4.alloc o).drew.grownBy w5 v.ownBlock) (hv:w4.ownsRow B e k v n ys) (tZ:bo<B) (hs:B<=w4.heap.size):w5.cell? ⟨bo,0,none⟩=some vx/\w5.frozen? ⟨bo,0,none⟩=false/\bo≠g:=by
 have h5:w5.heap[bo]?=some (.cells #[vx] t (0,0)):=by rw [hg0.block bo (by show bo<(w4.alloc o).heap.size;rw [YU];omega) (fun e=>by have:=(hv.lt bo e.symm).1;omega)];exact (YR w4 o bo (by omega)).trans hbx
 refine ⟨by simp [World.cell?,h5],by simp [World.frozen?,h5],?_⟩;have:=(h.lt g rfl).1;omega
theorem Oi {w4 w5:Zu} {p:Nat} {cs:List Zw} {o:Obj} {v:Zw} (h:PB p cs w4) (hg:(w4.alloc o).drew.grownBy w5 v.ownBlock) (hv:v.ownBlock≠some p):PB p cs w5:=by have hl:=h.lt;unfold PB at h ⊢;rw [hg.block p (by show p<(w4.alloc o).heap.size;rw [YU];omega) (fun e=>hv e.symm)];exact (YR w4 o p hl).trans h
theorem FI {w:Zu} {B g m cap:Nat} {e:TypeId} {xs zs:List Zw} (h:w.ownsRow B e 10 (.slice (some ⟨g,0,none⟩) (m+1) cap) (m+1) (xs++zs)) (hx:xs.length=m*10) (j:Nat) (u:Zw) : (w.setCell ⟨g,m*10+j,none⟩ u).ownsRow B e 10 (.slice (some ⟨g,0,none⟩) (m+1) cap) (m+1) (xs++zs.set j u):=by have:=(h.stored (m*10+j) u).1;rw [List.set_append_right _ _ (by omega),hx,Nat.add_sub_cancel_left] at this;exact this
theorem zT {B0 B bo bi p m g cap co:Nat} {ao:Option Addr} {acc:List ah} {rows:List (List Zw)} {cs:List Zw} {wr w4 w7:Zu} {x:ah} (h:IS B0 B bo bi p (.slice ao m co) acc rows cs wr w4) (hm:m=acc.length) (tZ:bo<B) (qA:bi<B) (hoi:bo≠bi) (BA:B0<=bo) (FE:B<=p) (hvp:∀ g,(Value.slice ao m co).ownBlock=some g->g<p) (hx:Rd (fun b=>b<B0\/p<b) w4 x.d cs) (hcs:cs.length=10) (hown:w7.ownsRow B 52 10 (.slice (some ⟨g,0,none⟩) (m+1) cap) (m+1) (rows.flatten++cs)) (hbx:w7.heap[bo]?=some (.cells #[.slice (some ⟨g,0,none⟩) (m+1) cap] 45 (0,0))) (hko:cu bo (.slice ao m co) w4 w7) (hat:(Value.slice ao m co).ownBlock=some g\/w4.heap.size<=g) : eX B0 B bo bi (.slice ao m co) w4 (acc++[x]) w7:=by
 have hs:=h.ol.I6;have hgv:∀ b,b<w4.heap.size->(Value.slice ao m co).ownBlock≠some b->(Value.slice (some ⟨g,0,none⟩) (m+1) cap).ownBlock≠some b:=by
  intro b hb hne e;have e':g=b:=by simpa [Value.ownBlock] using e
  subst e';rcases hat with h1 | h1
  ·exact hne h1
  ·omega
 have hne:∀ b,p<b->(Value.slice ao m co).ownBlock≠some b:=fun b hb e=>by have:=hvp b e;omega
 have hlo:∀ b,b<B->(Value.slice ao m co).ownBlock≠some b:=fun b hb e=>by have:=(h.ol.own.lt b e).1;omega
 refine ⟨_,rows++[cs],⟨hbx,?_,?_,?_,?_,YJ hs hko.1⟩,hko,?_⟩
 ·exact (hko.2.2.2.2 bi (by omega) (fun e=>hoi e.symm) (hlo bi qA)).trans h.ol.fn
 ·rw [YM,List.length_singleton,<- hm,List.flatten_append,List.flatten_singleton];exact hown
 ·rw [List.map_append];refine aG.app (aG.keep (fun b hb hlt=>?_) _ _ h.ol.red) (aG.one ?_)
  ·rcases hb with hb | hb
   ·exact ⟨.inl hb,hko.2.2.2.2 b hlt (by omega) (hlo b (by omega))⟩
   ·exact ⟨.inr ⟨hb.1,hgv b hlt hb.2.1,by omega⟩,hko.2.2.2.2 b hlt (by omega) hb.2.1⟩
  ·refine Rd.keep (fun b hb hlt=>?_) _ _ hx;rcases hb with hb | hb
   ·exact ⟨.inl hb,hko.2.2.2.2 b hlt (by omega) (hlo b (by omega))⟩
   ·exact ⟨.inr ⟨by omega,hgv b hlt (hne b hb),by omega⟩,hko.2.2.2.2 b hlt (by omega) (hne b hb)⟩
 ·intro r hr;rw [List.mem_append,List.mem_singleton] at hr;rcases hr with hr | rfl
  ·exact h.ol.len r hr
  ·exact hcs
 ·rcases hat with h1 | h1
  ·exact .inl (by rw [h1];rfl)
  ·exact .inr ⟨g,h1,rfl⟩
def ten (w:Zu) (g o:Nat) (c0 c1 c2 c3 c4 c5 c6 c7 c8 c9:Zw):Zu:=((((((((((w.setCell ⟨g,o,none⟩ c0).setCell ⟨g,o+1,none⟩ c1).setCell ⟨g,o+2,none⟩ c2).setCell ⟨g,o+3,none⟩ c3).setCell ⟨g,o+4,none⟩ c4).setCell ⟨g,o+5,none⟩ c5).setCell ⟨g,o+6,none⟩ c6).setCell ⟨g,o+7,none⟩ c7).setCell ⟨g,o+8,none⟩ c8).setCell ⟨g,o+9,none⟩ c9)
theorem zU {w:Zu} {B g m cap:Nat} {e:TypeId} {xs zs:List Zw} (h:w.ownsRow B e 10 (.slice (some ⟨g,0,none⟩) (m+1) cap) (m+1) (xs++zs)) (hx:xs.length=m*10) (hz:zs.length=10) (c0 c1 c2 c3 c4 c5 c6 c7 c8 c9:Zw) : (ten w g (m*10) c0 c1 c2 c3 c4 c5 c6 c7 c8 c9).ownsRow B e 10 (.slice (some ⟨g,0,none⟩) (m+1) cap) (m+1) (xs++[c0,c1,c2,c3,c4,c5,c6,c7,c8,c9]):=by
 obtain ⟨z0,z1,z2,z3,z4,z5,z6,z7,z8,z9,rfl⟩:∃ z0 z1 z2 z3 z4 z5 z6 z7 z8 z9,zs=[z0,z1,z2,z3,z4,z5,z6,z7,z8,z9]:=by
  match zs,hz with
  | [z0,z1,z2,z3,z4,z5,z6,z7,z8,z9],_=>exact ⟨_,_,_,_,_,_,_,_,_,_,rfl⟩
 have h:=FI h hx 0 c0;have h:=FI h hx 1 c1;have h:=FI h hx 2 c2;have h:=FI h hx 3 c3;have h:=FI h hx 4 c4;have h:=FI h hx 5 c5;have h:=FI h hx 6 c6;have h:=FI h hx 7 c7;have h:=FI h hx 8 c8;have h:=FI h hx 9 c9;exact h
theorem wu (w:Zu) (g o:Nat) (c0 c1 c2 c3 c4 c5 c6 c7 c8 c9:Zw) (b:Nat) (hb:b≠g):(ten w g o c0 c1 c2 c3 c4 c5 c6 c7 c8 c9).heap[b]?=w.heap[b]?:=by
 unfold ten
 iterate 10 rw [YQ _ _ _ b hb]
theorem cu.set {bo:Nat} {vo:Zw} {w w':Zu} (h:cu bo vo w w') (b j:Nat) (u:Zw) (hb:b=bo\/vo.ownBlock=some b\/w.heap.size<=b):cu bo vo w (w'.setCell ⟨b,j,none⟩ u):=by refine ⟨by have:=h.1;simpa [Y6] using this,h.2.1,h.2.2.1,h.2.2.2.1,fun c hc hne yK=>?_⟩;rw [YQ w' ⟨b,j,none⟩ u c (by show c≠b;rintro rfl;rcases hb with hb | hb | hb;exact hne hb;exact yK hb;omega)];exact h.2.2.2.2 c hc hne yK
theorem cu.ten {bo:Nat} {vo:Zw} {w w':Zu} (h:cu bo vo w w') (b o:Nat) (hb:b=bo\/vo.ownBlock=some b\/w.heap.size<=b) (c0 c1 c2 c3 c4 c5 c6 c7 c8 c9:Zw):cu bo vo w (ten w' b o c0 c1 c2 c3 c4 c5 c6 c7 c8 c9):=
 ((((((((((h.set b _ _ hb).set b _ _ hb).set b _ _ hb).set b _ _ hb).set b _ _ hb).set b _ _ hb).set b _ _ hb).set b _ _ hb).set b _ _ hb).set b _ _ hb)
theorem cu.app {bo:Nat} {vo:Zw} {w w5:Zu} {o:Obj} (hg:(w.alloc o).drew.grownBy w5 vo.ownBlock):cu bo vo w w5:=by refine ⟨YJ (by show _<=(w.alloc o).heap.size;rw [YU];omega) hg.size,hg.os,hg.tape,hg.output,fun c hc hne yK=>?_⟩;rw [hg.block c (by show c<(w.alloc o).heap.size;rw [YU];omega) (fun e=>yK e.symm)];exact YR w o c hc
theorem tq {w:Zu} {bo:Nat} {v u:Zw} {t:TypeId} (h:w.heap[bo]?=some (.cells #[v] t (0,0))):(w.setCell ⟨bo,0,none⟩ u).heap[bo]?=some (.cells #[u] t (0,0)):=by simp [Y6,Array.getElem?_modify,h]
theorem GX {w4 w5:Zu} {B bo n k:Nat} {e t:TypeId} {ys:List Zw} {o:Obj} {v vx:Zw} (hbx:w4.heap[bo]?=some (.cells #[vx] t (0,0))) (hg0:(w4.alloc o).drew.grownBy w5 v.ownBlock) (hv:w4.ownsRow B e k v n ys) (tZ:bo<B) (hs:B<=w4.heap.size):w5.heap[bo]?=some (.cells #[vx] t (0,0)):=by rw [hg0.block bo (by show bo<(w4.alloc o).heap.size;rw [YU];omega) (fun e=>by have:=(hv.lt bo e.symm).1;omega)];exact (YR w4 o bo (by omega)).trans hbx
theorem Eu {B0 B bo bi p m g cap co:Nat} {ao:Option Addr} {acc:List ah} {rows:List (List Zw)} {wr w4 w5:Zu} {x:ah} {o:Obj} {zs:List Zw} {c0 c1 c2 c3 c4 c5 c6 c7 c8 c9:Zw} (h:IS B0 B bo bi p (.slice ao m co) acc rows [c0,c1,c2,c3,c4,c5,c6,c7,c8,c9] wr w4) (hm:m=acc.length) (tZ:bo<B) (qA:bi<B) (hoi:bo≠bi) (BA:B0<=bo) (FE:B<=p) (hvp:∀ g,(Value.slice ao m co).ownBlock=some g->g<p) (hx:Rd (fun b=>b<B0\/p<b) w4 x.d [c0,c1,c2,c3,c4,c5,c6,c7,c8,c9]) (hown:w5.ownsRow B 52 10 (.slice (some ⟨g,0,none⟩) (m+1) cap) (m+1) (rows.flatten++zs)) (hz:zs.length=10) (hrl:rows.flatten.length=m*10) (hg:(w4.alloc o).drew.grownBy w5 (Value.slice ao m co).ownBlock) (hat:(Value.slice ao m co).ownBlock=some g\/w4.heap.size<=g) : eX B0 B bo bi (.slice ao m co) w4 (acc++[x]) ((ten w5 g (m*10) c0 c1 c2 c3 c4 c5 c6 c7 c8 c9).setCell ⟨bo,0,none⟩ (.slice (some ⟨g,0,none⟩) (m+1) cap)) /\ eX B0 B bo bi (.slice ao m co) w4 (acc++[x]) (ten (w5.setCell ⟨bo,0,none⟩ (.slice (some ⟨g,0,none⟩) (m+1) cap)) g (m*10) c0 c1 c2 c3 c4 c5 c6 c7 c8 c9):=by
 have hgb:bo≠g:=by have:=(hown.lt g rfl).1;omega
 have Ox:w5.heap[bo]?=some (.cells #[.slice ao m co] 45 (0,0)):=GX h.ol.bx hg h.ol.own tZ h.ol.I6;have hne:(Value.slice (some ⟨g,0,none⟩) (m+1) cap).ownBlock≠some bo:=by
  intro e;have e':g=bo:=by simpa [Value.ownBlock] using e
  exact hgb e'.symm
 have hk:cu bo (.slice ao m co) w4 w5:=cu.app hg;constructor
 ·refine zT h hm tZ qA hoi BA FE hvp hx rfl (tu (zU hown hrl hz c0 c1 c2 c3 c4 c5 c6 c7 c8 c9) ⟨bo,0,none⟩ _ hne) ?_ ((hk.ten g _ (.inr hat) c0 c1 c2 c3 c4 c5 c6 c7 c8 c9).set bo 0 _ (.inl rfl)) hat;exact tq ((wu w5 g _ c0 c1 c2 c3 c4 c5 c6 c7 c8 c9 bo hgb).trans Ox)
 ·refine zT h hm tZ qA hoi BA FE hvp hx rfl (zU (tu hown ⟨bo,0,none⟩ _ hne) hrl hz c0 c1 c2 c3 c4 c5 c6 c7 c8 c9) ?_ ((hk.set bo 0 _ (.inl rfl)).ten g _ (.inr hat) c0 c1 c2 c3 c4 c5 c6 c7 c8 c9) hat;exact (wu _ g _ c0 c1 c2 c3 c4 c5 c6 c7 c8 c9 bo hgb).trans (tq Ox)
theorem ah.sZ (l:List ah) (k:Nat) (x:ah) (h:l[k]?=some x):ah.aW (l.take k)+x.sz<=ah.aW l:=by
 have e:ah.aC l=ah.aC (l.take (k+1))++ah.aC (l.drop (k+1)):=by rw [<- ah.jF,List.take_append_drop]
 have e2:=congrArg List.length e;rw [ah.pK l k x h] at e2;simp only [YM,ah.gJ,ah.wh] at e2;omega
theorem eX.trans {B0 B bo bi:Nat} {vo yL:Zw} {w w1:Zu} {wr:Zu} {out:List ah} (hk:cu bo vo w w1) (hor:yL.ownBlock=vo.ownBlock\/∃ g,w.heap.size<=g/\yL.ownBlock=some g) (h2:eX B0 B bo bi yL w1 out wr):eX B0 B bo bi vo w out wr:=by
 obtain ⟨R8,iP,hol,hk2,hor2⟩:=h2;refine ⟨R8,iP,hol,⟨YJ hk.1 hk2.1,hk2.2.1.trans hk.2.1,hk2.2.2.1.trans hk.2.2.1,hk2.2.2.2.1.trans hk.2.2.2.1,fun b hb hne yK=>?_⟩,?_⟩
 ·refine (hk2.2.2.2.2 b (Nat.lt_of_lt_of_le hb hk.1) hne ?_).trans (hk.2.2.2.2 b hb hne yK);rcases hor with e | ⟨g,hg,e⟩
  ·rw [e];exact yK
  ·rw [e];intro h;have:=YP h;omega
 ·rcases hor2 with e | ⟨g,hg,e⟩
  ·rw [e];exact hor
  ·exact .inr ⟨g,YJ hk.1 hg,e⟩
theorem OL.drew {B0 B bo bi p:Nat} {vo:Zw} {acc:List ah} {rows:List (List Zw)} {wr:Zu} (h:OL B0 B bo bi p vo acc rows wr):OL B0 B bo bi p vo acc rows wr.drew:=h.grown (jW ⟨rfl,rfl,rfl,YI _,fun _ _ _=>rfl⟩)
theorem cu.drew {bo:Nat} {vo:Zw} {w w':Zu} (h:cu bo vo w w'):cu bo vo w w'.drew:=⟨h.1,h.2.1,h.2.2.1,h.2.2.2.1,h.2.2.2.2⟩
end Go.Proofs.YtnmldmofggkoeaaGreatDoor

