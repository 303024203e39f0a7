/- Contracts of slices.Clone at the three types, and of tree.copyAttr. The contract of tree.copyAttr. tree.Inlines$1: what is collected, and the words for its walk. -/
import Derived.Test.YtnmldmofggkoeaaGreatDoorKRowE
set_option maxHeartbeats 4000000
set_option maxRecDepth 100000
open Go.Lib (hid)
namespace Go.Proofs.YtnmldmofggkoeaaGreatDoor
open Go.RowKit.Below renaming refl->XT,heap_setCell->X6,heap_alloc->X7
open Nat renaming le_refl->XU,le_trans->XV
open List renaming length_append->XZ,length_map->X0
open Option.some renaming inj->X5
open Go.World renaming size_alloc->Ya,setCell->Yl
open Go renaming World->YJ,Value->YL
open Go.RowKit
set_option linter.unusedVariables false
set_option linter.unusedSimpArgs false
theorem jU {w:YJ} {B k n:Nat} {xs:List YL} (h:Reads w B k none n xs):n=0:=by
 rcases Nat.eq_zero_or_pos n with h0 | h0
 ·exact h0
 ·obtain ⟨_,e,_⟩:=h.2 h0;cases e
theorem Ey {ok:Nat->Prop} {w:YJ} {l:List ByteArray} {rows:List (List YL)} (h:aH ok w (l.map D.str) rows):∀ u∈rows.flatten,u.oneCell'=true:=by intro u hu;rw [aH.jl _ _ h,jm] at hu;obtain ⟨s,_,rfl⟩:=List.mem_map.1 hu;rfl
theorem pq {ok:Nat->Prop} {w:YJ}:∀ {l:List D} {rows:List (List YL)},aH ok w l rows->(∀ d∈l,∀ r,Rd ok w d r->∀ u∈r,u.oneCell'=true)->∀ u∈rows.flatten,u.oneCell'=true
 | [],_,h,_=>by rw [h.aZ];simp
 | d::ds,_,h,hk=>by
  obtain ⟨r,rs,rfl,h1,h2⟩:=h.ay;intro u hu;rw [List.flatten_cons] at hu;rcases List.mem_append.1 hu with hu | hu
  ·exact hk d (by simp) r h1 u hu
  ·exact pq h2 (fun d' hd'=>hk d' (by simp [hd'])) u hu
theorem Gz {ok:Nat->Prop} {w:YJ} {l:List Pr} {rows:List (List YL)} (h:aH ok w (l.map Pr.d) rows):∀ u∈rows.flatten,u.oneCell'=true:=
 pq h fun d hd r hr u hu=>by
  obtain ⟨p,_,rfl⟩:=List.mem_map.1 hd;rw [Pr.open_ hr] at hu;simp at hu;rcases hu with rfl | rfl<;>rfl
theorem GA {ok:Nat->Prop} {w:YJ} {l:List Ci} {rows:List (List YL)} (h:aH ok w (l.map Ci.d) rows):∀ u∈rows.flatten,u.oneCell'=true:=
 pq h fun d hd r hr u hu=>by
  obtain ⟨p,_,rfl⟩:=List.mem_map.1 hd;rw [Ci.open_ hr] at hu;simp at hu;rcases hu with rfl | rfl | rfl | rfl<;>rfl
def yQ (w:YJ) (d:D) (e:Ending) (w':YJ):Prop:=∃ v,e=.returned v/\Rd (w.heap.size<=·) w' d [v]/\Below w.heap.size w w'
theorem jV (w:YJ) (e:TypeId) (k:Nat):(w.alloc (.cells #[] e)).ownsRow w.heap.size e k (.slice (some ⟨w.heap.size,0,none⟩) 0 0) 0 []:=
 ⟨by simp,.inr ⟨w.heap.size,0,#[],rfl,XU _,heap_alloc_new w _,XU _,Nat.zero_le _,by simp,by simp⟩⟩
theorem oZ (l:List ByteArray) (B:Nat) (v:YL) (w:YJ) (h:Rd (·<B) w (dL l) [v]) (hB:B<=w.heap.size) (hl:l.length<=1000000) : Calls Tryz.prog 41 #[v] w (yQ w (dL l)):=by
 obtain ⟨i0,hi,hz0,hz1,hz2⟩:=info_parts nL;obtain ⟨A,cap,rows,rfl,h1,h2,h3,h4,h5⟩:=Rd.reads h;rw [X0] at h1 h5;have e:(l.map D.str).length=l.length:=X0 _;rw [e];unfold maxLen at h2;have H3:=hid h3;have H4:=hid h4;have H5:=hid (h5.more hB);have H1:=hid (Ey h3);clear h h3 h4 h5 e;cases A with
 | none=>
  have h0:l=[]:=List.length_eq_zero_iff.1 (jU H5.out);subst h0;have hq:=fun (w:YJ) (a:Option Addr) (n c:Nat)=>Lib.run_eql_slice_nil (P:=Tryz.prog) w _ _ a n c 0 0 Tryz.underlying35
  go_enter Tryz.func41,Tryz.ntmps41;go_wp2;go_ret;exact ⟨_,rfl,Rd.aJ _ _ _,XT _ _⟩
 | some ad=>
  have hq:=fun (w:YJ) (a:Option Addr) (n c:Nat)=>Lib.run_eql_slice_nil (P:=Tryz.prog) w _ _ a n c 0 0 Tryz.underlying35
  go_enter Tryz.func41,Tryz.ntmps41;go_wp2_with (at_builtin;refine Lg _ rfl (.tmp 5) (.tmp 6) 35 rfl w.heap.size 9 i0 _ 1 16 Tryz.underlying35 hi hz0 hz1 hz2 rfl (by decide) (.slice (some ⟨w.heap.size,0,none⟩) 0 0) 0 [] rfl (jV w _ _) w.heap.size (some ad) l.length cap rows.flatten rfl (H5.out.below ((XT _ w).alloc (XU _) _)) H1.out ?a1 ?a2 ?a3 ?_)
  case a1=>unfold maxLen;omega
  case a2=>omega
  case a3=>simp
  intro v' w1 hown hg _
  (try simp only [Nat.zero_add,List.nil_append] at hown)
  have b1:Below w.heap.size w w1:=((XT _ w).alloc (XU _) _).grown hg (by simp) (fun j hj=>by have e:w.heap.size=j:=X5 hj;omega);have HO:=hid hown;clear hown hg;go_wp2;go_ret;refine ⟨_,rfl,Rd.pz (rows:=rows) (B:=w.heap.size) (e:=9) ?_ (aH.Ez H3.out) H4.out (fun g hg=>(HO.out.lt g hg).1),b1⟩;rw [X0];exact HO.out
theorem yP (l:List Ci) (B:Nat) (v:YL) (w:YJ) (h:Rd (·<B) w (Gm l) [v]) (hB:B<=w.heap.size) (hl:l.length<=1000000) : Calls Tryz.prog 42 #[v] w (yQ w (Gm l)):=by
 obtain ⟨i0,hi,hz0,hz1,hz2⟩:=info_parts KT;obtain ⟨A,cap,rows,rfl,h1,h2,h3,h4,h5⟩:=Rd.reads h;rw [X0] at h1 h5;have e:(l.map Ci.d).length=l.length:=X0 _;rw [e];unfold maxLen at h2;have H3:=hid h3;have H4:=hid h4;have H5:=hid (h5.more hB);have H1:=hid (GA h3);clear h h3 h4 h5 e;cases A with
 | none=>
  have h0:l=[]:=List.length_eq_zero_iff.1 (jU H5.out);subst h0;have hq:=fun (w:YJ) (a:Option Addr) (n c:Nat)=>Lib.run_eql_slice_nil (P:=Tryz.prog) w _ _ a n c 0 0 Tryz.underlying50
  go_enter Tryz.func42,Tryz.ntmps42;go_wp2;go_ret;exact ⟨_,rfl,Rd.aJ _ _ _,XT _ _⟩
 | some ad=>
  have hq:=fun (w:YJ) (a:Option Addr) (n c:Nat)=>Lib.run_eql_slice_nil (P:=Tryz.prog) w _ _ a n c 0 0 Tryz.underlying50
  go_enter Tryz.func42,Tryz.ntmps42;go_wp2_with (at_builtin;refine Lg _ rfl (.tmp 5) (.tmp 6) 50 rfl w.heap.size 86 i0 _ 4 56 Tryz.underlying50 hi hz0 hz1 hz2 rfl (by decide) (.slice (some ⟨w.heap.size,0,none⟩) 0 0) 0 [] rfl (jV w _ _) w.heap.size (some ad) l.length cap rows.flatten rfl (H5.out.below ((XT _ w).alloc (XU _) _)) H1.out ?a1 ?a2 ?a3 ?_)
  case a1=>unfold maxLen;omega
  case a2=>omega
  case a3=>simp
  intro v' w1 hown hg _
  (try simp only [Nat.zero_add,List.nil_append] at hown)
  have b1:Below w.heap.size w w1:=((XT _ w).alloc (XU _) _).grown hg (by simp) (fun j hj=>by have e:w.heap.size=j:=X5 hj;omega);have HO:=hid hown;clear hown hg;go_wp2;go_ret;refine ⟨_,rfl,Rd.pz (rows:=rows) (B:=w.heap.size) (e:=86) ?_ (aH.zP H3.out) H4.out (fun g hg=>(HO.out.lt g hg).1),b1⟩;rw [X0];exact HO.out
theorem yR (l:List Pr) (B:Nat) (v:YL) (w:YJ) (h:Rd (·<B) w (DN l) [v]) (hB:B<=w.heap.size) (hl:l.length<=1000000) : Calls Tryz.prog 53 #[v] w (yQ w (DN l)):=by
 obtain ⟨i0,hi,hz0,hz1,hz2⟩:=info_parts KU;obtain ⟨A,cap,rows,rfl,h1,h2,h3,h4,h5⟩:=Rd.reads h;rw [X0] at h1 h5;have e:(l.map Pr.d).length=l.length:=X0 _;rw [e];unfold maxLen at h2;have H3:=hid h3;have H4:=hid h4;have H5:=hid (h5.more hB);have H1:=hid (Gz h3);clear h h3 h4 h5 e;cases A with
 | none=>
  have h0:l=[]:=List.length_eq_zero_iff.1 (jU H5.out);subst h0;have hq:=fun (w:YJ) (a:Option Addr) (n c:Nat)=>Lib.run_eql_slice_nil (P:=Tryz.prog) w _ _ a n c 0 0 Tryz.underlying27
  go_enter Tryz.func53,Tryz.ntmps53;go_wp2;go_ret;exact ⟨_,rfl,Rd.aJ _ _ _,XT _ _⟩
 | some ad=>
  have hq:=fun (w:YJ) (a:Option Addr) (n c:Nat)=>Lib.run_eql_slice_nil (P:=Tryz.prog) w _ _ a n c 0 0 Tryz.underlying27
  go_enter Tryz.func53,Tryz.ntmps53;go_wp2_with (at_builtin;refine Lg _ rfl (.tmp 5) (.tmp 6) 27 rfl w.heap.size 57 i0 _ 2 32 Tryz.underlying27 hi hz0 hz1 hz2 rfl (by decide) (.slice (some ⟨w.heap.size,0,none⟩) 0 0) 0 [] rfl (jV w _ _) w.heap.size (some ad) l.length cap rows.flatten rfl (H5.out.below ((XT _ w).alloc (XU _) _)) H1.out ?a1 ?a2 ?a3 ?_)
  case a1=>unfold maxLen;omega
  case a2=>omega
  case a3=>simp
  intro v' w1 hown hg _
  (try simp only [Nat.zero_add,List.nil_append] at hown)
  have b1:Below w.heap.size w w1:=((XT _ w).alloc (XU _) _).grown hg (by simp) (fun j hj=>by have e:w.heap.size=j:=X5 hj;omega);have HO:=hid hown;clear hown hg;go_wp2;go_ret;refine ⟨_,rfl,Rd.pz (rows:=rows) (B:=w.heap.size) (e:=57) ?_ (aH.zQ H3.out) H4.out (fun g hg=>(HO.out.lt g hg).1),b1⟩;rw [X0];exact HO.out
open Go.RowKit
def AB (p:Nat) (cs:List YL) (w:YJ):Prop:=w.heap[p]?=some (.cells cs.toArray 44 (0,0))
section
variable {p:Nat} {cs:List YL} {w w':YJ}
theorem AB.cell (h:AB p cs w) (j:Nat) (u:YL) (hu:cs[j]?=some u):w.cell? ⟨p,j,none⟩=some u:=by unfold AB at h;simp [World.cell?,h,hu]
theorem AB.free (h:AB p cs w) (j:Nat):w.frozen? ⟨p,j,none⟩=false:=by unfold AB at h;simp [World.frozen?,h]
theorem AB.set (h:AB p cs w) (j:Nat) (u:YL):AB p (cs.set j u) (w.setCell ⟨p,j,none⟩ u):=by unfold AB at h ⊢;simp [Yl,Array.getElem?_modify,h]
theorem AB.far (h:AB p cs w) {q:Nat} (hq:p≠q) (j:Nat) (u:YL):AB p cs (w.setCell ⟨q,j,none⟩ u):=(X6 w ⟨q,j,none⟩ u p hq).trans h
theorem AB.lt (h:AB p cs w):p<w.heap.size:=by unfold AB at h;exact (Array.getElem?_eq_some_iff.1 h).1
theorem AB.grown (h:AB p cs w) (hg:w.grownBy w' none):AB p cs w':=(hg.block p h.lt (by simp)).trans h
end
theorem qD (at_:At) (vc vp:YL) (B:Nat) (w:YJ) (h:AtR (·<B) w at_ vc vp) (hB:B<=w.heap.size) (hc:at_.cls.length<=1000000) (hp:at_.aS.length<=1000000) : Calls Tryz.prog 40 #[.agg #[.string at_.id,vc,vp]] w fun e w'=>∃ Ut dZ,e=.returned (.agg #[.string at_.id,Ut,dZ])/\AtR (w.heap.size<=·) w' at_ Ut dZ/\Below w.heap.size w w':=by
 obtain ⟨ac,nc,cc,rfl⟩:=Rd.au h.cls;obtain ⟨ap,np,cp,rfl⟩:=Rd.au h.aS;have HA:=hid h;clear h;go_enter Tryz.func40,Tryz.ntmps40;go_upto_region 1 with (fail)
 obtain ⟨w0,hw0⟩:∃ w0,w0=(w.alloc (.cells #[.string at_.id,.slice ac nc cc,.slice ap np cp] 44)).alloc (.cells #[.string ⟨#[]⟩,.slice none 0 0,.slice none 0 0] 44):=⟨_,rfl⟩;have P0:AB w.heap.size [.string at_.id,.slice ac nc cc,.slice ap np cp] w0:=by rw [hw0];exact (X7 _ _ _ (by simp)).trans (heap_alloc_new w _)
 have Q0:AB (w.heap.size+1) [.string ⟨#[]⟩,.slice none 0 0,.slice none 0 0] w0:=by rw [hw0];have:=heap_alloc_new (w.alloc (.cells #[.string at_.id,.slice ac nc cc,.slice ap np cp] 44)) (.cells #[.string ⟨#[]⟩,.slice none 0 0,.slice none 0 0] 44);rw [Ya] at this;exact this
 have b0:Below w.heap.size w w0:=by rw [hw0];exact ((XT _ w).alloc (XU _) _).alloc (by simp) _
 have hs0:w.heap.size+2<=w0.heap.size:=by rw [hw0];simp
 rw [<- hw0];clear hw0;have CS:=hid (oZ at_.cls B _ w0 (HA.out.cls.below (b0.mono hB)) (XV hB b0.size) hc);have d1:=P0.cell 1 _ rfl;have Uu:=hid P0;have Uv:=hid Q0;clear P0 Q0;go_wp2_with fail
 refine CS.out.mono ?_;rintro e w1 ⟨v1,rfl,hr1,b1⟩;obtain ⟨a1,n1,c1,rfl⟩:=Rd.au hr1;have P1:=Uu.out.grown (Es b1);have Q1:=Uv.out.grown (Es b1);have Uw:=hid P1;have Fy:=hid Q1;have HR1:=hid (hr1.weaken (ok':=((w.heap.size+1)<·)) (fun b hb=>by omega));have hb1:=aL b0 b1;have hs1:w.heap.size+2<=w1.heap.size:=XV hs0 b1.size;have d1:=P1.cell 1 _ rfl;have f1:=P1.free 1;clear P1 Q1 Uu Uv CS hr1 b0 b1 hs0;go_upto_region 2 with (fail)
 obtain ⟨w2,hw2⟩:∃ w2,w2=w1.setCell ⟨w.heap.size,1,none⟩ (.slice a1 n1 c1):=⟨_,rfl⟩;have P2:AB w.heap.size [.string at_.id,.slice a1 n1 c1,.slice ap np cp] w2:=by rw [hw2];exact Uw.out.set 1 _
 have Q2:AB (w.heap.size+1) [.string ⟨#[]⟩,.slice none 0 0,.slice none 0 0] w2:=by rw [hw2];exact Fy.out.far (by omega) 1 _
 have R2:Hid (Rd ((w.heap.size+1)<·) w2 (dL at_.cls) [.slice a1 n1 c1]):=by show Rd _ _ _ _;rw [hw2];exact Rd.keep (fun b hb hlt=>⟨hb,X6 w1 ⟨w.heap.size,1,none⟩ _ b (by show b≠w.heap.size;omega)⟩) _ _ HR1.out
 have b2:Below w.heap.size w w2:=by rw [hw2];exact hb1.setCell (p:=⟨w.heap.size,1,none⟩) (XU _) _
 have hs2:w.heap.size+2<=w2.heap.size:=by rw [hw2];simpa [Yl] using hs1
 rw [<- hw2];clear hw2 Uw Fy HR1 hb1 hs1 d1 f1;have CP:=hid (yR at_.aS B _ w2 (HA.out.aS.below (b2.mono hB)) (XV hB b2.size) hp);have d2:=P2.cell 2 _ rfl;have Ux:=hid P2;have BP:=hid Q2;clear P2 Q2;go_wp2_with fail
 refine CP.out.mono ?_;rintro e w3 ⟨v3,rfl,hr3,b3⟩;obtain ⟨a3,n3,c3,rfl⟩:=Rd.au hr3;have P3:=Ux.out.grown (Es b3);have Q3:=BP.out.grown (Es b3);have P5:=hid (P3.set 2 (.slice a3 n3 c3));have DK:=hid (Q3.far (q:=w.heap.size) (by omega) 2 (.slice a3 n3 c3));have HR3:=hid (hr3.weaken (ok':=((w.heap.size+1)<·)) (fun b hb=>by omega));have OX:=hid (Rd.keep (ok':=((w.heap.size+1)<·)) (fun b hb hlt=>⟨hb,b3.block b hlt⟩) _ _ R2.out);have hb3:=aL b2 b3;have d2:=P3.cell 2 _ rfl;have f2:=P3.free 2;clear P3 Q3 Ux BP CP hr3 b2 b3 R2 hs2;go_upto_region 3 with (fail)
 obtain ⟨w4,hw4⟩:∃ w4,w4=w3.setCell ⟨w.heap.size,2,none⟩ (.slice a3 n3 c3):=⟨_,rfl⟩;rw [<- hw4] at P5 DK;have K4:∀ b,w.heap.size+1<b->b<w3.heap.size->w4.heap[b]?=w3.heap[b]?:=fun b hb _=>by rw [hw4];exact X6 w3 ⟨w.heap.size,2,none⟩ _ b (by show b≠w.heap.size;omega)
 have R4:=hid (Rd.keep (w':=w4) (ok':=((w.heap.size+1)<·)) (fun b hb hlt=>⟨hb,K4 b hb hlt⟩) _ _ HR3.out);have S4:=hid (Rd.keep (w':=w4) (ok':=((w.heap.size+1)<·)) (fun b hb hlt=>⟨hb,K4 b hb hlt⟩) _ _ OX.out);have b4:Below w.heap.size w w4:=by rw [hw4];exact hb3.setCell (p:=⟨w.heap.size,2,none⟩) (XU _) _
 rw [<- hw4];clear hw4 K4 HR3 OX hb3 d2 f2;have q0:=P5.out.cell 0 _ rfl;have q1:=P5.out.cell 1 _ rfl;have q2:=P5.out.cell 2 _ rfl;have r0:=DK.out.cell 0 _ rfl;have r1:=DK.out.cell 1 _ rfl;have r2:=DK.out.cell 2 _ rfl;have g0:=DK.out.free 0;have g1:=DK.out.free 1;have g2:=DK.out.free 2;have FB:=hid (fun u0 u1 u2=>((b4.setCell (p:=⟨w.heap.size+1,0,none⟩) (by simp) u0).setCell (p:=⟨w.heap.size+1,1,none⟩) (by simp) u1).setCell (p:=⟨w.heap.size+1,2,none⟩) (by simp) u2);have AV:∀ (d:D) (cs:List YL),Rd ((w.heap.size+1)<·) w4 d cs->∀ u0 u1 u2,Rd (w.heap.size<=·) (((w4.setCell ⟨w.heap.size+1,0,none⟩ u0).setCell ⟨w.heap.size+1,1,none⟩ u1).setCell ⟨w.heap.size+1,2,none⟩ u2) d cs:=fun d cs hd u0 u1 u2=>
  (((hd.above (bY.set 0 u0)).above (bY.set 1 u1)).above (bY.set 2 u2)).weaken (fun b hb=>by omega)
 have Uy:=hid AV;clear AV b4;go_wp2;exact bodyPost_ret (v:=.agg #[.string at_.id,.slice a1 n1 c1,.slice a3 n3 c3]) (by simp [results,Tryz.results40,go_sem,r0,r1,r2]) rfl ⟨_,_,rfl,⟨Uy.out _ _ S4.out _ _ _,Uy.out _ _ R4.out _ _ _⟩,FB.out _ _ _⟩
open Go.RowKit
mutual
def ah.deep:ah->List ah
 | .mk k t d ti a ar ci ks=>.mk k t d ti a ar ci ks::ah.aD ks
def ah.aD:List ah->List ah
 | []=>[]
 | x::l=>x.deep++ah.aD l
end
theorem ah.ji (l m:List ah):ah.aD (l++m)=ah.aD l++ah.aD m:=by
 induction l with
 | nil=>rw [ah.aD];rfl
 | cons x l ih=>rw [List.cons_append,ah.aD,ah.aD,ih,List.append_assoc]
theorem ah.o8 (l:List ah) (k:Nat) (x:ah) (h:l[k]?=some x):ah.aD (l.take (k+1))=ah.aD (l.take k)++x.deep:=by rw [List.take_add_one,h,ah.ji];simp [ah.aD]
mutual
theorem ah.vU:∀ (x:ah),x.deep.length=x.sz
 | .mk _ _ _ _ _ _ _ ks=>by rw [ah.deep,ah.sz,List.length_cons,ah.gG ks];omega
theorem ah.gG:∀ (l:List ah),(ah.aD l).length=ah.aV l
 | []=>by rw [ah.aD,ah.aV];rfl
 | x::l=>by rw [ah.aD,ah.aV,XZ,ah.vU x,ah.gG l]
end
def Fu (bo bi:Nat):YL:=.func (.func 39) #[] #[.pointer (some ⟨bo,0,none⟩),.pointer (some ⟨bi,0,none⟩)]
def okO (B0 B:Nat) (vo:YL) (p:Nat) (b:Nat):Prop:=b<B0\/(B<=b/\vo.ownBlock≠some b/\b≠p)
structure OL (B0 B bo bi p:Nat) (vo:YL) (acc:List ah) (rows:List (List YL)) (wr:YJ):Prop where
 bx:wr.heap[bo]?=some (.cells #[vo] 45 (0,0))
 fn:wr.heap[bi]?=some (.cells #[Fu bo bi] 81 (0,0))
 own:wr.ownsRow B 52 10 vo acc.length rows.flatten
 red:aH (okO B0 B vo p) wr (acc.map ah.d) rows
 len:∀ r∈rows,r.length=10
 Iy:B<=wr.heap.size
section
variable {B0 B bo bi p:Nat} {vo:YL} {acc:List ah} {rows:List (List YL)} {wr w':YJ}
theorem OL.grown (h:OL B0 B bo bi p vo acc rows wr) (hg:wr.grownBy w' none):OL B0 B bo bi p vo acc rows w':=
 ⟨(hg.block bo (Array.getElem?_eq_some_iff.1 h.bx).1 (by simp)).trans h.bx,(hg.block bi (Array.getElem?_eq_some_iff.1 h.fn).1 (by simp)).trans h.fn,h.own.kept hg (by cases vo.ownBlock<;>simp),aH.keep (fun b hb hlt=>⟨hb,hg.block b hlt (by simp)⟩) _ _ h.red,h.len,XV h.Iy hg.size⟩
theorem OL.set (h:OL B0 B bo bi p vo acc rows wr) (ho:bo<B) (hi:bi<B) (h0:B0<=B) (hp:B<=p) (hv:vo.ownBlock≠some p) (j:Nat) (u:YL):OL B0 B bo bi p vo acc rows (wr.setCell ⟨p,j,none⟩ u):=
 ⟨(X6 wr ⟨p,j,none⟩ u bo (by show bo≠p;omega)).trans h.bx,(X6 wr ⟨p,j,none⟩ u bi (by show bi≠p;omega)).trans h.fn,sP h.own ⟨p,j,none⟩ u hv,
  aH.keep (fun b hb hlt=>⟨hb,X6 wr ⟨p,j,none⟩ u b (by show b≠p;rcases hb with hb | hb;omega;exact hb.2.2)⟩) _ _ h.red,h.len,by have:=h.Iy;simpa [Yl] using this⟩
end
def bZ (bo:Nat) (vo:YL) (w w':YJ):Prop:=w.heap.size<=w'.heap.size/\w'.os=w.os/\w'.tape=w.tape/\w'.output=w.output/\∀ b,b<w.heap.size->b≠bo->vo.ownBlock≠some b->w'.heap[b]?=w.heap[b]?
theorem bZ.below {bo B0 B:Nat} {vo:YL} {w w':YJ} (h:bZ bo vo w w') (h0:B0<=bo) (h1:bo<w.heap.size) (hv:∀ g,vo.ownBlock=some g->B<=g) (hB:B0<=B):Below B0 w w':=
 ⟨h.2.1,h.2.2.1,h.2.2.2.1,h.1,fun b hb=>h.2.2.2.2 b (by omega) (by omega) (fun e=>by have:=hv b e;omega)⟩
def eX (B0 B bo bi:Nat) (vo:YL) (w:YJ) (out:List ah) (wr:YJ):Prop:=
 ∃ Rv rows',OL B0 B bo bi bo Rv out rows' wr/\bZ bo vo w wr/\(Rv.ownBlock=vo.ownBlock\/∃ g,w.heap.size<=g/\Rv.ownBlock=some g)
def Iw (B0 B bo bi:Nat) (vo:YL) (w:YJ) (acc l:List ah) (vi:YL) (wr:YJ):Prop:=
 ∃ k:Nat,k<=l.length/\vi=.int .i64 k/\eX B0 B bo bi vo w (acc++ah.aD (l.take k)) wr
structure IS (B0 B bo bi p:Nat) (vo:YL) (acc:List ah) (rows:List (List YL)) (cs:List YL) (wr wx:YJ):Prop where
 ol:OL B0 B bo bi p vo acc rows wx
 pb:PB p cs wx
 bl:Below p wr wx
section
variable {B0 B bo bi p:Nat} {vo:YL} {acc:List ah} {rows:List (List YL)} {cs:List YL} {wr wx w':YJ}
theorem IS.grown (h:IS B0 B bo bi p vo acc rows cs wr wx) (hg:wx.grownBy w' none):IS B0 B bo bi p vo acc rows cs wr w':=
 ⟨h.ol.grown hg,h.pb.grown hg,h.bl.grown hg (by have:=h.pb.lt;omega) (by simp)⟩
theorem IS.set (h:IS B0 B bo bi p vo acc rows cs wr wx) (ho:bo<B) (hi:bi<B) (h0:B0<=B) (hp:B<=p) (hv:vo.ownBlock≠some p) (j:Nat) (u:YL):IS B0 B bo bi p vo acc rows (cs.set j u) wr (wx.setCell ⟨p,j,none⟩ u):=
 ⟨h.ol.set ho hi h0 hp hv j u,h.pb.set j u,h.bl.setCell (p:=⟨p,j,none⟩) (XU _) u⟩
end
theorem dJ {w:YJ} {B g m cap:Nat} {e:TypeId} {xs zs:List YL} (h:w.ownsRow B e 10 (.slice (some ⟨g,0,none⟩) (m+1) cap) (m+1) (xs++zs)) (hx:xs.length=m*10) (j:Nat) (u:YL) (hu:zs[j]?=some u) (hj:j<10):w.cell? ⟨g,m*10+j,none⟩=some u:=by rw [h.cellAt (m*10+j) (by omega),List.getElem?_append_right (by omega),hx,<- hu];congr 1;omega
theorem Gy {w:YJ} {B g m cap k:Nat} {e:TypeId} {xs:List YL} (h:w.ownsRow B e k (.slice (some ⟨g,0,none⟩) (m+1) cap) (m+1) xs):m+1<=cap:=by
 rcases h.2 with ⟨h1,_⟩ | ⟨g',cap',cur,h1,_,_,h2,_⟩
 ·cases h1
 ·injection h1 with _ _ h3;omega
theorem KN {w4 w5:YJ} {B bo g m n cap k:Nat} {e t:TypeId} {xs ys:List YL} {o:Obj} {v vx:YL} (hbx:w4.heap[bo]?=some (.cells #[vx] t (0,0))) (h:w5.ownsRow B e k (.slice (some ⟨g,0,none⟩) m cap) m xs) (hg0:(w4.alloc o).drew.grownBy w5 v.ownBlock) (hv:w4.ownsRow B e k v n ys) (tF:bo<B) (hs:B<=w4.heap.size):w5.cell? ⟨bo,0,none⟩=some vx/\w5.frozen? ⟨bo,0,none⟩=false/\bo≠g:=by
 have h5:w5.heap[bo]?=some (.cells #[vx] t (0,0)):=by rw [hg0.block bo (by show bo<(w4.alloc o).heap.size;rw [Ya];omega) (fun e=>by have:=(hv.lt bo e.symm).1;omega)];exact (X7 w4 o bo (by omega)).trans hbx
 refine ⟨by simp [World.cell?,h5],by simp [World.frozen?,h5],?_⟩;have:=(h.lt g rfl).1;omega
theorem Og {w4 w5:YJ} {p:Nat} {cs:List YL} {o:Obj} {v:YL} (h:PB p cs w4) (hg:(w4.alloc o).drew.grownBy w5 v.ownBlock) (hv:v.ownBlock≠some p):PB p cs w5:=by have hl:=h.lt;unfold PB at h ⊢;rw [hg.block p (by show p<(w4.alloc o).heap.size;rw [Ya];omega) (fun e=>hv e.symm)];exact (X7 w4 o p hl).trans h
theorem Fv {w:YJ} {B g m cap:Nat} {e:TypeId} {xs zs:List YL} (h:w.ownsRow B e 10 (.slice (some ⟨g,0,none⟩) (m+1) cap) (m+1) (xs++zs)) (hx:xs.length=m*10) (j:Nat) (u:YL) : (w.setCell ⟨g,m*10+j,none⟩ u).ownsRow B e 10 (.slice (some ⟨g,0,none⟩) (m+1) cap) (m+1) (xs++zs.set j u):=by have:=(h.stored (m*10+j) u).1;rw [List.set_append_right _ _ (by omega),hx,Nat.add_sub_cancel_left] at this;exact this
theorem zR {B0 B bo bi p m g cap co:Nat} {ao:Option Addr} {acc:List ah} {rows:List (List YL)} {cs:List YL} {wr w4 w7:YJ} {x:ah} (h:IS B0 B bo bi p (.slice ao m co) acc rows cs wr w4) (hm:m=acc.length) (tF:bo<B) (qm:bi<B) (hoi:bo≠bi) (Bq:B0<=bo) (Fq:B<=p) (hvp:∀ g,(Value.slice ao m co).ownBlock=some g->g<p) (hx:Rd (fun b=>b<B0\/p<b) w4 x.d cs) (hcs:cs.length=10) (hown:w7.ownsRow B 52 10 (.slice (some ⟨g,0,none⟩) (m+1) cap) (m+1) (rows.flatten++cs)) (hbx:w7.heap[bo]?=some (.cells #[.slice (some ⟨g,0,none⟩) (m+1) cap] 45 (0,0))) (hko:bZ bo (.slice ao m co) w4 w7) (hat:(Value.slice ao m co).ownBlock=some g\/w4.heap.size<=g) : eX B0 B bo bi (.slice ao m co) w4 (acc++[x]) w7:=by
 have hs:=h.ol.Iy;have hgv:∀ b,b<w4.heap.size->(Value.slice ao m co).ownBlock≠some b->(Value.slice (some ⟨g,0,none⟩) (m+1) cap).ownBlock≠some b:=by
  intro b hb hne e;have e':g=b:=by simpa [Value.ownBlock] using e
  subst e';rcases hat with h1 | h1
  ·exact hne h1
  ·omega
 have hne:∀ b,p<b->(Value.slice ao m co).ownBlock≠some b:=fun b hb e=>by have:=hvp b e;omega
 have hlo:∀ b,b<B->(Value.slice ao m co).ownBlock≠some b:=fun b hb e=>by have:=(h.ol.own.lt b e).1;omega
 refine ⟨_,rows++[cs],⟨hbx,?_,?_,?_,?_,XV hs hko.1⟩,hko,?_⟩
 ·exact (hko.2.2.2.2 bi (by omega) (fun e=>hoi e.symm) (hlo bi qm)).trans h.ol.fn
 ·rw [XZ,List.length_singleton,<- hm,List.flatten_append,List.flatten_singleton];exact hown
 ·rw [List.map_append];refine aH.app (aH.keep (fun b hb hlt=>?_) _ _ h.ol.red) (aH.one ?_)
  ·rcases hb with hb | hb
   ·exact ⟨.inl hb,hko.2.2.2.2 b hlt (by omega) (hlo b (by omega))⟩
   ·exact ⟨.inr ⟨hb.1,hgv b hlt hb.2.1,by omega⟩,hko.2.2.2.2 b hlt (by omega) hb.2.1⟩
  ·refine Rd.keep (fun b hb hlt=>?_) _ _ hx;rcases hb with hb | hb
   ·exact ⟨.inl hb,hko.2.2.2.2 b hlt (by omega) (hlo b (by omega))⟩
   ·exact ⟨.inr ⟨by omega,hgv b hlt (hne b hb),by omega⟩,hko.2.2.2.2 b hlt (by omega) (hne b hb)⟩
 ·intro r hr;rw [List.mem_append,List.mem_singleton] at hr;rcases hr with hr | rfl
  ·exact h.ol.len r hr
  ·exact hcs
 ·rcases hat with h1 | h1
  ·exact .inl (by rw [h1];rfl)
  ·exact .inr ⟨g,h1,rfl⟩
def ten (w:YJ) (g o:Nat) (c0 c1 c2 c3 c4 c5 c6 c7 c8 c9:YL):YJ:=((((((((((w.setCell ⟨g,o,none⟩ c0).setCell ⟨g,o+1,none⟩ c1).setCell ⟨g,o+2,none⟩ c2).setCell ⟨g,o+3,none⟩ c3).setCell ⟨g,o+4,none⟩ c4).setCell ⟨g,o+5,none⟩ c5).setCell ⟨g,o+6,none⟩ c6).setCell ⟨g,o+7,none⟩ c7).setCell ⟨g,o+8,none⟩ c8).setCell ⟨g,o+9,none⟩ c9)
theorem zS {w:YJ} {B g m cap:Nat} {e:TypeId} {xs zs:List YL} (h:w.ownsRow B e 10 (.slice (some ⟨g,0,none⟩) (m+1) cap) (m+1) (xs++zs)) (hx:xs.length=m*10) (hz:zs.length=10) (c0 c1 c2 c3 c4 c5 c6 c7 c8 c9:YL) : (ten w g (m*10) c0 c1 c2 c3 c4 c5 c6 c7 c8 c9).ownsRow B e 10 (.slice (some ⟨g,0,none⟩) (m+1) cap) (m+1) (xs++[c0,c1,c2,c3,c4,c5,c6,c7,c8,c9]):=by
 obtain ⟨z0,z1,z2,z3,z4,z5,z6,z7,z8,z9,rfl⟩:∃ z0 z1 z2 z3 z4 z5 z6 z7 z8 z9,zs=[z0,z1,z2,z3,z4,z5,z6,z7,z8,z9]:=by
  match zs,hz with
  | [z0,z1,z2,z3,z4,z5,z6,z7,z8,z9],_=>exact ⟨_,_,_,_,_,_,_,_,_,_,rfl⟩
 have h:=Fv h hx 0 c0;have h:=Fv h hx 1 c1;have h:=Fv h hx 2 c2;have h:=Fv h hx 3 c3;have h:=Fv h hx 4 c4;have h:=Fv h hx 5 c5;have h:=Fv h hx 6 c6;have h:=Fv h hx 7 c7;have h:=Fv h hx 8 c8;have h:=Fv h hx 9 c9;exact h
theorem vV (w:YJ) (g o:Nat) (c0 c1 c2 c3 c4 c5 c6 c7 c8 c9:YL) (b:Nat) (hb:b≠g):(ten w g o c0 c1 c2 c3 c4 c5 c6 c7 c8 c9).heap[b]?=w.heap[b]?:=by
 unfold ten
 iterate 10 rw [X6 _ _ _ b hb]
theorem bZ.set {bo:Nat} {vo:YL} {w w':YJ} (h:bZ bo vo w w') (b j:Nat) (u:YL) (hb:b=bo\/vo.ownBlock=some b\/w.heap.size<=b):bZ bo vo w (w'.setCell ⟨b,j,none⟩ u):=by refine ⟨by have:=h.1;simpa [Yl] using this,h.2.1,h.2.2.1,h.2.2.2.1,fun c hc hne yN=>?_⟩;rw [X6 w' ⟨b,j,none⟩ u c (by show c≠b;rintro rfl;rcases hb with hb | hb | hb;exact hne hb;exact yN hb;omega)];exact h.2.2.2.2 c hc hne yN
theorem bZ.ten {bo:Nat} {vo:YL} {w w':YJ} (h:bZ bo vo w w') (b o:Nat) (hb:b=bo\/vo.ownBlock=some b\/w.heap.size<=b) (c0 c1 c2 c3 c4 c5 c6 c7 c8 c9:YL):bZ bo vo w (ten w' b o c0 c1 c2 c3 c4 c5 c6 c7 c8 c9):=
 ((((((((((h.set b _ _ hb).set b _ _ hb).set b _ _ hb).set b _ _ hb).set b _ _ hb).set b _ _ hb).set b _ _ hb).set b _ _ hb).set b _ _ hb).set b _ _ hb)
theorem bZ.app {bo:Nat} {vo:YL} {w w5:YJ} {o:Obj} (hg:(w.alloc o).drew.grownBy w5 vo.ownBlock):bZ bo vo w w5:=by refine ⟨XV (by show _<=(w.alloc o).heap.size;rw [Ya];omega) hg.size,hg.os,hg.tape,hg.output,fun c hc hne yN=>?_⟩;rw [hg.block c (by show c<(w.alloc o).heap.size;rw [Ya];omega) (fun e=>yN e.symm)];exact X7 w o c hc
theorem sO {w:YJ} {bo:Nat} {v u:YL} {t:TypeId} (h:w.heap[bo]?=some (.cells #[v] t (0,0))):(w.setCell ⟨bo,0,none⟩ u).heap[bo]?=some (.cells #[u] t (0,0)):=by simp [Yl,Array.getElem?_modify,h]
theorem GD {w4 w5:YJ} {B bo n k:Nat} {e t:TypeId} {ys:List YL} {o:Obj} {v vx:YL} (hbx:w4.heap[bo]?=some (.cells #[vx] t (0,0))) (hg0:(w4.alloc o).drew.grownBy w5 v.ownBlock) (hv:w4.ownsRow B e k v n ys) (tF:bo<B) (hs:B<=w4.heap.size):w5.heap[bo]?=some (.cells #[vx] t (0,0)):=by rw [hg0.block bo (by show bo<(w4.alloc o).heap.size;rw [Ya];omega) (fun e=>by have:=(hv.lt bo e.symm).1;omega)];exact (X7 w4 o bo (by omega)).trans hbx
theorem Eu {B0 B bo bi p m g cap co:Nat} {ao:Option Addr} {acc:List ah} {rows:List (List YL)} {wr w4 w5:YJ} {x:ah} {o:Obj} {zs:List YL} {c0 c1 c2 c3 c4 c5 c6 c7 c8 c9:YL} (h:IS B0 B bo bi p (.slice ao m co) acc rows [c0,c1,c2,c3,c4,c5,c6,c7,c8,c9] wr w4) (hm:m=acc.length) (tF:bo<B) (qm:bi<B) (hoi:bo≠bi) (Bq:B0<=bo) (Fq:B<=p) (hvp:∀ g,(Value.slice ao m co).ownBlock=some g->g<p) (hx:Rd (fun b=>b<B0\/p<b) w4 x.d [c0,c1,c2,c3,c4,c5,c6,c7,c8,c9]) (hown:w5.ownsRow B 52 10 (.slice (some ⟨g,0,none⟩) (m+1) cap) (m+1) (rows.flatten++zs)) (hz:zs.length=10) (hrl:rows.flatten.length=m*10) (hg:(w4.alloc o).drew.grownBy w5 (Value.slice ao m co).ownBlock) (hat:(Value.slice ao m co).ownBlock=some g\/w4.heap.size<=g) : eX B0 B bo bi (.slice ao m co) w4 (acc++[x]) ((ten w5 g (m*10) c0 c1 c2 c3 c4 c5 c6 c7 c8 c9).setCell ⟨bo,0,none⟩ (.slice (some ⟨g,0,none⟩) (m+1) cap)) /\ eX B0 B bo bi (.slice ao m co) w4 (acc++[x]) (ten (w5.setCell ⟨bo,0,none⟩ (.slice (some ⟨g,0,none⟩) (m+1) cap)) g (m*10) c0 c1 c2 c3 c4 c5 c6 c7 c8 c9):=by
 have hgb:bo≠g:=by have:=(hown.lt g rfl).1;omega
 have Ov:w5.heap[bo]?=some (.cells #[.slice ao m co] 45 (0,0)):=GD h.ol.bx hg h.ol.own tF h.ol.Iy;have hne:(Value.slice (some ⟨g,0,none⟩) (m+1) cap).ownBlock≠some bo:=by
  intro e;have e':g=bo:=by simpa [Value.ownBlock] using e
  exact hgb e'.symm
 have hk:bZ bo (.slice ao m co) w4 w5:=bZ.app hg;constructor
 ·refine zR h hm tF qm hoi Bq Fq hvp hx rfl (sP (zS hown hrl hz c0 c1 c2 c3 c4 c5 c6 c7 c8 c9) ⟨bo,0,none⟩ _ hne) ?_ ((hk.ten g _ (.inr hat) c0 c1 c2 c3 c4 c5 c6 c7 c8 c9).set bo 0 _ (.inl rfl)) hat;exact sO ((vV w5 g _ c0 c1 c2 c3 c4 c5 c6 c7 c8 c9 bo hgb).trans Ov)
 ·refine zR h hm tF qm hoi Bq Fq hvp hx rfl (zS (sP hown ⟨bo,0,none⟩ _ hne) hrl hz c0 c1 c2 c3 c4 c5 c6 c7 c8 c9) ?_ ((hk.set bo 0 _ (.inl rfl)).ten g _ (.inr hat) c0 c1 c2 c3 c4 c5 c6 c7 c8 c9) hat;exact (vV _ g _ c0 c1 c2 c3 c4 c5 c6 c7 c8 c9 bo hgb).trans (sO Ov)
theorem ah.sN (l:List ah) (k:Nat) (x:ah) (h:l[k]?=some x):ah.aV (l.take k)+x.sz<=ah.aV l:=by
 have e:ah.aD l=ah.aD (l.take (k+1))++ah.aD (l.drop (k+1)):=by rw [<- ah.ji,List.take_append_drop]
 have e2:=congrArg List.length e;rw [ah.o8 l k x h] at e2;simp only [XZ,ah.gG,ah.vU] at e2;omega
theorem eX.trans {B0 B bo bi:Nat} {vo yO:YL} {w w1:YJ} {wr:YJ} {out:List ah} (hk:bZ bo vo w w1) (hor:yO.ownBlock=vo.ownBlock\/∃ g,w.heap.size<=g/\yO.ownBlock=some g) (h2:eX B0 B bo bi yO w1 out wr):eX B0 B bo bi vo w out wr:=by
 obtain ⟨Ru,iL,hol,hk2,hor2⟩:=h2;refine ⟨Ru,iL,hol,⟨XV hk.1 hk2.1,hk2.2.1.trans hk.2.1,hk2.2.2.1.trans hk.2.2.1,hk2.2.2.2.1.trans hk.2.2.2.1,fun b hb hne yN=>?_⟩,?_⟩
 ·refine (hk2.2.2.2.2 b (Nat.lt_of_lt_of_le hb hk.1) hne ?_).trans (hk.2.2.2.2 b hb hne yN);rcases hor with e | ⟨g,hg,e⟩
  ·rw [e];exact yN
  ·rw [e];intro h;have:=X5 h;omega
 ·rcases hor2 with e | ⟨g,hg,e⟩
  ·rw [e];exact hor
  ·exact .inr ⟨g,XV hk.1 hg,e⟩
theorem OL.drew {B0 B bo bi p:Nat} {vo:YL} {acc:List ah} {rows:List (List YL)} {wr:YJ} (h:OL B0 B bo bi p vo acc rows wr):OL B0 B bo bi p vo acc rows wr.drew:=h.grown (jI ⟨rfl,rfl,rfl,XU _,fun _ _ _=>rfl⟩)
theorem bZ.drew {bo:Nat} {vo:YL} {w w':YJ} (h:bZ bo vo w w'):bZ bo vo w w'.drew:=⟨h.1,h.2.1,h.2.2.1,h.2.2.2.1,h.2.2.2.2⟩
end Go.Proofs.YtnmldmofggkoeaaGreatDoor

