/- Contracts of slices.Clone at the three types, and of tree.copyAttr. The contract of tree.copyAttr. tree.Inlines$1: what is collected, and the words for its walk. -/
import Derived.Test.YtclikfjalmcoaaaGreatDoorKCtC
set_option maxHeartbeats 4000000
set_option maxRecDepth 100000
open Go.Lib (hid)
namespace Go.Proofs.YtclikfjalmcoaaaGreatDoor
open Go.RowKit.Below renaming refl->je7,heap_setCell->jf1,heap_alloc->jf2
open Nat renaming le_refl->je8,le_trans->je9
open List renaming length_map->jex
open Option.some renaming inj->jf0
open Go.World renaming size_alloc->jf5,setCell->jg1
open Go renaming World->jh9,Value->jhk
open Go.RowKit
set_option linter.unusedVariables false
set_option linter.unusedSimpArgs false
theorem ng {w:jh9} {B k n:Nat} {xs:List jhk} (h:Reads w B k none n xs):n=0:=by
 rcases Nat.eq_zero_or_pos n with h0 | h0
 ·exact h0
 ·obtain ⟨_,e,_⟩:=h.2 h0;cases e
theorem KI {ok:Nat->Prop} {w:jh9} {l:List ByteArray} {rows:List (List jhk)} (h:aO ok w (l.map D.str) rows):∀ u∈rows.flatten,u.oneCell'=true:=by intro u hu;rw [aO.lV _ _ h,lY] at hu;obtain ⟨s,_,rfl⟩:=List.mem_map.1 hu;rfl
theorem uM {ok:Nat->Prop} {w:jh9}:∀ {l:List D} {rows:List (List jhk)},aO ok w l rows->(∀ d∈l,∀ r,Rd ok w d r->∀ u∈r,u.oneCell'=true)->∀ u∈rows.flatten,u.oneCell'=true
 | [],_,h,_=>by rw [h.dB];simp
 | d::ds,_,h,hk=>by
  obtain ⟨r,rs,rfl,h1,h2⟩:=h.aH;intro u hu;rw [List.flatten_cons] at hu;rcases List.mem_append.1 hu with hu | hu
  ·exact hk d (by simp) r h1 u hu
  ·exact uM h2 (fun d' hd'=>hk d' (by simp [hd'])) u hu
theorem ND {ok:Nat->Prop} {w:jh9} {l:List Pr} {rows:List (List jhk)} (h:aO ok w (l.map Pr.d) rows):∀ u∈rows.flatten,u.oneCell'=true:=
 uM h fun d hd r hr u hu=>by
  obtain ⟨p,_,rfl⟩:=List.mem_map.1 hd;rw [Pr.open_ hr] at hu;simp at hu;rcases hu with rfl | rfl<;>rfl
theorem NG {ok:Nat->Prop} {w:jh9} {l:List Ci} {rows:List (List jhk)} (h:aO ok w (l.map Ci.d) rows):∀ u∈rows.flatten,u.oneCell'=true:=
 uM h fun d hd r hr u hu=>by
  obtain ⟨p,_,rfl⟩:=List.mem_map.1 hd;rw [Ci.open_ hr] at hu;simp at hu;rcases hu with rfl | rfl | rfl | rfl<;>rfl
def Eo (w:jh9) (d:D) (e:Ending) (w':jh9):Prop:=∃ v,e=.returned v/\Rd (w.heap.size<=·) w' d [v]/\Below w.heap.size w w'
theorem nu (w:jh9) (e:TypeId) (k:Nat):(w.alloc (.cells #[] e)).ownsRow w.heap.size e k (.slice (some ⟨w.heap.size,0,none⟩) 0 0) 0 []:=
 ⟨by simp,.inr ⟨w.heap.size,0,#[],rfl,je8 _,heap_alloc_new w _,je8 _,Nat.zero_le _,by simp,by simp⟩⟩
theorem uJ (l:List ByteArray) (B:Nat) (v:jhk) (w:jh9) (h:Rd (·<B) w (jk l) [v]) (hB:B<=w.heap.size) (hl:l.length<=1000000) : Calls Tryz.prog 95 #[v] w (Eo w (jk l)):=by
 obtain ⟨i0,hi,hz0,hz1,hz2⟩:=info_parts AZ;obtain ⟨A,cap,rows,rfl,h1,h2,h3,h4,h5⟩:=Rd.reads h;rw [jex] at h1 h5;have e:(l.map D.str).length=l.length:=jex _;rw [e];unfold maxLen at h2;have H3:=hid h3;have H4:=hid h4;have H5:=hid (h5.more hB);have H1:=hid (KI h3);clear h h3 h4 h5 e;cases A with
 | none=>
  have h0:l=[]:=List.length_eq_zero_iff.1 (ng H5.out);subst h0;have hq:=fun (w:jh9) (a:Option Addr) (n c:Nat)=>Lib.run_eql_slice_nil (P:=Tryz.prog) w _ _ a n c 0 0 Tryz.underlying24
  go_enter Tryz.func95,Tryz.ntmps95;go_wp2;go_ret;exact ⟨_,rfl,Rd.aB _ _ _,je7 _ _⟩
 | some ad=>
  have hq:=fun (w:jh9) (a:Option Addr) (n c:Nat)=>Lib.run_eql_slice_nil (P:=Tryz.prog) w _ _ a n c 0 0 Tryz.underlying24
  go_enter Tryz.func95,Tryz.ntmps95;go_wp2_with (at_builtin;refine Mi _ rfl (.tmp 5) (.tmp 6) 24 rfl w.heap.size 9 i0 _ 1 16 Tryz.underlying24 hi hz0 hz1 hz2 rfl (by decide) (.slice (some ⟨w.heap.size,0,none⟩) 0 0) 0 [] rfl (nu w _ _) w.heap.size (some ad) l.length cap rows.flatten rfl (H5.out.below ((je7 _ w).alloc (je8 _) _)) H1.out ?a1 ?a2 ?a3 ?_)
  case a1=>unfold maxLen;omega
  case a2=>omega
  case a3=>simp
  intro v' w1 hown hg _
  (try simp only [Nat.zero_add,List.nil_append] at hown)
  have b1:Below w.heap.size w w1:=((je7 _ w).alloc (je8 _) _).grown hg (by simp) (fun j hj=>by have e:w.heap.size=j:=jf0 hj;omega);have HO:=hid hown;clear hown hg;go_wp2;go_ret;refine ⟨_,rfl,Rd.ig (rows:=rows) (B:=w.heap.size) (e:=9) ?_ (aO.Jt H3.out) H4.out (fun g hg=>(HO.out.lt g hg).1),b1⟩;rw [jex];exact HO.out
theorem En (l:List Ci) (B:Nat) (v:jhk) (w:jh9) (h:Rd (·<B) w (Jh l) [v]) (hB:B<=w.heap.size) (hl:l.length<=1000000) : Calls Tryz.prog 96 #[v] w (Eo w (Jh l)):=by
 obtain ⟨i0,hi,hz0,hz1,hz2⟩:=info_parts QJ;obtain ⟨A,cap,rows,rfl,h1,h2,h3,h4,h5⟩:=Rd.reads h;rw [jex] at h1 h5;have e:(l.map Ci.d).length=l.length:=jex _;rw [e];unfold maxLen at h2;have H3:=hid h3;have H4:=hid h4;have H5:=hid (h5.more hB);have H1:=hid (NG h3);clear h h3 h4 h5 e;cases A with
 | none=>
  have h0:l=[]:=List.length_eq_zero_iff.1 (ng H5.out);subst h0;have hq:=fun (w:jh9) (a:Option Addr) (n c:Nat)=>Lib.run_eql_slice_nil (P:=Tryz.prog) w _ _ a n c 0 0 Tryz.underlying49
  go_enter Tryz.func96,Tryz.ntmps96;go_wp2;go_ret;exact ⟨_,rfl,Rd.aB _ _ _,je7 _ _⟩
 | some ad=>
  have hq:=fun (w:jh9) (a:Option Addr) (n c:Nat)=>Lib.run_eql_slice_nil (P:=Tryz.prog) w _ _ a n c 0 0 Tryz.underlying49
  go_enter Tryz.func96,Tryz.ntmps96;go_wp2_with (at_builtin;refine Mi _ rfl (.tmp 5) (.tmp 6) 49 rfl w.heap.size 125 i0 _ 4 56 Tryz.underlying49 hi hz0 hz1 hz2 rfl (by decide) (.slice (some ⟨w.heap.size,0,none⟩) 0 0) 0 [] rfl (nu w _ _) w.heap.size (some ad) l.length cap rows.flatten rfl (H5.out.below ((je7 _ w).alloc (je8 _) _)) H1.out ?a1 ?a2 ?a3 ?_)
  case a1=>unfold maxLen;omega
  case a2=>omega
  case a3=>simp
  intro v' w1 hown hg _
  (try simp only [Nat.zero_add,List.nil_append] at hown)
  have b1:Below w.heap.size w w1:=((je7 _ w).alloc (je8 _) _).grown hg (by simp) (fun j hj=>by have e:w.heap.size=j:=jf0 hj;omega);have HO:=hid hown;clear hown hg;go_wp2;go_ret;refine ⟨_,rfl,Rd.ig (rows:=rows) (B:=w.heap.size) (e:=125) ?_ (aO.FI H3.out) H4.out (fun g hg=>(HO.out.lt g hg).1),b1⟩;rw [jex];exact HO.out
theorem Ep (l:List Pr) (B:Nat) (v:jhk) (w:jh9) (h:Rd (·<B) w (bS l) [v]) (hB:B<=w.heap.size) (hl:l.length<=1000000) : Calls Tryz.prog 149 #[v] w (Eo w (bS l)):=by
 obtain ⟨i0,hi,hz0,hz1,hz2⟩:=info_parts pX;obtain ⟨A,cap,rows,rfl,h1,h2,h3,h4,h5⟩:=Rd.reads h;rw [jex] at h1 h5;have e:(l.map Pr.d).length=l.length:=jex _;rw [e];unfold maxLen at h2;have H3:=hid h3;have H4:=hid h4;have H5:=hid (h5.more hB);have H1:=hid (ND h3);clear h h3 h4 h5 e;cases A with
 | none=>
  have h0:l=[]:=List.length_eq_zero_iff.1 (ng H5.out);subst h0;have hq:=fun (w:jh9) (a:Option Addr) (n c:Nat)=>Lib.run_eql_slice_nil (P:=Tryz.prog) w _ _ a n c 0 0 Tryz.underlying25
  go_enter Tryz.func149,Tryz.ntmps149;go_wp2;go_ret;exact ⟨_,rfl,Rd.aB _ _ _,je7 _ _⟩
 | some ad=>
  have hq:=fun (w:jh9) (a:Option Addr) (n c:Nat)=>Lib.run_eql_slice_nil (P:=Tryz.prog) w _ _ a n c 0 0 Tryz.underlying25
  go_enter Tryz.func149,Tryz.ntmps149;go_wp2_with (at_builtin;refine Mi _ rfl (.tmp 5) (.tmp 6) 25 rfl w.heap.size 74 i0 _ 2 32 Tryz.underlying25 hi hz0 hz1 hz2 rfl (by decide) (.slice (some ⟨w.heap.size,0,none⟩) 0 0) 0 [] rfl (nu w _ _) w.heap.size (some ad) l.length cap rows.flatten rfl (H5.out.below ((je7 _ w).alloc (je8 _) _)) H1.out ?a1 ?a2 ?a3 ?_)
  case a1=>unfold maxLen;omega
  case a2=>omega
  case a3=>simp
  intro v' w1 hown hg _
  (try simp only [Nat.zero_add,List.nil_append] at hown)
  have b1:Below w.heap.size w w1:=((je7 _ w).alloc (je8 _) _).grown hg (by simp) (fun j hj=>by have e:w.heap.size=j:=jf0 hj;omega);have HO:=hid hown;clear hown hg;go_wp2;go_ret;refine ⟨_,rfl,Rd.ig (rows:=rows) (B:=w.heap.size) (e:=74) ?_ (aO.FH H3.out) H4.out (fun g hg=>(HO.out.lt g hg).1),b1⟩;rw [jex];exact HO.out
open Go.RowKit
def AB (p:Nat) (cs:List jhk) (w:jh9):Prop:=w.heap[p]?=some (.cells cs.toArray 27 (0,0))
section
variable {p:Nat} {cs:List jhk} {w w':jh9}
theorem AB.cell (h:AB p cs w) (j:Nat) (u:jhk) (hu:cs[j]?=some u):w.cell? ⟨p,j,none⟩=some u:=by unfold AB at h;simp [World.cell?,h,hu]
theorem AB.free (h:AB p cs w) (j:Nat):w.frozen? ⟨p,j,none⟩=false:=by unfold AB at h;simp [World.frozen?,h]
theorem AB.set (h:AB p cs w) (j:Nat) (u:jhk):AB p (cs.set j u) (w.setCell ⟨p,j,none⟩ u):=by unfold AB at h ⊢;simp [jg1,Array.getElem?_modify,h]
theorem AB.far (h:AB p cs w) {q:Nat} (hq:p≠q) (j:Nat) (u:jhk):AB p cs (w.setCell ⟨q,j,none⟩ u):=(jf1 w ⟨q,j,none⟩ u p hq).trans h
theorem AB.lt (h:AB p cs w):p<w.heap.size:=by unfold AB at h;exact (Array.getElem?_eq_some_iff.1 h).1
theorem AB.grown (h:AB p cs w) (hg:w.grownBy w' none):AB p cs w':=(hg.block p h.lt (by simp)).trans h
end
theorem wF (at_:At) (vc vp:jhk) (B:Nat) (w:jh9) (h:AtR (·<B) w at_ vc vp) (hB:B<=w.heap.size) (hc:at_.cls.length<=1000000) (hp:at_.aP.length<=1000000) : Calls Tryz.prog 94 #[.agg #[.string at_.id,vc,vp]] w fun e w'=>∃ MB MC,e=.returned (.agg #[.string at_.id,MB,MC])/\AtR (w.heap.size<=·) w' at_ MB MC/\Below w.heap.size w w':=by
 obtain ⟨ac,nc,cc,rfl⟩:=Rd.au h.cls;obtain ⟨ap,np,cp,rfl⟩:=Rd.au h.aP;have HA:=hid h;clear h;go_enter Tryz.func94,Tryz.ntmps94;go_upto_region 1 with (fail)
 obtain ⟨w0,hw0⟩:∃ w0,w0=(w.alloc (.cells #[.string at_.id,.slice ac nc cc,.slice ap np cp] 27)).alloc (.cells #[.string ⟨#[]⟩,.slice none 0 0,.slice none 0 0] 27):=⟨_,rfl⟩;have P0:AB w.heap.size [.string at_.id,.slice ac nc cc,.slice ap np cp] w0:=by rw [hw0];exact (jf2 _ _ _ (by simp)).trans (heap_alloc_new w _)
 have Q0:AB (w.heap.size+1) [.string ⟨#[]⟩,.slice none 0 0,.slice none 0 0] w0:=by rw [hw0];have:=heap_alloc_new (w.alloc (.cells #[.string at_.id,.slice ac nc cc,.slice ap np cp] 27)) (.cells #[.string ⟨#[]⟩,.slice none 0 0,.slice none 0 0] 27);rw [jf5] at this;exact this
 have b0:Below w.heap.size w w0:=by rw [hw0];exact ((je7 _ w).alloc (je8 _) _).alloc (by simp) _
 have hs0:w.heap.size+2<=w0.heap.size:=by rw [hw0];simp
 rw [<- hw0];clear hw0;have CS:=hid (uJ at_.cls B _ w0 (HA.out.cls.below (b0.mono hB)) (je9 hB b0.size) hc);have d1:=P0.cell 1 _ rfl;have HP0:=hid P0;have HQ0:=hid Q0;clear P0 Q0;go_wp2_with fail
 refine CS.out.mono ?_;rintro e w1 ⟨v1,rfl,hr1,b1⟩;obtain ⟨a1,n1,c1,rfl⟩:=Rd.au hr1;have P1:=HP0.out.grown (I5 b1);have Q1:=HQ0.out.grown (I5 b1);have HP1:=hid P1;have Yj:=hid Q1;have HR1:=hid (hr1.weaken (ok':=((w.heap.size+1)<·)) (fun b hb=>by omega));have hb1:=aU b0 b1;have hs1:w.heap.size+2<=w1.heap.size:=je9 hs0 b1.size;have d1:=P1.cell 1 _ rfl;have f1:=P1.free 1;clear P1 Q1 HP0 HQ0 CS hr1 b0 b1 hs0;go_upto_region 2 with (fail)
 obtain ⟨w2,hw2⟩:∃ w2,w2=w1.setCell ⟨w.heap.size,1,none⟩ (.slice a1 n1 c1):=⟨_,rfl⟩;have P2:AB w.heap.size [.string at_.id,.slice a1 n1 c1,.slice ap np cp] w2:=by rw [hw2];exact HP1.out.set 1 _
 have Q2:AB (w.heap.size+1) [.string ⟨#[]⟩,.slice none 0 0,.slice none 0 0] w2:=by rw [hw2];exact Yj.out.far (by omega) 1 _
 have R2:Hid (Rd ((w.heap.size+1)<·) w2 (jk at_.cls) [.slice a1 n1 c1]):=by show Rd _ _ _ _;rw [hw2];exact Rd.keep (fun b hb hlt=>⟨hb,jf1 w1 ⟨w.heap.size,1,none⟩ _ b (by show b≠w.heap.size;omega)⟩) _ _ HR1.out
 have b2:Below w.heap.size w w2:=by rw [hw2];exact hb1.setCell (p:=⟨w.heap.size,1,none⟩) (je8 _) _
 have hs2:w.heap.size+2<=w2.heap.size:=by rw [hw2];simpa [jg1] using hs1
 rw [<- hw2];clear hw2 HP1 Yj HR1 hb1 hs1 d1 f1;have CP:=hid (Ep at_.aP B _ w2 (HA.out.aP.below (b2.mono hB)) (je9 hB b2.size) hp);have d2:=P2.cell 2 _ rfl;have Ve:=hid P2;have TP:=hid Q2;clear P2 Q2;go_wp2_with fail
 refine CP.out.mono ?_;rintro e w3 ⟨v3,rfl,hr3,b3⟩;obtain ⟨a3,n3,c3,rfl⟩:=Rd.au hr3;have P3:=Ve.out.grown (I5 b3);have Q3:=TP.out.grown (I5 b3);have Rt:=hid (P3.set 2 (.slice a3 n3 c3));have Mv:=hid (Q3.far (q:=w.heap.size) (by omega) 2 (.slice a3 n3 c3));have HR3:=hid (hr3.weaken (ok':=((w.heap.size+1)<·)) (fun b hb=>by omega));have HS3:=hid (Rd.keep (ok':=((w.heap.size+1)<·)) (fun b hb hlt=>⟨hb,b3.block b hlt⟩) _ _ R2.out);have hb3:=aU b2 b3;have d2:=P3.cell 2 _ rfl;have f2:=P3.free 2;clear P3 Q3 Ve TP CP hr3 b2 b3 R2 hs2;go_upto_region 3 with (fail)
 obtain ⟨w4,hw4⟩:∃ w4,w4=w3.setCell ⟨w.heap.size,2,none⟩ (.slice a3 n3 c3):=⟨_,rfl⟩;rw [<- hw4] at Rt Mv;have K4:∀ b,w.heap.size+1<b->b<w3.heap.size->w4.heap[b]?=w3.heap[b]?:=fun b hb _=>by rw [hw4];exact jf1 w3 ⟨w.heap.size,2,none⟩ _ b (by show b≠w.heap.size;omega)
 have R4:=hid (Rd.keep (w':=w4) (ok':=((w.heap.size+1)<·)) (fun b hb hlt=>⟨hb,K4 b hb hlt⟩) _ _ HR3.out);have S4:=hid (Rd.keep (w':=w4) (ok':=((w.heap.size+1)<·)) (fun b hb hlt=>⟨hb,K4 b hb hlt⟩) _ _ HS3.out);have b4:Below w.heap.size w w4:=by rw [hw4];exact hb3.setCell (p:=⟨w.heap.size,2,none⟩) (je8 _) _
 rw [<- hw4];clear hw4 K4 HR3 HS3 hb3 d2 f2;have q0:=Rt.out.cell 0 _ rfl;have q1:=Rt.out.cell 1 _ rfl;have q2:=Rt.out.cell 2 _ rfl;have r0:=Mv.out.cell 0 _ rfl;have r1:=Mv.out.cell 1 _ rfl;have r2:=Mv.out.cell 2 _ rfl;have g0:=Mv.out.free 0;have g1:=Mv.out.free 1;have g2:=Mv.out.free 2;have FB:=hid (fun u0 u1 u2=>((b4.setCell (p:=⟨w.heap.size+1,0,none⟩) (by simp) u0).setCell (p:=⟨w.heap.size+1,1,none⟩) (by simp) u1).setCell (p:=⟨w.heap.size+1,2,none⟩) (by simp) u2);have AV:∀ (d:D) (cs:List jhk),Rd ((w.heap.size+1)<·) w4 d cs->∀ u0 u1 u2,Rd (w.heap.size<=·) (((w4.setCell ⟨w.heap.size+1,0,none⟩ u0).setCell ⟨w.heap.size+1,1,none⟩ u1).setCell ⟨w.heap.size+1,2,none⟩ u2) d cs:=fun d cs hd u0 u1 u2=>
  (((hd.above (eD.set 0 u0)).above (eD.set 1 u1)).above (eD.set 2 u2)).weaken (fun b hb=>by omega)
 have HAV:=hid AV;clear AV b4;go_wp2;exact bodyPost_ret (v:=.agg #[.string at_.id,.slice a1 n1 c1,.slice a3 n3 c3]) (by simp [results,Tryz.results94,go_sem,r0,r1,r2]) rfl ⟨_,_,rfl,⟨HAV.out _ _ S4.out _ _ _,HAV.out _ _ R4.out _ _ _⟩,FB.out _ _ _⟩
open Go.RowKit
mutual
def aj.deep:aj->List aj
 | .mk k t d ti a ar ci ks=>.mk k t d ti a ar ci ks::aj.aX ks
def aj.aX:List aj->List aj
 | []=>[]
 | x::l=>x.deep++aj.aX l
end
theorem aj.xI (l m:List aj):aj.aX (l++m)=aj.aX l++aj.aX m:=by
 induction l with
 | nil=>rw [aj.aX];rfl
 | cons x l ih=>rw [List.cons_append,aj.aX,aj.aX,ih,List.append_assoc]
theorem aj.uK (l:List aj) (k:Nat) (x:aj) (h:l[k]?=some x):aj.aX (l.take (k+1))=aj.aX (l.take k)++x.deep:=by rw [List.take_add_one,h,aj.xI];simp [aj.aX]
mutual
theorem aj.Cb:∀ (x:aj),x.deep.length=x.sz
 | .mk _ _ _ _ _ _ _ ks=>by rw [aj.deep,aj.sz,List.length_cons,aj.dI ks];omega
theorem aj.dI:∀ (l:List aj),(aj.aX l).length=aj.aS l
 | []=>by rw [aj.aX,aj.aS];rfl
 | x::l=>by rw [aj.aX,aj.aS,List.length_append,aj.Cb x,aj.dI l]
end
def Mx (bo bi:Nat):jhk:=.func (.func 93) #[] #[.pointer (some ⟨bo,0,none⟩),.pointer (some ⟨bi,0,none⟩)]
def okO (B0 B:Nat) (vo:jhk) (p:Nat) (b:Nat):Prop:=b<B0\/(B<=b/\vo.ownBlock≠some b/\b≠p)
structure OL (B0 B bo bi p:Nat) (vo:jhk) (acc:List aj) (rows:List (List jhk)) (wr:jh9):Prop where
 bx:wr.heap[bo]?=some (.cells #[vo] 22 (0,0))
 fn:wr.heap[bi]?=some (.cells #[Mx bo bi] 120 (0,0))
 own:wr.ownsRow B 51 10 vo acc.length rows.flatten
 red:aO (okO B0 B vo p) wr (acc.map aj.d) rows
 len:∀ r∈rows,r.length=10
 PE:B<=wr.heap.size
section
variable {B0 B bo bi p:Nat} {vo:jhk} {acc:List aj} {rows:List (List jhk)} {wr w':jh9}
theorem OL.grown (h:OL B0 B bo bi p vo acc rows wr) (hg:wr.grownBy w' none):OL B0 B bo bi p vo acc rows w':=
 ⟨(hg.block bo (Array.getElem?_eq_some_iff.1 h.bx).1 (by simp)).trans h.bx,(hg.block bi (Array.getElem?_eq_some_iff.1 h.fn).1 (by simp)).trans h.fn,h.own.kept hg (by cases vo.ownBlock<;>simp),aO.keep (fun b hb hlt=>⟨hb,hg.block b hlt (by simp)⟩) _ _ h.red,h.len,je9 h.PE hg.size⟩
theorem OL.set (h:OL B0 B bo bi p vo acc rows wr) (ho:bo<B) (hi:bi<B) (h0:B0<=B) (hp:B<=p) (hv:vo.ownBlock≠some p) (j:Nat) (u:jhk):OL B0 B bo bi p vo acc rows (wr.setCell ⟨p,j,none⟩ u):=
 ⟨(jf1 wr ⟨p,j,none⟩ u bo (by show bo≠p;omega)).trans h.bx,(jf1 wr ⟨p,j,none⟩ u bi (by show bi≠p;omega)).trans h.fn,yF h.own ⟨p,j,none⟩ u hv,
  aO.keep (fun b hb hlt=>⟨hb,jf1 wr ⟨p,j,none⟩ u b (by show b≠p;rcases hb with hb | hb;omega;exact hb.2.2)⟩) _ _ h.red,h.len,by have:=h.PE;simpa [jg1] using this⟩
end
def eF (bo:Nat) (vo:jhk) (w w':jh9):Prop:=w.heap.size<=w'.heap.size/\w'.os=w.os/\w'.tape=w.tape/\w'.output=w.output/\∀ b,b<w.heap.size->b≠bo->vo.ownBlock≠some b->w'.heap[b]?=w.heap[b]?
theorem eF.below {bo B0 B:Nat} {vo:jhk} {w w':jh9} (h:eF bo vo w w') (h0:B0<=bo) (h1:bo<w.heap.size) (hv:∀ g,vo.ownBlock=some g->B<=g) (hB:B0<=B):Below B0 w w':=
 ⟨h.2.1,h.2.2.1,h.2.2.2.1,h.1,fun b hb=>h.2.2.2.2 b (by omega) (by omega) (fun e=>by have:=hv b e;omega)⟩
def iW (B0 B bo bi:Nat) (vo:jhk) (w:jh9) (out:List aj) (wr:jh9):Prop:=
 ∃ ZW rows',OL B0 B bo bi bo ZW out rows' wr/\eF bo vo w wr/\(ZW.ownBlock=vo.ownBlock\/∃ g,w.heap.size<=g/\ZW.ownBlock=some g)
def PD (B0 B bo bi:Nat) (vo:jhk) (w:jh9) (acc l:List aj) (vi:jhk) (wr:jh9):Prop:=
 ∃ k:Nat,k<=l.length/\vi=.int .i64 k/\iW B0 B bo bi vo w (acc++aj.aX (l.take k)) wr
structure IS (B0 B bo bi p:Nat) (vo:jhk) (acc:List aj) (rows:List (List jhk)) (cs:List jhk) (wr wx:jh9):Prop where
 ol:OL B0 B bo bi p vo acc rows wx
 pb:PB p cs wx
 bl:Below p wr wx
section
variable {B0 B bo bi p:Nat} {vo:jhk} {acc:List aj} {rows:List (List jhk)} {cs:List jhk} {wr wx w':jh9}
theorem IS.grown (h:IS B0 B bo bi p vo acc rows cs wr wx) (hg:wx.grownBy w' none):IS B0 B bo bi p vo acc rows cs wr w':=
 ⟨h.ol.grown hg,h.pb.grown hg,h.bl.grown hg (by have:=h.pb.lt;omega) (by simp)⟩
theorem IS.set (h:IS B0 B bo bi p vo acc rows cs wr wx) (ho:bo<B) (hi:bi<B) (h0:B0<=B) (hp:B<=p) (hv:vo.ownBlock≠some p) (j:Nat) (u:jhk):IS B0 B bo bi p vo acc rows (cs.set j u) wr (wx.setCell ⟨p,j,none⟩ u):=
 ⟨h.ol.set ho hi h0 hp hv j u,h.pb.set j u,h.bl.setCell (p:=⟨p,j,none⟩) (je8 _) u⟩
end
theorem gD {w:jh9} {B g m cap:Nat} {e:TypeId} {xs zs:List jhk} (h:w.ownsRow B e 10 (.slice (some ⟨g,0,none⟩) (m+1) cap) (m+1) (xs++zs)) (hx:xs.length=m*10) (j:Nat) (u:jhk) (hu:zs[j]?=some u) (hj:j<10):w.cell? ⟨g,m*10+j,none⟩=some u:=by rw [h.cellAt (m*10+j) (by omega),List.getElem?_append_right (by omega),hx,<- hu];congr 1;omega
theorem NA {w:jh9} {B g m cap k:Nat} {e:TypeId} {xs:List jhk} (h:w.ownsRow B e k (.slice (some ⟨g,0,none⟩) (m+1) cap) (m+1) xs):m+1<=cap:=by
 rcases h.2 with ⟨h1,_⟩ | ⟨g',cap',cur,h1,_,_,h2,_⟩
 ·cases h1
 ·injection h1 with _ _ h3;omega
theorem R5 {w4 w5:jh9} {B bo g m n cap k:Nat} {e t:TypeId} {xs ys:List jhk} {o:Obj} {v vx:jhk} (hbx:w4.heap[bo]?=some (.cells #[vx] t (0,0))) (h:w5.ownsRow B e k (.slice (some ⟨g,0,none⟩) m cap) m xs) (hg0:(w4.alloc o).drew.grownBy w5 v.ownBlock) (hv:w4.ownsRow B e k v n ys) (Ad:bo<B) (hs:B<=w4.heap.size):w5.cell? ⟨bo,0,none⟩=some vx/\w5.frozen? ⟨bo,0,none⟩=false/\bo≠g:=by
 have h5:w5.heap[bo]?=some (.cells #[vx] t (0,0)):=by rw [hg0.block bo (by show bo<(w4.alloc o).heap.size;rw [jf5];omega) (fun e=>by have:=(hv.lt bo e.symm).1;omega)];exact (jf2 w4 o bo (by omega)).trans hbx
 refine ⟨by simp [World.cell?,h5],by simp [World.frozen?,h5],?_⟩;have:=(h.lt g rfl).1;omega
theorem VN {w4 w5:jh9} {p:Nat} {cs:List jhk} {o:Obj} {v:jhk} (h:PB p cs w4) (hg:(w4.alloc o).drew.grownBy w5 v.ownBlock) (hv:v.ownBlock≠some p):PB p cs w5:=by have hl:=h.lt;unfold PB at h ⊢;rw [hg.block p (by show p<(w4.alloc o).heap.size;rw [jf5];omega) (fun e=>hv e.symm)];exact (jf2 w4 o p hl).trans h
theorem ME {w:jh9} {B g m cap:Nat} {e:TypeId} {xs zs:List jhk} (h:w.ownsRow B e 10 (.slice (some ⟨g,0,none⟩) (m+1) cap) (m+1) (xs++zs)) (hx:xs.length=m*10) (j:Nat) (u:jhk) : (w.setCell ⟨g,m*10+j,none⟩ u).ownsRow B e 10 (.slice (some ⟨g,0,none⟩) (m+1) cap) (m+1) (xs++zs.set j u):=by have:=(h.stored (m*10+j) u).1;rw [List.set_append_right _ _ (by omega),hx,Nat.add_sub_cancel_left] at this;exact this
theorem Gd {B0 B bo bi p m g cap co:Nat} {ao:Option Addr} {acc:List aj} {rows:List (List jhk)} {cs:List jhk} {wr w4 w7:jh9} {x:aj} (h:IS B0 B bo bi p (.slice ao m co) acc rows cs wr w4) (hm:m=acc.length) (Ad:bo<B) (Ej:bi<B) (hoi:bo≠bi) (H9:B0<=bo) (Ab:B<=p) (hvp:∀ g,(Value.slice ao m co).ownBlock=some g->g<p) (hx:Rd (fun b=>b<B0\/p<b) w4 x.d cs) (hcs:cs.length=10) (hown:w7.ownsRow B 51 10 (.slice (some ⟨g,0,none⟩) (m+1) cap) (m+1) (rows.flatten++cs)) (hbx:w7.heap[bo]?=some (.cells #[.slice (some ⟨g,0,none⟩) (m+1) cap] 22 (0,0))) (hko:eF bo (.slice ao m co) w4 w7) (hat:(Value.slice ao m co).ownBlock=some g\/w4.heap.size<=g) : iW B0 B bo bi (.slice ao m co) w4 (acc++[x]) w7:=by
 have hs:=h.ol.PE;have hgv:∀ b,b<w4.heap.size->(Value.slice ao m co).ownBlock≠some b->(Value.slice (some ⟨g,0,none⟩) (m+1) cap).ownBlock≠some b:=by
  intro b hb hne e;have e':g=b:=by simpa [Value.ownBlock] using e
  subst e';rcases hat with h1 | h1
  ·exact hne h1
  ·omega
 have hne:∀ b,p<b->(Value.slice ao m co).ownBlock≠some b:=fun b hb e=>by have:=hvp b e;omega
 have hlo:∀ b,b<B->(Value.slice ao m co).ownBlock≠some b:=fun b hb e=>by have:=(h.ol.own.lt b e).1;omega
 refine ⟨_,rows++[cs],⟨hbx,?_,?_,?_,?_,je9 hs hko.1⟩,hko,?_⟩
 ·exact (hko.2.2.2.2 bi (by omega) (fun e=>hoi e.symm) (hlo bi Ej)).trans h.ol.fn
 ·rw [List.length_append,List.length_singleton,<- hm,List.flatten_append,List.flatten_singleton];exact hown
 ·rw [List.map_append];refine aO.app (aO.keep (fun b hb hlt=>?_) _ _ h.ol.red) (aO.one ?_)
  ·rcases hb with hb | hb
   ·exact ⟨.inl hb,hko.2.2.2.2 b hlt (by omega) (hlo b (by omega))⟩
   ·exact ⟨.inr ⟨hb.1,hgv b hlt hb.2.1,by omega⟩,hko.2.2.2.2 b hlt (by omega) hb.2.1⟩
  ·refine Rd.keep (fun b hb hlt=>?_) _ _ hx;rcases hb with hb | hb
   ·exact ⟨.inl hb,hko.2.2.2.2 b hlt (by omega) (hlo b (by omega))⟩
   ·exact ⟨.inr ⟨by omega,hgv b hlt (hne b hb),by omega⟩,hko.2.2.2.2 b hlt (by omega) (hne b hb)⟩
 ·intro r hr;rw [List.mem_append,List.mem_singleton] at hr;rcases hr with hr | rfl
  ·exact h.ol.len r hr
  ·exact hcs
 ·rcases hat with h1 | h1
  ·exact .inl (by rw [h1];rfl)
  ·exact .inr ⟨g,h1,rfl⟩
def ten (w:jh9) (g o:Nat) (c0 c1 c2 c3 c4 c5 c6 c7 c8 c9:jhk):jh9:=((((((((((w.setCell ⟨g,o,none⟩ c0).setCell ⟨g,o+1,none⟩ c1).setCell ⟨g,o+2,none⟩ c2).setCell ⟨g,o+3,none⟩ c3).setCell ⟨g,o+4,none⟩ c4).setCell ⟨g,o+5,none⟩ c5).setCell ⟨g,o+6,none⟩ c6).setCell ⟨g,o+7,none⟩ c7).setCell ⟨g,o+8,none⟩ c8).setCell ⟨g,o+9,none⟩ c9)
theorem Gf {w:jh9} {B g m cap:Nat} {e:TypeId} {xs zs:List jhk} (h:w.ownsRow B e 10 (.slice (some ⟨g,0,none⟩) (m+1) cap) (m+1) (xs++zs)) (hx:xs.length=m*10) (hz:zs.length=10) (c0 c1 c2 c3 c4 c5 c6 c7 c8 c9:jhk) : (ten w g (m*10) c0 c1 c2 c3 c4 c5 c6 c7 c8 c9).ownsRow B e 10 (.slice (some ⟨g,0,none⟩) (m+1) cap) (m+1) (xs++[c0,c1,c2,c3,c4,c5,c6,c7,c8,c9]):=by
 obtain ⟨z0,z1,z2,z3,z4,z5,z6,z7,z8,z9,rfl⟩:∃ z0 z1 z2 z3 z4 z5 z6 z7 z8 z9,zs=[z0,z1,z2,z3,z4,z5,z6,z7,z8,z9]:=by
  match zs,hz with
  | [z0,z1,z2,z3,z4,z5,z6,z7,z8,z9],_=>exact ⟨_,_,_,_,_,_,_,_,_,_,rfl⟩
 have h:=ME h hx 0 c0;have h:=ME h hx 1 c1;have h:=ME h hx 2 c2;have h:=ME h hx 3 c3;have h:=ME h hx 4 c4;have h:=ME h hx 5 c5;have h:=ME h hx 6 c6;have h:=ME h hx 7 c7;have h:=ME h hx 8 c8;have h:=ME h hx 9 c9;exact h
theorem Cc (w:jh9) (g o:Nat) (c0 c1 c2 c3 c4 c5 c6 c7 c8 c9:jhk) (b:Nat) (hb:b≠g):(ten w g o c0 c1 c2 c3 c4 c5 c6 c7 c8 c9).heap[b]?=w.heap[b]?:=by
 unfold ten
 iterate 10 rw [jf1 _ _ _ b hb]
theorem eF.set {bo:Nat} {vo:jhk} {w w':jh9} (h:eF bo vo w w') (b j:Nat) (u:jhk) (hb:b=bo\/vo.ownBlock=some b\/w.heap.size<=b):eF bo vo w (w'.setCell ⟨b,j,none⟩ u):=by refine ⟨by have:=h.1;simpa [jg1] using this,h.2.1,h.2.2.1,h.2.2.2.1,fun c hc hne El=>?_⟩;rw [jf1 w' ⟨b,j,none⟩ u c (by show c≠b;rintro rfl;rcases hb with hb | hb | hb;exact hne hb;exact El hb;omega)];exact h.2.2.2.2 c hc hne El
theorem eF.ten {bo:Nat} {vo:jhk} {w w':jh9} (h:eF bo vo w w') (b o:Nat) (hb:b=bo\/vo.ownBlock=some b\/w.heap.size<=b) (c0 c1 c2 c3 c4 c5 c6 c7 c8 c9:jhk):eF bo vo w (ten w' b o c0 c1 c2 c3 c4 c5 c6 c7 c8 c9):=
 ((((((((((h.set b _ _ hb).set b _ _ hb).set b _ _ hb).set b _ _ hb).set b _ _ hb).set b _ _ hb).set b _ _ hb).set b _ _ hb).set b _ _ hb).set b _ _ hb)
theorem eF.app {bo:Nat} {vo:jhk} {w w5:jh9} {o:Obj} (hg:(w.alloc o).drew.grownBy w5 vo.ownBlock):eF bo vo w w5:=by refine ⟨je9 (by show _<=(w.alloc o).heap.size;rw [jf5];omega) hg.size,hg.os,hg.tape,hg.output,fun c hc hne El=>?_⟩;rw [hg.block c (by show c<(w.alloc o).heap.size;rw [jf5];omega) (fun e=>El e.symm)];exact jf2 w o c hc
theorem zh {w:jh9} {bo:Nat} {v u:jhk} {t:TypeId} (h:w.heap[bo]?=some (.cells #[v] t (0,0))):(w.setCell ⟨bo,0,none⟩ u).heap[bo]?=some (.cells #[u] t (0,0)):=by simp [jg1,Array.getElem?_modify,h]
theorem NH {w4 w5:jh9} {B bo n k:Nat} {e t:TypeId} {ys:List jhk} {o:Obj} {v vx:jhk} (hbx:w4.heap[bo]?=some (.cells #[vx] t (0,0))) (hg0:(w4.alloc o).drew.grownBy w5 v.ownBlock) (hv:w4.ownsRow B e k v n ys) (Ad:bo<B) (hs:B<=w4.heap.size):w5.heap[bo]?=some (.cells #[vx] t (0,0)):=by rw [hg0.block bo (by show bo<(w4.alloc o).heap.size;rw [jf5];omega) (fun e=>by have:=(hv.lt bo e.symm).1;omega)];exact (jf2 w4 o bo (by omega)).trans hbx
theorem KF {B0 B bo bi p m g cap co:Nat} {ao:Option Addr} {acc:List aj} {rows:List (List jhk)} {wr w4 w5:jh9} {x:aj} {o:Obj} {zs:List jhk} {c0 c1 c2 c3 c4 c5 c6 c7 c8 c9:jhk} (h:IS B0 B bo bi p (.slice ao m co) acc rows [c0,c1,c2,c3,c4,c5,c6,c7,c8,c9] wr w4) (hm:m=acc.length) (Ad:bo<B) (Ej:bi<B) (hoi:bo≠bi) (H9:B0<=bo) (Ab:B<=p) (hvp:∀ g,(Value.slice ao m co).ownBlock=some g->g<p) (hx:Rd (fun b=>b<B0\/p<b) w4 x.d [c0,c1,c2,c3,c4,c5,c6,c7,c8,c9]) (hown:w5.ownsRow B 51 10 (.slice (some ⟨g,0,none⟩) (m+1) cap) (m+1) (rows.flatten++zs)) (hz:zs.length=10) (hrl:rows.flatten.length=m*10) (hg:(w4.alloc o).drew.grownBy w5 (Value.slice ao m co).ownBlock) (hat:(Value.slice ao m co).ownBlock=some g\/w4.heap.size<=g) : iW B0 B bo bi (.slice ao m co) w4 (acc++[x]) ((ten w5 g (m*10) c0 c1 c2 c3 c4 c5 c6 c7 c8 c9).setCell ⟨bo,0,none⟩ (.slice (some ⟨g,0,none⟩) (m+1) cap)) /\ iW B0 B bo bi (.slice ao m co) w4 (acc++[x]) (ten (w5.setCell ⟨bo,0,none⟩ (.slice (some ⟨g,0,none⟩) (m+1) cap)) g (m*10) c0 c1 c2 c3 c4 c5 c6 c7 c8 c9):=by
 have hgb:bo≠g:=by have:=(hown.lt g rfl).1;omega
 have V3:w5.heap[bo]?=some (.cells #[.slice ao m co] 22 (0,0)):=NH h.ol.bx hg h.ol.own Ad h.ol.PE;have hne:(Value.slice (some ⟨g,0,none⟩) (m+1) cap).ownBlock≠some bo:=by
  intro e;have e':g=bo:=by simpa [Value.ownBlock] using e
  exact hgb e'.symm
 have hk:eF bo (.slice ao m co) w4 w5:=eF.app hg;constructor
 ·refine Gd h hm Ad Ej hoi H9 Ab hvp hx rfl (yF (Gf hown hrl hz c0 c1 c2 c3 c4 c5 c6 c7 c8 c9) ⟨bo,0,none⟩ _ hne) ?_ ((hk.ten g _ (.inr hat) c0 c1 c2 c3 c4 c5 c6 c7 c8 c9).set bo 0 _ (.inl rfl)) hat;exact zh ((Cc w5 g _ c0 c1 c2 c3 c4 c5 c6 c7 c8 c9 bo hgb).trans V3)
 ·refine Gd h hm Ad Ej hoi H9 Ab hvp hx rfl (Gf (yF hown ⟨bo,0,none⟩ _ hne) hrl hz c0 c1 c2 c3 c4 c5 c6 c7 c8 c9) ?_ ((hk.set bo 0 _ (.inl rfl)).ten g _ (.inr hat) c0 c1 c2 c3 c4 c5 c6 c7 c8 c9) hat;exact (Cc _ g _ c0 c1 c2 c3 c4 c5 c6 c7 c8 c9 bo hgb).trans (zh V3)
theorem aj.ze (l:List aj) (k:Nat) (x:aj) (h:l[k]?=some x):aj.aS (l.take k)+x.sz<=aj.aS l:=by
 have e:aj.aX l=aj.aX (l.take (k+1))++aj.aX (l.drop (k+1)):=by rw [<- aj.xI,List.take_append_drop]
 have e2:=congrArg List.length e;rw [aj.uK l k x h] at e2;simp only [List.length_append,aj.dI,aj.Cb] at e2;omega
theorem iW.trans {B0 B bo bi:Nat} {vo Em:jhk} {w w1:jh9} {wr:jh9} {out:List aj} (hk:eF bo vo w w1) (hor:Em.ownBlock=vo.ownBlock\/∃ g,w.heap.size<=g/\Em.ownBlock=some g) (h2:iW B0 B bo bi Em w1 out wr):iW B0 B bo bi vo w out wr:=by
 obtain ⟨ZV,aW,hol,hk2,hor2⟩:=h2;refine ⟨ZV,aW,hol,⟨je9 hk.1 hk2.1,hk2.2.1.trans hk.2.1,hk2.2.2.1.trans hk.2.2.1,hk2.2.2.2.1.trans hk.2.2.2.1,fun b hb hne El=>?_⟩,?_⟩
 ·refine (hk2.2.2.2.2 b (Nat.lt_of_lt_of_le hb hk.1) hne ?_).trans (hk.2.2.2.2 b hb hne El);rcases hor with e | ⟨g,hg,e⟩
  ·rw [e];exact El
  ·rw [e];intro h;have:=jf0 h;omega
 ·rcases hor2 with e | ⟨g,hg,e⟩
  ·rw [e];exact hor
  ·exact .inr ⟨g,je9 hk.1 hg,e⟩
theorem OL.drew {B0 B bo bi p:Nat} {vo:jhk} {acc:List aj} {rows:List (List jhk)} {wr:jh9} (h:OL B0 B bo bi p vo acc rows wr):OL B0 B bo bi p vo acc rows wr.drew:=h.grown (Er ⟨rfl,rfl,rfl,je8 _,fun _ _ _=>rfl⟩)
theorem eF.drew {bo:Nat} {vo:jhk} {w w':jh9} (h:eF bo vo w w'):eF bo vo w w'.drew:=⟨h.1,h.2.1,h.2.2.1,h.2.2.2.1,h.2.2.2.2⟩
end Go.Proofs.YtclikfjalmcoaaaGreatDoor

