/- Contracts of slices.Clone at the three types, and of tree.copyAttr. The contract of tree.copyAttr. tree.Inlines$1: what is collected, and the words for its walk. -/
import Derived.Test.YtkfnkeflalcphaaGreatDoorKRowE
set_option maxHeartbeats 4000000
set_option maxRecDepth 100000
open Go.Lib (hid)
namespace Go.Proofs.YtkfnkeflalcphaaGreatDoor
open Go.RowKit.Below renaming refl->jnk,heap_setCell->jo5,heap_alloc->jo6
open Nat renaming le_refl->jnq,le_trans->jnx
open List renaming length_map->jo2
open Option.some renaming inj->jo4
open Go.World renaming size_alloc->jo9,setCell->jp6
open Go renaming World->jqz,Value->jr1
open Go.RowKit
set_option linter.unusedVariables false
set_option linter.unusedSimpArgs false
theorem qg {w:jqz} {B k n:Nat} {xs:List jr1} (h:Reads w B k none n xs):n=0:=by
 rcases Nat.eq_zero_or_pos n with h0 | h0
 ·exact h0
 ·obtain ⟨_,e,_⟩:=h.2 h0;cases e
theorem Pf {ok:Nat->Prop} {w:jqz} {l:List ByteArray} {rows:List (List jr1)} (h:aQ ok w (l.map D.str) rows):∀ u∈rows.flatten,u.oneCell'=true:=by intro u hu;rw [aQ.oG _ _ h,oH] at hu;obtain ⟨s,_,rfl⟩:=List.mem_map.1 hu;rfl
theorem xK {ok:Nat->Prop} {w:jqz}:∀ {l:List D} {rows:List (List jr1)},aQ ok w l rows->(∀ d∈l,∀ r,Rd ok w d r->∀ u∈r,u.oneCell'=true)->∀ u∈rows.flatten,u.oneCell'=true
 | [],_,h,_=>by rw [h.eT];simp
 | d::ds,_,h,hk=>by
  obtain ⟨r,rs,rfl,h1,h2⟩:=h.aG;intro u hu;rw [List.flatten_cons] at hu;rcases List.mem_append.1 hu with hu | hu
  ·exact hk d (by simp) r h1 u hu
  ·exact xK h2 (fun d' hd'=>hk d' (by simp [hd'])) u hu
theorem Te {ok:Nat->Prop} {w:jqz} {l:List Pr} {rows:List (List jr1)} (h:aQ ok w (l.map Pr.d) rows):∀ u∈rows.flatten,u.oneCell'=true:=
 xK h fun d hd r hr u hu=>by
  obtain ⟨p,_,rfl⟩:=List.mem_map.1 hd;rw [Pr.open_ hr] at hu;simp at hu;rcases hu with rfl | rfl<;>rfl
theorem Tf {ok:Nat->Prop} {w:jqz} {l:List Ci} {rows:List (List jr1)} (h:aQ ok w (l.map Ci.d) rows):∀ u∈rows.flatten,u.oneCell'=true:=
 xK h fun d hd r hr u hu=>by
  obtain ⟨p,_,rfl⟩:=List.mem_map.1 hd;rw [Ci.open_ hr] at hu;simp at hu;rcases hu with rfl | rfl | rfl | rfl<;>rfl
def IG (w:jqz) (d:D) (e:Ending) (w':jqz):Prop:=∃ v,e=.returned v/\Rd (w.heap.size<=·) w' d [v]/\Below w.heap.size w w'
theorem qh (w:jqz) (e:TypeId) (k:Nat):(w.alloc (.cells #[] e)).ownsRow w.heap.size e k (.slice (some ⟨w.heap.size,0,none⟩) 0 0) 0 []:=
 ⟨by simp,.inr ⟨w.heap.size,0,#[],rfl,jnq _,heap_alloc_new w _,jnq _,Nat.zero_le _,by simp,by simp⟩⟩
theorem xH (l:List ByteArray) (B:Nat) (v:jr1) (w:jqz) (h:Rd (·<B) w (kD l) [v]) (hB:B<=w.heap.size) (hl:l.length<=1000000) : Calls Tryz.prog 83 #[v] w (IG w (kD l)):=by
 obtain ⟨i0,hi,hz0,hz1,hz2⟩:=info_parts JU;obtain ⟨A,cap,rows,rfl,h1,h2,h3,h4,h5⟩:=Rd.reads h;rw [jo2] at h1 h5;have e:(l.map D.str).length=l.length:=jo2 _;rw [e];unfold maxLen at h2;have H3:=hid h3;have H4:=hid h4;have H5:=hid (h5.more hB);have H1:=hid (Pf h3);clear h h3 h4 h5 e;cases A with
 | none=>
  have h0:l=[]:=List.length_eq_zero_iff.1 (qg H5.out);subst h0;have hq:=fun (w:jqz) (a:Option Addr) (n c:Nat)=>Lib.run_eql_slice_nil (P:=Tryz.prog) w _ _ a n c 0 0 Tryz.underlying43
  go_enter Tryz.func83,Tryz.ntmps83;go_wp2;go_ret;exact ⟨_,rfl,Rd.aD _ _ _,jnk _ _⟩
 | some ad=>
  have hq:=fun (w:jqz) (a:Option Addr) (n c:Nat)=>Lib.run_eql_slice_nil (P:=Tryz.prog) w _ _ a n c 0 0 Tryz.underlying43
  go_enter Tryz.func83,Tryz.ntmps83;go_wp2_with (at_builtin;refine Wv _ rfl (.tmp 5) (.tmp 6) 43 rfl w.heap.size 9 i0 _ 1 16 Tryz.underlying43 hi hz0 hz1 hz2 rfl (by decide) (.slice (some ⟨w.heap.size,0,none⟩) 0 0) 0 [] rfl (qh w _ _) w.heap.size (some ad) l.length cap rows.flatten rfl (H5.out.below ((jnk _ w).alloc (jnq _) _)) H1.out ?a1 ?a2 ?a3 ?_)
  case a1=>unfold maxLen;omega
  case a2=>omega
  case a3=>simp
  intro v' w1 hown hg _
  (try simp only [Nat.zero_add,List.nil_append] at hown)
  have b1:Below w.heap.size w w1:=((jnk _ w).alloc (jnq _) _).grown hg (by simp) (fun j hj=>by have e:w.heap.size=j:=jo4 hj;omega);have HO:=hid hown;clear hown hg;go_wp2;go_ret;refine ⟨_,rfl,Rd.jR (rows:=rows) (B:=w.heap.size) (e:=9) ?_ (aQ.Pg H3.out) H4.out (fun g hg=>(HO.out.lt g hg).1),b1⟩;rw [jo2];exact HO.out
theorem IE (l:List Ci) (B:Nat) (v:jr1) (w:jqz) (h:Rd (·<B) w (Nl l) [v]) (hB:B<=w.heap.size) (hl:l.length<=1000000) : Calls Tryz.prog 84 #[v] w (IG w (Nl l)):=by
 obtain ⟨i0,hi,hz0,hz1,hz2⟩:=info_parts Yb;obtain ⟨A,cap,rows,rfl,h1,h2,h3,h4,h5⟩:=Rd.reads h;rw [jo2] at h1 h5;have e:(l.map Ci.d).length=l.length:=jo2 _;rw [e];unfold maxLen at h2;have H3:=hid h3;have H4:=hid h4;have H5:=hid (h5.more hB);have H1:=hid (Tf h3);clear h h3 h4 h5 e;cases A with
 | none=>
  have h0:l=[]:=List.length_eq_zero_iff.1 (qg H5.out);subst h0;have hq:=fun (w:jqz) (a:Option Addr) (n c:Nat)=>Lib.run_eql_slice_nil (P:=Tryz.prog) w _ _ a n c 0 0 Tryz.underlying64
  go_enter Tryz.func84,Tryz.ntmps84;go_wp2;go_ret;exact ⟨_,rfl,Rd.aD _ _ _,jnk _ _⟩
 | some ad=>
  have hq:=fun (w:jqz) (a:Option Addr) (n c:Nat)=>Lib.run_eql_slice_nil (P:=Tryz.prog) w _ _ a n c 0 0 Tryz.underlying64
  go_enter Tryz.func84,Tryz.ntmps84;go_wp2_with (at_builtin;refine Wv _ rfl (.tmp 5) (.tmp 6) 64 rfl w.heap.size 121 i0 _ 4 56 Tryz.underlying64 hi hz0 hz1 hz2 rfl (by decide) (.slice (some ⟨w.heap.size,0,none⟩) 0 0) 0 [] rfl (qh w _ _) w.heap.size (some ad) l.length cap rows.flatten rfl (H5.out.below ((jnk _ w).alloc (jnq _) _)) H1.out ?a1 ?a2 ?a3 ?_)
  case a1=>unfold maxLen;omega
  case a2=>omega
  case a3=>simp
  intro v' w1 hown hg _
  (try simp only [Nat.zero_add,List.nil_append] at hown)
  have b1:Below w.heap.size w w1:=((jnk _ w).alloc (jnq _) _).grown hg (by simp) (fun j hj=>by have e:w.heap.size=j:=jo4 hj;omega);have HO:=hid hown;clear hown hg;go_wp2;go_ret;refine ⟨_,rfl,Rd.jR (rows:=rows) (B:=w.heap.size) (e:=121) ?_ (aQ.Kh H3.out) H4.out (fun g hg=>(HO.out.lt g hg).1),b1⟩;rw [jo2];exact HO.out
theorem II (l:List Pr) (B:Nat) (v:jr1) (w:jqz) (h:Rd (·<B) w (bD l) [v]) (hB:B<=w.heap.size) (hl:l.length<=1000000) : Calls Tryz.prog 135 #[v] w (IG w (bD l)):=by
 obtain ⟨i0,hi,hz0,hz1,hz2⟩:=info_parts pV;obtain ⟨A,cap,rows,rfl,h1,h2,h3,h4,h5⟩:=Rd.reads h;rw [jo2] at h1 h5;have e:(l.map Pr.d).length=l.length:=jo2 _;rw [e];unfold maxLen at h2;have H3:=hid h3;have H4:=hid h4;have H5:=hid (h5.more hB);have H1:=hid (Te h3);clear h h3 h4 h5 e;cases A with
 | none=>
  have h0:l=[]:=List.length_eq_zero_iff.1 (qg H5.out);subst h0;have hq:=fun (w:jqz) (a:Option Addr) (n c:Nat)=>Lib.run_eql_slice_nil (P:=Tryz.prog) w _ _ a n c 0 0 Tryz.underlying24
  go_enter Tryz.func135,Tryz.ntmps135;go_wp2;go_ret;exact ⟨_,rfl,Rd.aD _ _ _,jnk _ _⟩
 | some ad=>
  have hq:=fun (w:jqz) (a:Option Addr) (n c:Nat)=>Lib.run_eql_slice_nil (P:=Tryz.prog) w _ _ a n c 0 0 Tryz.underlying24
  go_enter Tryz.func135,Tryz.ntmps135;go_wp2_with (at_builtin;refine Wv _ rfl (.tmp 5) (.tmp 6) 24 rfl w.heap.size 61 i0 _ 2 32 Tryz.underlying24 hi hz0 hz1 hz2 rfl (by decide) (.slice (some ⟨w.heap.size,0,none⟩) 0 0) 0 [] rfl (qh w _ _) w.heap.size (some ad) l.length cap rows.flatten rfl (H5.out.below ((jnk _ w).alloc (jnq _) _)) H1.out ?a1 ?a2 ?a3 ?_)
  case a1=>unfold maxLen;omega
  case a2=>omega
  case a3=>simp
  intro v' w1 hown hg _
  (try simp only [Nat.zero_add,List.nil_append] at hown)
  have b1:Below w.heap.size w w1:=((jnk _ w).alloc (jnq _) _).grown hg (by simp) (fun j hj=>by have e:w.heap.size=j:=jo4 hj;omega);have HO:=hid hown;clear hown hg;go_wp2;go_ret;refine ⟨_,rfl,Rd.jR (rows:=rows) (B:=w.heap.size) (e:=61) ?_ (aQ.Ki H3.out) H4.out (fun g hg=>(HO.out.lt g hg).1),b1⟩;rw [jo2];exact HO.out
open Go.RowKit
def AB (p:Nat) (cs:List jr1) (w:jqz):Prop:=w.heap[p]?=some (.cells cs.toArray 45 (0,0))
section
variable {p:Nat} {cs:List jr1} {w w':jqz}
theorem AB.cell (h:AB p cs w) (j:Nat) (u:jr1) (hu:cs[j]?=some u):w.cell? ⟨p,j,none⟩=some u:=by unfold AB at h;simp [World.cell?,h,hu]
theorem AB.free (h:AB p cs w) (j:Nat):w.frozen? ⟨p,j,none⟩=false:=by unfold AB at h;simp [World.frozen?,h]
theorem AB.set (h:AB p cs w) (j:Nat) (u:jr1):AB p (cs.set j u) (w.setCell ⟨p,j,none⟩ u):=by unfold AB at h ⊢;simp [jp6,Array.getElem?_modify,h]
theorem AB.far (h:AB p cs w) {q:Nat} (hq:p≠q) (j:Nat) (u:jr1):AB p cs (w.setCell ⟨q,j,none⟩ u):=(jo5 w ⟨q,j,none⟩ u p hq).trans h
theorem AB.lt (h:AB p cs w):p<w.heap.size:=by unfold AB at h;exact (Array.getElem?_eq_some_iff.1 h).1
theorem AB.grown (h:AB p cs w) (hg:w.grownBy w' none):AB p cs w':=(hg.block p h.lt (by simp)).trans h
end
theorem zS (at_:At) (vc vp:jr1) (B:Nat) (w:jqz) (h:AtR (·<B) w at_ vc vp) (hB:B<=w.heap.size) (hc:at_.cls.length<=1000000) (hp:at_.aP.length<=1000000) : Calls Tryz.prog 82 #[.agg #[.string at_.id,vc,vp]] w fun e w'=>∃ Rs Rt,e=.returned (.agg #[.string at_.id,Rs,Rt])/\AtR (w.heap.size<=·) w' at_ Rs Rt/\Below w.heap.size w w':=by
 obtain ⟨ac,nc,cc,rfl⟩:=Rd.au h.cls;obtain ⟨ap,np,cp,rfl⟩:=Rd.au h.aP;have HA:=hid h;clear h;go_enter Tryz.func82,Tryz.ntmps82;go_upto_region 1 with (fail)
 obtain ⟨w0,hw0⟩:∃ w0,w0=(w.alloc (.cells #[.string at_.id,.slice ac nc cc,.slice ap np cp] 45)).alloc (.cells #[.string ⟨#[]⟩,.slice none 0 0,.slice none 0 0] 45):=⟨_,rfl⟩;have P0:AB w.heap.size [.string at_.id,.slice ac nc cc,.slice ap np cp] w0:=by rw [hw0];exact (jo6 _ _ _ (by simp)).trans (heap_alloc_new w _)
 have Q0:AB (w.heap.size+1) [.string ⟨#[]⟩,.slice none 0 0,.slice none 0 0] w0:=by rw [hw0];have:=heap_alloc_new (w.alloc (.cells #[.string at_.id,.slice ac nc cc,.slice ap np cp] 45)) (.cells #[.string ⟨#[]⟩,.slice none 0 0,.slice none 0 0] 45);rw [jo9] at this;exact this
 have b0:Below w.heap.size w w0:=by rw [hw0];exact ((jnk _ w).alloc (jnq _) _).alloc (by simp) _
 have hs0:w.heap.size+2<=w0.heap.size:=by rw [hw0];simp
 rw [<- hw0];clear hw0;have CS:=hid (xH at_.cls B _ w0 (HA.out.cls.below (b0.mono hB)) (jnx hB b0.size) hc);have d1:=P0.cell 1 _ rfl;have HP0:=hid P0;have HQ0:=hid Q0;clear P0 Q0;go_wp2_with fail
 refine CS.out.mono ?_;rintro e w1 ⟨v1,rfl,hr1,b1⟩;obtain ⟨a1,n1,c1,rfl⟩:=Rd.au hr1;have P1:=HP0.out.grown (zx b1);have Q1:=HQ0.out.grown (zx b1);have OU:=hid P1;have HQ1:=hid Q1;have HR1:=hid (hr1.weaken (ok':=((w.heap.size+1)<·)) (fun b hb=>by omega));have hb1:=aU b0 b1;have hs1:w.heap.size+2<=w1.heap.size:=jnx hs0 b1.size;have d1:=P1.cell 1 _ rfl;have f1:=P1.free 1;clear P1 Q1 HP0 HQ0 CS hr1 b0 b1 hs0;go_upto_region 2 with (fail)
 obtain ⟨w2,hw2⟩:∃ w2,w2=w1.setCell ⟨w.heap.size,1,none⟩ (.slice a1 n1 c1):=⟨_,rfl⟩;have P2:AB w.heap.size [.string at_.id,.slice a1 n1 c1,.slice ap np cp] w2:=by rw [hw2];exact OU.out.set 1 _
 have Q2:AB (w.heap.size+1) [.string ⟨#[]⟩,.slice none 0 0,.slice none 0 0] w2:=by rw [hw2];exact HQ1.out.far (by omega) 1 _
 have R2:Hid (Rd ((w.heap.size+1)<·) w2 (kD at_.cls) [.slice a1 n1 c1]):=by show Rd _ _ _ _;rw [hw2];exact Rd.keep (fun b hb hlt=>⟨hb,jo5 w1 ⟨w.heap.size,1,none⟩ _ b (by show b≠w.heap.size;omega)⟩) _ _ HR1.out
 have b2:Below w.heap.size w w2:=by rw [hw2];exact hb1.setCell (p:=⟨w.heap.size,1,none⟩) (jnq _) _
 have hs2:w.heap.size+2<=w2.heap.size:=by rw [hw2];simpa [jp6] using hs1
 rw [<- hw2];clear hw2 OU HQ1 HR1 hb1 hs1 d1 f1;have CP:=hid (II at_.aP B _ w2 (HA.out.aP.below (b2.mono hB)) (jnx hB b2.size) hp);have d2:=P2.cell 2 _ rfl;have Rm:=hid P2;have Zk:=hid Q2;clear P2 Q2;go_wp2_with fail
 refine CP.out.mono ?_;rintro e w3 ⟨v3,rfl,hr3,b3⟩;obtain ⟨a3,n3,c3,rfl⟩:=Rd.au hr3;have P3:=Rm.out.grown (zx b3);have Q3:=Zk.out.grown (zx b3);have Ro:=hid (P3.set 2 (.slice a3 n3 c3));have Rn:=hid (Q3.far (q:=w.heap.size) (by omega) 2 (.slice a3 n3 c3));have HR3:=hid (hr3.weaken (ok':=((w.heap.size+1)<·)) (fun b hb=>by omega));have zR:=hid (Rd.keep (ok':=((w.heap.size+1)<·)) (fun b hb hlt=>⟨hb,b3.block b hlt⟩) _ _ R2.out);have hb3:=aU b2 b3;have d2:=P3.cell 2 _ rfl;have f2:=P3.free 2;clear P3 Q3 Rm Zk CP hr3 b2 b3 R2 hs2;go_upto_region 3 with (fail)
 obtain ⟨w4,hw4⟩:∃ w4,w4=w3.setCell ⟨w.heap.size,2,none⟩ (.slice a3 n3 c3):=⟨_,rfl⟩;rw [<- hw4] at Ro Rn;have K4:∀ b,w.heap.size+1<b->b<w3.heap.size->w4.heap[b]?=w3.heap[b]?:=fun b hb _=>by rw [hw4];exact jo5 w3 ⟨w.heap.size,2,none⟩ _ b (by show b≠w.heap.size;omega)
 have R4:=hid (Rd.keep (w':=w4) (ok':=((w.heap.size+1)<·)) (fun b hb hlt=>⟨hb,K4 b hb hlt⟩) _ _ HR3.out);have S4:=hid (Rd.keep (w':=w4) (ok':=((w.heap.size+1)<·)) (fun b hb hlt=>⟨hb,K4 b hb hlt⟩) _ _ zR.out);have b4:Below w.heap.size w w4:=by rw [hw4];exact hb3.setCell (p:=⟨w.heap.size,2,none⟩) (jnq _) _
 rw [<- hw4];clear hw4 K4 HR3 zR hb3 d2 f2;have q0:=Ro.out.cell 0 _ rfl;have q1:=Ro.out.cell 1 _ rfl;have q2:=Ro.out.cell 2 _ rfl;have r0:=Rn.out.cell 0 _ rfl;have r1:=Rn.out.cell 1 _ rfl;have r2:=Rn.out.cell 2 _ rfl;have g0:=Rn.out.free 0;have g1:=Rn.out.free 1;have g2:=Rn.out.free 2;have FB:=hid (fun u0 u1 u2=>((b4.setCell (p:=⟨w.heap.size+1,0,none⟩) (by simp) u0).setCell (p:=⟨w.heap.size+1,1,none⟩) (by simp) u1).setCell (p:=⟨w.heap.size+1,2,none⟩) (by simp) u2);have AV:∀ (d:D) (cs:List jr1),Rd ((w.heap.size+1)<·) w4 d cs->∀ u0 u1 u2,Rd (w.heap.size<=·) (((w4.setCell ⟨w.heap.size+1,0,none⟩ u0).setCell ⟨w.heap.size+1,1,none⟩ u1).setCell ⟨w.heap.size+1,2,none⟩ u2) d cs:=fun d cs hd u0 u1 u2=>
  (((hd.above (fC.set 0 u0)).above (fC.set 1 u1)).above (fC.set 2 u2)).weaken (fun b hb=>by omega)
 have HAV:=hid AV;clear AV b4;go_wp2;exact bodyPost_ret (v:=.agg #[.string at_.id,.slice a1 n1 c1,.slice a3 n3 c3]) (by simp [results,Tryz.results82,go_sem,r0,r1,r2]) rfl ⟨_,_,rfl,⟨HAV.out _ _ S4.out _ _ _,HAV.out _ _ R4.out _ _ _⟩,FB.out _ _ _⟩
open Go.RowKit
mutual
def aj.deep:aj->List aj
 | .mk k t d ti a ar ci ks=>.mk k t d ti a ar ci ks::aj.aY ks
def aj.aY:List aj->List aj
 | []=>[]
 | x::l=>x.deep++aj.aY l
end
theorem aj.AY (l m:List aj):aj.aY (l++m)=aj.aY l++aj.aY m:=by
 induction l with
 | nil=>rw [aj.aY];rfl
 | cons x l ih=>rw [List.cons_append,aj.aY,aj.aY,ih,List.append_assoc]
theorem aj.xI (l:List aj) (k:Nat) (x:aj) (h:l[k]?=some x):aj.aY (l.take (k+1))=aj.aY (l.take k)++x.deep:=by rw [List.take_add_one,h,aj.AY];simp [aj.aY]
mutual
theorem aj.FN:∀ (x:aj),x.deep.length=x.sz
 | .mk _ _ _ _ _ _ _ ks=>by rw [aj.deep,aj.sz,List.length_cons,aj.dW ks];omega
theorem aj.dW:∀ (l:List aj),(aj.aY l).length=aj.aW l
 | []=>by rw [aj.aY,aj.aW];rfl
 | x::l=>by rw [aj.aY,aj.aW,List.length_append,aj.FN x,aj.dW l]
end
def Rq (bo bi:Nat):jr1:=.func (.func 81) #[] #[.pointer (some ⟨bo,0,none⟩),.pointer (some ⟨bi,0,none⟩)]
def okO (B0 B:Nat) (vo:jr1) (p:Nat) (b:Nat):Prop:=b<B0\/(B<=b/\vo.ownBlock≠some b/\b≠p)
structure OL (B0 B bo bi p:Nat) (vo:jr1) (acc:List aj) (rows:List (List jr1)) (wr:jqz):Prop where
 bx:wr.heap[bo]?=some (.cells #[vo] 46 (0,0))
 fn:wr.heap[bi]?=some (.cells #[Rq bo bi] 116 (0,0))
 own:wr.ownsRow B 66 10 vo acc.length rows.flatten
 red:aQ (okO B0 B vo p) wr (acc.map aj.d) rows
 len:∀ r∈rows,r.length=10
 Vv:B<=wr.heap.size
section
variable {B0 B bo bi p:Nat} {vo:jr1} {acc:List aj} {rows:List (List jr1)} {wr w':jqz}
theorem OL.grown (h:OL B0 B bo bi p vo acc rows wr) (hg:wr.grownBy w' none):OL B0 B bo bi p vo acc rows w':=
 ⟨(hg.block bo (Array.getElem?_eq_some_iff.1 h.bx).1 (by simp)).trans h.bx,(hg.block bi (Array.getElem?_eq_some_iff.1 h.fn).1 (by simp)).trans h.fn,h.own.kept hg (by cases vo.ownBlock<;>simp),aQ.keep (fun b hb hlt=>⟨hb,hg.block b hlt (by simp)⟩) _ _ h.red,h.len,jnx h.Vv hg.size⟩
theorem OL.set (h:OL B0 B bo bi p vo acc rows wr) (ho:bo<B) (hi:bi<B) (h0:B0<=B) (hp:B<=p) (hv:vo.ownBlock≠some p) (j:Nat) (u:jr1):OL B0 B bo bi p vo acc rows (wr.setCell ⟨p,j,none⟩ u):=
 ⟨(jo5 wr ⟨p,j,none⟩ u bo (by show bo≠p;omega)).trans h.bx,(jo5 wr ⟨p,j,none⟩ u bi (by show bi≠p;omega)).trans h.fn,C9 h.own ⟨p,j,none⟩ u hv,
  aQ.keep (fun b hb hlt=>⟨hb,jo5 wr ⟨p,j,none⟩ u b (by show b≠p;rcases hb with hb | hb;omega;exact hb.2.2)⟩) _ _ h.red,h.len,by have:=h.Vv;simpa [jp6] using this⟩
end
def fD (bo:Nat) (vo:jr1) (w w':jqz):Prop:=w.heap.size<=w'.heap.size/\w'.os=w.os/\w'.tape=w.tape/\w'.output=w.output/\∀ b,b<w.heap.size->b≠bo->vo.ownBlock≠some b->w'.heap[b]?=w.heap[b]?
theorem fD.below {bo B0 B:Nat} {vo:jr1} {w w':jqz} (h:fD bo vo w w') (h0:B0<=bo) (h1:bo<w.heap.size) (hv:∀ g,vo.ownBlock=some g->B<=g) (hB:B0<=B):Below B0 w w':=
 ⟨h.2.1,h.2.2.1,h.2.2.2.1,h.1,fun b hb=>h.2.2.2.2 b (by omega) (by omega) (fun e=>by have:=hv b e;omega)⟩
def jQ (B0 B bo bi:Nat) (vo:jr1) (w:jqz) (out:List aj) (wr:jqz):Prop:=
 ∃ vo' rows',OL B0 B bo bi bo vo' out rows' wr/\fD bo vo w wr/\(vo'.ownBlock=vo.ownBlock\/∃ g,w.heap.size<=g/\vo'.ownBlock=some g)
def Vu (B0 B bo bi:Nat) (vo:jr1) (w:jqz) (acc l:List aj) (vi:jr1) (wr:jqz):Prop:=
 ∃ k:Nat,k<=l.length/\vi=.int .i64 k/\jQ B0 B bo bi vo w (acc++aj.aY (l.take k)) wr
structure IS (B0 B bo bi p:Nat) (vo:jr1) (acc:List aj) (rows:List (List jr1)) (cs:List jr1) (wr wx:jqz):Prop where
 ol:OL B0 B bo bi p vo acc rows wx
 pb:PB p cs wx
 bl:Below p wr wx
section
variable {B0 B bo bi p:Nat} {vo:jr1} {acc:List aj} {rows:List (List jr1)} {cs:List jr1} {wr wx w':jqz}
theorem IS.grown (h:IS B0 B bo bi p vo acc rows cs wr wx) (hg:wx.grownBy w' none):IS B0 B bo bi p vo acc rows cs wr w':=
 ⟨h.ol.grown hg,h.pb.grown hg,h.bl.grown hg (by have:=h.pb.lt;omega) (by simp)⟩
theorem IS.set (h:IS B0 B bo bi p vo acc rows cs wr wx) (ho:bo<B) (hi:bi<B) (h0:B0<=B) (hp:B<=p) (hv:vo.ownBlock≠some p) (j:Nat) (u:jr1):IS B0 B bo bi p vo acc rows (cs.set j u) wr (wx.setCell ⟨p,j,none⟩ u):=
 ⟨h.ol.set ho hi h0 hp hv j u,h.pb.set j u,h.bl.setCell (p:=⟨p,j,none⟩) (jnq _) u⟩
end
theorem iB {w:jqz} {B g m cap:Nat} {e:TypeId} {xs zs:List jr1} (h:w.ownsRow B e 10 (.slice (some ⟨g,0,none⟩) (m+1) cap) (m+1) (xs++zs)) (hx:xs.length=m*10) (j:Nat) (u:jr1) (hu:zs[j]?=some u) (hj:j<10):w.cell? ⟨g,m*10+j,none⟩=some u:=by rw [h.cellAt (m*10+j) (by omega),List.getElem?_append_right (by omega),hx,<- hu];congr 1;omega
theorem Td {w:jqz} {B g m cap k:Nat} {e:TypeId} {xs:List jr1} (h:w.ownsRow B e k (.slice (some ⟨g,0,none⟩) (m+1) cap) (m+1) xs):m+1<=cap:=by
 rcases h.2 with ⟨h1,_⟩ | ⟨g',cap',cur,h1,_,_,h2,_⟩
 ·cases h1
 ·injection h1 with _ _ h3;omega
theorem XZ {w4 w5:jqz} {B bo g m n cap k:Nat} {e t:TypeId} {xs ys:List jr1} {o:Obj} {v vx:jr1} (hbx:w4.heap[bo]?=some (.cells #[vx] t (0,0))) (h:w5.ownsRow B e k (.slice (some ⟨g,0,none⟩) m cap) m xs) (hg0:(w4.alloc o).drew.grownBy w5 v.ownBlock) (hv:w4.ownsRow B e k v n ys) (Em:bo<B) (hs:B<=w4.heap.size):w5.cell? ⟨bo,0,none⟩=some vx/\w5.frozen? ⟨bo,0,none⟩=false/\bo≠g:=by
 have h5:w5.heap[bo]?=some (.cells #[vx] t (0,0)):=by rw [hg0.block bo (by show bo<(w4.alloc o).heap.size;rw [jo9];omega) (fun e=>by have:=(hv.lt bo e.symm).1;omega)];exact (jo6 w4 o bo (by omega)).trans hbx
 refine ⟨by simp [World.cell?,h5],by simp [World.frozen?,h5],?_⟩;have:=(h.lt g rfl).1;omega
theorem jbk {w4 w5:jqz} {p:Nat} {cs:List jr1} {o:Obj} {v:jr1} (h:PB p cs w4) (hg:(w4.alloc o).drew.grownBy w5 v.ownBlock) (hv:v.ownBlock≠some p):PB p cs w5:=by have hl:=h.lt;unfold PB at h ⊢;rw [hg.block p (by show p<(w4.alloc o).heap.size;rw [jo9];omega) (fun e=>hv e.symm)];exact (jo6 w4 o p hl).trans h
theorem Ru {w:jqz} {B g m cap:Nat} {e:TypeId} {xs zs:List jr1} (h:w.ownsRow B e 10 (.slice (some ⟨g,0,none⟩) (m+1) cap) (m+1) (xs++zs)) (hx:xs.length=m*10) (j:Nat) (u:jr1) : (w.setCell ⟨g,m*10+j,none⟩ u).ownsRow B e 10 (.slice (some ⟨g,0,none⟩) (m+1) cap) (m+1) (xs++zs.set j u):=by have:=(h.stored (m*10+j) u).1;rw [List.set_append_right _ _ (by omega),hx,Nat.add_sub_cancel_left] at this;exact this
theorem Kj {B0 B bo bi p m g cap co:Nat} {ao:Option Addr} {acc:List aj} {rows:List (List jr1)} {cs:List jr1} {wr w4 w7:jqz} {x:aj} (h:IS B0 B bo bi p (.slice ao m co) acc rows cs wr w4) (hm:m=acc.length) (Em:bo<B) (Iw:bi<B) (hoi:bo≠bi) (LZ:B0<=bo) (El:B<=p) (hvp:∀ g,(Value.slice ao m co).ownBlock=some g->g<p) (hx:Rd (fun b=>b<B0\/p<b) w4 x.d cs) (hcs:cs.length=10) (hown:w7.ownsRow B 66 10 (.slice (some ⟨g,0,none⟩) (m+1) cap) (m+1) (rows.flatten++cs)) (hbx:w7.heap[bo]?=some (.cells #[.slice (some ⟨g,0,none⟩) (m+1) cap] 46 (0,0))) (hko:fD bo (.slice ao m co) w4 w7) (hat:(Value.slice ao m co).ownBlock=some g\/w4.heap.size<=g) : jQ B0 B bo bi (.slice ao m co) w4 (acc++[x]) w7:=by
 have hs:=h.ol.Vv;have hgv:∀ b,b<w4.heap.size->(Value.slice ao m co).ownBlock≠some b->(Value.slice (some ⟨g,0,none⟩) (m+1) cap).ownBlock≠some b:=by
  intro b hb hne e;have e':g=b:=by simpa [Value.ownBlock] using e
  subst e';rcases hat with h1 | h1
  ·exact hne h1
  ·omega
 have hne:∀ b,p<b->(Value.slice ao m co).ownBlock≠some b:=fun b hb e=>by have:=hvp b e;omega
 have hlo:∀ b,b<B->(Value.slice ao m co).ownBlock≠some b:=fun b hb e=>by have:=(h.ol.own.lt b e).1;omega
 refine ⟨_,rows++[cs],⟨hbx,?_,?_,?_,?_,jnx hs hko.1⟩,hko,?_⟩
 ·exact (hko.2.2.2.2 bi (by omega) (fun e=>hoi e.symm) (hlo bi Iw)).trans h.ol.fn
 ·rw [List.length_append,List.length_singleton,<- hm,List.flatten_append,List.flatten_singleton];exact hown
 ·rw [List.map_append];refine aQ.app (aQ.keep (fun b hb hlt=>?_) _ _ h.ol.red) (aQ.one ?_)
  ·rcases hb with hb | hb
   ·exact ⟨.inl hb,hko.2.2.2.2 b hlt (by omega) (hlo b (by omega))⟩
   ·exact ⟨.inr ⟨hb.1,hgv b hlt hb.2.1,by omega⟩,hko.2.2.2.2 b hlt (by omega) hb.2.1⟩
  ·refine Rd.keep (fun b hb hlt=>?_) _ _ hx;rcases hb with hb | hb
   ·exact ⟨.inl hb,hko.2.2.2.2 b hlt (by omega) (hlo b (by omega))⟩
   ·exact ⟨.inr ⟨by omega,hgv b hlt (hne b hb),by omega⟩,hko.2.2.2.2 b hlt (by omega) (hne b hb)⟩
 ·intro r hr;rw [List.mem_append,List.mem_singleton] at hr;rcases hr with hr | rfl
  ·exact h.ol.len r hr
  ·exact hcs
 ·rcases hat with h1 | h1
  ·exact .inl (by rw [h1];rfl)
  ·exact .inr ⟨g,h1,rfl⟩
def ten (w:jqz) (g o:Nat) (c0 c1 c2 c3 c4 c5 c6 c7 c8 c9:jr1):jqz:=((((((((((w.setCell ⟨g,o,none⟩ c0).setCell ⟨g,o+1,none⟩ c1).setCell ⟨g,o+2,none⟩ c2).setCell ⟨g,o+3,none⟩ c3).setCell ⟨g,o+4,none⟩ c4).setCell ⟨g,o+5,none⟩ c5).setCell ⟨g,o+6,none⟩ c6).setCell ⟨g,o+7,none⟩ c7).setCell ⟨g,o+8,none⟩ c8).setCell ⟨g,o+9,none⟩ c9)
theorem Kk {w:jqz} {B g m cap:Nat} {e:TypeId} {xs zs:List jr1} (h:w.ownsRow B e 10 (.slice (some ⟨g,0,none⟩) (m+1) cap) (m+1) (xs++zs)) (hx:xs.length=m*10) (hz:zs.length=10) (c0 c1 c2 c3 c4 c5 c6 c7 c8 c9:jr1) : (ten w g (m*10) c0 c1 c2 c3 c4 c5 c6 c7 c8 c9).ownsRow B e 10 (.slice (some ⟨g,0,none⟩) (m+1) cap) (m+1) (xs++[c0,c1,c2,c3,c4,c5,c6,c7,c8,c9]):=by
 obtain ⟨z0,z1,z2,z3,z4,z5,z6,z7,z8,z9,rfl⟩:∃ z0 z1 z2 z3 z4 z5 z6 z7 z8 z9,zs=[z0,z1,z2,z3,z4,z5,z6,z7,z8,z9]:=by
  match zs,hz with
  | [z0,z1,z2,z3,z4,z5,z6,z7,z8,z9],_=>exact ⟨_,_,_,_,_,_,_,_,_,_,rfl⟩
 have h:=Ru h hx 0 c0;have h:=Ru h hx 1 c1;have h:=Ru h hx 2 c2;have h:=Ru h hx 3 c3;have h:=Ru h hx 4 c4;have h:=Ru h hx 5 c5;have h:=Ru h hx 6 c6;have h:=Ru h hx 7 c7;have h:=Ru h hx 8 c8;have h:=Ru h hx 9 c9;exact h
theorem FP (w:jqz) (g o:Nat) (c0 c1 c2 c3 c4 c5 c6 c7 c8 c9:jr1) (b:Nat) (hb:b≠g):(ten w g o c0 c1 c2 c3 c4 c5 c6 c7 c8 c9).heap[b]?=w.heap[b]?:=by
 unfold ten
 iterate 10 rw [jo5 _ _ _ b hb]
theorem fD.set {bo:Nat} {vo:jr1} {w w':jqz} (h:fD bo vo w w') (b j:Nat) (u:jr1) (hb:b=bo\/vo.ownBlock=some b\/w.heap.size<=b):fD bo vo w (w'.setCell ⟨b,j,none⟩ u):=by refine ⟨by have:=h.1;simpa [jp6] using this,h.2.1,h.2.2.1,h.2.2.2.1,fun c hc hne Iy=>?_⟩;rw [jo5 w' ⟨b,j,none⟩ u c (by show c≠b;rintro rfl;rcases hb with hb | hb | hb;exact hne hb;exact Iy hb;omega)];exact h.2.2.2.2 c hc hne Iy
theorem fD.ten {bo:Nat} {vo:jr1} {w w':jqz} (h:fD bo vo w w') (b o:Nat) (hb:b=bo\/vo.ownBlock=some b\/w.heap.size<=b) (c0 c1 c2 c3 c4 c5 c6 c7 c8 c9:jr1):fD bo vo w (ten w' b o c0 c1 c2 c3 c4 c5 c6 c7 c8 c9):=
 ((((((((((h.set b _ _ hb).set b _ _ hb).set b _ _ hb).set b _ _ hb).set b _ _ hb).set b _ _ hb).set b _ _ hb).set b _ _ hb).set b _ _ hb).set b _ _ hb)
theorem fD.app {bo:Nat} {vo:jr1} {w w5:jqz} {o:Obj} (hg:(w.alloc o).drew.grownBy w5 vo.ownBlock):fD bo vo w w5:=by refine ⟨jnx (by show _<=(w.alloc o).heap.size;rw [jo9];omega) hg.size,hg.os,hg.tape,hg.output,fun c hc hne Iy=>?_⟩;rw [hg.block c (by show c<(w.alloc o).heap.size;rw [jo9];omega) (fun e=>Iy e.symm)];exact jo6 w o c hc
theorem C8 {w:jqz} {bo:Nat} {v u:jr1} {t:TypeId} (h:w.heap[bo]?=some (.cells #[v] t (0,0))):(w.setCell ⟨bo,0,none⟩ u).heap[bo]?=some (.cells #[u] t (0,0)):=by simp [jp6,Array.getElem?_modify,h]
theorem Tg {w4 w5:jqz} {B bo n k:Nat} {e t:TypeId} {ys:List jr1} {o:Obj} {v vx:jr1} (hbx:w4.heap[bo]?=some (.cells #[vx] t (0,0))) (hg0:(w4.alloc o).drew.grownBy w5 v.ownBlock) (hv:w4.ownsRow B e k v n ys) (Em:bo<B) (hs:B<=w4.heap.size):w5.heap[bo]?=some (.cells #[vx] t (0,0)):=by rw [hg0.block bo (by show bo<(w4.alloc o).heap.size;rw [jo9];omega) (fun e=>by have:=(hv.lt bo e.symm).1;omega)];exact (jo6 w4 o bo (by omega)).trans hbx
theorem O8 {B0 B bo bi p m g cap co:Nat} {ao:Option Addr} {acc:List aj} {rows:List (List jr1)} {wr w4 w5:jqz} {x:aj} {o:Obj} {zs:List jr1} {c0 c1 c2 c3 c4 c5 c6 c7 c8 c9:jr1} (h:IS B0 B bo bi p (.slice ao m co) acc rows [c0,c1,c2,c3,c4,c5,c6,c7,c8,c9] wr w4) (hm:m=acc.length) (Em:bo<B) (Iw:bi<B) (hoi:bo≠bi) (LZ:B0<=bo) (El:B<=p) (hvp:∀ g,(Value.slice ao m co).ownBlock=some g->g<p) (hx:Rd (fun b=>b<B0\/p<b) w4 x.d [c0,c1,c2,c3,c4,c5,c6,c7,c8,c9]) (hown:w5.ownsRow B 66 10 (.slice (some ⟨g,0,none⟩) (m+1) cap) (m+1) (rows.flatten++zs)) (hz:zs.length=10) (hrl:rows.flatten.length=m*10) (hg:(w4.alloc o).drew.grownBy w5 (Value.slice ao m co).ownBlock) (hat:(Value.slice ao m co).ownBlock=some g\/w4.heap.size<=g) : jQ B0 B bo bi (.slice ao m co) w4 (acc++[x]) ((ten w5 g (m*10) c0 c1 c2 c3 c4 c5 c6 c7 c8 c9).setCell ⟨bo,0,none⟩ (.slice (some ⟨g,0,none⟩) (m+1) cap)) /\ jQ B0 B bo bi (.slice ao m co) w4 (acc++[x]) (ten (w5.setCell ⟨bo,0,none⟩ (.slice (some ⟨g,0,none⟩) (m+1) cap)) g (m*10) c0 c1 c2 c3 c4 c5 c6 c7 c8 c9):=by
 have hgb:bo≠g:=by have:=(hown.lt g rfl).1;omega
 have jc3:w5.heap[bo]?=some (.cells #[.slice ao m co] 46 (0,0)):=Tg h.ol.bx hg h.ol.own Em h.ol.Vv;have hne:(Value.slice (some ⟨g,0,none⟩) (m+1) cap).ownBlock≠some bo:=by
  intro e;have e':g=bo:=by simpa [Value.ownBlock] using e
  exact hgb e'.symm
 have hk:fD bo (.slice ao m co) w4 w5:=fD.app hg;constructor
 ·refine Kj h hm Em Iw hoi LZ El hvp hx rfl (C9 (Kk hown hrl hz c0 c1 c2 c3 c4 c5 c6 c7 c8 c9) ⟨bo,0,none⟩ _ hne) ?_ ((hk.ten g _ (.inr hat) c0 c1 c2 c3 c4 c5 c6 c7 c8 c9).set bo 0 _ (.inl rfl)) hat;exact C8 ((FP w5 g _ c0 c1 c2 c3 c4 c5 c6 c7 c8 c9 bo hgb).trans jc3)
 ·refine Kj h hm Em Iw hoi LZ El hvp hx rfl (Kk (C9 hown ⟨bo,0,none⟩ _ hne) hrl hz c0 c1 c2 c3 c4 c5 c6 c7 c8 c9) ?_ ((hk.set bo 0 _ (.inl rfl)).ten g _ (.inr hat) c0 c1 c2 c3 c4 c5 c6 c7 c8 c9) hat;exact (FP _ g _ c0 c1 c2 c3 c4 c5 c6 c7 c8 c9 bo hgb).trans (C8 jc3)
theorem aj.CZ (l:List aj) (k:Nat) (x:aj) (h:l[k]?=some x):aj.aW (l.take k)+x.sz<=aj.aW l:=by
 have e:aj.aY l=aj.aY (l.take (k+1))++aj.aY (l.drop (k+1)):=by rw [<- aj.AY,List.take_append_drop]
 have e2:=congrArg List.length e;rw [aj.xI l k x h] at e2;simp only [List.length_append,aj.dW,aj.FN] at e2;omega
theorem jQ.trans {B0 B bo bi:Nat} {vo Iz:jr1} {w w1:jqz} {wr:jqz} {out:List aj} (hk:fD bo vo w w1) (hor:Iz.ownBlock=vo.ownBlock\/∃ g,w.heap.size<=g/\Iz.ownBlock=some g) (h2:jQ B0 B bo bi Iz w1 out wr):jQ B0 B bo bi vo w out wr:=by
 obtain ⟨vo2,bE,hol,hk2,hor2⟩:=h2;refine ⟨vo2,bE,hol,⟨jnx hk.1 hk2.1,hk2.2.1.trans hk.2.1,hk2.2.2.1.trans hk.2.2.1,hk2.2.2.2.1.trans hk.2.2.2.1,fun b hb hne Iy=>?_⟩,?_⟩
 ·refine (hk2.2.2.2.2 b (Nat.lt_of_lt_of_le hb hk.1) hne ?_).trans (hk.2.2.2.2 b hb hne Iy);rcases hor with e | ⟨g,hg,e⟩
  ·rw [e];exact Iy
  ·rw [e];intro h;have:=jo4 h;omega
 ·rcases hor2 with e | ⟨g,hg,e⟩
  ·rw [e];exact hor
  ·exact .inr ⟨g,jnx hk.1 hg,e⟩
theorem OL.drew {B0 B bo bi p:Nat} {vo:jr1} {acc:List aj} {rows:List (List jr1)} {wr:jqz} (h:OL B0 B bo bi p vo acc rows wr):OL B0 B bo bi p vo acc rows wr.drew:=h.grown (IJ ⟨rfl,rfl,rfl,jnq _,fun _ _ _=>rfl⟩)
theorem fD.drew {bo:Nat} {vo:jr1} {w w':jqz} (h:fD bo vo w w'):fD bo vo w w'.drew:=⟨h.1,h.2.1,h.2.2.1,h.2.2.2.1,h.2.2.2.2⟩
end Go.Proofs.YtkfnkeflalcphaaGreatDoor

