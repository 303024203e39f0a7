/- Contracts of slices.Clone at the three types, and of tree.copyAttr. The contract of tree.copyAttr. tree.Inlines$1: what is collected, and the words for its walk. -/
import Derived.Test.YtlbioncagkkkoaaGreatDoorKTcM
import Derived.WalkSpells
set_option maxHeartbeats 4000000
set_option maxRecDepth 100000
open Go.Lib (hid)
namespace Go.Proofs.YtlbioncagkkkoaaGreatDoor
open Go.RowKit
set_option linter.unusedVariables false
set_option linter.unusedSimpArgs false
theorem reads_none {w:World} {B k n:Nat} {xs:List Value} (h:Reads w B k none n xs):n=0:=by
 rcases Nat.eq_zero_or_pos n with h0 | h0
 ·exact h0
 ·obtain ⟨_,e,_⟩:=h.2 h0;cases e
theorem strs_one {ok:Nat->Prop} {w:World} {l:List ByteArray} {rows:List (List Value)} (h:RdL ok w (l.map D.str) rows):∀ u∈rows.flatten,u.oneCell'=true:=by
 intro u hu
 rw [RdL.strs_rows _ _ h,strs_flat] at hu
 obtain ⟨s,_,rfl⟩:=List.mem_map.1 hu
 rfl
theorem rows_one {ok:Nat->Prop} {w:World}:∀ {l:List D} {rows:List (List Value)},RdL ok w l rows->(∀ d∈l,∀ r,Rd ok w d r->∀ u∈r,u.oneCell'=true)->∀ u∈rows.flatten,u.oneCell'=true
 | [],_,h,_=>by rw [h.nil_open];simp
 | d::ds,_,h,hk=>by
  obtain ⟨r,rs,rfl,h1,h2⟩:=h.cons_open
  intro u hu
  rw [List.flatten_cons] at hu
  rcases List.mem_append.1 hu with hu | hu
  ·exact hk d (by simp) r h1 u hu
  ·exact rows_one h2 (fun d' hd'=>hk d' (by simp [hd'])) u hu
theorem prs_one {ok:Nat->Prop} {w:World} {l:List Pr} {rows:List (List Value)} (h:RdL ok w (l.map Pr.d) rows):∀ u∈rows.flatten,u.oneCell'=true:=
 rows_one h fun d hd r hr u hu=>by
  obtain ⟨p,_,rfl⟩:=List.mem_map.1 hd
  rw [Pr.open_ hr] at hu
  simp at hu
  rcases hu with rfl | rfl<;>rfl
theorem cis_one {ok:Nat->Prop} {w:World} {l:List Ci} {rows:List (List Value)} (h:RdL ok w (l.map Ci.d) rows):∀ u∈rows.flatten,u.oneCell'=true:=
 rows_one h fun d hd r hr u hu=>by
  obtain ⟨p,_,rfl⟩:=List.mem_map.1 hd
  rw [Ci.open_ hr] at hu
  simp at hu
  rcases hu with rfl | rfl | rfl | rfl<;>rfl
def ClPost (w:World) (d:D) (e:Ending) (w':World):Prop:=∃ v,e=.returned v/\Rd (w.heap.size<=·) w' d [v]/\Below w.heap.size w w'
theorem empty_owns (w:World) (e:TypeId) (k:Nat):(w.alloc (.cells #[] e)).ownsRow w.heap.size e k (.slice (some ⟨w.heap.size,0,none⟩) 0 0) 0 []:=
 ⟨by simp,.inr ⟨w.heap.size,0,#[],rfl,Nat.le_refl _,heap_alloc_new w _,Nat.le_refl _,Nat.zero_le _,by simp,by simp⟩⟩
theorem cloneS_any (l:List ByteArray) (B:Nat) (v:Value) (w:World) (h:Rd (·<B) w (strsD l) [v]) (hB:B<=w.heap.size) (hl:l.length<=1000000) :
  Calls Tryz.prog 115 #[v] w (ClPost w (strsD l)):=by
 obtain ⟨i0,hi,hz0,hz1,hz2⟩:=info_parts infoS
 obtain ⟨A,cap,rows,rfl,h1,h2,h3,h4,h5⟩:=Rd.reads h
 rw [List.length_map] at h1 h5
 have e:(l.map D.str).length=l.length:=List.length_map _
 rw [e]
 unfold maxLen at h2
 have H3:=hid h3
 have H4:=hid h4
 have H5:=hid (h5.more hB)
 have H1:=hid (strs_one h3)
 clear h h3 h4 h5 e
 cases A with
 | none=>
  have h0:l=[]:=List.length_eq_zero_iff.1 (reads_none H5.out)
  subst h0
  have hq:=fun (w:World) (a:Option Addr) (n c:Nat)=>Lib.run_eql_slice_nil (P:=Tryz.prog) w _ _ a n c 0 0 Tryz.underlying40
  go_enter Tryz.func115,Tryz.ntmps115
  go_wp2
  go_ret
  exact ⟨_,rfl,Rd.nil_mk _ _ _,Below.refl _ _⟩
 | some ad=>
  have hq:=fun (w:World) (a:Option Addr) (n c:Nat)=>Lib.run_eql_slice_nil (P:=Tryz.prog) w _ _ a n c 0 0 Tryz.underlying40
  go_enter Tryz.func115,Tryz.ntmps115
  go_wp2_with (at_builtin;refine q08 _ rfl (.tmp 5) (.tmp 6) 40 rfl w.heap.size 9 i0 _ 1 16 Tryz.underlying40 hi hz0 hz1 hz2 rfl (by decide) (.slice (some ⟨w.heap.size,0,none⟩) 0 0) 0 [] rfl (empty_owns w _ _) w.heap.size (some ad) l.length cap rows.flatten rfl (H5.out.below ((Below.refl _ w).alloc (Nat.le_refl _) _)) H1.out ?a1 ?a2 ?a3 ?_)
  case a1=>unfold maxLen;omega
  case a2=>omega
  case a3=>simp
  intro v' w1 hown hg _
  (try simp only [Nat.zero_add,List.nil_append] at hown)
  have b1:Below w.heap.size w w1:=((Below.refl _ w).alloc (Nat.le_refl _) _).grown hg (by simp) (fun j hj=>by have e:w.heap.size=j:=Option.some.inj hj;omega)
  have HO:=hid hown
  clear hown hg
  go_wp2
  go_ret
  refine ⟨_,rfl,Rd.sl_own (rows:=rows) (B:=w.heap.size) (e:=9) ?_ (RdL.strs_any H3.out) H4.out (fun g hg=>(HO.out.lt g hg).1),b1⟩
  rw [List.length_map];exact HO.out
theorem cloneC_any (l:List Ci) (B:Nat) (v:Value) (w:World) (h:Rd (·<B) w (cisD l) [v]) (hB:B<=w.heap.size) (hl:l.length<=1000000) :
  Calls Tryz.prog 116 #[v] w (ClPost w (cisD l)):=by
 obtain ⟨i0,hi,hz0,hz1,hz2⟩:=info_parts infoCi
 obtain ⟨A,cap,rows,rfl,h1,h2,h3,h4,h5⟩:=Rd.reads h
 rw [List.length_map] at h1 h5
 have e:(l.map Ci.d).length=l.length:=List.length_map _
 rw [e]
 unfold maxLen at h2
 have H3:=hid h3
 have H4:=hid h4
 have H5:=hid (h5.more hB)
 have H1:=hid (cis_one h3)
 clear h h3 h4 h5 e
 cases A with
 | none=>
  have h0:l=[]:=List.length_eq_zero_iff.1 (reads_none H5.out)
  subst h0
  have hq:=fun (w:World) (a:Option Addr) (n c:Nat)=>Lib.run_eql_slice_nil (P:=Tryz.prog) w _ _ a n c 0 0 Tryz.underlying45
  go_enter Tryz.func116,Tryz.ntmps116
  go_wp2
  go_ret
  exact ⟨_,rfl,Rd.nil_mk _ _ _,Below.refl _ _⟩
 | some ad=>
  have hq:=fun (w:World) (a:Option Addr) (n c:Nat)=>Lib.run_eql_slice_nil (P:=Tryz.prog) w _ _ a n c 0 0 Tryz.underlying45
  go_enter Tryz.func116,Tryz.ntmps116
  go_wp2_with (at_builtin;refine q08 _ rfl (.tmp 5) (.tmp 6) 45 rfl w.heap.size 96 i0 _ 4 56 Tryz.underlying45 hi hz0 hz1 hz2 rfl (by decide) (.slice (some ⟨w.heap.size,0,none⟩) 0 0) 0 [] rfl (empty_owns w _ _) w.heap.size (some ad) l.length cap rows.flatten rfl (H5.out.below ((Below.refl _ w).alloc (Nat.le_refl _) _)) H1.out ?a1 ?a2 ?a3 ?_)
  case a1=>unfold maxLen;omega
  case a2=>omega
  case a3=>simp
  intro v' w1 hown hg _
  (try simp only [Nat.zero_add,List.nil_append] at hown)
  have b1:Below w.heap.size w w1:=((Below.refl _ w).alloc (Nat.le_refl _) _).grown hg (by simp) (fun j hj=>by have e:w.heap.size=j:=Option.some.inj hj;omega)
  have HO:=hid hown
  clear hown hg
  go_wp2
  go_ret
  refine ⟨_,rfl,Rd.sl_own (rows:=rows) (B:=w.heap.size) (e:=96) ?_ (RdL.cis_any H3.out) H4.out (fun g hg=>(HO.out.lt g hg).1),b1⟩
  rw [List.length_map];exact HO.out
theorem cloneP_any (l:List Pr) (B:Nat) (v:Value) (w:World) (h:Rd (·<B) w (prsD l) [v]) (hB:B<=w.heap.size) (hl:l.length<=1000000) :
  Calls Tryz.prog 148 #[v] w (ClPost w (prsD l)):=by
 obtain ⟨i0,hi,hz0,hz1,hz2⟩:=info_parts infoPr
 obtain ⟨A,cap,rows,rfl,h1,h2,h3,h4,h5⟩:=Rd.reads h
 rw [List.length_map] at h1 h5
 have e:(l.map Pr.d).length=l.length:=List.length_map _
 rw [e]
 unfold maxLen at h2
 have H3:=hid h3
 have H4:=hid h4
 have H5:=hid (h5.more hB)
 have H1:=hid (prs_one h3)
 clear h h3 h4 h5 e
 cases A with
 | none=>
  have h0:l=[]:=List.length_eq_zero_iff.1 (reads_none H5.out)
  subst h0
  have hq:=fun (w:World) (a:Option Addr) (n c:Nat)=>Lib.run_eql_slice_nil (P:=Tryz.prog) w _ _ a n c 0 0 Tryz.underlying22
  go_enter Tryz.func148,Tryz.ntmps148
  go_wp2
  go_ret
  exact ⟨_,rfl,Rd.nil_mk _ _ _,Below.refl _ _⟩
 | some ad=>
  have hq:=fun (w:World) (a:Option Addr) (n c:Nat)=>Lib.run_eql_slice_nil (P:=Tryz.prog) w _ _ a n c 0 0 Tryz.underlying22
  go_enter Tryz.func148,Tryz.ntmps148
  go_wp2_with (at_builtin;refine q08 _ rfl (.tmp 5) (.tmp 6) 22 rfl w.heap.size 58 i0 _ 2 32 Tryz.underlying22 hi hz0 hz1 hz2 rfl (by decide) (.slice (some ⟨w.heap.size,0,none⟩) 0 0) 0 [] rfl (empty_owns w _ _) w.heap.size (some ad) l.length cap rows.flatten rfl (H5.out.below ((Below.refl _ w).alloc (Nat.le_refl _) _)) H1.out ?a1 ?a2 ?a3 ?_)
  case a1=>unfold maxLen;omega
  case a2=>omega
  case a3=>simp
  intro v' w1 hown hg _
  (try simp only [Nat.zero_add,List.nil_append] at hown)
  have b1:Below w.heap.size w w1:=((Below.refl _ w).alloc (Nat.le_refl _) _).grown hg (by simp) (fun j hj=>by have e:w.heap.size=j:=Option.some.inj hj;omega)
  have HO:=hid hown
  clear hown hg
  go_wp2
  go_ret
  refine ⟨_,rfl,Rd.sl_own (rows:=rows) (B:=w.heap.size) (e:=58) ?_ (RdL.prs_any H3.out) H4.out (fun g hg=>(HO.out.lt g hg).1),b1⟩
  rw [List.length_map];exact HO.out
open Go.RowKit
def AB (p:Nat) (cs:List Value) (w:World):Prop:=w.heap[p]?=some (.cells cs.toArray 44 (0,0))
section
variable {p:Nat} {cs:List Value} {w w':World}
theorem AB.cell (h:AB p cs w) (j:Nat) (u:Value) (hu:cs[j]?=some u):w.cell? ⟨p,j,none⟩=some u:=by
 unfold AB at h
 simp [World.cell?,h,hu]
theorem AB.free (h:AB p cs w) (j:Nat):w.frozen? ⟨p,j,none⟩=false:=by
 unfold AB at h
 simp [World.frozen?,h]
theorem AB.set (h:AB p cs w) (j:Nat) (u:Value):AB p (cs.set j u) (w.setCell ⟨p,j,none⟩ u):=by
 unfold AB at h ⊢
 simp [World.setCell,Array.getElem?_modify,h]
theorem AB.far (h:AB p cs w) {q:Nat} (hq:p≠q) (j:Nat) (u:Value):AB p cs (w.setCell ⟨q,j,none⟩ u):=(Below.heap_setCell w ⟨q,j,none⟩ u p hq).trans h
theorem AB.lt (h:AB p cs w):p<w.heap.size:=by unfold AB at h;exact (Array.getElem?_eq_some_iff.1 h).1
theorem AB.grown (h:AB p cs w) (hg:w.grownBy w' none):AB p cs w':=(hg.block p h.lt (by simp)).trans h
end
theorem tcopyAttr_any (at_:At) (vc vp:Value) (B:Nat) (w:World) (h:AtR (·<B) w at_ vc vp) (hB:B<=w.heap.size) (hc:at_.cls.length<=1000000) (hp:at_.prs.length<=1000000) :
  Calls Tryz.prog 114 #[.agg #[.string at_.id,vc,vp]] w fun e w'=>∃ vc' vp',e=.returned (.agg #[.string at_.id,vc',vp'])/\AtR (w.heap.size<=·) w' at_ vc' vp'/\Below w.heap.size w w':=by
 obtain ⟨ac,nc,cc,rfl⟩:=Rd.sl_form h.cls
 obtain ⟨ap,np,cp,rfl⟩:=Rd.sl_form h.prs
 have HA:=hid h
 clear h
 go_enter Tryz.func114,Tryz.ntmps114
 go_upto_region 1 with (fail)
 obtain ⟨w0,hw0⟩:∃ w0,w0=(w.alloc (.cells #[.string at_.id,.slice ac nc cc,.slice ap np cp] 44)).alloc (.cells #[.string ⟨#[]⟩,.slice none 0 0,.slice none 0 0] 44):=⟨_,rfl⟩
 have P0:AB w.heap.size [.string at_.id,.slice ac nc cc,.slice ap np cp] w0:=by
  rw [hw0];exact (Below.heap_alloc _ _ _ (by simp)).trans (heap_alloc_new w _)
 have Q0:AB (w.heap.size+1) [.string ⟨#[]⟩,.slice none 0 0,.slice none 0 0] w0:=by
  rw [hw0]
  have:=heap_alloc_new (w.alloc (.cells #[.string at_.id,.slice ac nc cc,.slice ap np cp] 44)) (.cells #[.string ⟨#[]⟩,.slice none 0 0,.slice none 0 0] 44)
  rw [World.size_alloc] at this
  exact this
 have b0:Below w.heap.size w w0:=by rw [hw0];exact ((Below.refl _ w).alloc (Nat.le_refl _) _).alloc (by simp) _
 have hs0:w.heap.size+2<=w0.heap.size:=by rw [hw0];simp
 rw [<- hw0]
 clear hw0
 have CS:=hid (cloneS_any at_.cls B _ w0 (HA.out.cls.below (b0.mono hB)) (Nat.le_trans hB b0.size) hc)
 have d1:=P0.cell 1 _ rfl
 have HP0:=hid P0
 have HQ0:=hid Q0
 clear P0 Q0
 go_wp2_with fail
 refine CS.out.mono ?_
 rintro e w1 ⟨v1,rfl,hr1,b1⟩
 obtain ⟨a1,n1,c1,rfl⟩:=Rd.sl_form hr1
 have P1:=HP0.out.grown (q02 b1)
 have Q1:=HQ0.out.grown (q02 b1)
 have HP1:=hid P1
 have HQ1:=hid Q1
 have HR1:=hid (hr1.weaken (ok':=((w.heap.size+1)<·)) (fun b hb=>by omega))
 have hb1:=q01 b0 b1
 have hs1:w.heap.size+2<=w1.heap.size:=Nat.le_trans hs0 b1.size
 have d1:=P1.cell 1 _ rfl
 have f1:=P1.free 1
 clear P1 Q1 HP0 HQ0 CS hr1 b0 b1 hs0
 go_upto_region 2 with (fail)
 obtain ⟨w2,hw2⟩:∃ w2,w2=w1.setCell ⟨w.heap.size,1,none⟩ (.slice a1 n1 c1):=⟨_,rfl⟩
 have P2:AB w.heap.size [.string at_.id,.slice a1 n1 c1,.slice ap np cp] w2:=by rw [hw2];exact HP1.out.set 1 _
 have Q2:AB (w.heap.size+1) [.string ⟨#[]⟩,.slice none 0 0,.slice none 0 0] w2:=by rw [hw2];exact HQ1.out.far (by omega) 1 _
 have R2:Hid (Rd ((w.heap.size+1)<·) w2 (strsD at_.cls) [.slice a1 n1 c1]):=by
  show Rd _ _ _ _
  rw [hw2]
  exact Rd.keep (fun b hb hlt=>⟨hb,Below.heap_setCell w1 ⟨w.heap.size,1,none⟩ _ b (by show b≠w.heap.size;omega)⟩) _ _ HR1.out
 have b2:Below w.heap.size w w2:=by rw [hw2];exact hb1.setCell (p:=⟨w.heap.size,1,none⟩) (Nat.le_refl _) _
 have hs2:w.heap.size+2<=w2.heap.size:=by rw [hw2];simpa [World.setCell] using hs1
 rw [<- hw2]
 clear hw2 HP1 HQ1 HR1 hb1 hs1 d1 f1
 have CP:=hid (cloneP_any at_.prs B _ w2 (HA.out.prs.below (b2.mono hB)) (Nat.le_trans hB b2.size) hp)
 have d2:=P2.cell 2 _ rfl
 have HP2:=hid P2
 have HQ2:=hid Q2
 clear P2 Q2
 go_wp2_with fail
 refine CP.out.mono ?_
 rintro e w3 ⟨v3,rfl,hr3,b3⟩
 obtain ⟨a3,n3,c3,rfl⟩:=Rd.sl_form hr3
 have P3:=HP2.out.grown (q02 b3)
 have Q3:=HQ2.out.grown (q02 b3)
 have HP3:=hid (P3.set 2 (.slice a3 n3 c3))
 have HQ3:=hid (Q3.far (q:=w.heap.size) (by omega) 2 (.slice a3 n3 c3))
 have HR3:=hid (hr3.weaken (ok':=((w.heap.size+1)<·)) (fun b hb=>by omega))
 have HS3:=hid (Rd.keep (ok':=((w.heap.size+1)<·)) (fun b hb hlt=>⟨hb,b3.block b hlt⟩) _ _ R2.out)
 have hb3:=q01 b2 b3
 have d2:=P3.cell 2 _ rfl
 have f2:=P3.free 2
 clear P3 Q3 HP2 HQ2 CP hr3 b2 b3 R2 hs2
 go_upto_region 3 with (fail)
 obtain ⟨w4,hw4⟩:∃ w4,w4=w3.setCell ⟨w.heap.size,2,none⟩ (.slice a3 n3 c3):=⟨_,rfl⟩
 rw [<- hw4] at HP3 HQ3
 have K4:∀ b,w.heap.size+1<b->b<w3.heap.size->w4.heap[b]?=w3.heap[b]?:=fun b hb _=>by rw [hw4];exact Below.heap_setCell w3 ⟨w.heap.size,2,none⟩ _ b (by show b≠w.heap.size;omega)
 have R4:=hid (Rd.keep (w':=w4) (ok':=((w.heap.size+1)<·)) (fun b hb hlt=>⟨hb,K4 b hb hlt⟩) _ _ HR3.out)
 have S4:=hid (Rd.keep (w':=w4) (ok':=((w.heap.size+1)<·)) (fun b hb hlt=>⟨hb,K4 b hb hlt⟩) _ _ HS3.out)
 have b4:Below w.heap.size w w4:=by rw [hw4];exact hb3.setCell (p:=⟨w.heap.size,2,none⟩) (Nat.le_refl _) _
 rw [<- hw4]
 clear hw4 K4 HR3 HS3 hb3 d2 f2
 have q0:=HP3.out.cell 0 _ rfl
 have q1:=HP3.out.cell 1 _ rfl
 have q2:=HP3.out.cell 2 _ rfl
 have r0:=HQ3.out.cell 0 _ rfl
 have r1:=HQ3.out.cell 1 _ rfl
 have r2:=HQ3.out.cell 2 _ rfl
 have g0:=HQ3.out.free 0
 have g1:=HQ3.out.free 1
 have g2:=HQ3.out.free 2
 have FB:=hid (fun u0 u1 u2=>((b4.setCell (p:=⟨w.heap.size+1,0,none⟩) (by simp) u0).setCell (p:=⟨w.heap.size+1,1,none⟩) (by simp) u1).setCell (p:=⟨w.heap.size+1,2,none⟩) (by simp) u2)
 have AV:∀ (d:D) (cs:List Value),Rd ((w.heap.size+1)<·) w4 d cs->∀ u0 u1 u2,Rd (w.heap.size<=·) (((w4.setCell ⟨w.heap.size+1,0,none⟩ u0).setCell ⟨w.heap.size+1,1,none⟩ u1).setCell ⟨w.heap.size+1,2,none⟩ u2) d cs:=fun d cs hd u0 u1 u2=>
  (((hd.above (Above.set 0 u0)).above (Above.set 1 u1)).above (Above.set 2 u2)).weaken (fun b hb=>by omega)
 have HAV:=hid AV
 clear AV b4
 go_wp2
 exact bodyPost_ret (v:=.agg #[.string at_.id,.slice a1 n1 c1,.slice a3 n3 c3]) (by simp [results,Tryz.results114,go_sem,r0,r1,r2]) rfl ⟨_,_,rfl,⟨HAV.out _ _ S4.out _ _ _,HAV.out _ _ R4.out _ _ _⟩,FB.out _ _ _⟩
open Go.RowKit
mutual
def Inl.deep:Inl->List Inl
 | .mk k t d ti a ar ci ks=>.mk k t d ti a ar ci ks::Inl.deepL ks
def Inl.deepL:List Inl->List Inl
 | []=>[]
 | x::l=>x.deep++Inl.deepL l
end
theorem Inl.deepL_app (l m:List Inl):Inl.deepL (l++m)=Inl.deepL l++Inl.deepL m:=by
 induction l with
 | nil=>rw [Inl.deepL];rfl
 | cons x l ih=>rw [List.cons_append,Inl.deepL,Inl.deepL,ih,List.append_assoc]
theorem Inl.deepL_take (l:List Inl) (k:Nat) (x:Inl) (h:l[k]?=some x):Inl.deepL (l.take (k+1))=Inl.deepL (l.take k)++x.deep:=by
 rw [List.take_add_one,h,Inl.deepL_app]
 simp [Inl.deepL]
mutual
theorem Inl.deep_len:∀ (x:Inl),x.deep.length=x.sz
 | .mk _ _ _ _ _ _ _ ks=>by rw [Inl.deep,Inl.sz,List.length_cons,Inl.deepL_len ks];omega
theorem Inl.deepL_len:∀ (l:List Inl),(Inl.deepL l).length=Inl.szL l
 | []=>by rw [Inl.deepL,Inl.szL];rfl
 | x::l=>by rw [Inl.deepL,Inl.szL,List.length_append,Inl.deep_len x,Inl.deepL_len l]
end
def inF (bo bi:Nat):Value:=.func (.func 113) #[] #[.pointer (some ⟨bo,0,none⟩),.pointer (some ⟨bi,0,none⟩)]
def okO (B0 B:Nat) (vo:Value) (p:Nat) (b:Nat):Prop:=b<B0\/(B<=b/\vo.ownBlock≠some b/\b≠p)
structure OL (B0 B bo bi p:Nat) (vo:Value) (acc:List Inl) (rows:List (List Value)) (wr:World):Prop where
 bx:wr.heap[bo]?=some (.cells #[vo] 38 (0,0))
 fn:wr.heap[bi]?=some (.cells #[inF bo bi] 146 (0,0))
 own:wr.ownsRow B 47 10 vo acc.length rows.flatten
 red:RdL (okO B0 B vo p) wr (acc.map Inl.d) rows
 len:∀ r∈rows,r.length=10
 siz:B<=wr.heap.size
section
variable {B0 B bo bi p:Nat} {vo:Value} {acc:List Inl} {rows:List (List Value)} {wr w':World}
theorem OL.grown (h:OL B0 B bo bi p vo acc rows wr) (hg:wr.grownBy w' none):OL B0 B bo bi p vo acc rows w':=
 ⟨(hg.block bo (Array.getElem?_eq_some_iff.1 h.bx).1 (by simp)).trans h.bx,(hg.block bi (Array.getElem?_eq_some_iff.1 h.fn).1 (by simp)).trans h.fn,h.own.kept hg (by cases vo.ownBlock<;>simp),RdL.keep (fun b hb hlt=>⟨hb,hg.block b hlt (by simp)⟩) _ _ h.red,h.len,Nat.le_trans h.siz hg.size⟩
theorem OL.set (h:OL B0 B bo bi p vo acc rows wr) (ho:bo<B) (hi:bi<B) (h0:B0<=B) (hp:B<=p) (hv:vo.ownBlock≠some p) (j:Nat) (u:Value):OL B0 B bo bi p vo acc rows (wr.setCell ⟨p,j,none⟩ u):=
 ⟨(Below.heap_setCell wr ⟨p,j,none⟩ u bo (by show bo≠p;omega)).trans h.bx,(Below.heap_setCell wr ⟨p,j,none⟩ u bi (by show bi≠p;omega)).trans h.fn,q1g h.own ⟨p,j,none⟩ u hv,
  RdL.keep (fun b hb hlt=>⟨hb,Below.heap_setCell wr ⟨p,j,none⟩ u b (by show b≠p;rcases hb with hb | hb;omega;exact hb.2.2)⟩) _ _ h.red,h.len,by have:=h.siz;simpa [World.setCell] using this⟩
end
def KeepO (bo:Nat) (vo:Value) (w w':World):Prop:=w.heap.size<=w'.heap.size/\w'.os=w.os/\w'.tape=w.tape/\w'.output=w.output/\∀ b,b<w.heap.size->b≠bo->vo.ownBlock≠some b->w'.heap[b]?=w.heap[b]?
theorem KeepO.below {bo B0 B:Nat} {vo:Value} {w w':World} (h:KeepO bo vo w w') (h0:B0<=bo) (h1:bo<w.heap.size) (hv:∀ g,vo.ownBlock=some g->B<=g) (hB:B0<=B):Below B0 w w':=
 ⟨h.2.1,h.2.2.1,h.2.2.2.1,h.1,fun b hb=>h.2.2.2.2 b (by omega) (by omega) (fun e=>by have:=hv b e;omega)⟩
def InOut (B0 B bo bi:Nat) (vo:Value) (w:World) (out:List Inl) (wr:World):Prop:=
 ∃ vo' rows',OL B0 B bo bi bo vo' out rows' wr/\KeepO bo vo w wr/\(vo'.ownBlock=vo.ownBlock\/∃ g,w.heap.size<=g/\vo'.ownBlock=some g)
def IlRel (B0 B bo bi:Nat) (vo:Value) (w:World) (acc l:List Inl) (vi:Value) (wr:World):Prop:=
 ∃ k:Nat,k<=l.length/\vi=.int .i64 k/\InOut B0 B bo bi vo w (acc++Inl.deepL (l.take k)) wr
structure IS (B0 B bo bi p:Nat) (vo:Value) (acc:List Inl) (rows:List (List Value)) (cs:List Value) (wr wx:World):Prop where
 ol:OL B0 B bo bi p vo acc rows wx
 pb:PB p cs wx
 bl:Below p wr wx
section
variable {B0 B bo bi p:Nat} {vo:Value} {acc:List Inl} {rows:List (List Value)} {cs:List Value} {wr wx w':World}
theorem IS.grown (h:IS B0 B bo bi p vo acc rows cs wr wx) (hg:wx.grownBy w' none):IS B0 B bo bi p vo acc rows cs wr w':=
 ⟨h.ol.grown hg,h.pb.grown hg,h.bl.grown hg (by have:=h.pb.lt;omega) (by simp)⟩
theorem IS.set (h:IS B0 B bo bi p vo acc rows cs wr wx) (ho:bo<B) (hi:bi<B) (h0:B0<=B) (hp:B<=p) (hv:vo.ownBlock≠some p) (j:Nat) (u:Value):IS B0 B bo bi p vo acc rows (cs.set j u) wr (wx.setCell ⟨p,j,none⟩ u):=
 ⟨h.ol.set ho hi h0 hp hv j u,h.pb.set j u,h.bl.setCell (p:=⟨p,j,none⟩) (Nat.le_refl _) u⟩
end
theorem cell_at {w:World} {B g m cap:Nat} {e:TypeId} {xs zs:List Value} (h:w.ownsRow B e 10 (.slice (some ⟨g,0,none⟩) (m+1) cap) (m+1) (xs++zs)) (hx:xs.length=m*10) (j:Nat) (u:Value) (hu:zs[j]?=some u) (hj:j<10):w.cell? ⟨g,m*10+j,none⟩=some u:=by
 rw [h.cellAt (m*10+j) (by omega),List.getElem?_append_right (by omega),hx,<- hu]
 congr 1;omega
theorem own_cap {w:World} {B g m cap k:Nat} {e:TypeId} {xs:List Value} (h:w.ownsRow B e k (.slice (some ⟨g,0,none⟩) (m+1) cap) (m+1) xs):m+1<=cap:=by
 rcases h.2 with ⟨h1,_⟩ | ⟨g',cap',cur,h1,_,_,h2,_⟩
 ·cases h1
 ·injection h1 with _ _ h3;omega
theorem box_at {w4 w5:World} {B bo g m n cap k:Nat} {e t:TypeId} {xs ys:List Value} {o:Obj} {v vx:Value} (hbx:w4.heap[bo]?=some (.cells #[vx] t (0,0))) (h:w5.ownsRow B e k (.slice (some ⟨g,0,none⟩) m cap) m xs)
  (hg0:(w4.alloc o).drew.grownBy w5 v.ownBlock) (hv:w4.ownsRow B e k v n ys) (hoB:bo<B) (hs:B<=w4.heap.size):w5.cell? ⟨bo,0,none⟩=some vx/\w5.frozen? ⟨bo,0,none⟩=false/\bo≠g:=by
 have h5:w5.heap[bo]?=some (.cells #[vx] t (0,0)):=by
  rw [hg0.block bo (by show bo<(w4.alloc o).heap.size;rw [World.size_alloc];omega) (fun e=>by have:=(hv.lt bo e.symm).1;omega)]
  exact (Below.heap_alloc w4 o bo (by omega)).trans hbx
 refine ⟨by simp [World.cell?,h5],by simp [World.frozen?,h5],?_⟩
 have:=(h.lt g rfl).1
 omega
theorem pb_at {w4 w5:World} {p:Nat} {cs:List Value} {o:Obj} {v:Value} (h:PB p cs w4) (hg:(w4.alloc o).drew.grownBy w5 v.ownBlock) (hv:v.ownBlock≠some p):PB p cs w5:=by
 have hl:=h.lt
 unfold PB at h ⊢
 rw [hg.block p (by show p<(w4.alloc o).heap.size;rw [World.size_alloc];omega) (fun e=>hv e.symm)]
 exact (Below.heap_alloc w4 o p hl).trans h
theorem q24 {w:World} {B g m cap:Nat} {e:TypeId} {xs zs:List Value} (h:w.ownsRow B e 10 (.slice (some ⟨g,0,none⟩) (m+1) cap) (m+1) (xs++zs)) (hx:xs.length=m*10) (j:Nat) (u:Value) :
  (w.setCell ⟨g,m*10+j,none⟩ u).ownsRow B e 10 (.slice (some ⟨g,0,none⟩) (m+1) cap) (m+1) (xs++zs.set j u):=by
 have:=(h.stored (m*10+j) u).1
 rw [List.set_append_right _ _ (by omega),hx,Nat.add_sub_cancel_left] at this
 exact this
theorem push_io {B0 B bo bi p m g cap co:Nat} {ao:Option Addr} {acc:List Inl} {rows:List (List Value)} {cs:List Value} {wr w4 w7:World} {x:Inl}
  (h:IS B0 B bo bi p (.slice ao m co) acc rows cs wr w4) (hm:m=acc.length) (hoB:bo<B) (hiB:bi<B) (hoi:bo≠bi) (h0o:B0<=bo) (hBp:B<=p)
  (hvp:∀ g,(Value.slice ao m co).ownBlock=some g->g<p) (hx:Rd (fun b=>b<B0\/p<b) w4 x.d cs) (hcs:cs.length=10)
  (hown:w7.ownsRow B 47 10 (.slice (some ⟨g,0,none⟩) (m+1) cap) (m+1) (rows.flatten++cs))
  (hbx:w7.heap[bo]?=some (.cells #[.slice (some ⟨g,0,none⟩) (m+1) cap] 38 (0,0)))
  (hko:KeepO bo (.slice ao m co) w4 w7) (hat:(Value.slice ao m co).ownBlock=some g\/w4.heap.size<=g) :
  InOut B0 B bo bi (.slice ao m co) w4 (acc++[x]) w7:=by
 have hs:=h.ol.siz
 have hgv:∀ b,b<w4.heap.size->(Value.slice ao m co).ownBlock≠some b->(Value.slice (some ⟨g,0,none⟩) (m+1) cap).ownBlock≠some b:=by
  intro b hb hne e
  have e':g=b:=by simpa [Value.ownBlock] using e
  subst e'
  rcases hat with h1 | h1
  ·exact hne h1
  ·omega
 have hne:∀ b,p<b->(Value.slice ao m co).ownBlock≠some b:=fun b hb e=>by have:=hvp b e;omega
 have hlo:∀ b,b<B->(Value.slice ao m co).ownBlock≠some b:=fun b hb e=>by have:=(h.ol.own.lt b e).1;omega
 refine ⟨_,rows++[cs],⟨hbx,?_,?_,?_,?_,Nat.le_trans hs hko.1⟩,hko,?_⟩
 ·exact (hko.2.2.2.2 bi (by omega) (fun e=>hoi e.symm) (hlo bi hiB)).trans h.ol.fn
 ·rw [List.length_append,List.length_singleton,<- hm,List.flatten_append,List.flatten_singleton];exact hown
 ·rw [List.map_append]
  refine RdL.app (RdL.keep (fun b hb hlt=>?_) _ _ h.ol.red) (RdL.one ?_)
  ·rcases hb with hb | hb
   ·exact ⟨.inl hb,hko.2.2.2.2 b hlt (by omega) (hlo b (by omega))⟩
   ·exact ⟨.inr ⟨hb.1,hgv b hlt hb.2.1,by omega⟩,hko.2.2.2.2 b hlt (by omega) hb.2.1⟩
  ·refine Rd.keep (fun b hb hlt=>?_) _ _ hx
   rcases hb with hb | hb
   ·exact ⟨.inl hb,hko.2.2.2.2 b hlt (by omega) (hlo b (by omega))⟩
   ·exact ⟨.inr ⟨by omega,hgv b hlt (hne b hb),by omega⟩,hko.2.2.2.2 b hlt (by omega) (hne b hb)⟩
 ·intro r hr
  rw [List.mem_append,List.mem_singleton] at hr
  rcases hr with hr | rfl
  ·exact h.ol.len r hr
  ·exact hcs
 ·rcases hat with h1 | h1
  ·exact .inl (by rw [h1];rfl)
  ·exact .inr ⟨g,h1,rfl⟩
def ten (w:World) (g o:Nat) (c0 c1 c2 c3 c4 c5 c6 c7 c8 c9:Value):World:=((((((((((w.setCell ⟨g,o,none⟩ c0).setCell ⟨g,o+1,none⟩ c1).setCell ⟨g,o+2,none⟩ c2).setCell ⟨g,o+3,none⟩ c3).setCell ⟨g,o+4,none⟩ c4).setCell ⟨g,o+5,none⟩ c5).setCell ⟨g,o+6,none⟩ c6).setCell ⟨g,o+7,none⟩ c7).setCell ⟨g,o+8,none⟩ c8).setCell ⟨g,o+9,none⟩ c9)
theorem ten_own {w:World} {B g m cap:Nat} {e:TypeId} {xs zs:List Value} (h:w.ownsRow B e 10 (.slice (some ⟨g,0,none⟩) (m+1) cap) (m+1) (xs++zs)) (hx:xs.length=m*10) (hz:zs.length=10) (c0 c1 c2 c3 c4 c5 c6 c7 c8 c9:Value) :
  (ten w g (m*10) c0 c1 c2 c3 c4 c5 c6 c7 c8 c9).ownsRow B e 10 (.slice (some ⟨g,0,none⟩) (m+1) cap) (m+1) (xs++[c0,c1,c2,c3,c4,c5,c6,c7,c8,c9]):=by
 obtain ⟨z0,z1,z2,z3,z4,z5,z6,z7,z8,z9,rfl⟩:∃ z0 z1 z2 z3 z4 z5 z6 z7 z8 z9,zs=[z0,z1,z2,z3,z4,z5,z6,z7,z8,z9]:=by
  match zs,hz with
  | [z0,z1,z2,z3,z4,z5,z6,z7,z8,z9],_=>exact ⟨_,_,_,_,_,_,_,_,_,_,rfl⟩
 have h:=q24 h hx 0 c0
 have h:=q24 h hx 1 c1
 have h:=q24 h hx 2 c2
 have h:=q24 h hx 3 c3
 have h:=q24 h hx 4 c4
 have h:=q24 h hx 5 c5
 have h:=q24 h hx 6 c6
 have h:=q24 h hx 7 c7
 have h:=q24 h hx 8 c8
 have h:=q24 h hx 9 c9
 exact h
theorem ten_heap (w:World) (g o:Nat) (c0 c1 c2 c3 c4 c5 c6 c7 c8 c9:Value) (b:Nat) (hb:b≠g):(ten w g o c0 c1 c2 c3 c4 c5 c6 c7 c8 c9).heap[b]?=w.heap[b]?:=by
 unfold ten
 iterate 10 rw [Below.heap_setCell _ _ _ b hb]
theorem KeepO.set {bo:Nat} {vo:Value} {w w':World} (h:KeepO bo vo w w') (b j:Nat) (u:Value) (hb:b=bo\/vo.ownBlock=some b\/w.heap.size<=b):KeepO bo vo w (w'.setCell ⟨b,j,none⟩ u):=by
 refine ⟨by have:=h.1;simpa [World.setCell] using this,h.2.1,h.2.2.1,h.2.2.2.1,fun c hc hne hvo=>?_⟩
 rw [Below.heap_setCell w' ⟨b,j,none⟩ u c (by show c≠b;rintro rfl;rcases hb with hb | hb | hb;exact hne hb;exact hvo hb;omega)]
 exact h.2.2.2.2 c hc hne hvo
theorem KeepO.ten {bo:Nat} {vo:Value} {w w':World} (h:KeepO bo vo w w') (b o:Nat) (hb:b=bo\/vo.ownBlock=some b\/w.heap.size<=b) (c0 c1 c2 c3 c4 c5 c6 c7 c8 c9:Value):KeepO bo vo w (ten w' b o c0 c1 c2 c3 c4 c5 c6 c7 c8 c9):=
 ((((((((((h.set b _ _ hb).set b _ _ hb).set b _ _ hb).set b _ _ hb).set b _ _ hb).set b _ _ hb).set b _ _ hb).set b _ _ hb).set b _ _ hb).set b _ _ hb)
theorem KeepO.app {bo:Nat} {vo:Value} {w w5:World} {o:Obj} (hg:(w.alloc o).drew.grownBy w5 vo.ownBlock):KeepO bo vo w w5:=by
 refine ⟨Nat.le_trans (by show _<=(w.alloc o).heap.size;rw [World.size_alloc];omega) hg.size,hg.os,hg.tape,hg.output,fun c hc hne hvo=>?_⟩
 rw [hg.block c (by show c<(w.alloc o).heap.size;rw [World.size_alloc];omega) (fun e=>hvo e.symm)]
 exact Below.heap_alloc w o c hc
theorem box_set {w:World} {bo:Nat} {v u:Value} {t:TypeId} (h:w.heap[bo]?=some (.cells #[v] t (0,0))):(w.setCell ⟨bo,0,none⟩ u).heap[bo]?=some (.cells #[u] t (0,0)):=by
 simp [World.setCell,Array.getElem?_modify,h]
theorem box_app {w4 w5:World} {B bo n k:Nat} {e t:TypeId} {ys:List Value} {o:Obj} {v vx:Value} (hbx:w4.heap[bo]?=some (.cells #[vx] t (0,0)))
  (hg0:(w4.alloc o).drew.grownBy w5 v.ownBlock) (hv:w4.ownsRow B e k v n ys) (hoB:bo<B) (hs:B<=w4.heap.size):w5.heap[bo]?=some (.cells #[vx] t (0,0)):=by
 rw [hg0.block bo (by show bo<(w4.alloc o).heap.size;rw [World.size_alloc];omega) (fun e=>by have:=(hv.lt bo e.symm).1;omega)]
 exact (Below.heap_alloc w4 o bo (by omega)).trans hbx
theorem push_two {B0 B bo bi p m g cap co:Nat} {ao:Option Addr} {acc:List Inl} {rows:List (List Value)} {wr w4 w5:World} {x:Inl} {o:Obj} {zs:List Value} {c0 c1 c2 c3 c4 c5 c6 c7 c8 c9:Value}
  (h:IS B0 B bo bi p (.slice ao m co) acc rows [c0,c1,c2,c3,c4,c5,c6,c7,c8,c9] wr w4) (hm:m=acc.length) (hoB:bo<B) (hiB:bi<B) (hoi:bo≠bi) (h0o:B0<=bo) (hBp:B<=p)
  (hvp:∀ g,(Value.slice ao m co).ownBlock=some g->g<p) (hx:Rd (fun b=>b<B0\/p<b) w4 x.d [c0,c1,c2,c3,c4,c5,c6,c7,c8,c9])
  (hown:w5.ownsRow B 47 10 (.slice (some ⟨g,0,none⟩) (m+1) cap) (m+1) (rows.flatten++zs)) (hz:zs.length=10) (hrl:rows.flatten.length=m*10)
  (hg:(w4.alloc o).drew.grownBy w5 (Value.slice ao m co).ownBlock) (hat:(Value.slice ao m co).ownBlock=some g\/w4.heap.size<=g) :
  InOut B0 B bo bi (.slice ao m co) w4 (acc++[x]) ((ten w5 g (m*10) c0 c1 c2 c3 c4 c5 c6 c7 c8 c9).setCell ⟨bo,0,none⟩ (.slice (some ⟨g,0,none⟩) (m+1) cap)) /\
  InOut B0 B bo bi (.slice ao m co) w4 (acc++[x]) (ten (w5.setCell ⟨bo,0,none⟩ (.slice (some ⟨g,0,none⟩) (m+1) cap)) g (m*10) c0 c1 c2 c3 c4 c5 c6 c7 c8 c9):=by
 have hgb:bo≠g:=by have:=(hown.lt g rfl).1;omega
 have hbx5:w5.heap[bo]?=some (.cells #[.slice ao m co] 38 (0,0)):=box_app h.ol.bx hg h.ol.own hoB h.ol.siz
 have hne:(Value.slice (some ⟨g,0,none⟩) (m+1) cap).ownBlock≠some bo:=by
  intro e
  have e':g=bo:=by simpa [Value.ownBlock] using e
  exact hgb e'.symm
 have hk:KeepO bo (.slice ao m co) w4 w5:=KeepO.app hg
 constructor
 ·refine push_io h hm hoB hiB hoi h0o hBp hvp hx rfl (q1g (ten_own hown hrl hz c0 c1 c2 c3 c4 c5 c6 c7 c8 c9) ⟨bo,0,none⟩ _ hne) ?_ ((hk.ten g _ (.inr hat) c0 c1 c2 c3 c4 c5 c6 c7 c8 c9).set bo 0 _ (.inl rfl)) hat
  exact box_set ((ten_heap w5 g _ c0 c1 c2 c3 c4 c5 c6 c7 c8 c9 bo hgb).trans hbx5)
 ·refine push_io h hm hoB hiB hoi h0o hBp hvp hx rfl (ten_own (q1g hown ⟨bo,0,none⟩ _ hne) hrl hz c0 c1 c2 c3 c4 c5 c6 c7 c8 c9) ?_ ((hk.set bo 0 _ (.inl rfl)).ten g _ (.inr hat) c0 c1 c2 c3 c4 c5 c6 c7 c8 c9) hat
  exact (ten_heap _ g _ c0 c1 c2 c3 c4 c5 c6 c7 c8 c9 bo hgb).trans (box_set hbx5)
theorem Inl.szL_take_get (l:List Inl) (k:Nat) (x:Inl) (h:l[k]?=some x):Inl.szL (l.take k)+x.sz<=Inl.szL l:=by
 have e:Inl.deepL l=Inl.deepL (l.take (k+1))++Inl.deepL (l.drop (k+1)):=by rw [<- Inl.deepL_app,List.take_append_drop]
 have e2:=congrArg List.length e
 rw [Inl.deepL_take l k x h] at e2
 simp only [List.length_append,Inl.deepL_len,Inl.deep_len] at e2
 omega
theorem InOut.trans {B0 B bo bi:Nat} {vo vo1:Value} {w w1:World} {wr:World} {out:List Inl}
  (hk:KeepO bo vo w w1) (hor:vo1.ownBlock=vo.ownBlock\/∃ g,w.heap.size<=g/\vo1.ownBlock=some g)
  (h2:InOut B0 B bo bi vo1 w1 out wr):InOut B0 B bo bi vo w out wr:=by
 obtain ⟨vo2,rows2,hol,hk2,hor2⟩:=h2
 refine ⟨vo2,rows2,hol,⟨Nat.le_trans hk.1 hk2.1,hk2.2.1.trans hk.2.1,hk2.2.2.1.trans hk.2.2.1,hk2.2.2.2.1.trans hk.2.2.2.1,fun b hb hne hvo=>?_⟩,?_⟩
 ·refine (hk2.2.2.2.2 b (Nat.lt_of_lt_of_le hb hk.1) hne ?_).trans (hk.2.2.2.2 b hb hne hvo)
  rcases hor with e | ⟨g,hg,e⟩
  ·rw [e];exact hvo
  ·rw [e];intro h;have:=Option.some.inj h;omega
 ·rcases hor2 with e | ⟨g,hg,e⟩
  ·rw [e];exact hor
  ·exact .inr ⟨g,Nat.le_trans hk.1 hg,e⟩
theorem OL.drew {B0 B bo bi p:Nat} {vo:Value} {acc:List Inl} {rows:List (List Value)} {wr:World} (h:OL B0 B bo bi p vo acc rows wr):OL B0 B bo bi p vo acc rows wr.drew:=h.grown (grown_drew ⟨rfl,rfl,rfl,Nat.le_refl _,fun _ _ _=>rfl⟩)
theorem KeepO.drew {bo:Nat} {vo:Value} {w w':World} (h:KeepO bo vo w w'):KeepO bo vo w w'.drew:=⟨h.1,h.2.1,h.2.2.1,h.2.2.2.1,h.2.2.2.2⟩
end Go.Proofs.YtlbioncagkkkoaaGreatDoor
