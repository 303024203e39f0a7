/- Contracts of slices.Clone at inlines and blocks, and of slides.copyAttr, copyLine, copyBlocks. Contract of slides.copyBlocks. -/
import Derived.Test.YtkfnkeflalcphaaGreatDoorKRfD
set_option maxHeartbeats 4000000
set_option maxRecDepth 100000
open Go.Lib (hid)
namespace Go.Proofs.YtkfnkeflalcphaaGreatDoor
open Nat renaming le_refl->jj9,le_trans->jjj
open List renaming length_map->jjz
open Go.World renaming setCell->jl2
open Go renaming World->jmj,Value->jmq
open Go.RowKit
set_option linter.unusedVariables false
set_option linter.unusedSimpArgs false
theorem Oy {ok:Nat->Prop} {w:jmj} {l:List aj} {rows:List (List jmq)} (h:aI ok w (l.map aj.d) rows):∀ u∈rows.flatten,u.oneCell'=true:=
 kT h fun d hd r hr u hu=>by
  obtain ⟨x,_,rfl⟩:=List.mem_map.1 hd;obtain ⟨k,t,d,ti,a,ar,ci,ks⟩:=x;obtain ⟨vc,vp,va,vi,vk,rfl,hR⟩:=aj.open_ hr;obtain ⟨_,_,_,rfl⟩:=Rd.ay hR.at_.cls
  obtain ⟨_,_,_,rfl⟩:=Rd.ay hR.at_.aJ
  obtain ⟨_,_,_,rfl⟩:=Rd.ay hR.args;obtain ⟨_,_,_,rfl⟩:=Rd.ay hR.dF;obtain ⟨_,_,_,rfl⟩:=Rd.ay hR.kids;simp at hu;rcases hu with rfl | rfl | rfl | rfl | rfl | rfl | rfl | rfl | rfl | rfl<;>rfl
theorem Oz {ok:Nat->Prop} {w:jmj} {l:List ah} {rows:List (List jmq)} (h:aI ok w (l.map ah.d) rows):∀ u∈rows.flatten,u.oneCell'=true:=
 kT h fun d hd r hr u hu=>by
  obtain ⟨x,_,rfl⟩:=List.mem_map.1 hd;obtain ⟨k,lv,i,t,d,ti,a,li,ks⟩:=x;obtain ⟨vc,vp,vl,vk,rfl,hR⟩:=ah.open_ hr;obtain ⟨_,_,_,rfl⟩:=Rd.ay hR.at_.cls
  obtain ⟨_,_,_,rfl⟩:=Rd.ay hR.at_.aJ
  obtain ⟨_,_,_,rfl⟩:=Rd.ay hR.line;obtain ⟨_,_,_,rfl⟩:=Rd.ay hR.kids;simp at hu;rcases hu with rfl | rfl | rfl | rfl | rfl | rfl | rfl | rfl | rfl | rfl | rfl<;>rfl
theorem Hg (l:List aj) (ok:Nat->Prop) (v:jmq) (w:jmj) (h:Rd ok w (aY l) [v]) (hB:∀ b,ok b->b<w.heap.size) (hl:l.length<=1000000) : Calls Tryz.prog 103 #[v] w (fun e w'=>∃ v' rows,e=.returned v'/\aC 66 10 ok w'.heap.size w (l.map aj.d) rows v' w'):=by
 obtain ⟨i0,hi,hz0,hz1,hz2⟩:=info_parts MZ;obtain ⟨A,cap,rows,rfl,h1,h2,h3,h4,h5⟩:=Rd.AX h;rw [jjz] at h1 h5;have e:(l.map aj.d).length=l.length:=jjz _;rw [e];unfold maxLen at h2;have H3:=hid h3;have H4:=hid h4;have H5:=hid h5;have H1:=hid (Oy h3);clear h h3 h4 h5 e;cases A with
 | none=>
  have h0:l=[]:=List.length_eq_zero_iff.1 (jw H5.out);subst h0;have hq:=fun (w:jmj) (a:Option Addr) (n c:Nat)=>Lib.run_eql_slice_nil (P:=Tryz.prog) w _ _ a n c 0 0 Tryz.underlying46
  go_enter Tryz.func103,Tryz.ntmps103;go_wp2;go_ret;exact ⟨_,[],rfl,aC.nil _ _ _ _⟩
 | some ad=>
  have hq:=fun (w:jmj) (a:Option Addr) (n c:Nat)=>Lib.run_eql_slice_nil (P:=Tryz.prog) w _ _ a n c 0 0 Tryz.underlying46
  go_enter Tryz.func103,Tryz.ntmps103;go_wp2_with (at_builtin;refine Pg _ rfl (.tmp 5) (.tmp 6) 46 rfl w.heap.size 66 i0 _ 10 192 Tryz.underlying46 hi hz0 hz1 hz2 rfl (by decide) (.slice (some ⟨w.heap.size,0,none⟩) 0 0) 0 [] rfl (jy w _ _) w.heap.size (some ad) l.length cap rows.flatten rfl (H5.out.below ((Below.refl _ w).alloc (jj9 _) _)) H1.out ?a1 ?a2 ?a3 ?_)
  case a1=>unfold maxLen;omega
  case a2=>omega
  case a3=>simp
  intro v' w1 hown hg _
  (try simp only [Nat.zero_add,List.nil_append] at hown)
  have b1:Below w.heap.size w w1:=((Below.refl _ w).alloc (jj9 _) _).grown hg (by simp) (fun j hj=>by have e:w.heap.size=j:=Option.some.inj hj;omega);have HO:=hid hown;clear hown hg;go_wp2;go_ret;refine ⟨_,rows,rfl,⟨by rw [jjz];exact HO.out,aI.keep (fun b hb hlt=>⟨⟨.inl hb,fun e=>by have:=(HO.out.lt b e).1;omega,by have:=b1.size;omega⟩,b1.block b hlt⟩) _ _ H3.out,H4.out,b1,fun g hg=>(HO.out.lt g hg).2,b1.size,jj9 _⟩⟩
theorem Hl (l:List ah) (ok:Nat->Prop) (v:jmq) (w:jmj) (h:Rd ok w (iO l) [v]) (hB:∀ b,ok b->b<w.heap.size) (hl:l.length<=1000000) : Calls Tryz.prog 105 #[v] w (fun e w'=>∃ v' rows,e=.returned v'/\aC 48 11 ok w'.heap.size w (l.map ah.d) rows v' w'):=by
 obtain ⟨i0,hi,hz0,hz1,hz2⟩:=info_parts Od;obtain ⟨A,cap,rows,rfl,h1,h2,h3,h4,h5⟩:=Rd.AX h;rw [jjz] at h1 h5;have e:(l.map ah.d).length=l.length:=jjz _;rw [e];unfold maxLen at h2;have H3:=hid h3;have H4:=hid h4;have H5:=hid h5;have H1:=hid (Oz h3);clear h h3 h4 h5 e;cases A with
 | none=>
  have h0:l=[]:=List.length_eq_zero_iff.1 (jw H5.out);subst h0;have hq:=fun (w:jmj) (a:Option Addr) (n c:Nat)=>Lib.run_eql_slice_nil (P:=Tryz.prog) w _ _ a n c 0 0 Tryz.underlying22
  go_enter Tryz.func105,Tryz.ntmps105;go_wp2;go_ret;exact ⟨_,[],rfl,aC.nil _ _ _ _⟩
 | some ad=>
  have hq:=fun (w:jmj) (a:Option Addr) (n c:Nat)=>Lib.run_eql_slice_nil (P:=Tryz.prog) w _ _ a n c 0 0 Tryz.underlying22
  go_enter Tryz.func105,Tryz.ntmps105;go_wp2_with (at_builtin;refine Pg _ rfl (.tmp 5) (.tmp 6) 22 rfl w.heap.size 48 i0 _ 11 192 Tryz.underlying22 hi hz0 hz1 hz2 rfl (by decide) (.slice (some ⟨w.heap.size,0,none⟩) 0 0) 0 [] rfl (jy w _ _) w.heap.size (some ad) l.length cap rows.flatten rfl (H5.out.below ((Below.refl _ w).alloc (jj9 _) _)) H1.out ?a1 ?a2 ?a3 ?_)
  case a1=>unfold maxLen;omega
  case a2=>omega
  case a3=>simp
  intro v' w1 hown hg _
  (try simp only [Nat.zero_add,List.nil_append] at hown)
  have b1:Below w.heap.size w w1:=((Below.refl _ w).alloc (jj9 _) _).grown hg (by simp) (fun j hj=>by have e:w.heap.size=j:=Option.some.inj hj;omega);have HO:=hid hown;clear hown hg;go_wp2;go_ret;refine ⟨_,rows,rfl,⟨by rw [jjz];exact HO.out,aI.keep (fun b hb hlt=>⟨⟨.inl hb,fun e=>by have:=(HO.out.lt b e).1;omega,by have:=b1.size;omega⟩,b1.block b hlt⟩) _ _ H3.out,H4.out,b1,fun g hg=>(HO.out.lt g hg).2,b1.size,jj9 _⟩⟩
theorem zX (at_:At) (vc vp:jmq) (B:Nat) (w:jmj) (h:AtR (·<B) w at_ vc vp) (hB:B<=w.heap.size) (hc:at_.cls.length<=1000000) (hp:at_.aJ.length<=1000000) : Calls Tryz.prog 104 #[.agg #[.string at_.id,vc,vp]] w fun e w'=>∃ Ei Ej,e=.returned (.agg #[.string at_.id,Ei,Ej])/\AtR (w.heap.size<=·) w' at_ Ei Ej/\Below w.heap.size w w':=by
 obtain ⟨ac,nc,cc,rfl⟩:=Rd.ay h.cls;obtain ⟨ap,np,cp,rfl⟩:=Rd.ay h.aJ;have HA:=hid h;clear h;go_enter Tryz.func104,Tryz.ntmps104;go_upto_region 1 with (fail)
 obtain ⟨w0,hw0⟩:∃ w0,w0=(w.alloc (.cells #[.string at_.id,.slice ac nc cc,.slice ap np cp] 45)).alloc (.cells #[.string ⟨#[]⟩,.slice none 0 0,.slice none 0 0] 45):=⟨_,rfl⟩;have P0:AB w.heap.size [.string at_.id,.slice ac nc cc,.slice ap np cp] w0:=by rw [hw0];exact (Below.heap_alloc _ _ _ (by simp)).trans (heap_alloc_new w _)
 have Q0:AB (w.heap.size+1) [.string ⟨#[]⟩,.slice none 0 0,.slice none 0 0] w0:=by rw [hw0];have:=heap_alloc_new (w.alloc (.cells #[.string at_.id,.slice ac nc cc,.slice ap np cp] 45)) (.cells #[.string ⟨#[]⟩,.slice none 0 0,.slice none 0 0] 45);rw [World.size_alloc] at this;exact this
 have b0:Below w.heap.size w w0:=by rw [hw0];exact ((Below.refl _ w).alloc (jj9 _) _).alloc (by simp) _
 have hs0:w.heap.size+2<=w0.heap.size:=by rw [hw0];simp
 rw [<- hw0];clear hw0;have CS:=hid (lH at_.cls B _ w0 (HA.out.cls.below (b0.mono hB)) (jjj hB b0.size) hc);have d1:=P0.cell 1 _ rfl;have Z8:=hid P0;have Z9:=hid Q0;clear P0 Q0;go_wp2_with fail
 refine CS.out.mono ?_;rintro e w1 ⟨v1,rfl,hr1,b1⟩;obtain ⟨a1,n1,c1,rfl⟩:=Rd.ay hr1;have P1:=Z8.out.grown (Fh b1);have Q1:=Z9.out.grown (Fh b1);have Ro:=hid P1;have V4:=hid Q1;have HR1:=hid (hr1.weaken (ok':=((w.heap.size+1)<·)) (fun b hb=>by omega));have hb1:=aR b0 b1;have hs1:w.heap.size+2<=w1.heap.size:=jjj hs0 b1.size;have d1:=P1.cell 1 _ rfl;have f1:=P1.free 1;clear P1 Q1 Z8 Z9 CS hr1 b0 b1 hs0;go_upto_region 2 with (fail)
 obtain ⟨w2,hw2⟩:∃ w2,w2=w1.setCell ⟨w.heap.size,1,none⟩ (.slice a1 n1 c1):=⟨_,rfl⟩;have P2:AB w.heap.size [.string at_.id,.slice a1 n1 c1,.slice ap np cp] w2:=by rw [hw2];exact Ro.out.set 1 _
 have Q2:AB (w.heap.size+1) [.string ⟨#[]⟩,.slice none 0 0,.slice none 0 0] w2:=by rw [hw2];exact V4.out.far (by omega) 1 _
 have R2:Hid (Rd ((w.heap.size+1)<·) w2 (fq at_.cls) [.slice a1 n1 c1]):=by show Rd _ _ _ _;rw [hw2];exact Rd.keep (fun b hb hlt=>⟨hb,Below.heap_setCell w1 ⟨w.heap.size,1,none⟩ _ b (by show b≠w.heap.size;omega)⟩) _ _ HR1.out
 have b2:Below w.heap.size w w2:=by rw [hw2];exact hb1.setCell (p:=⟨w.heap.size,1,none⟩) (jj9 _) _
 have hs2:w.heap.size+2<=w2.heap.size:=by rw [hw2];simpa [jl2] using hs1
 rw [<- hw2];clear hw2 Ro V4 HR1 hb1 hs1 d1 f1;have CP:=hid (wT at_.aJ B _ w2 (HA.out.aJ.below (b2.mono hB)) (jjj hB b2.size) hp);have d2:=P2.cell 2 _ rfl;have Lj:=hid P2;have Q6:=hid Q2;clear P2 Q2;go_wp2_with fail
 refine CP.out.mono ?_;rintro e w3 ⟨v3,rfl,hr3,b3⟩;obtain ⟨a3,n3,c3,rfl⟩:=Rd.ay hr3;have P3:=Lj.out.grown (Fh b3);have Q3:=Q6.out.grown (Fh b3);have Fe:=hid (P3.set 2 (.slice a3 n3 c3));have Cy:=hid (Q3.far (q:=w.heap.size) (by omega) 2 (.slice a3 n3 c3));have HR3:=hid (hr3.weaken (ok':=((w.heap.size+1)<·)) (fun b hb=>by omega));have HS3:=hid (Rd.keep (ok':=((w.heap.size+1)<·)) (fun b hb hlt=>⟨hb,b3.block b hlt⟩) _ _ R2.out);have hb3:=aR b2 b3;have d2:=P3.cell 2 _ rfl;have f2:=P3.free 2;clear P3 Q3 Lj Q6 CP hr3 b2 b3 R2 hs2;go_upto_region 3 with (fail)
 obtain ⟨w4,hw4⟩:∃ w4,w4=w3.setCell ⟨w.heap.size,2,none⟩ (.slice a3 n3 c3):=⟨_,rfl⟩;rw [<- hw4] at Fe Cy;have K4:∀ b,w.heap.size+1<b->b<w3.heap.size->w4.heap[b]?=w3.heap[b]?:=fun b hb _=>by rw [hw4];exact Below.heap_setCell w3 ⟨w.heap.size,2,none⟩ _ b (by show b≠w.heap.size;omega)
 have R4:=hid (Rd.keep (w':=w4) (ok':=((w.heap.size+1)<·)) (fun b hb hlt=>⟨hb,K4 b hb hlt⟩) _ _ HR3.out);have S4:=hid (Rd.keep (w':=w4) (ok':=((w.heap.size+1)<·)) (fun b hb hlt=>⟨hb,K4 b hb hlt⟩) _ _ HS3.out);have b4:Below w.heap.size w w4:=by rw [hw4];exact hb3.setCell (p:=⟨w.heap.size,2,none⟩) (jj9 _) _
 rw [<- hw4];clear hw4 K4 HR3 HS3 hb3 d2 f2;have q0:=Fe.out.cell 0 _ rfl;have q1:=Fe.out.cell 1 _ rfl;have q2:=Fe.out.cell 2 _ rfl;have r0:=Cy.out.cell 0 _ rfl;have r1:=Cy.out.cell 1 _ rfl;have r2:=Cy.out.cell 2 _ rfl;have g0:=Cy.out.free 0;have g1:=Cy.out.free 1;have g2:=Cy.out.free 2;have FB:=hid (fun u0 u1 u2=>((b4.setCell (p:=⟨w.heap.size+1,0,none⟩) (by simp) u0).setCell (p:=⟨w.heap.size+1,1,none⟩) (by simp) u1).setCell (p:=⟨w.heap.size+1,2,none⟩) (by simp) u2);have AV:∀ (d:D) (cs:List jmq),Rd ((w.heap.size+1)<·) w4 d cs->∀ u0 u1 u2,Rd (w.heap.size<=·) (((w4.setCell ⟨w.heap.size+1,0,none⟩ u0).setCell ⟨w.heap.size+1,1,none⟩ u1).setCell ⟨w.heap.size+1,2,none⟩ u2) d cs:=fun d cs hd u0 u1 u2=>
  (((hd.above (dO.set 0 u0)).above (dO.set 1 u1)).above (dO.set 2 u2)).weaken (fun b hb=>by omega)
 have HAV:=hid AV;clear AV b4;go_wp2;exact bodyPost_ret (v:=.agg #[.string at_.id,.slice a1 n1 c1,.slice a3 n3 c3]) (by simp [results,Tryz.results104,go_sem,r0,r1,r2]) rfl ⟨_,_,rfl,⟨HAV.out _ _ S4.out _ _ _,HAV.out _ _ R4.out _ _ _⟩,FB.out _ _ _⟩
def Jk {α:Type} (T:TypeId) (k:Nat) (ok:Nat->Prop) (w:jmj) (D':α->D) (l:List α) (v vi:jmq) (wr:jmj):Prop:=∃ (i:Nat) (rows:List (List jmq)),i<=l.length/\vi=.int .i64 i/\aC T k ok wr.heap.size w (l.map D') rows v wr
theorem XY {ok:Nat->Prop} {w:jmj} {d:D} {cs:List jmq} (h:Rd ok w d cs):Rd (·<w.heap.size) w d cs:=Rd.keep (fun b _ h2=>⟨h2,rfl⟩) _ _ h
theorem zY {ok:Nat->Prop} {g B1:Nat} {w0 w':jmj} {d:D} {cs:List jmq} (h:Rd (B1<=·) w' d cs) (h0:w0.heap.size<=B1) (hg:g<B1):Rd (fun b=>(ok b\/w0.heap.size<=b)/\b≠g) w' d cs:=h.weaken (fun b hb=>⟨.inr (jjj h0 hb),by omega⟩)
theorem zZ {g B1 o:Nat} {w:jmj} {u:jmq} {d:D} {cs:List jmq} (h:Rd (B1<=·) w d cs) (hg:g<B1):Rd (B1<=·) (w.setCell ⟨g,o,none⟩ u) d cs:=Rd.keep (fun b (hb:B1<=b) _=>⟨hb,Below.heap_setCell w ⟨g,o,none⟩ u b (by show b≠g;omega)⟩) _ _ h
theorem aj.kZ {ok:Nat->Prop} {w:jmj} {k:Int} {t d ti:ByteArray} {a:At} {ar:List ByteArray} {ci:List Ci} {ks:List aj} {vc vp va vi vk:jmq} (h:Rd ok w (aj.mk k t d ti a ar ci ks).d [.int .i64 k,.string t,.string d,.string ti,.string a.id,vc,vp,va,vi,vk]):tT ok w a ar ci ks vc vp va vi vk:=by obtain ⟨Ei,Ej,va',vi',Tq,e,hI⟩:=aj.open_ h;simp only [List.cons.injEq,and_true,true_and] at e;obtain ⟨rfl,rfl,rfl,rfl,rfl⟩:=e;exact hI
theorem ah.WI {ok:Nat->Prop} {w:jmj} {k lv:Int} {i t d ti:ByteArray} {a:At} {li:List aj} {ks:List ah} {vc vp vl vk:jmq} (h:Rd ok w (ah.mk k lv i t d ti a li ks).d [.int .i64 k,.int .i64 lv,.string i,.string t,.string d,.string ti,.string a.id,vc,vp,vl,vk]):ku ok w a li ks vc vp vl vk:=by obtain ⟨Ei,Ej,vl',Tq,e,hI⟩:=ah.open_ h;simp only [List.cons.injEq,and_true,true_and] at e;obtain ⟨rfl,rfl,rfl,rfl⟩:=e;exact hI
section
variable {U g n c B1 i:Nat} {ok:Nat->Prop} {w0 w:jmj} {ds:List D} {rows:List (List jmq)} {k lv:Int} {s t d ti:ByteArray} {a:At} {ar:List ByteArray} {ci:List Ci} {ks:List aj} {li:List aj} {bs:List ah} {vc vp va vi vk vl u:jmq}
theorem aC.in4 (h:aC 66 10 ok U w0 ds rows (.slice (some ⟨g,0,none⟩) n c) w) (hd:ds[i]?=some (aj.mk k t d ti a ar ci ks).d) (hr:rows[i]?=some [.int .i64 k,.string t,.string d,.string ti,.string a.id,vc,vp,va,vi,vk]) : ∃ rows',rows'[i]?=some [.int .i64 k,.string t,.string d,.string ti,.string a.id,vc,vp,va,vi,vk]/\aC 66 10 ok (w.setCell ⟨g,i*10+4,none⟩ (.string a.id)).heap.size w0 ds rows' (.slice (some ⟨g,0,none⟩) n c) (w.setCell ⟨g,i*10+4,none⟩ (.string a.id)):=
 h.Oh hr hd 4 _ _ (by decide) rfl (h.get hr hd).1
theorem aC.in5 (h:aC 66 10 ok U w0 ds rows (.slice (some ⟨g,0,none⟩) n c) w) (hd:ds[i]?=some (aj.mk k t d ti a ar ci ks).d) (hr:rows[i]?=some [.int .i64 k,.string t,.string d,.string ti,.string a.id,vc,vp,va,vi,vk]) (hu:Rd (B1<=·) w (fq a.cls) [u]) (h0:w0.heap.size<=B1) (hg:g<B1) : ∃ rows',rows'[i]?=some [.int .i64 k,.string t,.string d,.string ti,.string a.id,u,vp,va,vi,vk]/\aC 66 10 ok (w.setCell ⟨g,i*10+5,none⟩ u).heap.size w0 ds rows' (.slice (some ⟨g,0,none⟩) n c) (w.setCell ⟨g,i*10+5,none⟩ u):=
 have I:=aj.kZ (h.get hr hd).1;have N:=zY (ok:=ok) hu h0 hg
 h.Oh hr hd 5 u _ (by decide) rfl (aj.eu k t d ti ⟨⟨N,I.at_.aJ⟩,I.args,I.dF,I.kids⟩)
theorem aC.in6 (h:aC 66 10 ok U w0 ds rows (.slice (some ⟨g,0,none⟩) n c) w) (hd:ds[i]?=some (aj.mk k t d ti a ar ci ks).d) (hr:rows[i]?=some [.int .i64 k,.string t,.string d,.string ti,.string a.id,vc,vp,va,vi,vk]) (hu:Rd (B1<=·) w (bS a.aJ) [u]) (h0:w0.heap.size<=B1) (hg:g<B1) : ∃ rows',rows'[i]?=some [.int .i64 k,.string t,.string d,.string ti,.string a.id,vc,u,va,vi,vk]/\aC 66 10 ok (w.setCell ⟨g,i*10+6,none⟩ u).heap.size w0 ds rows' (.slice (some ⟨g,0,none⟩) n c) (w.setCell ⟨g,i*10+6,none⟩ u):=
 have I:=aj.kZ (h.get hr hd).1;have N:=zY (ok:=ok) hu h0 hg
 h.Oh hr hd 6 u _ (by decide) rfl (aj.eu k t d ti ⟨⟨I.at_.cls,N⟩,I.args,I.dF,I.kids⟩)
theorem aC.in7 (h:aC 66 10 ok U w0 ds rows (.slice (some ⟨g,0,none⟩) n c) w) (hd:ds[i]?=some (aj.mk k t d ti a ar ci ks).d) (hr:rows[i]?=some [.int .i64 k,.string t,.string d,.string ti,.string a.id,vc,vp,va,vi,vk]) (hu:Rd (B1<=·) w (fq ar) [u]) (h0:w0.heap.size<=B1) (hg:g<B1) : ∃ rows',rows'[i]?=some [.int .i64 k,.string t,.string d,.string ti,.string a.id,vc,vp,u,vi,vk]/\aC 66 10 ok (w.setCell ⟨g,i*10+7,none⟩ u).heap.size w0 ds rows' (.slice (some ⟨g,0,none⟩) n c) (w.setCell ⟨g,i*10+7,none⟩ u):=
 have I:=aj.kZ (h.get hr hd).1;have N:=zY (ok:=ok) hu h0 hg
 h.Oh hr hd 7 u _ (by decide) rfl (aj.eu k t d ti ⟨I.at_,N,I.dF,I.kids⟩)
theorem aC.in8 (h:aC 66 10 ok U w0 ds rows (.slice (some ⟨g,0,none⟩) n c) w) (hd:ds[i]?=some (aj.mk k t d ti a ar ci ks).d) (hr:rows[i]?=some [.int .i64 k,.string t,.string d,.string ti,.string a.id,vc,vp,va,vi,vk]) (hu:Rd (B1<=·) w (JI ci) [u]) (h0:w0.heap.size<=B1) (hg:g<B1) : ∃ rows',rows'[i]?=some [.int .i64 k,.string t,.string d,.string ti,.string a.id,vc,vp,va,u,vk]/\aC 66 10 ok (w.setCell ⟨g,i*10+8,none⟩ u).heap.size w0 ds rows' (.slice (some ⟨g,0,none⟩) n c) (w.setCell ⟨g,i*10+8,none⟩ u):=
 have I:=aj.kZ (h.get hr hd).1;have N:=zY (ok:=ok) hu h0 hg
 h.Oh hr hd 8 u _ (by decide) rfl (aj.eu k t d ti ⟨I.at_,I.args,N,I.kids⟩)
theorem aC.in9 (h:aC 66 10 ok U w0 ds rows (.slice (some ⟨g,0,none⟩) n c) w) (hd:ds[i]?=some (aj.mk k t d ti a ar ci ks).d) (hr:rows[i]?=some [.int .i64 k,.string t,.string d,.string ti,.string a.id,vc,vp,va,vi,vk]) (N:Rd (fun b=>(ok b\/w0.heap.size<=b)/\b≠g) w (aY ks) [u]) : ∃ rows',rows'[i]?=some [.int .i64 k,.string t,.string d,.string ti,.string a.id,vc,vp,va,vi,u]/\aC 66 10 ok (w.setCell ⟨g,i*10+9,none⟩ u).heap.size w0 ds rows' (.slice (some ⟨g,0,none⟩) n c) (w.setCell ⟨g,i*10+9,none⟩ u):=
 have I:=aj.kZ (h.get hr hd).1
 h.Oh hr hd 9 u _ (by decide) rfl (aj.eu k t d ti ⟨I.at_,I.args,I.dF,N⟩)
theorem aC.bl6 (h:aC 48 11 ok U w0 ds rows (.slice (some ⟨g,0,none⟩) n c) w) (hd:ds[i]?=some (ah.mk k lv s t d ti a li bs).d) (hr:rows[i]?=some [.int .i64 k,.int .i64 lv,.string s,.string t,.string d,.string ti,.string a.id,vc,vp,vl,vk]) : ∃ rows',rows'[i]?=some [.int .i64 k,.int .i64 lv,.string s,.string t,.string d,.string ti,.string a.id,vc,vp,vl,vk]/\aC 48 11 ok (w.setCell ⟨g,i*11+6,none⟩ (.string a.id)).heap.size w0 ds rows' (.slice (some ⟨g,0,none⟩) n c) (w.setCell ⟨g,i*11+6,none⟩ (.string a.id)):=
 h.Oh hr hd 6 _ _ (by decide) rfl (h.get hr hd).1
theorem aC.bl7 (h:aC 48 11 ok U w0 ds rows (.slice (some ⟨g,0,none⟩) n c) w) (hd:ds[i]?=some (ah.mk k lv s t d ti a li bs).d) (hr:rows[i]?=some [.int .i64 k,.int .i64 lv,.string s,.string t,.string d,.string ti,.string a.id,vc,vp,vl,vk]) (hu:Rd (B1<=·) w (fq a.cls) [u]) (h0:w0.heap.size<=B1) (hg:g<B1) : ∃ rows',rows'[i]?=some [.int .i64 k,.int .i64 lv,.string s,.string t,.string d,.string ti,.string a.id,u,vp,vl,vk]/\aC 48 11 ok (w.setCell ⟨g,i*11+7,none⟩ u).heap.size w0 ds rows' (.slice (some ⟨g,0,none⟩) n c) (w.setCell ⟨g,i*11+7,none⟩ u):=
 have I:=ah.WI (h.get hr hd).1;have N:=zY (ok:=ok) hu h0 hg
 h.Oh hr hd 7 u _ (by decide) rfl (ah.eu k lv s t d ti ⟨⟨N,I.at_.aJ⟩,I.line,I.kids⟩)
theorem aC.bl8 (h:aC 48 11 ok U w0 ds rows (.slice (some ⟨g,0,none⟩) n c) w) (hd:ds[i]?=some (ah.mk k lv s t d ti a li bs).d) (hr:rows[i]?=some [.int .i64 k,.int .i64 lv,.string s,.string t,.string d,.string ti,.string a.id,vc,vp,vl,vk]) (hu:Rd (B1<=·) w (bS a.aJ) [u]) (h0:w0.heap.size<=B1) (hg:g<B1) : ∃ rows',rows'[i]?=some [.int .i64 k,.int .i64 lv,.string s,.string t,.string d,.string ti,.string a.id,vc,u,vl,vk]/\aC 48 11 ok (w.setCell ⟨g,i*11+8,none⟩ u).heap.size w0 ds rows' (.slice (some ⟨g,0,none⟩) n c) (w.setCell ⟨g,i*11+8,none⟩ u):=
 have I:=ah.WI (h.get hr hd).1;have N:=zY (ok:=ok) hu h0 hg
 h.Oh hr hd 8 u _ (by decide) rfl (ah.eu k lv s t d ti ⟨⟨I.at_.cls,N⟩,I.line,I.kids⟩)
theorem aC.bl9 (h:aC 48 11 ok U w0 ds rows (.slice (some ⟨g,0,none⟩) n c) w) (hd:ds[i]?=some (ah.mk k lv s t d ti a li bs).d) (hr:rows[i]?=some [.int .i64 k,.int .i64 lv,.string s,.string t,.string d,.string ti,.string a.id,vc,vp,vl,vk]) (N:Rd (fun b=>(ok b\/w0.heap.size<=b)/\b≠g) w (aY li) [u]) : ∃ rows',rows'[i]?=some [.int .i64 k,.int .i64 lv,.string s,.string t,.string d,.string ti,.string a.id,vc,vp,u,vk]/\aC 48 11 ok (w.setCell ⟨g,i*11+9,none⟩ u).heap.size w0 ds rows' (.slice (some ⟨g,0,none⟩) n c) (w.setCell ⟨g,i*11+9,none⟩ u):=
 have I:=ah.WI (h.get hr hd).1
 h.Oh hr hd 9 u _ (by decide) rfl (ah.eu k lv s t d ti ⟨I.at_,N,I.kids⟩)
theorem aC.jf4 (h:aC 48 11 ok U w0 ds rows (.slice (some ⟨g,0,none⟩) n c) w) (hd:ds[i]?=some (ah.mk k lv s t d ti a li bs).d) (hr:rows[i]?=some [.int .i64 k,.int .i64 lv,.string s,.string t,.string d,.string ti,.string a.id,vc,vp,vl,vk]) (N:Rd (fun b=>(ok b\/w0.heap.size<=b)/\b≠g) w (iO bs) [u]) : ∃ rows',rows'[i]?=some [.int .i64 k,.int .i64 lv,.string s,.string t,.string d,.string ti,.string a.id,vc,vp,vl,u]/\aC 48 11 ok (w.setCell ⟨g,i*11+10,none⟩ u).heap.size w0 ds rows' (.slice (some ⟨g,0,none⟩) n c) (w.setCell ⟨g,i*11+10,none⟩ u):=
 have I:=ah.WI (h.get hr hd).1
 h.Oh hr hd 10 u _ (by decide) rfl (ah.eu k lv s t d ti ⟨I.at_,I.line,N⟩)
end
theorem aC.SQ {T:TypeId} {k U:Nat} {ok:Nat->Prop} {w0 w:jmj} {ds:List D} {rows:List (List jmq)} {v:jmq} (h:aC T k ok U w0 ds rows v w):∃ a n c,v=.slice a n c:=by obtain ⟨a,c,e⟩:=h.slice;exact ⟨a,_,c,e⟩
theorem At.sl {ok:Nat->Prop} {w:jmj} {a:At} {vc vp:jmq} (h:AtR ok w a vc vp):(∃ b n c,vc=.slice b n c)/\∃ b n c,vp=.slice b n c:=⟨Rd.ay h.cls,Rd.ay h.aJ⟩
theorem Ab (N:Nat):∀ (l:List aj) (ok:Nat->Prop) (v:jmq) (w:jmj),aj.aV l<=N->N<=1000000->Rd ok w (aY l) [v]->(∀ b,ok b->b<w.heap.size)->aj.kV l -> Calls Tryz.prog 59 #[v] w (fun e w'=>∃ v' rows,e=.returned v'/\aC 66 10 ok w'.heap.size w (l.map aj.d) rows v' w'):=by
 induction N using Nat.strongRecOn with
 | _ N ih=>
  intro l ok v w hN hNm hrd hB hbd;obtain ⟨a,n,cap,rfl⟩:=Rd.ay hrd;have CC:=hid (Hg l ok _ w hrd hB (by have:=aj.dw l;omega));have IH:=hid ih;have HN:=hid hN;have Xt:=hid hNm;have kX:=hid hbd;have HBs:=hid hB;clear ih hN hNm hrd hbd;go_enter Tryz.func59,Tryz.ntmps59;go_wp2_with fail
  (with_reducible refine CC.out.mono ?_)
  rintro e w1 ⟨v1,OB,rfl,hr1⟩;obtain ⟨nL,Ad⟩:∃ nL,nL=l.length:=⟨_,rfl⟩;obtain ⟨a1,c1,rfl⟩:∃ a1 c1,v1=.slice a1 nL c1:=by obtain ⟨a',c',e'⟩:=hr1.slice;rw [jjz] at e';exact ⟨a',c',by rw [Ad];exact e'⟩
  have xI:=hid Ad;have R0:Hid (Jk 66 10 ok w aj.d l (.slice a1 nL c1) (.int .i64 0) w1):=⟨0,OB,Nat.zero_le _,rfl,hr1⟩;have hnl:nL<=1000000:=by have:=aj.dw l;have:=HN.out;have:=Xt.out;omega
  clear hr1 Ad CC;go_wp2
  go_loopw [8] (fun vi wr=>Jk 66 10 ok w aj.d l (.slice a1 nL c1) vi wr) (fun i _=>nL-(intOf i).toNat)
  case atStart=>exact R0.out
  case round=>
   clear R0;obtain ⟨k,rows,hk,rfl,hR⟩:=hrel;by_cases hlt:k<nL
   ·obtain ⟨x,hx⟩:∃ x,l[k]?=some x:=⟨_,List.getElem?_eq_getElem (by have:=xI.out;omega)⟩;have hd:(l.map aj.d)[k]?=some x.d:=by rw [List.getElem?_map,hx];rfl
    have hbx:=aj.lG l k x kX.out hx;have hsx:=aj.Ey l k _ hx;obtain ⟨r,hr,hrx⟩:=hR.red.get k _ hd;obtain ⟨g,rfl,-,hc1,hcm,hg0⟩:=hR.at_ (by rw [jjz];have:=xI.out;omega)
    obtain ⟨kd,t,d,ti,at_,ar,ci,ks⟩:=x;obtain ⟨vc,vp,va,vi,vk,rfl,-⟩:=aj.open_ hrx;obtain ⟨hE,hcell⟩:=hR.get hr hd;have hI:=aj.kZ hE;obtain ⟨ac,nc,cc,rfl⟩:=Rd.ay hI.at_.cls
    obtain ⟨ap,np,cp,rfl⟩:=Rd.ay hI.at_.aJ
    obtain ⟨aa,na,ca,rfl⟩:=Rd.ay hI.args;obtain ⟨ai,ni,jU,rfl⟩:=Rd.ay hI.dF;obtain ⟨ak,nk,ck,rfl⟩:=Rd.ay hI.kids;rw [aj.bd] at hbx;rw [aj.sz] at hsx;unfold maxLen at hcm;have hgr:g<wr.heap.size:=(hR.own.lt g rfl).2;have AC:=hid (zX at_ _ _ wr.heap.size wr ⟨XY hI.at_.cls,XY hI.at_.aJ⟩ (jj9 _) hbx.1 hbx.2.1);have c4:=hcell 4 _ rfl;have c5:=hcell 5 _ rfl;have c6:=hcell 6 _ rfl;have jY:=hid hbx;have HSX:=hid hsx;have uj:=hid hd;have WJ:=hid hr;have HR:=hid hR;have PU:=hid hR.aP.size;have Fp:=hid hgr;clear hx hd hbx hsx hrx hE hcell hI hr hR hg0 hgr;go_wp2_with fail
    (with_reducible refine AC.out.mono ?_)
    rintro e w2 ⟨uc,up,rfl,hA2,b2⟩;obtain ⟨⟨a2,n2,c2,rfl⟩,⟨p2,m2,d2,rfl⟩⟩:=At.sl hA2;obtain ⟨rA,hrA,hA⟩:=(HR.out.below b2).in4 uj.out WJ.out;obtain ⟨rB,hrB,hB'⟩:=hA.in5 uj.out hrA (zZ hA2.cls Fp.out) PU.out Fp.out;obtain ⟨rC,hrC,hC⟩:=hB'.in6 uj.out hrB (zZ (zZ hA2.aJ Fp.out) Fp.out) PU.out Fp.out;obtain ⟨-,hcell⟩:=(HR.out.below b2).get WJ.out uj.out;clear c4 c5 c6;have c4:=hcell 4 _ rfl;have c5:=hcell 5 _ rfl;have c6:=hcell 6 _ rfl;have ff:=(HR.out.below b2).free (by omega);obtain ⟨w3,hw3⟩:∃ w3,w3=((w2.setCell ⟨g,k*10+4,none⟩ (.string at_.id)).setCell ⟨g,k*10+4+1,none⟩ (.slice a2 n2 c2)).setCell ⟨g,k*10+4+2,none⟩ (.slice p2 m2 d2):=⟨_,rfl⟩;rw [<- hw3] at hC;have Lg:=hid hrC;have HC:=hid hC;have h3s:wr.heap.size<=w3.heap.size:=by rw [hw3];simp [jl2];exact b2.size
    have Ue:=hid h3s;clear hA hrA hB' hrB hC hrC hcell hA2 b2 HR WJ AC h3s;go_upto_region 6 with (fail)
    rw [<- hw3];clear hw3 ff c4 c5 c6;obtain ⟨hE,hcell⟩:=HC.out.get Lg.out uj.out;have c7:=hcell 7 _ rfl;have ARC:=hid (lH ar w3.heap.size _ w3 (XY (aj.kZ hE).args) (jj9 _) jY.out.2.2.1);clear hE hcell;go_wp2_with fail
    (with_reducible refine ARC.out.mono ?_)
    rintro e w4 ⟨va4,rfl,hv4,b4⟩;obtain ⟨a4,n4,c4,rfl⟩:=Rd.ay hv4;have hr4:=HC.out.below b4;have QF:=hv4.weaken (ok':=(wr.heap.size<=·)) (fun b hb=>jjj Ue.out hb);obtain ⟨rD,hrD,hD⟩:=hr4.in7 uj.out Lg.out QF PU.out Fp.out;obtain ⟨-,hcell⟩:=hr4.get Lg.out uj.out;clear c7;have c7:=hcell 7 _ rfl;have ff:=hr4.free (by omega);obtain ⟨w5,Gb⟩:∃ w5,w5=w4.setCell ⟨g,k*10+7,none⟩ (.slice a4 n4 c4):=⟨_,rfl⟩;rw [<- Gb] at hD;have Fg:=hid hrD;have WK:=hid hD;have h5s:wr.heap.size<=w5.heap.size:=by rw [Gb];simp [jl2];have:=b4.size;have:=Ue.out;omega
    have WL:=hid h5s;clear hr4 QF hrD hD hcell hv4 b4 HC Lg ARC h5s Ue;go_upto_region 7 with (fail)
    rw [<- Gb];clear Gb ff c7;obtain ⟨hE,hcell⟩:=WK.out.get Fg.out uj.out;have c8:=hcell 8 _ rfl;have CIC:=hid (vQ ci w5.heap.size _ w5 (XY (aj.kZ hE).dF) (jj9 _) jY.out.2.2.2.1);clear hE hcell;go_wp2_with fail
    (with_reducible refine CIC.out.mono ?_)
    rintro e w6 ⟨vi6,rfl,hv6,b6⟩;obtain ⟨a6,n6,c6,rfl⟩:=Rd.ay hv6;have Cw:=WK.out.below b6;have hn6:=hv6.weaken (ok':=(wr.heap.size<=·)) (fun b hb=>jjj WL.out hb);obtain ⟨rE,hrE,Ll⟩:=Cw.in8 uj.out Fg.out hn6 PU.out Fp.out;obtain ⟨-,hcell⟩:=Cw.get Fg.out uj.out;clear c8;have c8:=hcell 8 _ rfl;have ff:=Cw.free (by omega);obtain ⟨w7,hw7⟩:∃ w7,w7=w6.setCell ⟨g,k*10+8,none⟩ (.slice a6 n6 c6):=⟨_,rfl⟩;rw [<- hw7] at Ll;have Rq:=hid hrE;have HE':=hid Ll;have h7s:wr.heap.size<=w7.heap.size:=by rw [hw7];simp [jl2];have:=b6.size;have:=WL.out;omega
    have H7S:=hid h7s;clear Cw hn6 hrE Ll hcell hv6 b6 WK Fg CIC h7s WL;go_upto_region 8 with (fail)
    rw [<- hw7];clear hw7 ff c8;obtain ⟨hE,hcell⟩:=HE'.out.get Rq.out uj.out;have c9:=hcell 9 _ rfl;have KC:=hid (IH.out (aj.aV ks) (by have:=HSX.out;have:=HN.out;omega) ks _ _ w7 (jj9 _) (by have:=HSX.out;have:=HN.out;have:=Xt.out;omega) (aj.kZ hE).kids.inside (fun b hb=>hb.2) jY.out.2.2.2.2);clear hE hcell;go_wp2_with fail
    (with_reducible refine KC.out.mono ?_)
    rintro e w8 ⟨vk8,OD,rfl,Ry⟩;obtain ⟨a8,n8,c8,rfl⟩:=Ry.SQ;have b8:=Ry.aP;have Rz:=HE'.out.below b8;have hn8:Rd (fun b=>(ok b\/w.heap.size<=b)/\b≠g) w8 (aY ks) [.slice a8 n8 c8]:=Ry.rd.weaken (fun b hb=>hb.elim (fun h=>h.1) (fun h=>⟨.inr (by have:=H7S.out;have:=PU.out;omega),by have:=H7S.out;have:=Fp.out;omega⟩));obtain ⟨rF,hrF,hF⟩:=Rz.in9 uj.out Rq.out hn8;obtain ⟨-,hcell⟩:=Rz.get Rq.out uj.out;clear c9;have c9:=hcell 9 _ rfl;have ff:=Rz.free (by omega);have HF:=hid hF;clear Rz hn8 hrF hF hcell Ry b8 HE' Rq KC H7S;go_wp2;go_roundw;case rel=>exact ⟨k+1,rF,by have:=xI.out;omega,by go_num,HF.out⟩
    case measure=>simp [intOf];omega
   ·have HRF:=hid hR;clear hR;go_wp2;go_ret;exact ⟨_,rows,rfl,HRF.out⟩
open Go.RowKit
theorem KR (N:Nat):∀ (l:List ah) (ok:Nat->Prop) (v:jmq) (w:jmj),ah.aV l<=N->N<=1000000->Rd ok w (iO l) [v]->(∀ b,ok b->b<w.heap.size)->ah.kV l -> Calls Tryz.prog 60 #[v] w (fun e w'=>∃ v' rows,e=.returned v'/\aC 48 11 ok w'.heap.size w (l.map ah.d) rows v' w'):=by
 induction N using Nat.strongRecOn with
 | _ N ih=>
  intro l ok v w hN hNm hrd hB hbd;obtain ⟨a,n,cap,rfl⟩:=Rd.ay hrd;have CC:=hid (Hl l ok _ w hrd hB (by have:=ah.dw l;omega));have IH:=hid ih;have HN:=hid hN;have Xt:=hid hNm;have kX:=hid hbd;clear ih hN hNm hrd hbd;go_enter Tryz.func60,Tryz.ntmps60;go_wp2_with fail
  (with_reducible refine CC.out.mono ?_)
  rintro e w1 ⟨v1,OB,rfl,hr1⟩;obtain ⟨nL,Ad⟩:∃ nL,nL=l.length:=⟨_,rfl⟩;obtain ⟨a1,c1,rfl⟩:∃ a1 c1,v1=.slice a1 nL c1:=by obtain ⟨a',c',e'⟩:=hr1.slice;rw [jjz] at e';exact ⟨a',c',by rw [Ad];exact e'⟩
  have xI:=hid Ad;have R0:Hid (Jk 48 11 ok w ah.d l (.slice a1 nL c1) (.int .i64 0) w1):=⟨0,OB,Nat.zero_le _,rfl,hr1⟩;have hnl:nL<=1000000:=by have:=ah.dw l;have:=HN.out;have:=Xt.out;omega
  clear hr1 Ad CC;go_wp2
  go_loopw [8] (fun vi wr=>Jk 48 11 ok w ah.d l (.slice a1 nL c1) vi wr) (fun i _=>nL-(intOf i).toNat)
  case atStart=>exact R0.out
  case round=>
   clear R0;obtain ⟨k,rows,hk,rfl,hR⟩:=hrel;by_cases hlt:k<nL
   ·obtain ⟨x,hx⟩:∃ x,l[k]?=some x:=⟨_,List.getElem?_eq_getElem (by have:=xI.out;omega)⟩;have hd:(l.map ah.d)[k]?=some x.d:=by rw [List.getElem?_map,hx];rfl
    have hbx:=ah.lG l k x kX.out hx;have hsx:=ah.bq l k _ hx;obtain ⟨r,hr,hrx⟩:=hR.red.get k _ hd;obtain ⟨g,rfl,-,hc1,hcm,hg0⟩:=hR.at_ (by rw [jjz];have:=xI.out;omega)
    obtain ⟨kd,lv,i,t,d,ti,at_,li,ks⟩:=x;obtain ⟨vc,vp,vl,vk,rfl,-⟩:=ah.open_ hrx;obtain ⟨hE,hcell⟩:=hR.get hr hd;have hI:=ah.WI hE;obtain ⟨ac,nc,cc,rfl⟩:=Rd.ay hI.at_.cls
    obtain ⟨ap,np,cp,rfl⟩:=Rd.ay hI.at_.aJ
    obtain ⟨al,nl,cl,rfl⟩:=Rd.ay hI.line;obtain ⟨ak,nk,ck,rfl⟩:=Rd.ay hI.kids;rw [ah.bd] at hbx;rw [ah.sz] at hsx;unfold maxLen at hcm;have hgr:g<wr.heap.size:=(hR.own.lt g rfl).2;have AC:=hid (zX at_ _ _ wr.heap.size wr ⟨XY hI.at_.cls,XY hI.at_.aJ⟩ (jj9 _) hbx.1 hbx.2.1);have c6:=hcell 6 _ rfl;have c7:=hcell 7 _ rfl;have c8:=hcell 8 _ rfl;have jY:=hid hbx;have HSX:=hid hsx;have uj:=hid hd;have WJ:=hid hr;have HR:=hid hR;have PU:=hid hR.aP.size;have Fp:=hid hgr;clear hx hd hbx hsx hrx hE hcell hI hr hR hg0 hgr;go_wp2_with fail
    (with_reducible refine AC.out.mono ?_)
    rintro e w2 ⟨uc,up,rfl,hA2,b2⟩;obtain ⟨⟨a2,n2,c2,rfl⟩,⟨p2,m2,d2,rfl⟩⟩:=At.sl hA2;obtain ⟨rA,hrA,hA⟩:=(HR.out.below b2).bl6 uj.out WJ.out;obtain ⟨rB,hrB,hB'⟩:=hA.bl7 uj.out hrA (zZ hA2.cls Fp.out) PU.out Fp.out;obtain ⟨rC,hrC,hC⟩:=hB'.bl8 uj.out hrB (zZ (zZ hA2.aJ Fp.out) Fp.out) PU.out Fp.out;obtain ⟨-,hcell⟩:=(HR.out.below b2).get WJ.out uj.out;clear c6 c7 c8;have c6:=hcell 6 _ rfl;have c7:=hcell 7 _ rfl;have c8:=hcell 8 _ rfl;have ff:=(HR.out.below b2).free (by omega);obtain ⟨w3,hw3⟩:∃ w3,w3=((w2.setCell ⟨g,k*11+6,none⟩ (.string at_.id)).setCell ⟨g,k*11+6+1,none⟩ (.slice a2 n2 c2)).setCell ⟨g,k*11+6+2,none⟩ (.slice p2 m2 d2):=⟨_,rfl⟩;rw [<- hw3] at hC;have Lg:=hid hrC;have HC:=hid hC;have h3s:wr.heap.size<=w3.heap.size:=by rw [hw3];simp [jl2];exact b2.size
    have Ue:=hid h3s;clear hA hrA hB' hrB hC hrC hcell hA2 b2 HR WJ AC h3s;go_upto_region 6 with (fail)
    rw [<- hw3];clear hw3 ff c6 c7 c8;obtain ⟨hE,hcell⟩:=HC.out.get Lg.out uj.out;have c9:=hcell 9 _ rfl;have LC:=hid (Ab _ li _ _ w3 (jj9 _) jY.out.2.2.2.1 (ah.WI hE).line.inside (fun b hb=>hb.2) jY.out.2.2.1);clear hE hcell;go_wp2_with fail
    (with_reducible refine LC.out.mono ?_)
    rintro e w4 ⟨vl4,dU,rfl,hr4⟩;obtain ⟨a4,n4,c4,rfl⟩:=hr4.SQ;have b4:=hr4.aP;have RD:=HC.out.below b4;have QF:Rd (fun b=>(ok b\/w.heap.size<=b)/\b≠g) w4 (aY li) [.slice a4 n4 c4]:=hr4.rd.weaken (fun b hb=>hb.elim (fun h=>h.1) (fun h=>⟨.inr (by have:=Ue.out;have:=PU.out;omega),by have:=Ue.out;have:=Fp.out;omega⟩));obtain ⟨rD,hrD,hD⟩:=RD.bl9 uj.out Lg.out QF;obtain ⟨-,hcell⟩:=RD.get Lg.out uj.out;clear c9;have c9:=hcell 9 _ rfl;have ff:=RD.free (by omega);obtain ⟨w5,Gb⟩:∃ w5,w5=w4.setCell ⟨g,k*11+9,none⟩ (.slice a4 n4 c4):=⟨_,rfl⟩;rw [<- Gb] at hD;have Fg:=hid hrD;have WK:=hid hD;have h5s:wr.heap.size<=w5.heap.size:=by rw [Gb];simp [jl2];have:=b4.size;have:=Ue.out;omega
    have WL:=hid h5s;clear RD QF hrD hD hcell hr4 b4 HC Lg LC h5s Ue;go_upto_region 7 with (fail)
    rw [<- Gb];clear Gb ff c9;obtain ⟨hE,hcell⟩:=WK.out.get Fg.out uj.out;have c10:=hcell 10 _ rfl;have KC:=hid (IH.out (ah.aV ks) (by have:=HSX.out;have:=HN.out;omega) ks _ _ w5 (jj9 _) (by have:=HSX.out;have:=HN.out;have:=Xt.out;omega) (ah.WI hE).kids.inside (fun b hb=>hb.2) jY.out.2.2.2.2);clear hE hcell;go_wp2_with fail
    (with_reducible refine KC.out.mono ?_)
    rintro e w8 ⟨vk8,OD,rfl,Ry⟩;obtain ⟨a8,n8,c8,rfl⟩:=Ry.SQ;have b8:=Ry.aP;have Rz:=WK.out.below b8;have hn8:Rd (fun b=>(ok b\/w.heap.size<=b)/\b≠g) w8 (iO ks) [.slice a8 n8 c8]:=Ry.rd.weaken (fun b hb=>hb.elim (fun h=>h.1) (fun h=>⟨.inr (by have:=WL.out;have:=PU.out;omega),by have:=WL.out;have:=Fp.out;omega⟩));obtain ⟨rF,hrF,hF⟩:=Rz.jf4 uj.out Fg.out hn8;obtain ⟨-,hcell⟩:=Rz.get Fg.out uj.out;clear c10;have c10:=hcell 10 _ rfl;have ff:=Rz.free (by omega);have HF:=hid hF;clear Rz hn8 hrF hF hcell Ry b8 WK Fg KC WL;go_wp2;go_roundw;case rel=>exact ⟨k+1,rF,by have:=xI.out;omega,by go_num,HF.out⟩
    case measure=>simp [intOf];omega
   ·have HRF:=hid hR;clear hR;go_wp2;go_ret;exact ⟨_,rows,rfl,HRF.out⟩
end Go.Proofs.YtkfnkeflalcphaaGreatDoor

