/- Contracts of slices.Clone at inlines and blocks, and of slides.copyAttr, copyLine, copyBlocks. Contract of slides.copyBlocks. -/
import Derived.Test.YtkfnkeflalcphaaGreatDoorKRfD
set_option maxHeartbeats 4000000
set_option maxRecDepth 100000
open Go.Lib (hid)
namespace Go.Proofs.YtkfnkeflalcphaaGreatDoor
open Nat renaming le_refl->jk7,le_trans->jk8
open List renaming length_map->jkq
open Go.World renaming setCell->jm0
open Go renaming World->jn8,Value->jnj
open Go.RowKit
set_option linter.unusedVariables false
set_option linter.unusedSimpArgs false
theorem OU {ok:Nat->Prop} {w:jn8} {l:List aj} {rows:List (List jnj)} (h:aH ok w (l.map aj.d) rows):∀ u∈rows.flatten,u.oneCell'=true:=
 nC h fun d hd r hr u hu=>by
  obtain ⟨x,_,rfl⟩:=List.mem_map.1 hd;obtain ⟨k,t,d,ti,a,ar,ci,ks⟩:=x;obtain ⟨vc,vp,va,vi,vk,rfl,hR⟩:=aj.open_ hr;obtain ⟨_,_,_,rfl⟩:=Rd.au hR.at_.cls
  obtain ⟨_,_,_,rfl⟩:=Rd.au hR.at_.aI
  obtain ⟨_,_,_,rfl⟩:=Rd.au hR.args;obtain ⟨_,_,_,rfl⟩:=Rd.au hR.dD;obtain ⟨_,_,_,rfl⟩:=Rd.au hR.kids;simp at hu;rcases hu with rfl | rfl | rfl | rfl | rfl | rfl | rfl | rfl | rfl | rfl<;>rfl
theorem OV {ok:Nat->Prop} {w:jn8} {l:List ah} {rows:List (List jnj)} (h:aH ok w (l.map ah.d) rows):∀ u∈rows.flatten,u.oneCell'=true:=
 nC h fun d hd r hr u hu=>by
  obtain ⟨x,_,rfl⟩:=List.mem_map.1 hd;obtain ⟨k,lv,i,t,d,ti,a,li,ks⟩:=x;obtain ⟨vc,vp,vl,vk,rfl,hR⟩:=ah.open_ hr;obtain ⟨_,_,_,rfl⟩:=Rd.au hR.at_.cls
  obtain ⟨_,_,_,rfl⟩:=Rd.au hR.at_.aI
  obtain ⟨_,_,_,rfl⟩:=Rd.au hR.line;obtain ⟨_,_,_,rfl⟩:=Rd.au hR.kids;simp at hu;rcases hu with rfl | rfl | rfl | rfl | rfl | rfl | rfl | rfl | rfl | rfl | rfl<;>rfl
theorem Hy (l:List aj) (ok:Nat->Prop) (v:jnj) (w:jn8) (h:Rd ok w (aV l) [v]) (hB:∀ b,ok b->b<w.heap.size) (hl:l.length<=1000000) : Calls Tryz.prog 103 #[v] w (fun e w'=>∃ v' rows,e=.returned v'/\aB 66 10 ok w'.heap.size w (l.map aj.d) rows v' w'):=by
 obtain ⟨i0,hi,hz0,hz1,hz2⟩:=info_parts Nn;obtain ⟨A,cap,rows,rfl,h1,h2,h3,h4,h5⟩:=Rd.A9 h;rw [jkq] at h1 h5;have e:(l.map aj.d).length=l.length:=jkq _;rw [e];unfold maxLen at h2;have H3:=hid h3;have H4:=hid h4;have H5:=hid h5;have H1:=hid (OU h3);clear h h3 h4 h5 e;cases A with
 | none=>
  have h0:l=[]:=List.length_eq_zero_iff.1 (jq H5.out);subst h0;have hq:=fun (w:jn8) (a:Option Addr) (n c:Nat)=>Lib.run_eql_slice_nil (P:=Tryz.prog) w _ _ a n c 0 0 Tryz.underlying46
  go_enter Tryz.func103,Tryz.ntmps103;go_wp2;go_ret;exact ⟨_,[],rfl,aB.nil _ _ _ _⟩
 | some ad=>
  have hq:=fun (w:jn8) (a:Option Addr) (n c:Nat)=>Lib.run_eql_slice_nil (P:=Tryz.prog) w _ _ a n c 0 0 Tryz.underlying46
  go_enter Tryz.func103,Tryz.ntmps103;go_wp2_with (at_builtin;refine Py _ rfl (.tmp 5) (.tmp 6) 46 rfl w.heap.size 66 i0 _ 10 192 Tryz.underlying46 hi hz0 hz1 hz2 rfl (by decide) (.slice (some ⟨w.heap.size,0,none⟩) 0 0) 0 [] rfl (jr w _ _) w.heap.size (some ad) l.length cap rows.flatten rfl (H5.out.below ((Below.refl _ w).alloc (jk7 _) _)) H1.out ?a1 ?a2 ?a3 ?_)
  case a1=>unfold maxLen;omega
  case a2=>omega
  case a3=>simp
  intro v' w1 hown hg _
  (try simp only [Nat.zero_add,List.nil_append] at hown)
  have b1:Below w.heap.size w w1:=((Below.refl _ w).alloc (jk7 _) _).grown hg (by simp) (fun j hj=>by have e:w.heap.size=j:=Option.some.inj hj;omega);have HO:=hid hown;clear hown hg;go_wp2;go_ret;refine ⟨_,rows,rfl,⟨by rw [jkq];exact HO.out,aH.keep (fun b hb hlt=>⟨⟨.inl hb,fun e=>by have:=(HO.out.lt b e).1;omega,by have:=b1.size;omega⟩,b1.block b hlt⟩) _ _ H3.out,H4.out,b1,fun g hg=>(HO.out.lt g hg).2,b1.size,jk7 _⟩⟩
theorem Hz (l:List ah) (ok:Nat->Prop) (v:jnj) (w:jn8) (h:Rd ok w (iU l) [v]) (hB:∀ b,ok b->b<w.heap.size) (hl:l.length<=1000000) : Calls Tryz.prog 105 #[v] w (fun e w'=>∃ v' rows,e=.returned v'/\aB 48 11 ok w'.heap.size w (l.map ah.d) rows v' w'):=by
 obtain ⟨i0,hi,hz0,hz1,hz2⟩:=info_parts Hg;obtain ⟨A,cap,rows,rfl,h1,h2,h3,h4,h5⟩:=Rd.A9 h;rw [jkq] at h1 h5;have e:(l.map ah.d).length=l.length:=jkq _;rw [e];unfold maxLen at h2;have H3:=hid h3;have H4:=hid h4;have H5:=hid h5;have H1:=hid (OV h3);clear h h3 h4 h5 e;cases A with
 | none=>
  have h0:l=[]:=List.length_eq_zero_iff.1 (jq H5.out);subst h0;have hq:=fun (w:jn8) (a:Option Addr) (n c:Nat)=>Lib.run_eql_slice_nil (P:=Tryz.prog) w _ _ a n c 0 0 Tryz.underlying22
  go_enter Tryz.func105,Tryz.ntmps105;go_wp2;go_ret;exact ⟨_,[],rfl,aB.nil _ _ _ _⟩
 | some ad=>
  have hq:=fun (w:jn8) (a:Option Addr) (n c:Nat)=>Lib.run_eql_slice_nil (P:=Tryz.prog) w _ _ a n c 0 0 Tryz.underlying22
  go_enter Tryz.func105,Tryz.ntmps105;go_wp2_with (at_builtin;refine Py _ rfl (.tmp 5) (.tmp 6) 22 rfl w.heap.size 48 i0 _ 11 192 Tryz.underlying22 hi hz0 hz1 hz2 rfl (by decide) (.slice (some ⟨w.heap.size,0,none⟩) 0 0) 0 [] rfl (jr w _ _) w.heap.size (some ad) l.length cap rows.flatten rfl (H5.out.below ((Below.refl _ w).alloc (jk7 _) _)) H1.out ?a1 ?a2 ?a3 ?_)
  case a1=>unfold maxLen;omega
  case a2=>omega
  case a3=>simp
  intro v' w1 hown hg _
  (try simp only [Nat.zero_add,List.nil_append] at hown)
  have b1:Below w.heap.size w w1:=((Below.refl _ w).alloc (jk7 _) _).grown hg (by simp) (fun j hj=>by have e:w.heap.size=j:=Option.some.inj hj;omega);have HO:=hid hown;clear hown hg;go_wp2;go_ret;refine ⟨_,rows,rfl,⟨by rw [jkq];exact HO.out,aH.keep (fun b hb hlt=>⟨⟨.inl hb,fun e=>by have:=(HO.out.lt b e).1;omega,by have:=b1.size;omega⟩,b1.block b hlt⟩) _ _ H3.out,H4.out,b1,fun g hg=>(HO.out.lt g hg).2,b1.size,jk7 _⟩⟩
theorem Ad (at_:At) (vc vp:jnj) (B:Nat) (w:jn8) (h:AtR (·<B) w at_ vc vp) (hB:B<=w.heap.size) (hc:at_.cls.length<=1000000) (hp:at_.aI.length<=1000000) : Calls Tryz.prog 104 #[.agg #[.string at_.id,vc,vp]] w fun e w'=>∃ Ep Er,e=.returned (.agg #[.string at_.id,Ep,Er])/\AtR (w.heap.size<=·) w' at_ Ep Er/\Below w.heap.size w w':=by
 obtain ⟨ac,nc,cc,rfl⟩:=Rd.au h.cls;obtain ⟨ap,np,cp,rfl⟩:=Rd.au h.aI;have HA:=hid h;clear h;go_enter Tryz.func104,Tryz.ntmps104;go_upto_region 1 with (fail)
 obtain ⟨w0,hw0⟩:∃ w0,w0=(w.alloc (.cells #[.string at_.id,.slice ac nc cc,.slice ap np cp] 45)).alloc (.cells #[.string ⟨#[]⟩,.slice none 0 0,.slice none 0 0] 45):=⟨_,rfl⟩;have P0:AB w.heap.size [.string at_.id,.slice ac nc cc,.slice ap np cp] w0:=by rw [hw0];exact (Below.heap_alloc _ _ _ (by simp)).trans (heap_alloc_new w _)
 have Q0:AB (w.heap.size+1) [.string ⟨#[]⟩,.slice none 0 0,.slice none 0 0] w0:=by rw [hw0];have:=heap_alloc_new (w.alloc (.cells #[.string at_.id,.slice ac nc cc,.slice ap np cp] 45)) (.cells #[.string ⟨#[]⟩,.slice none 0 0,.slice none 0 0] 45);rw [World.size_alloc] at this;exact this
 have b0:Below w.heap.size w w0:=by rw [hw0];exact ((Below.refl _ w).alloc (jk7 _) _).alloc (by simp) _
 have hs0:w.heap.size+2<=w0.heap.size:=by rw [hw0];simp
 rw [<- hw0];clear hw0;have CS:=hid (lH at_.cls B _ w0 (HA.out.cls.below (b0.mono hB)) (jk8 hB b0.size) hc);have d1:=P0.cell 1 _ rfl;have HP0:=hid P0;have HQ0:=hid Q0;clear P0 Q0;go_wp2_with fail
 refine CS.out.mono ?_;rintro e w1 ⟨v1,rfl,hr1,b1⟩;obtain ⟨a1,n1,c1,rfl⟩:=Rd.au hr1;have P1:=HP0.out.grown (Fy b1);have Q1:=HQ0.out.grown (Fy b1);have RH:=hid P1;have Wj:=hid Q1;have HR1:=hid (hr1.weaken (ok':=((w.heap.size+1)<·)) (fun b hb=>by omega));have hb1:=aQ b0 b1;have hs1:w.heap.size+2<=w1.heap.size:=jk8 hs0 b1.size;have d1:=P1.cell 1 _ rfl;have f1:=P1.free 1;clear P1 Q1 HP0 HQ0 CS hr1 b0 b1 hs0;go_upto_region 2 with (fail)
 obtain ⟨w2,hw2⟩:∃ w2,w2=w1.setCell ⟨w.heap.size,1,none⟩ (.slice a1 n1 c1):=⟨_,rfl⟩;have P2:AB w.heap.size [.string at_.id,.slice a1 n1 c1,.slice ap np cp] w2:=by rw [hw2];exact RH.out.set 1 _
 have Q2:AB (w.heap.size+1) [.string ⟨#[]⟩,.slice none 0 0,.slice none 0 0] w2:=by rw [hw2];exact Wj.out.far (by omega) 1 _
 have R2:Hid (Rd ((w.heap.size+1)<·) w2 (fq at_.cls) [.slice a1 n1 c1]):=by show Rd _ _ _ _;rw [hw2];exact Rd.keep (fun b hb hlt=>⟨hb,Below.heap_setCell w1 ⟨w.heap.size,1,none⟩ _ b (by show b≠w.heap.size;omega)⟩) _ _ HR1.out
 have b2:Below w.heap.size w w2:=by rw [hw2];exact hb1.setCell (p:=⟨w.heap.size,1,none⟩) (jk7 _) _
 have hs2:w.heap.size+2<=w2.heap.size:=by rw [hw2];simpa [jm0] using hs1
 rw [<- hw2];clear hw2 RH Wj HR1 hb1 hs1 d1 f1;have CP:=hid (xu at_.aI B _ w2 (HA.out.aI.below (b2.mono hB)) (jk8 hB b2.size) hp);have d2:=P2.cell 2 _ rfl;have LJ:=hid P2;have Ro:=hid Q2;clear P2 Q2;go_wp2_with fail
 refine CP.out.mono ?_;rintro e w3 ⟨v3,rfl,hr3,b3⟩;obtain ⟨a3,n3,c3,rfl⟩:=Rd.au hr3;have P3:=LJ.out.grown (Fy b3);have Q3:=Ro.out.grown (Fy b3);have Fx:=hid (P3.set 2 (.slice a3 n3 c3));have CG:=hid (Q3.far (q:=w.heap.size) (by omega) 2 (.slice a3 n3 c3));have HR3:=hid (hr3.weaken (ok':=((w.heap.size+1)<·)) (fun b hb=>by omega));have HS3:=hid (Rd.keep (ok':=((w.heap.size+1)<·)) (fun b hb hlt=>⟨hb,b3.block b hlt⟩) _ _ R2.out);have hb3:=aQ b2 b3;have d2:=P3.cell 2 _ rfl;have f2:=P3.free 2;clear P3 Q3 LJ Ro CP hr3 b2 b3 R2 hs2;go_upto_region 3 with (fail)
 obtain ⟨w4,hw4⟩:∃ w4,w4=w3.setCell ⟨w.heap.size,2,none⟩ (.slice a3 n3 c3):=⟨_,rfl⟩;rw [<- hw4] at Fx CG;have K4:∀ b,w.heap.size+1<b->b<w3.heap.size->w4.heap[b]?=w3.heap[b]?:=fun b hb _=>by rw [hw4];exact Below.heap_setCell w3 ⟨w.heap.size,2,none⟩ _ b (by show b≠w.heap.size;omega)
 have R4:=hid (Rd.keep (w':=w4) (ok':=((w.heap.size+1)<·)) (fun b hb hlt=>⟨hb,K4 b hb hlt⟩) _ _ HR3.out);have S4:=hid (Rd.keep (w':=w4) (ok':=((w.heap.size+1)<·)) (fun b hb hlt=>⟨hb,K4 b hb hlt⟩) _ _ HS3.out);have b4:Below w.heap.size w w4:=by rw [hw4];exact hb3.setCell (p:=⟨w.heap.size,2,none⟩) (jk7 _) _
 rw [<- hw4];clear hw4 K4 HR3 HS3 hb3 d2 f2;have q0:=Fx.out.cell 0 _ rfl;have q1:=Fx.out.cell 1 _ rfl;have q2:=Fx.out.cell 2 _ rfl;have r0:=CG.out.cell 0 _ rfl;have r1:=CG.out.cell 1 _ rfl;have r2:=CG.out.cell 2 _ rfl;have g0:=CG.out.free 0;have g1:=CG.out.free 1;have g2:=CG.out.free 2;have FB:=hid (fun u0 u1 u2=>((b4.setCell (p:=⟨w.heap.size+1,0,none⟩) (by simp) u0).setCell (p:=⟨w.heap.size+1,1,none⟩) (by simp) u1).setCell (p:=⟨w.heap.size+1,2,none⟩) (by simp) u2);have AV:∀ (d:D) (cs:List jnj),Rd ((w.heap.size+1)<·) w4 d cs->∀ u0 u1 u2,Rd (w.heap.size<=·) (((w4.setCell ⟨w.heap.size+1,0,none⟩ u0).setCell ⟨w.heap.size+1,1,none⟩ u1).setCell ⟨w.heap.size+1,2,none⟩ u2) d cs:=fun d cs hd u0 u1 u2=>
  (((hd.above (dO.set 0 u0)).above (dO.set 1 u1)).above (dO.set 2 u2)).weaken (fun b hb=>by omega)
 have HAV:=hid AV;clear AV b4;go_wp2;exact bodyPost_ret (v:=.agg #[.string at_.id,.slice a1 n1 c1,.slice a3 n3 c3]) (by simp [results,Tryz.results104,go_sem,r0,r1,r2]) rfl ⟨_,_,rfl,⟨HAV.out _ _ S4.out _ _ _,HAV.out _ _ R4.out _ _ _⟩,FB.out _ _ _⟩
def Jw {α:Type} (T:TypeId) (k:Nat) (ok:Nat->Prop) (w:jn8) (D':α->D) (l:List α) (v vi:jnj) (wr:jn8):Prop:=∃ (i:Nat) (rows:List (List jnj)),i<=l.length/\vi=.int .i64 i/\aB T k ok wr.heap.size w (l.map D') rows v wr
theorem Yr {ok:Nat->Prop} {w:jn8} {d:D} {cs:List jnj} (h:Rd ok w d cs):Rd (·<w.heap.size) w d cs:=Rd.keep (fun b _ h2=>⟨h2,rfl⟩) _ _ h
theorem Ae {ok:Nat->Prop} {g B1:Nat} {w0 w':jn8} {d:D} {cs:List jnj} (h:Rd (B1<=·) w' d cs) (h0:w0.heap.size<=B1) (hg:g<B1):Rd (fun b=>(ok b\/w0.heap.size<=b)/\b≠g) w' d cs:=h.weaken (fun b hb=>⟨.inr (jk8 h0 hb),by omega⟩)
theorem Af {g B1 o:Nat} {w:jn8} {u:jnj} {d:D} {cs:List jnj} (h:Rd (B1<=·) w d cs) (hg:g<B1):Rd (B1<=·) (w.setCell ⟨g,o,none⟩ u) d cs:=Rd.keep (fun b (hb:B1<=b) _=>⟨hb,Below.heap_setCell w ⟨g,o,none⟩ u b (by show b≠g;omega)⟩) _ _ h
theorem aj.kZ {ok:Nat->Prop} {w:jn8} {k:Int} {t d ti:ByteArray} {a:At} {ar:List ByteArray} {ci:List Ci} {ks:List aj} {vc vp va vi vk:jnj} (h:Rd ok w (aj.mk k t d ti a ar ci ks).d [.int .i64 k,.string t,.string d,.string ti,.string a.id,vc,vp,va,vi,vk]):uh ok w a ar ci ks vc vp va vi vk:=by obtain ⟨Ep,Er,va',vi',TJ,e,hI⟩:=aj.open_ h;simp only [List.cons.injEq,and_true,true_and] at e;obtain ⟨rfl,rfl,rfl,rfl,rfl⟩:=e;exact hI
theorem ah.WY {ok:Nat->Prop} {w:jn8} {k lv:Int} {i t d ti:ByteArray} {a:At} {li:List aj} {ks:List ah} {vc vp vl vk:jnj} (h:Rd ok w (ah.mk k lv i t d ti a li ks).d [.int .i64 k,.int .i64 lv,.string i,.string t,.string d,.string ti,.string a.id,vc,vp,vl,vk]):kE ok w a li ks vc vp vl vk:=by obtain ⟨Ep,Er,vl',TJ,e,hI⟩:=ah.open_ h;simp only [List.cons.injEq,and_true,true_and] at e;obtain ⟨rfl,rfl,rfl,rfl⟩:=e;exact hI
section
variable {U g n c B1 i:Nat} {ok:Nat->Prop} {w0 w:jn8} {ds:List D} {rows:List (List jnj)} {k lv:Int} {s t d ti:ByteArray} {a:At} {ar:List ByteArray} {ci:List Ci} {ks:List aj} {li:List aj} {bs:List ah} {vc vp va vi vk vl u:jnj}
theorem aB.in4 (h:aB 66 10 ok U w0 ds rows (.slice (some ⟨g,0,none⟩) n c) w) (hd:ds[i]?=some (aj.mk k t d ti a ar ci ks).d) (hr:rows[i]?=some [.int .i64 k,.string t,.string d,.string ti,.string a.id,vc,vp,va,vi,vk]) : ∃ rows',rows'[i]?=some [.int .i64 k,.string t,.string d,.string ti,.string a.id,vc,vp,va,vi,vk]/\aB 66 10 ok (w.setCell ⟨g,i*10+4,none⟩ (.string a.id)).heap.size w0 ds rows' (.slice (some ⟨g,0,none⟩) n c) (w.setCell ⟨g,i*10+4,none⟩ (.string a.id)):=
 h.Oz hr hd 4 _ _ (by decide) rfl (h.get hr hd).1
theorem aB.in5 (h:aB 66 10 ok U w0 ds rows (.slice (some ⟨g,0,none⟩) n c) w) (hd:ds[i]?=some (aj.mk k t d ti a ar ci ks).d) (hr:rows[i]?=some [.int .i64 k,.string t,.string d,.string ti,.string a.id,vc,vp,va,vi,vk]) (hu:Rd (B1<=·) w (fq a.cls) [u]) (h0:w0.heap.size<=B1) (hg:g<B1) : ∃ rows',rows'[i]?=some [.int .i64 k,.string t,.string d,.string ti,.string a.id,u,vp,va,vi,vk]/\aB 66 10 ok (w.setCell ⟨g,i*10+5,none⟩ u).heap.size w0 ds rows' (.slice (some ⟨g,0,none⟩) n c) (w.setCell ⟨g,i*10+5,none⟩ u):=
 have I:=aj.kZ (h.get hr hd).1;have N:=Ae (ok:=ok) hu h0 hg
 h.Oz hr hd 5 u _ (by decide) rfl (aj.dS k t d ti ⟨⟨N,I.at_.aI⟩,I.args,I.dD,I.kids⟩)
theorem aB.in6 (h:aB 66 10 ok U w0 ds rows (.slice (some ⟨g,0,none⟩) n c) w) (hd:ds[i]?=some (aj.mk k t d ti a ar ci ks).d) (hr:rows[i]?=some [.int .i64 k,.string t,.string d,.string ti,.string a.id,vc,vp,va,vi,vk]) (hu:Rd (B1<=·) w (bR a.aI) [u]) (h0:w0.heap.size<=B1) (hg:g<B1) : ∃ rows',rows'[i]?=some [.int .i64 k,.string t,.string d,.string ti,.string a.id,vc,u,va,vi,vk]/\aB 66 10 ok (w.setCell ⟨g,i*10+6,none⟩ u).heap.size w0 ds rows' (.slice (some ⟨g,0,none⟩) n c) (w.setCell ⟨g,i*10+6,none⟩ u):=
 have I:=aj.kZ (h.get hr hd).1;have N:=Ae (ok:=ok) hu h0 hg
 h.Oz hr hd 6 u _ (by decide) rfl (aj.dS k t d ti ⟨⟨I.at_.cls,N⟩,I.args,I.dD,I.kids⟩)
theorem aB.in7 (h:aB 66 10 ok U w0 ds rows (.slice (some ⟨g,0,none⟩) n c) w) (hd:ds[i]?=some (aj.mk k t d ti a ar ci ks).d) (hr:rows[i]?=some [.int .i64 k,.string t,.string d,.string ti,.string a.id,vc,vp,va,vi,vk]) (hu:Rd (B1<=·) w (fq ar) [u]) (h0:w0.heap.size<=B1) (hg:g<B1) : ∃ rows',rows'[i]?=some [.int .i64 k,.string t,.string d,.string ti,.string a.id,vc,vp,u,vi,vk]/\aB 66 10 ok (w.setCell ⟨g,i*10+7,none⟩ u).heap.size w0 ds rows' (.slice (some ⟨g,0,none⟩) n c) (w.setCell ⟨g,i*10+7,none⟩ u):=
 have I:=aj.kZ (h.get hr hd).1;have N:=Ae (ok:=ok) hu h0 hg
 h.Oz hr hd 7 u _ (by decide) rfl (aj.dS k t d ti ⟨I.at_,N,I.dD,I.kids⟩)
theorem aB.in8 (h:aB 66 10 ok U w0 ds rows (.slice (some ⟨g,0,none⟩) n c) w) (hd:ds[i]?=some (aj.mk k t d ti a ar ci ks).d) (hr:rows[i]?=some [.int .i64 k,.string t,.string d,.string ti,.string a.id,vc,vp,va,vi,vk]) (hu:Rd (B1<=·) w (JZ ci) [u]) (h0:w0.heap.size<=B1) (hg:g<B1) : ∃ rows',rows'[i]?=some [.int .i64 k,.string t,.string d,.string ti,.string a.id,vc,vp,va,u,vk]/\aB 66 10 ok (w.setCell ⟨g,i*10+8,none⟩ u).heap.size w0 ds rows' (.slice (some ⟨g,0,none⟩) n c) (w.setCell ⟨g,i*10+8,none⟩ u):=
 have I:=aj.kZ (h.get hr hd).1;have N:=Ae (ok:=ok) hu h0 hg
 h.Oz hr hd 8 u _ (by decide) rfl (aj.dS k t d ti ⟨I.at_,I.args,N,I.kids⟩)
theorem aB.in9 (h:aB 66 10 ok U w0 ds rows (.slice (some ⟨g,0,none⟩) n c) w) (hd:ds[i]?=some (aj.mk k t d ti a ar ci ks).d) (hr:rows[i]?=some [.int .i64 k,.string t,.string d,.string ti,.string a.id,vc,vp,va,vi,vk]) (N:Rd (fun b=>(ok b\/w0.heap.size<=b)/\b≠g) w (aV ks) [u]) : ∃ rows',rows'[i]?=some [.int .i64 k,.string t,.string d,.string ti,.string a.id,vc,vp,va,vi,u]/\aB 66 10 ok (w.setCell ⟨g,i*10+9,none⟩ u).heap.size w0 ds rows' (.slice (some ⟨g,0,none⟩) n c) (w.setCell ⟨g,i*10+9,none⟩ u):=
 have I:=aj.kZ (h.get hr hd).1
 h.Oz hr hd 9 u _ (by decide) rfl (aj.dS k t d ti ⟨I.at_,I.args,I.dD,N⟩)
theorem aB.bl6 (h:aB 48 11 ok U w0 ds rows (.slice (some ⟨g,0,none⟩) n c) w) (hd:ds[i]?=some (ah.mk k lv s t d ti a li bs).d) (hr:rows[i]?=some [.int .i64 k,.int .i64 lv,.string s,.string t,.string d,.string ti,.string a.id,vc,vp,vl,vk]) : ∃ rows',rows'[i]?=some [.int .i64 k,.int .i64 lv,.string s,.string t,.string d,.string ti,.string a.id,vc,vp,vl,vk]/\aB 48 11 ok (w.setCell ⟨g,i*11+6,none⟩ (.string a.id)).heap.size w0 ds rows' (.slice (some ⟨g,0,none⟩) n c) (w.setCell ⟨g,i*11+6,none⟩ (.string a.id)):=
 h.Oz hr hd 6 _ _ (by decide) rfl (h.get hr hd).1
theorem aB.bl7 (h:aB 48 11 ok U w0 ds rows (.slice (some ⟨g,0,none⟩) n c) w) (hd:ds[i]?=some (ah.mk k lv s t d ti a li bs).d) (hr:rows[i]?=some [.int .i64 k,.int .i64 lv,.string s,.string t,.string d,.string ti,.string a.id,vc,vp,vl,vk]) (hu:Rd (B1<=·) w (fq a.cls) [u]) (h0:w0.heap.size<=B1) (hg:g<B1) : ∃ rows',rows'[i]?=some [.int .i64 k,.int .i64 lv,.string s,.string t,.string d,.string ti,.string a.id,u,vp,vl,vk]/\aB 48 11 ok (w.setCell ⟨g,i*11+7,none⟩ u).heap.size w0 ds rows' (.slice (some ⟨g,0,none⟩) n c) (w.setCell ⟨g,i*11+7,none⟩ u):=
 have I:=ah.WY (h.get hr hd).1;have N:=Ae (ok:=ok) hu h0 hg
 h.Oz hr hd 7 u _ (by decide) rfl (ah.dS k lv s t d ti ⟨⟨N,I.at_.aI⟩,I.line,I.kids⟩)
theorem aB.bl8 (h:aB 48 11 ok U w0 ds rows (.slice (some ⟨g,0,none⟩) n c) w) (hd:ds[i]?=some (ah.mk k lv s t d ti a li bs).d) (hr:rows[i]?=some [.int .i64 k,.int .i64 lv,.string s,.string t,.string d,.string ti,.string a.id,vc,vp,vl,vk]) (hu:Rd (B1<=·) w (bR a.aI) [u]) (h0:w0.heap.size<=B1) (hg:g<B1) : ∃ rows',rows'[i]?=some [.int .i64 k,.int .i64 lv,.string s,.string t,.string d,.string ti,.string a.id,vc,u,vl,vk]/\aB 48 11 ok (w.setCell ⟨g,i*11+8,none⟩ u).heap.size w0 ds rows' (.slice (some ⟨g,0,none⟩) n c) (w.setCell ⟨g,i*11+8,none⟩ u):=
 have I:=ah.WY (h.get hr hd).1;have N:=Ae (ok:=ok) hu h0 hg
 h.Oz hr hd 8 u _ (by decide) rfl (ah.dS k lv s t d ti ⟨⟨I.at_.cls,N⟩,I.line,I.kids⟩)
theorem aB.bl9 (h:aB 48 11 ok U w0 ds rows (.slice (some ⟨g,0,none⟩) n c) w) (hd:ds[i]?=some (ah.mk k lv s t d ti a li bs).d) (hr:rows[i]?=some [.int .i64 k,.int .i64 lv,.string s,.string t,.string d,.string ti,.string a.id,vc,vp,vl,vk]) (N:Rd (fun b=>(ok b\/w0.heap.size<=b)/\b≠g) w (aV li) [u]) : ∃ rows',rows'[i]?=some [.int .i64 k,.int .i64 lv,.string s,.string t,.string d,.string ti,.string a.id,vc,vp,u,vk]/\aB 48 11 ok (w.setCell ⟨g,i*11+9,none⟩ u).heap.size w0 ds rows' (.slice (some ⟨g,0,none⟩) n c) (w.setCell ⟨g,i*11+9,none⟩ u):=
 have I:=ah.WY (h.get hr hd).1
 h.Oz hr hd 9 u _ (by decide) rfl (ah.dS k lv s t d ti ⟨I.at_,N,I.kids⟩)
theorem aB.jg2 (h:aB 48 11 ok U w0 ds rows (.slice (some ⟨g,0,none⟩) n c) w) (hd:ds[i]?=some (ah.mk k lv s t d ti a li bs).d) (hr:rows[i]?=some [.int .i64 k,.int .i64 lv,.string s,.string t,.string d,.string ti,.string a.id,vc,vp,vl,vk]) (N:Rd (fun b=>(ok b\/w0.heap.size<=b)/\b≠g) w (iU bs) [u]) : ∃ rows',rows'[i]?=some [.int .i64 k,.int .i64 lv,.string s,.string t,.string d,.string ti,.string a.id,vc,vp,vl,u]/\aB 48 11 ok (w.setCell ⟨g,i*11+10,none⟩ u).heap.size w0 ds rows' (.slice (some ⟨g,0,none⟩) n c) (w.setCell ⟨g,i*11+10,none⟩ u):=
 have I:=ah.WY (h.get hr hd).1
 h.Oz hr hd 10 u _ (by decide) rfl (ah.dS k lv s t d ti ⟨I.at_,I.line,N⟩)
end
theorem aB.Tk {T:TypeId} {k U:Nat} {ok:Nat->Prop} {w0 w:jn8} {ds:List D} {rows:List (List jnj)} {v:jnj} (h:aB T k ok U w0 ds rows v w):∃ a n c,v=.slice a n c:=by obtain ⟨a,c,e⟩:=h.slice;exact ⟨a,_,c,e⟩
theorem At.sl {ok:Nat->Prop} {w:jn8} {a:At} {vc vp:jnj} (h:AtR ok w a vc vp):(∃ b n c,vc=.slice b n c)/\∃ b n c,vp=.slice b n c:=⟨Rd.au h.cls,Rd.au h.aI⟩
theorem Ag (N:Nat):∀ (l:List aj) (ok:Nat->Prop) (v:jnj) (w:jn8),aj.aU l<=N->N<=1000000->Rd ok w (aV l) [v]->(∀ b,ok b->b<w.heap.size)->aj.kV l -> Calls Tryz.prog 59 #[v] w (fun e w'=>∃ v' rows,e=.returned v'/\aB 66 10 ok w'.heap.size w (l.map aj.d) rows v' w'):=by
 induction N using Nat.strongRecOn with
 | _ N ih=>
  intro l ok v w hN hNm hrd hB hbd;obtain ⟨a,n,cap,rfl⟩:=Rd.au hrd;have CC:=hid (Hy l ok _ w hrd hB (by have:=aj.dn l;omega));have IH:=hid ih;have HN:=hid hN;have XU:=hid hNm;have j5:=hid hbd;have HBs:=hid hB;clear ih hN hNm hrd hbd;go_enter Tryz.func59,Tryz.ntmps59;go_wp2_with fail
  (with_reducible refine CC.out.mono ?_)
  rintro e w1 ⟨v1,tq,rfl,hr1⟩;obtain ⟨nL,Ah⟩:∃ nL,nL=l.length:=⟨_,rfl⟩;obtain ⟨a1,c1,rfl⟩:∃ a1 c1,v1=.slice a1 nL c1:=by obtain ⟨a',c',e'⟩:=hr1.slice;rw [jkq] at e';exact ⟨a',c',by rw [Ah];exact e'⟩
  have xM:=hid Ah;have R0:Hid (Jw 66 10 ok w aj.d l (.slice a1 nL c1) (.int .i64 0) w1):=⟨0,tq,Nat.zero_le _,rfl,hr1⟩;have hnl:nL<=1000000:=by have:=aj.dn l;have:=HN.out;have:=XU.out;omega
  clear hr1 Ah CC;go_wp2
  go_loopw [8] (fun vi wr=>Jw 66 10 ok w aj.d l (.slice a1 nL c1) vi wr) (fun i _=>nL-(intOf i).toNat)
  case atStart=>exact R0.out
  case round=>
   clear R0;obtain ⟨k,rows,hk,rfl,hR⟩:=hrel;by_cases hlt:k<nL
   ·obtain ⟨x,hx⟩:∃ x,l[k]?=some x:=⟨_,List.getElem?_eq_getElem (by have:=xM.out;omega)⟩;have hd:(l.map aj.d)[k]?=some x.d:=by rw [List.getElem?_map,hx];rfl
    have hbx:=aj.lG l k x j5.out hx;have hsx:=aj.EI l k _ hx;obtain ⟨r,hr,hrx⟩:=hR.red.get k _ hd;obtain ⟨g,rfl,-,hc1,hcm,hg0⟩:=hR.at_ (by rw [jkq];have:=xM.out;omega)
    obtain ⟨kd,t,d,ti,at_,ar,ci,ks⟩:=x;obtain ⟨vc,vp,va,vi,vk,rfl,-⟩:=aj.open_ hrx;obtain ⟨hE,hcell⟩:=hR.get hr hd;have hI:=aj.kZ hE;obtain ⟨ac,nc,cc,rfl⟩:=Rd.au hI.at_.cls
    obtain ⟨ap,np,cp,rfl⟩:=Rd.au hI.at_.aI
    obtain ⟨aa,na,ca,rfl⟩:=Rd.au hI.args;obtain ⟨ai,ni,jT,rfl⟩:=Rd.au hI.dD;obtain ⟨ak,nk,ck,rfl⟩:=Rd.au hI.kids;rw [aj.bd] at hbx;rw [aj.sz] at hsx;unfold maxLen at hcm;have hgr:g<wr.heap.size:=(hR.own.lt g rfl).2;have AC:=hid (Ad at_ _ _ wr.heap.size wr ⟨Yr hI.at_.cls,Yr hI.at_.aI⟩ (jk7 _) hbx.1 hbx.2.1);have c4:=hcell 4 _ rfl;have c5:=hcell 5 _ rfl;have c6:=hcell 6 _ rfl;have jX:=hid hbx;have HSX:=hid hsx;have uz:=hid hd;have WZ:=hid hr;have HR:=hid hR;have P9:=hid hR.aO.size;have FH:=hid hgr;clear hx hd hbx hsx hrx hE hcell hI hr hR hg0 hgr;go_wp2_with fail
    (with_reducible refine AC.out.mono ?_)
    rintro e w2 ⟨uc,up,rfl,hA2,b2⟩;obtain ⟨⟨a2,n2,c2,rfl⟩,⟨p2,m2,d2,rfl⟩⟩:=At.sl hA2;obtain ⟨rA,hrA,hA⟩:=(HR.out.below b2).in4 uz.out WZ.out;obtain ⟨rB,hrB,hB'⟩:=hA.in5 uz.out hrA (Af hA2.cls FH.out) P9.out FH.out;obtain ⟨rC,hrC,hC⟩:=hB'.in6 uz.out hrB (Af (Af hA2.aI FH.out) FH.out) P9.out FH.out;obtain ⟨-,hcell⟩:=(HR.out.below b2).get WZ.out uz.out;clear c4 c5 c6;have c4:=hcell 4 _ rfl;have c5:=hcell 5 _ rfl;have c6:=hcell 6 _ rfl;have ff:=(HR.out.below b2).free (by omega);obtain ⟨w3,hw3⟩:∃ w3,w3=((w2.setCell ⟨g,k*10+4,none⟩ (.string at_.id)).setCell ⟨g,k*10+4+1,none⟩ (.slice a2 n2 c2)).setCell ⟨g,k*10+4+2,none⟩ (.slice p2 m2 d2):=⟨_,rfl⟩;rw [<- hw3] at hC;have LH:=hid hrC;have HC:=hid hC;have h3s:wr.heap.size<=w3.heap.size:=by rw [hw3];simp [jm0];exact b2.size
    have Un:=hid h3s;clear hA hrA hB' hrB hC hrC hcell hA2 b2 HR WZ AC h3s;go_upto_region 6 with (fail)
    rw [<- hw3];clear hw3 ff c4 c5 c6;obtain ⟨hE,hcell⟩:=HC.out.get LH.out uz.out;have c7:=hcell 7 _ rfl;have ARC:=hid (lH ar w3.heap.size _ w3 (Yr (aj.kZ hE).args) (jk7 _) jX.out.2.2.1);clear hE hcell;go_wp2_with fail
    (with_reducible refine ARC.out.mono ?_)
    rintro e w4 ⟨va4,rfl,hv4,b4⟩;obtain ⟨a4,n4,c4,rfl⟩:=Rd.au hv4;have hr4:=HC.out.below b4;have QV:=hv4.weaken (ok':=(wr.heap.size<=·)) (fun b hb=>jk8 Un.out hb);obtain ⟨rD,hrD,hD⟩:=hr4.in7 uz.out LH.out QV P9.out FH.out;obtain ⟨-,hcell⟩:=hr4.get LH.out uz.out;clear c7;have c7:=hcell 7 _ rfl;have ff:=hr4.free (by omega);obtain ⟨w5,Gi⟩:∃ w5,w5=w4.setCell ⟨g,k*10+7,none⟩ (.slice a4 n4 c4):=⟨_,rfl⟩;rw [<- Gi] at hD;have CJ:=hid hrD;have W9:=hid hD;have h5s:wr.heap.size<=w5.heap.size:=by rw [Gi];simp [jm0];have:=b4.size;have:=Un.out;omega
    have Xa:=hid h5s;clear hr4 QV hrD hD hcell hv4 b4 HC LH ARC h5s Un;go_upto_region 7 with (fail)
    rw [<- Gi];clear Gi ff c7;obtain ⟨hE,hcell⟩:=W9.out.get CJ.out uz.out;have c8:=hcell 8 _ rfl;have CIC:=hid (vY ci w5.heap.size _ w5 (Yr (aj.kZ hE).dD) (jk7 _) jX.out.2.2.2.1);clear hE hcell;go_wp2_with fail
    (with_reducible refine CIC.out.mono ?_)
    rintro e w6 ⟨vi6,rfl,hv6,b6⟩;obtain ⟨a6,n6,c6,rfl⟩:=Rd.au hv6;have Cz:=W9.out.below b6;have hn6:=hv6.weaken (ok':=(wr.heap.size<=·)) (fun b hb=>jk8 Xa.out hb);obtain ⟨rE,hrE,LM⟩:=Cz.in8 uz.out CJ.out hn6 P9.out FH.out;obtain ⟨-,hcell⟩:=Cz.get CJ.out uz.out;clear c8;have c8:=hcell 8 _ rfl;have ff:=Cz.free (by omega);obtain ⟨w7,hw7⟩:∃ w7,w7=w6.setCell ⟨g,k*10+8,none⟩ (.slice a6 n6 c6):=⟨_,rfl⟩;rw [<- hw7] at LM;have RP:=hid hrE;have HE':=hid LM;have h7s:wr.heap.size<=w7.heap.size:=by rw [hw7];simp [jm0];have:=b6.size;have:=Xa.out;omega
    have H7S:=hid h7s;clear Cz hn6 hrE LM hcell hv6 b6 W9 CJ CIC h7s Xa;go_upto_region 8 with (fail)
    rw [<- hw7];clear hw7 ff c8;obtain ⟨hE,hcell⟩:=HE'.out.get RP.out uz.out;have c9:=hcell 9 _ rfl;have KC:=hid (IH.out (aj.aU ks) (by have:=HSX.out;have:=HN.out;omega) ks _ _ w7 (jk7 _) (by have:=HSX.out;have:=HN.out;have:=XU.out;omega) (aj.kZ hE).kids.inside (fun b hb=>hb.2) jX.out.2.2.2.2);clear hE hcell;go_wp2_with fail
    (with_reducible refine KC.out.mono ?_)
    rintro e w8 ⟨vk8,jb7,rfl,Sb⟩;obtain ⟨a8,n8,c8,rfl⟩:=Sb.Tk;have b8:=Sb.aO;have Sc:=HE'.out.below b8;have hn8:Rd (fun b=>(ok b\/w.heap.size<=b)/\b≠g) w8 (aV ks) [.slice a8 n8 c8]:=Sb.rd.weaken (fun b hb=>hb.elim (fun h=>h.1) (fun h=>⟨.inr (by have:=H7S.out;have:=P9.out;omega),by have:=H7S.out;have:=FH.out;omega⟩));obtain ⟨rF,hrF,hF⟩:=Sc.in9 uz.out RP.out hn8;obtain ⟨-,hcell⟩:=Sc.get RP.out uz.out;clear c9;have c9:=hcell 9 _ rfl;have ff:=Sc.free (by omega);have HF:=hid hF;clear Sc hn8 hrF hF hcell Sb b8 HE' RP KC H7S;go_wp2;go_roundw;case rel=>exact ⟨k+1,rF,by have:=xM.out;omega,by go_num,HF.out⟩
    case measure=>simp [intOf];omega
   ·have HRF:=hid hR;clear hR;go_wp2;go_ret;exact ⟨_,rows,rfl,HRF.out⟩
open Go.RowKit
theorem Lg (N:Nat):∀ (l:List ah) (ok:Nat->Prop) (v:jnj) (w:jn8),ah.aU l<=N->N<=1000000->Rd ok w (iU l) [v]->(∀ b,ok b->b<w.heap.size)->ah.kV l -> Calls Tryz.prog 60 #[v] w (fun e w'=>∃ v' rows,e=.returned v'/\aB 48 11 ok w'.heap.size w (l.map ah.d) rows v' w'):=by
 induction N using Nat.strongRecOn with
 | _ N ih=>
  intro l ok v w hN hNm hrd hB hbd;obtain ⟨a,n,cap,rfl⟩:=Rd.au hrd;have CC:=hid (Hz l ok _ w hrd hB (by have:=ah.dn l;omega));have IH:=hid ih;have HN:=hid hN;have XU:=hid hNm;have j5:=hid hbd;clear ih hN hNm hrd hbd;go_enter Tryz.func60,Tryz.ntmps60;go_wp2_with fail
  (with_reducible refine CC.out.mono ?_)
  rintro e w1 ⟨v1,tq,rfl,hr1⟩;obtain ⟨nL,Ah⟩:∃ nL,nL=l.length:=⟨_,rfl⟩;obtain ⟨a1,c1,rfl⟩:∃ a1 c1,v1=.slice a1 nL c1:=by obtain ⟨a',c',e'⟩:=hr1.slice;rw [jkq] at e';exact ⟨a',c',by rw [Ah];exact e'⟩
  have xM:=hid Ah;have R0:Hid (Jw 48 11 ok w ah.d l (.slice a1 nL c1) (.int .i64 0) w1):=⟨0,tq,Nat.zero_le _,rfl,hr1⟩;have hnl:nL<=1000000:=by have:=ah.dn l;have:=HN.out;have:=XU.out;omega
  clear hr1 Ah CC;go_wp2
  go_loopw [8] (fun vi wr=>Jw 48 11 ok w ah.d l (.slice a1 nL c1) vi wr) (fun i _=>nL-(intOf i).toNat)
  case atStart=>exact R0.out
  case round=>
   clear R0;obtain ⟨k,rows,hk,rfl,hR⟩:=hrel;by_cases hlt:k<nL
   ·obtain ⟨x,hx⟩:∃ x,l[k]?=some x:=⟨_,List.getElem?_eq_getElem (by have:=xM.out;omega)⟩;have hd:(l.map ah.d)[k]?=some x.d:=by rw [List.getElem?_map,hx];rfl
    have hbx:=ah.lG l k x j5.out hx;have hsx:=ah.bq l k _ hx;obtain ⟨r,hr,hrx⟩:=hR.red.get k _ hd;obtain ⟨g,rfl,-,hc1,hcm,hg0⟩:=hR.at_ (by rw [jkq];have:=xM.out;omega)
    obtain ⟨kd,lv,i,t,d,ti,at_,li,ks⟩:=x;obtain ⟨vc,vp,vl,vk,rfl,-⟩:=ah.open_ hrx;obtain ⟨hE,hcell⟩:=hR.get hr hd;have hI:=ah.WY hE;obtain ⟨ac,nc,cc,rfl⟩:=Rd.au hI.at_.cls
    obtain ⟨ap,np,cp,rfl⟩:=Rd.au hI.at_.aI
    obtain ⟨al,nl,cl,rfl⟩:=Rd.au hI.line;obtain ⟨ak,nk,ck,rfl⟩:=Rd.au hI.kids;rw [ah.bd] at hbx;rw [ah.sz] at hsx;unfold maxLen at hcm;have hgr:g<wr.heap.size:=(hR.own.lt g rfl).2;have AC:=hid (Ad at_ _ _ wr.heap.size wr ⟨Yr hI.at_.cls,Yr hI.at_.aI⟩ (jk7 _) hbx.1 hbx.2.1);have c6:=hcell 6 _ rfl;have c7:=hcell 7 _ rfl;have c8:=hcell 8 _ rfl;have jX:=hid hbx;have HSX:=hid hsx;have uz:=hid hd;have WZ:=hid hr;have HR:=hid hR;have P9:=hid hR.aO.size;have FH:=hid hgr;clear hx hd hbx hsx hrx hE hcell hI hr hR hg0 hgr;go_wp2_with fail
    (with_reducible refine AC.out.mono ?_)
    rintro e w2 ⟨uc,up,rfl,hA2,b2⟩;obtain ⟨⟨a2,n2,c2,rfl⟩,⟨p2,m2,d2,rfl⟩⟩:=At.sl hA2;obtain ⟨rA,hrA,hA⟩:=(HR.out.below b2).bl6 uz.out WZ.out;obtain ⟨rB,hrB,hB'⟩:=hA.bl7 uz.out hrA (Af hA2.cls FH.out) P9.out FH.out;obtain ⟨rC,hrC,hC⟩:=hB'.bl8 uz.out hrB (Af (Af hA2.aI FH.out) FH.out) P9.out FH.out;obtain ⟨-,hcell⟩:=(HR.out.below b2).get WZ.out uz.out;clear c6 c7 c8;have c6:=hcell 6 _ rfl;have c7:=hcell 7 _ rfl;have c8:=hcell 8 _ rfl;have ff:=(HR.out.below b2).free (by omega);obtain ⟨w3,hw3⟩:∃ w3,w3=((w2.setCell ⟨g,k*11+6,none⟩ (.string at_.id)).setCell ⟨g,k*11+6+1,none⟩ (.slice a2 n2 c2)).setCell ⟨g,k*11+6+2,none⟩ (.slice p2 m2 d2):=⟨_,rfl⟩;rw [<- hw3] at hC;have LH:=hid hrC;have HC:=hid hC;have h3s:wr.heap.size<=w3.heap.size:=by rw [hw3];simp [jm0];exact b2.size
    have Un:=hid h3s;clear hA hrA hB' hrB hC hrC hcell hA2 b2 HR WZ AC h3s;go_upto_region 6 with (fail)
    rw [<- hw3];clear hw3 ff c6 c7 c8;obtain ⟨hE,hcell⟩:=HC.out.get LH.out uz.out;have c9:=hcell 9 _ rfl;have LC:=hid (Ag _ li _ _ w3 (jk7 _) jX.out.2.2.2.1 (ah.WY hE).line.inside (fun b hb=>hb.2) jX.out.2.2.1);clear hE hcell;go_wp2_with fail
    (with_reducible refine LC.out.mono ?_)
    rintro e w4 ⟨vl4,dV,rfl,hr4⟩;obtain ⟨a4,n4,c4,rfl⟩:=hr4.Tk;have b4:=hr4.aO;have Sd:=HC.out.below b4;have QV:Rd (fun b=>(ok b\/w.heap.size<=b)/\b≠g) w4 (aV li) [.slice a4 n4 c4]:=hr4.rd.weaken (fun b hb=>hb.elim (fun h=>h.1) (fun h=>⟨.inr (by have:=Un.out;have:=P9.out;omega),by have:=Un.out;have:=FH.out;omega⟩));obtain ⟨rD,hrD,hD⟩:=Sd.bl9 uz.out LH.out QV;obtain ⟨-,hcell⟩:=Sd.get LH.out uz.out;clear c9;have c9:=hcell 9 _ rfl;have ff:=Sd.free (by omega);obtain ⟨w5,Gi⟩:∃ w5,w5=w4.setCell ⟨g,k*11+9,none⟩ (.slice a4 n4 c4):=⟨_,rfl⟩;rw [<- Gi] at hD;have CJ:=hid hrD;have W9:=hid hD;have h5s:wr.heap.size<=w5.heap.size:=by rw [Gi];simp [jm0];have:=b4.size;have:=Un.out;omega
    have Xa:=hid h5s;clear Sd QV hrD hD hcell hr4 b4 HC LH LC h5s Un;go_upto_region 7 with (fail)
    rw [<- Gi];clear Gi ff c9;obtain ⟨hE,hcell⟩:=W9.out.get CJ.out uz.out;have c10:=hcell 10 _ rfl;have KC:=hid (IH.out (ah.aU ks) (by have:=HSX.out;have:=HN.out;omega) ks _ _ w5 (jk7 _) (by have:=HSX.out;have:=HN.out;have:=XU.out;omega) (ah.WY hE).kids.inside (fun b hb=>hb.2) jX.out.2.2.2.2);clear hE hcell;go_wp2_with fail
    (with_reducible refine KC.out.mono ?_)
    rintro e w8 ⟨vk8,jb7,rfl,Sb⟩;obtain ⟨a8,n8,c8,rfl⟩:=Sb.Tk;have b8:=Sb.aO;have Sc:=W9.out.below b8;have hn8:Rd (fun b=>(ok b\/w.heap.size<=b)/\b≠g) w8 (iU ks) [.slice a8 n8 c8]:=Sb.rd.weaken (fun b hb=>hb.elim (fun h=>h.1) (fun h=>⟨.inr (by have:=Xa.out;have:=P9.out;omega),by have:=Xa.out;have:=FH.out;omega⟩));obtain ⟨rF,hrF,hF⟩:=Sc.jg2 uz.out CJ.out hn8;obtain ⟨-,hcell⟩:=Sc.get CJ.out uz.out;clear c10;have c10:=hcell 10 _ rfl;have ff:=Sc.free (by omega);have HF:=hid hF;clear Sc hn8 hrF hF hcell Sb b8 W9 CJ KC Xa;go_wp2;go_roundw;case rel=>exact ⟨k+1,rF,by have:=xM.out;omega,by go_num,HF.out⟩
    case measure=>simp [intOf];omega
   ·have HRF:=hid hR;clear hR;go_wp2;go_ret;exact ⟨_,rows,rfl,HRF.out⟩
end Go.Proofs.YtkfnkeflalcphaaGreatDoor

