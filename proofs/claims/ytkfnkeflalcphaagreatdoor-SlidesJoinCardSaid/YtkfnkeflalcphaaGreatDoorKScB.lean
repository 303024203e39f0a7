/- Contracts of slices.Clone at inlines and blocks, and of slides.copyAttr, copyLine, copyBlocks. Contract of slides.copyBlocks. -/
import Derived.Test.YtkfnkeflalcphaaGreatDoorKRfD
set_option maxHeartbeats 4000000
set_option maxRecDepth 100000
open Go.Lib (hid)
namespace Go.Proofs.YtkfnkeflalcphaaGreatDoor
open Nat renaming le_refl->jm1,le_trans->jm2
open List renaming length_map->jm6
open Go.World renaming setCell->jn9
open Go renaming World->jp3,Value->jp5
open Go.RowKit
set_option linter.unusedVariables false
set_option linter.unusedSimpArgs false
theorem Pj {ok:Nat->Prop} {w:jp3} {l:List aj} {rows:List (List jp5)} (h:aH ok w (l.map aj.d) rows):∀ u∈rows.flatten,u.oneCell'=true:=
 jD h fun d hd r hr u hu=>by
  obtain ⟨x,_,rfl⟩:=List.mem_map.1 hd;obtain ⟨k,t,d,ti,a,ar,ci,ks⟩:=x;obtain ⟨vc,vp,va,vi,vk,rfl,hR⟩:=aj.open_ hr;obtain ⟨_,_,_,rfl⟩:=Rd.au hR.at_.cls
  obtain ⟨_,_,_,rfl⟩:=Rd.au hR.at_.aJ
  obtain ⟨_,_,_,rfl⟩:=Rd.au hR.args;obtain ⟨_,_,_,rfl⟩:=Rd.au hR.dG;obtain ⟨_,_,_,rfl⟩:=Rd.au hR.kids;simp at hu;rcases hu with rfl | rfl | rfl | rfl | rfl | rfl | rfl | rfl | rfl | rfl<;>rfl
theorem Pk {ok:Nat->Prop} {w:jp3} {l:List ah} {rows:List (List jp5)} (h:aH ok w (l.map ah.d) rows):∀ u∈rows.flatten,u.oneCell'=true:=
 jD h fun d hd r hr u hu=>by
  obtain ⟨x,_,rfl⟩:=List.mem_map.1 hd;obtain ⟨k,lv,i,t,d,ti,a,li,ks⟩:=x;obtain ⟨vc,vp,vl,vk,rfl,hR⟩:=ah.open_ hr;obtain ⟨_,_,_,rfl⟩:=Rd.au hR.at_.cls
  obtain ⟨_,_,_,rfl⟩:=Rd.au hR.at_.aJ
  obtain ⟨_,_,_,rfl⟩:=Rd.au hR.line;obtain ⟨_,_,_,rfl⟩:=Rd.au hR.kids;simp at hu;rcases hu with rfl | rfl | rfl | rfl | rfl | rfl | rfl | rfl | rfl | rfl | rfl<;>rfl
theorem Ii (l:List aj) (ok:Nat->Prop) (v:jp5) (w:jp3) (h:Rd ok w (aX l) [v]) (hB:∀ b,ok b->b<w.heap.size) (hl:l.length<=1000000) : Calls Tryz.prog 103 #[v] w (fun e w'=>∃ v' rows,e=.returned v'/\ay 66 10 ok w'.heap.size w (l.map aj.d) rows v' w'):=by
 obtain ⟨i0,hi,hz0,hz1,hz2⟩:=info_parts NQ;obtain ⟨A,cap,rows,rfl,h1,h2,h3,h4,h5⟩:=Rd.qV h;rw [jm6] at h1 h5;have e:(l.map aj.d).length=l.length:=jm6 _;rw [e];unfold maxLen at h2;have H3:=hid h3;have H4:=hid h4;have H5:=hid h5;have H1:=hid (Pj h3);clear h h3 h4 h5 e;cases A with
 | none=>
  have h0:l=[]:=List.length_eq_zero_iff.1 (jC H5.out);subst h0;have hq:=fun (w:jp3) (a:Option Addr) (n c:Nat)=>Lib.run_eql_slice_nil (P:=Tryz.prog) w _ _ a n c 0 0 Tryz.underlying46
  go_enter Tryz.func103,Tryz.ntmps103;go_wp2;go_ret;exact ⟨_,[],rfl,ay.nil _ _ _ _⟩
 | some ad=>
  have hq:=fun (w:jp3) (a:Option Addr) (n c:Nat)=>Lib.run_eql_slice_nil (P:=Tryz.prog) w _ _ a n c 0 0 Tryz.underlying46
  go_enter Tryz.func103,Tryz.ntmps103;go_wp2_with (at_builtin;refine PS _ rfl (.tmp 5) (.tmp 6) 46 rfl w.heap.size 66 i0 _ 10 192 Tryz.underlying46 hi hz0 hz1 hz2 rfl (by decide) (.slice (some ⟨w.heap.size,0,none⟩) 0 0) 0 [] rfl (gY w _ _) w.heap.size (some ad) l.length cap rows.flatten rfl (H5.out.below ((Below.refl _ w).alloc (jm1 _) _)) H1.out ?a1 ?a2 ?a3 ?_)
  case a1=>unfold maxLen;omega
  case a2=>omega
  case a3=>simp
  intro v' w1 hown hg _
  (try simp only [Nat.zero_add,List.nil_append] at hown)
  have b1:Below w.heap.size w w1:=((Below.refl _ w).alloc (jm1 _) _).grown hg (by simp) (fun j hj=>by have e:w.heap.size=j:=Option.some.inj hj;omega);have HO:=hid hown;clear hown hg;go_wp2;go_ret;refine ⟨_,rows,rfl,⟨by rw [jm6];exact HO.out,aH.keep (fun b hb hlt=>⟨⟨.inl hb,fun e=>by have:=(HO.out.lt b e).1;omega,by have:=b1.size;omega⟩,b1.block b hlt⟩) _ _ H3.out,H4.out,b1,fun g hg=>(HO.out.lt g hg).2,b1.size,jm1 _⟩⟩
theorem Ij (l:List ah) (ok:Nat->Prop) (v:jp5) (w:jp3) (h:Rd ok w (fC l) [v]) (hB:∀ b,ok b->b<w.heap.size) (hl:l.length<=1000000) : Calls Tryz.prog 105 #[v] w (fun e w'=>∃ v' rows,e=.returned v'/\ay 48 11 ok w'.heap.size w (l.map ah.d) rows v' w'):=by
 obtain ⟨i0,hi,hz0,hz1,hz2⟩:=info_parts Nh;obtain ⟨A,cap,rows,rfl,h1,h2,h3,h4,h5⟩:=Rd.qV h;rw [jm6] at h1 h5;have e:(l.map ah.d).length=l.length:=jm6 _;rw [e];unfold maxLen at h2;have H3:=hid h3;have H4:=hid h4;have H5:=hid h5;have H1:=hid (Pk h3);clear h h3 h4 h5 e;cases A with
 | none=>
  have h0:l=[]:=List.length_eq_zero_iff.1 (jC H5.out);subst h0;have hq:=fun (w:jp3) (a:Option Addr) (n c:Nat)=>Lib.run_eql_slice_nil (P:=Tryz.prog) w _ _ a n c 0 0 Tryz.underlying22
  go_enter Tryz.func105,Tryz.ntmps105;go_wp2;go_ret;exact ⟨_,[],rfl,ay.nil _ _ _ _⟩
 | some ad=>
  have hq:=fun (w:jp3) (a:Option Addr) (n c:Nat)=>Lib.run_eql_slice_nil (P:=Tryz.prog) w _ _ a n c 0 0 Tryz.underlying22
  go_enter Tryz.func105,Tryz.ntmps105;go_wp2_with (at_builtin;refine PS _ rfl (.tmp 5) (.tmp 6) 22 rfl w.heap.size 48 i0 _ 11 192 Tryz.underlying22 hi hz0 hz1 hz2 rfl (by decide) (.slice (some ⟨w.heap.size,0,none⟩) 0 0) 0 [] rfl (gY w _ _) w.heap.size (some ad) l.length cap rows.flatten rfl (H5.out.below ((Below.refl _ w).alloc (jm1 _) _)) H1.out ?a1 ?a2 ?a3 ?_)
  case a1=>unfold maxLen;omega
  case a2=>omega
  case a3=>simp
  intro v' w1 hown hg _
  (try simp only [Nat.zero_add,List.nil_append] at hown)
  have b1:Below w.heap.size w w1:=((Below.refl _ w).alloc (jm1 _) _).grown hg (by simp) (fun j hj=>by have e:w.heap.size=j:=Option.some.inj hj;omega);have HO:=hid hown;clear hown hg;go_wp2;go_ret;refine ⟨_,rows,rfl,⟨by rw [jm6];exact HO.out,aH.keep (fun b hb hlt=>⟨⟨.inl hb,fun e=>by have:=(HO.out.lt b e).1;omega,by have:=b1.size;omega⟩,b1.block b hlt⟩) _ _ H3.out,H4.out,b1,fun g hg=>(HO.out.lt g hg).2,b1.size,jm1 _⟩⟩
theorem Am (at_:At) (vc vp:jp5) (B:Nat) (w:jp3) (h:AtR (·<B) w at_ vc vp) (hB:B<=w.heap.size) (hc:at_.cls.length<=1000000) (hp:at_.aJ.length<=1000000) : Calls Tryz.prog 104 #[.agg #[.string at_.id,vc,vp]] w fun e w'=>∃ Ez EA,e=.returned (.agg #[.string at_.id,Ez,EA])/\AtR (w.heap.size<=·) w' at_ Ez EA/\Below w.heap.size w w':=by
 obtain ⟨ac,nc,cc,rfl⟩:=Rd.au h.cls;obtain ⟨ap,np,cp,rfl⟩:=Rd.au h.aJ;have HA:=hid h;clear h;go_enter Tryz.func104,Tryz.ntmps104;go_upto_region 1 with (fail)
 obtain ⟨w0,hw0⟩:∃ w0,w0=(w.alloc (.cells #[.string at_.id,.slice ac nc cc,.slice ap np cp] 45)).alloc (.cells #[.string ⟨#[]⟩,.slice none 0 0,.slice none 0 0] 45):=⟨_,rfl⟩;have P0:AB w.heap.size [.string at_.id,.slice ac nc cc,.slice ap np cp] w0:=by rw [hw0];exact (Below.heap_alloc _ _ _ (by simp)).trans (heap_alloc_new w _)
 have Q0:AB (w.heap.size+1) [.string ⟨#[]⟩,.slice none 0 0,.slice none 0 0] w0:=by rw [hw0];have:=heap_alloc_new (w.alloc (.cells #[.string at_.id,.slice ac nc cc,.slice ap np cp] 45)) (.cells #[.string ⟨#[]⟩,.slice none 0 0,.slice none 0 0] 45);rw [World.size_alloc] at this;exact this
 have b0:Below w.heap.size w w0:=by rw [hw0];exact ((Below.refl _ w).alloc (jm1 _) _).alloc (by simp) _
 have hs0:w.heap.size+2<=w0.heap.size:=by rw [hw0];simp
 rw [<- hw0];clear hw0;have CS:=hid (lK at_.cls B _ w0 (HA.out.cls.below (b0.mono hB)) (jm2 hB b0.size) hc);have d1:=P0.cell 1 _ rfl;have HP0:=hid P0;have HQ0:=hid Q0;clear P0 Q0;go_wp2_with fail
 refine CS.out.mono ?_;rintro e w1 ⟨v1,rfl,hr1,b1⟩;obtain ⟨a1,n1,c1,rfl⟩:=Rd.au hr1;have P1:=HP0.out.grown (FM b1);have Q1:=HQ0.out.grown (FM b1);have Sy:=hid P1;have WL:=hid Q1;have HR1:=hid (hr1.weaken (ok':=((w.heap.size+1)<·)) (fun b hb=>by omega));have hb1:=aP b0 b1;have hs1:w.heap.size+2<=w1.heap.size:=jm2 hs0 b1.size;have d1:=P1.cell 1 _ rfl;have f1:=P1.free 1;clear P1 Q1 HP0 HQ0 CS hr1 b0 b1 hs0;go_upto_region 2 with (fail)
 obtain ⟨w2,hw2⟩:∃ w2,w2=w1.setCell ⟨w.heap.size,1,none⟩ (.slice a1 n1 c1):=⟨_,rfl⟩;have P2:AB w.heap.size [.string at_.id,.slice a1 n1 c1,.slice ap np cp] w2:=by rw [hw2];exact Sy.out.set 1 _
 have Q2:AB (w.heap.size+1) [.string ⟨#[]⟩,.slice none 0 0,.slice none 0 0] w2:=by rw [hw2];exact WL.out.far (by omega) 1 _
 have R2:Hid (Rd ((w.heap.size+1)<·) w2 (dW at_.cls) [.slice a1 n1 c1]):=by show Rd _ _ _ _;rw [hw2];exact Rd.keep (fun b hb hlt=>⟨hb,Below.heap_setCell w1 ⟨w.heap.size,1,none⟩ _ b (by show b≠w.heap.size;omega)⟩) _ _ HR1.out
 have b2:Below w.heap.size w w2:=by rw [hw2];exact hb1.setCell (p:=⟨w.heap.size,1,none⟩) (jm1 _) _
 have hs2:w.heap.size+2<=w2.heap.size:=by rw [hw2];simpa [jn9] using hs1
 rw [<- hw2];clear hw2 Sy WL HR1 hb1 hs1 d1 f1;have CP:=hid (xE at_.aJ B _ w2 (HA.out.aJ.below (b2.mono hB)) (jm2 hB b2.size) hp);have d2:=P2.cell 2 _ rfl;have L9:=hid P2;have RY:=hid Q2;clear P2 Q2;go_wp2_with fail
 refine CP.out.mono ?_;rintro e w3 ⟨v3,rfl,hr3,b3⟩;obtain ⟨a3,n3,c3,rfl⟩:=Rd.au hr3;have P3:=L9.out.grown (FM b3);have Q3:=RY.out.grown (FM b3);have FJ:=hid (P3.set 2 (.slice a3 n3 c3));have Db:=hid (Q3.far (q:=w.heap.size) (by omega) 2 (.slice a3 n3 c3));have HR3:=hid (hr3.weaken (ok':=((w.heap.size+1)<·)) (fun b hb=>by omega));have HS3:=hid (Rd.keep (ok':=((w.heap.size+1)<·)) (fun b hb hlt=>⟨hb,b3.block b hlt⟩) _ _ R2.out);have hb3:=aP b2 b3;have d2:=P3.cell 2 _ rfl;have f2:=P3.free 2;clear P3 Q3 L9 RY CP hr3 b2 b3 R2 hs2;go_upto_region 3 with (fail)
 obtain ⟨w4,hw4⟩:∃ w4,w4=w3.setCell ⟨w.heap.size,2,none⟩ (.slice a3 n3 c3):=⟨_,rfl⟩;rw [<- hw4] at FJ Db;have K4:∀ b,w.heap.size+1<b->b<w3.heap.size->w4.heap[b]?=w3.heap[b]?:=fun b hb _=>by rw [hw4];exact Below.heap_setCell w3 ⟨w.heap.size,2,none⟩ _ b (by show b≠w.heap.size;omega)
 have R4:=hid (Rd.keep (w':=w4) (ok':=((w.heap.size+1)<·)) (fun b hb hlt=>⟨hb,K4 b hb hlt⟩) _ _ HR3.out);have S4:=hid (Rd.keep (w':=w4) (ok':=((w.heap.size+1)<·)) (fun b hb hlt=>⟨hb,K4 b hb hlt⟩) _ _ HS3.out);have b4:Below w.heap.size w w4:=by rw [hw4];exact hb3.setCell (p:=⟨w.heap.size,2,none⟩) (jm1 _) _
 rw [<- hw4];clear hw4 K4 HR3 HS3 hb3 d2 f2;have q0:=FJ.out.cell 0 _ rfl;have q1:=FJ.out.cell 1 _ rfl;have q2:=FJ.out.cell 2 _ rfl;have r0:=Db.out.cell 0 _ rfl;have r1:=Db.out.cell 1 _ rfl;have r2:=Db.out.cell 2 _ rfl;have g0:=Db.out.free 0;have g1:=Db.out.free 1;have g2:=Db.out.free 2;have FB:=hid (fun u0 u1 u2=>((b4.setCell (p:=⟨w.heap.size+1,0,none⟩) (by simp) u0).setCell (p:=⟨w.heap.size+1,1,none⟩) (by simp) u1).setCell (p:=⟨w.heap.size+1,2,none⟩) (by simp) u2);have AV:∀ (d:D) (cs:List jp5),Rd ((w.heap.size+1)<·) w4 d cs->∀ u0 u1 u2,Rd (w.heap.size<=·) (((w4.setCell ⟨w.heap.size+1,0,none⟩ u0).setCell ⟨w.heap.size+1,1,none⟩ u1).setCell ⟨w.heap.size+1,2,none⟩ u2) d cs:=fun d cs hd u0 u1 u2=>
  (((hd.above (dS.set 0 u0)).above (dS.set 1 u1)).above (dS.set 2 u2)).weaken (fun b hb=>by omega)
 have HAV:=hid AV;clear AV b4;go_wp2;exact bodyPost_ret (v:=.agg #[.string at_.id,.slice a1 n1 c1,.slice a3 n3 c3]) (by simp [results,Tryz.results104,go_sem,r0,r1,r2]) rfl ⟨_,_,rfl,⟨HAV.out _ _ S4.out _ _ _,HAV.out _ _ R4.out _ _ _⟩,FB.out _ _ _⟩
def JI {α:Type} (T:TypeId) (k:Nat) (ok:Nat->Prop) (w:jp3) (D':α->D) (l:List α) (v vi:jp5) (wr:jp3):Prop:=∃ (i:Nat) (rows:List (List jp5)),i<=l.length/\vi=.int .i64 i/\ay T k ok wr.heap.size w (l.map D') rows v wr
theorem YB {ok:Nat->Prop} {w:jp3} {d:D} {cs:List jp5} (h:Rd ok w d cs):Rd (·<w.heap.size) w d cs:=Rd.keep (fun b _ h2=>⟨h2,rfl⟩) _ _ h
theorem Ao {ok:Nat->Prop} {g B1:Nat} {w0 w':jp3} {d:D} {cs:List jp5} (h:Rd (B1<=·) w' d cs) (h0:w0.heap.size<=B1) (hg:g<B1):Rd (fun b=>(ok b\/w0.heap.size<=b)/\b≠g) w' d cs:=h.weaken (fun b hb=>⟨.inr (jm2 h0 hb),by omega⟩)
theorem Ap {g B1 o:Nat} {w:jp3} {u:jp5} {d:D} {cs:List jp5} (h:Rd (B1<=·) w d cs) (hg:g<B1):Rd (B1<=·) (w.setCell ⟨g,o,none⟩ u) d cs:=Rd.keep (fun b (hb:B1<=b) _=>⟨hb,Below.heap_setCell w ⟨g,o,none⟩ u b (by show b≠g;omega)⟩) _ _ h
theorem aj.lC {ok:Nat->Prop} {w:jp3} {k:Int} {t d ti:ByteArray} {a:At} {ar:List ByteArray} {ci:List Ci} {ks:List aj} {vc vp va vi vk:jp5} (h:Rd ok w (aj.mk k t d ti a ar ci ks).d [.int .i64 k,.string t,.string d,.string ti,.string a.id,vc,vp,va,vi,vk]):uo ok w a ar ci ks vc vp va vi vk:=by obtain ⟨Ez,EA,va',vi',Uj,e,hI⟩:=aj.open_ h;simp only [List.cons.injEq,and_true,true_and] at e;obtain ⟨rfl,rfl,rfl,rfl,rfl⟩:=e;exact hI
theorem ah.Xp {ok:Nat->Prop} {w:jp3} {k lv:Int} {i t d ti:ByteArray} {a:At} {li:List aj} {ks:List ah} {vc vp vl vk:jp5} (h:Rd ok w (ah.mk k lv i t d ti a li ks).d [.int .i64 k,.int .i64 lv,.string i,.string t,.string d,.string ti,.string a.id,vc,vp,vl,vk]):kN ok w a li ks vc vp vl vk:=by obtain ⟨Ez,EA,vl',Uj,e,hI⟩:=ah.open_ h;simp only [List.cons.injEq,and_true,true_and] at e;obtain ⟨rfl,rfl,rfl,rfl⟩:=e;exact hI
section
variable {U g n c B1 i:Nat} {ok:Nat->Prop} {w0 w:jp3} {ds:List D} {rows:List (List jp5)} {k lv:Int} {s t d ti:ByteArray} {a:At} {ar:List ByteArray} {ci:List Ci} {ks:List aj} {li:List aj} {bs:List ah} {vc vp va vi vk vl u:jp5}
theorem ay.in4 (h:ay 66 10 ok U w0 ds rows (.slice (some ⟨g,0,none⟩) n c) w) (hd:ds[i]?=some (aj.mk k t d ti a ar ci ks).d) (hr:rows[i]?=some [.int .i64 k,.string t,.string d,.string ti,.string a.id,vc,vp,va,vi,vk]) : ∃ rows',rows'[i]?=some [.int .i64 k,.string t,.string d,.string ti,.string a.id,vc,vp,va,vi,vk]/\ay 66 10 ok (w.setCell ⟨g,i*10+4,none⟩ (.string a.id)).heap.size w0 ds rows' (.slice (some ⟨g,0,none⟩) n c) (w.setCell ⟨g,i*10+4,none⟩ (.string a.id)):=
 h.OZ hr hd 4 _ _ (by decide) rfl (h.get hr hd).1
theorem ay.in5 (h:ay 66 10 ok U w0 ds rows (.slice (some ⟨g,0,none⟩) n c) w) (hd:ds[i]?=some (aj.mk k t d ti a ar ci ks).d) (hr:rows[i]?=some [.int .i64 k,.string t,.string d,.string ti,.string a.id,vc,vp,va,vi,vk]) (hu:Rd (B1<=·) w (dW a.cls) [u]) (h0:w0.heap.size<=B1) (hg:g<B1) : ∃ rows',rows'[i]?=some [.int .i64 k,.string t,.string d,.string ti,.string a.id,u,vp,va,vi,vk]/\ay 66 10 ok (w.setCell ⟨g,i*10+5,none⟩ u).heap.size w0 ds rows' (.slice (some ⟨g,0,none⟩) n c) (w.setCell ⟨g,i*10+5,none⟩ u):=
 have I:=aj.lC (h.get hr hd).1;have N:=Ao (ok:=ok) hu h0 hg
 h.OZ hr hd 5 u _ (by decide) rfl (aj.eH k t d ti ⟨⟨N,I.at_.aJ⟩,I.args,I.dG,I.kids⟩)
theorem ay.in6 (h:ay 66 10 ok U w0 ds rows (.slice (some ⟨g,0,none⟩) n c) w) (hd:ds[i]?=some (aj.mk k t d ti a ar ci ks).d) (hr:rows[i]?=some [.int .i64 k,.string t,.string d,.string ti,.string a.id,vc,vp,va,vi,vk]) (hu:Rd (B1<=·) w (bP a.aJ) [u]) (h0:w0.heap.size<=B1) (hg:g<B1) : ∃ rows',rows'[i]?=some [.int .i64 k,.string t,.string d,.string ti,.string a.id,vc,u,va,vi,vk]/\ay 66 10 ok (w.setCell ⟨g,i*10+6,none⟩ u).heap.size w0 ds rows' (.slice (some ⟨g,0,none⟩) n c) (w.setCell ⟨g,i*10+6,none⟩ u):=
 have I:=aj.lC (h.get hr hd).1;have N:=Ao (ok:=ok) hu h0 hg
 h.OZ hr hd 6 u _ (by decide) rfl (aj.eH k t d ti ⟨⟨I.at_.cls,N⟩,I.args,I.dG,I.kids⟩)
theorem ay.in7 (h:ay 66 10 ok U w0 ds rows (.slice (some ⟨g,0,none⟩) n c) w) (hd:ds[i]?=some (aj.mk k t d ti a ar ci ks).d) (hr:rows[i]?=some [.int .i64 k,.string t,.string d,.string ti,.string a.id,vc,vp,va,vi,vk]) (hu:Rd (B1<=·) w (dW ar) [u]) (h0:w0.heap.size<=B1) (hg:g<B1) : ∃ rows',rows'[i]?=some [.int .i64 k,.string t,.string d,.string ti,.string a.id,vc,vp,u,vi,vk]/\ay 66 10 ok (w.setCell ⟨g,i*10+7,none⟩ u).heap.size w0 ds rows' (.slice (some ⟨g,0,none⟩) n c) (w.setCell ⟨g,i*10+7,none⟩ u):=
 have I:=aj.lC (h.get hr hd).1;have N:=Ao (ok:=ok) hu h0 hg
 h.OZ hr hd 7 u _ (by decide) rfl (aj.eH k t d ti ⟨I.at_,N,I.dG,I.kids⟩)
theorem ay.in8 (h:ay 66 10 ok U w0 ds rows (.slice (some ⟨g,0,none⟩) n c) w) (hd:ds[i]?=some (aj.mk k t d ti a ar ci ks).d) (hr:rows[i]?=some [.int .i64 k,.string t,.string d,.string ti,.string a.id,vc,vp,va,vi,vk]) (hu:Rd (B1<=·) w (JZ ci) [u]) (h0:w0.heap.size<=B1) (hg:g<B1) : ∃ rows',rows'[i]?=some [.int .i64 k,.string t,.string d,.string ti,.string a.id,vc,vp,va,u,vk]/\ay 66 10 ok (w.setCell ⟨g,i*10+8,none⟩ u).heap.size w0 ds rows' (.slice (some ⟨g,0,none⟩) n c) (w.setCell ⟨g,i*10+8,none⟩ u):=
 have I:=aj.lC (h.get hr hd).1;have N:=Ao (ok:=ok) hu h0 hg
 h.OZ hr hd 8 u _ (by decide) rfl (aj.eH k t d ti ⟨I.at_,I.args,N,I.kids⟩)
theorem ay.in9 (h:ay 66 10 ok U w0 ds rows (.slice (some ⟨g,0,none⟩) n c) w) (hd:ds[i]?=some (aj.mk k t d ti a ar ci ks).d) (hr:rows[i]?=some [.int .i64 k,.string t,.string d,.string ti,.string a.id,vc,vp,va,vi,vk]) (N:Rd (fun b=>(ok b\/w0.heap.size<=b)/\b≠g) w (aX ks) [u]) : ∃ rows',rows'[i]?=some [.int .i64 k,.string t,.string d,.string ti,.string a.id,vc,vp,va,vi,u]/\ay 66 10 ok (w.setCell ⟨g,i*10+9,none⟩ u).heap.size w0 ds rows' (.slice (some ⟨g,0,none⟩) n c) (w.setCell ⟨g,i*10+9,none⟩ u):=
 have I:=aj.lC (h.get hr hd).1
 h.OZ hr hd 9 u _ (by decide) rfl (aj.eH k t d ti ⟨I.at_,I.args,I.dG,N⟩)
theorem ay.bl6 (h:ay 48 11 ok U w0 ds rows (.slice (some ⟨g,0,none⟩) n c) w) (hd:ds[i]?=some (ah.mk k lv s t d ti a li bs).d) (hr:rows[i]?=some [.int .i64 k,.int .i64 lv,.string s,.string t,.string d,.string ti,.string a.id,vc,vp,vl,vk]) : ∃ rows',rows'[i]?=some [.int .i64 k,.int .i64 lv,.string s,.string t,.string d,.string ti,.string a.id,vc,vp,vl,vk]/\ay 48 11 ok (w.setCell ⟨g,i*11+6,none⟩ (.string a.id)).heap.size w0 ds rows' (.slice (some ⟨g,0,none⟩) n c) (w.setCell ⟨g,i*11+6,none⟩ (.string a.id)):=
 h.OZ hr hd 6 _ _ (by decide) rfl (h.get hr hd).1
theorem ay.bl7 (h:ay 48 11 ok U w0 ds rows (.slice (some ⟨g,0,none⟩) n c) w) (hd:ds[i]?=some (ah.mk k lv s t d ti a li bs).d) (hr:rows[i]?=some [.int .i64 k,.int .i64 lv,.string s,.string t,.string d,.string ti,.string a.id,vc,vp,vl,vk]) (hu:Rd (B1<=·) w (dW a.cls) [u]) (h0:w0.heap.size<=B1) (hg:g<B1) : ∃ rows',rows'[i]?=some [.int .i64 k,.int .i64 lv,.string s,.string t,.string d,.string ti,.string a.id,u,vp,vl,vk]/\ay 48 11 ok (w.setCell ⟨g,i*11+7,none⟩ u).heap.size w0 ds rows' (.slice (some ⟨g,0,none⟩) n c) (w.setCell ⟨g,i*11+7,none⟩ u):=
 have I:=ah.Xp (h.get hr hd).1;have N:=Ao (ok:=ok) hu h0 hg
 h.OZ hr hd 7 u _ (by decide) rfl (ah.eH k lv s t d ti ⟨⟨N,I.at_.aJ⟩,I.line,I.kids⟩)
theorem ay.bl8 (h:ay 48 11 ok U w0 ds rows (.slice (some ⟨g,0,none⟩) n c) w) (hd:ds[i]?=some (ah.mk k lv s t d ti a li bs).d) (hr:rows[i]?=some [.int .i64 k,.int .i64 lv,.string s,.string t,.string d,.string ti,.string a.id,vc,vp,vl,vk]) (hu:Rd (B1<=·) w (bP a.aJ) [u]) (h0:w0.heap.size<=B1) (hg:g<B1) : ∃ rows',rows'[i]?=some [.int .i64 k,.int .i64 lv,.string s,.string t,.string d,.string ti,.string a.id,vc,u,vl,vk]/\ay 48 11 ok (w.setCell ⟨g,i*11+8,none⟩ u).heap.size w0 ds rows' (.slice (some ⟨g,0,none⟩) n c) (w.setCell ⟨g,i*11+8,none⟩ u):=
 have I:=ah.Xp (h.get hr hd).1;have N:=Ao (ok:=ok) hu h0 hg
 h.OZ hr hd 8 u _ (by decide) rfl (ah.eH k lv s t d ti ⟨⟨I.at_.cls,N⟩,I.line,I.kids⟩)
theorem ay.bl9 (h:ay 48 11 ok U w0 ds rows (.slice (some ⟨g,0,none⟩) n c) w) (hd:ds[i]?=some (ah.mk k lv s t d ti a li bs).d) (hr:rows[i]?=some [.int .i64 k,.int .i64 lv,.string s,.string t,.string d,.string ti,.string a.id,vc,vp,vl,vk]) (N:Rd (fun b=>(ok b\/w0.heap.size<=b)/\b≠g) w (aX li) [u]) : ∃ rows',rows'[i]?=some [.int .i64 k,.int .i64 lv,.string s,.string t,.string d,.string ti,.string a.id,vc,vp,u,vk]/\ay 48 11 ok (w.setCell ⟨g,i*11+9,none⟩ u).heap.size w0 ds rows' (.slice (some ⟨g,0,none⟩) n c) (w.setCell ⟨g,i*11+9,none⟩ u):=
 have I:=ah.Xp (h.get hr hd).1
 h.OZ hr hd 9 u _ (by decide) rfl (ah.eH k lv s t d ti ⟨I.at_,N,I.kids⟩)
theorem ay.ji8 (h:ay 48 11 ok U w0 ds rows (.slice (some ⟨g,0,none⟩) n c) w) (hd:ds[i]?=some (ah.mk k lv s t d ti a li bs).d) (hr:rows[i]?=some [.int .i64 k,.int .i64 lv,.string s,.string t,.string d,.string ti,.string a.id,vc,vp,vl,vk]) (N:Rd (fun b=>(ok b\/w0.heap.size<=b)/\b≠g) w (fC bs) [u]) : ∃ rows',rows'[i]?=some [.int .i64 k,.int .i64 lv,.string s,.string t,.string d,.string ti,.string a.id,vc,vp,vl,u]/\ay 48 11 ok (w.setCell ⟨g,i*11+10,none⟩ u).heap.size w0 ds rows' (.slice (some ⟨g,0,none⟩) n c) (w.setCell ⟨g,i*11+10,none⟩ u):=
 have I:=ah.Xp (h.get hr hd).1
 h.OZ hr hd 10 u _ (by decide) rfl (ah.eH k lv s t d ti ⟨I.at_,I.line,N⟩)
end
theorem ay.TN {T:TypeId} {k U:Nat} {ok:Nat->Prop} {w0 w:jp3} {ds:List D} {rows:List (List jp5)} {v:jp5} (h:ay T k ok U w0 ds rows v w):∃ a n c,v=.slice a n c:=by obtain ⟨a,c,e⟩:=h.slice;exact ⟨a,_,c,e⟩
theorem At.sl {ok:Nat->Prop} {w:jp3} {a:At} {vc vp:jp5} (h:AtR ok w a vc vp):(∃ b n c,vc=.slice b n c)/\∃ b n c,vp=.slice b n c:=⟨Rd.au h.cls,Rd.au h.aJ⟩
theorem Aq (N:Nat):∀ (l:List aj) (ok:Nat->Prop) (v:jp5) (w:jp3),aj.aR l<=N->N<=1000000->Rd ok w (aX l) [v]->(∀ b,ok b->b<w.heap.size)->aj.jS l -> Calls Tryz.prog 59 #[v] w (fun e w'=>∃ v' rows,e=.returned v'/\ay 66 10 ok w'.heap.size w (l.map aj.d) rows v' w'):=by
 induction N using Nat.strongRecOn with
 | _ N ih=>
  intro l ok v w hN hNm hrd hB hbd;obtain ⟨a,n,cap,rfl⟩:=Rd.au hrd;have CC:=hid (Ii l ok _ w hrd hB (by have:=aj.cZ l;omega));have IH:=hid ih;have HN:=hid hN;have Ye:=hid hNm;have kE:=hid hbd;have HBs:=hid hB;clear ih hN hNm hrd hbd;go_enter Tryz.func59,Tryz.ntmps59;go_wp2_with fail
  (with_reducible refine CC.out.mono ?_)
  rintro e w1 ⟨v1,Pm,rfl,hr1⟩;obtain ⟨nL,zL⟩:∃ nL,nL=l.length:=⟨_,rfl⟩;obtain ⟨a1,c1,rfl⟩:∃ a1 c1,v1=.slice a1 nL c1:=by obtain ⟨a',c',e'⟩:=hr1.slice;rw [jm6] at e';exact ⟨a',c',by rw [zL];exact e'⟩
  have xQ:=hid zL;have R0:Hid (JI 66 10 ok w aj.d l (.slice a1 nL c1) (.int .i64 0) w1):=⟨0,Pm,Nat.zero_le _,rfl,hr1⟩;have hnl:nL<=1000000:=by have:=aj.cZ l;have:=HN.out;have:=Ye.out;omega
  clear hr1 zL CC;go_wp2
  go_loopw [8] (fun vi wr=>JI 66 10 ok w aj.d l (.slice a1 nL c1) vi wr) (fun i _=>nL-(intOf i).toNat)
  case atStart=>exact R0.out
  case round=>
   clear R0;obtain ⟨k,rows,hk,rfl,hR⟩:=hrel;by_cases hlt:k<nL
   ·obtain ⟨x,hx⟩:∃ x,l[k]?=some x:=⟨_,List.getElem?_eq_getElem (by have:=xQ.out;omega)⟩;have hd:(l.map aj.d)[k]?=some x.d:=by rw [List.getElem?_map,hx];rfl
    have hbx:=aj.lJ l k x kE.out hx;have hsx:=aj.ER l k _ hx;obtain ⟨r,hr,hrx⟩:=hR.red.get k _ hd;obtain ⟨g,rfl,-,hc1,hcm,hg0⟩:=hR.at_ (by rw [jm6];have:=xQ.out;omega)
    obtain ⟨kd,t,d,ti,at_,ar,ci,ks⟩:=x;obtain ⟨vc,vp,va,vi,vk,rfl,-⟩:=aj.open_ hrx;obtain ⟨hE,hcell⟩:=hR.get hr hd;have hI:=aj.lC hE;obtain ⟨ac,nc,cc,rfl⟩:=Rd.au hI.at_.cls
    obtain ⟨ap,np,cp,rfl⟩:=Rd.au hI.at_.aJ
    obtain ⟨aa,na,ca,rfl⟩:=Rd.au hI.args;obtain ⟨ai,ni,j5,rfl⟩:=Rd.au hI.dG;obtain ⟨ak,nk,ck,rfl⟩:=Rd.au hI.kids;rw [aj.bd] at hbx;rw [aj.sz] at hsx;unfold maxLen at hcm;have hgr:g<wr.heap.size:=(hR.own.lt g rfl).2;have AC:=hid (Am at_ _ _ wr.heap.size wr ⟨YB hI.at_.cls,YB hI.at_.aJ⟩ (jm1 _) hbx.1 hbx.2.1);have c4:=hcell 4 _ rfl;have c5:=hcell 5 _ rfl;have c6:=hcell 6 _ rfl;have kF:=hid hbx;have Xq:=hid hsx;have uG:=hid hd;have Xr:=hid hr;have HR:=hid hR;have Qn:=hid hR.aI.size;have FP:=hid hgr;clear hx hd hbx hsx hrx hE hcell hI hr hR hg0 hgr;go_wp2_with fail
    (with_reducible refine AC.out.mono ?_)
    rintro e w2 ⟨uc,up,rfl,hA2,b2⟩;obtain ⟨⟨a2,n2,c2,rfl⟩,⟨p2,m2,d2,rfl⟩⟩:=At.sl hA2;obtain ⟨rA,hrA,hA⟩:=(HR.out.below b2).in4 uG.out Xr.out;obtain ⟨rB,hrB,hB'⟩:=hA.in5 uG.out hrA (Ap hA2.cls FP.out) Qn.out FP.out;obtain ⟨rC,hrC,hC⟩:=hB'.in6 uG.out hrB (Ap (Ap hA2.aJ FP.out) FP.out) Qn.out FP.out;obtain ⟨-,hcell⟩:=(HR.out.below b2).get Xr.out uG.out;clear c4 c5 c6;have c4:=hcell 4 _ rfl;have c5:=hcell 5 _ rfl;have c6:=hcell 6 _ rfl;have ff:=(HR.out.below b2).free (by omega);obtain ⟨w3,hw3⟩:∃ w3,w3=((w2.setCell ⟨g,k*10+4,none⟩ (.string at_.id)).setCell ⟨g,k*10+4+1,none⟩ (.slice a2 n2 c2)).setCell ⟨g,k*10+4+2,none⟩ (.slice p2 m2 d2):=⟨_,rfl⟩;rw [<- hw3] at hC;have L6:=hid hrC;have HC:=hid hC;have h3s:wr.heap.size<=w3.heap.size:=by rw [hw3];simp [jn9];exact b2.size
    have UW:=hid h3s;clear hA hrA hB' hrB hC hrC hcell hA2 b2 HR Xr AC h3s;go_upto_region 6 with (fail)
    rw [<- hw3];clear hw3 ff c4 c5 c6;obtain ⟨hE,hcell⟩:=HC.out.get L6.out uG.out;have c7:=hcell 7 _ rfl;have ARC:=hid (lK ar w3.heap.size _ w3 (YB (aj.lC hE).args) (jm1 _) kF.out.2.2.1);clear hE hcell;go_wp2_with fail
    (with_reducible refine ARC.out.mono ?_)
    rintro e w4 ⟨va4,rfl,hv4,b4⟩;obtain ⟨a4,n4,c4,rfl⟩:=Rd.au hv4;have hr4:=HC.out.below b4;have Rp:=hv4.weaken (ok':=(wr.heap.size<=·)) (fun b hb=>jm2 UW.out hb);obtain ⟨rD,hrD,hD⟩:=hr4.in7 uG.out L6.out Rp Qn.out FP.out;obtain ⟨-,hcell⟩:=hr4.get L6.out uG.out;clear c7;have c7:=hcell 7 _ rfl;have ff:=hr4.free (by omega);obtain ⟨w5,Gv⟩:∃ w5,w5=w4.setCell ⟨g,k*10+7,none⟩ (.slice a4 n4 c4):=⟨_,rfl⟩;rw [<- Gv] at hD;have FI:=hid hrD;have Xt:=hid hD;have h5s:wr.heap.size<=w5.heap.size:=by rw [Gv];simp [jn9];have:=b4.size;have:=UW.out;omega
    have Xu:=hid h5s;clear hr4 Rp hrD hD hcell hv4 b4 HC L6 ARC h5s UW;go_upto_region 7 with (fail)
    rw [<- Gv];clear Gv ff c7;obtain ⟨hE,hcell⟩:=Xt.out.get FI.out uG.out;have c8:=hcell 8 _ rfl;have CIC:=hid (wK ci w5.heap.size _ w5 (YB (aj.lC hE).dG) (jm1 _) kF.out.2.2.2.1);clear hE hcell;go_wp2_with fail
    (with_reducible refine CIC.out.mono ?_)
    rintro e w6 ⟨vi6,rfl,hv6,b6⟩;obtain ⟨a6,n6,c6,rfl⟩:=Rd.au hv6;have CZ:=Xt.out.below b6;have hn6:=hv6.weaken (ok':=(wr.heap.size<=·)) (fun b hb=>jm2 Xu.out hb);obtain ⟨rE,hrE,Ma⟩:=CZ.in8 uG.out FI.out hn6 Qn.out FP.out;obtain ⟨-,hcell⟩:=CZ.get FI.out uG.out;clear c8;have c8:=hcell 8 _ rfl;have ff:=CZ.free (by omega);obtain ⟨w7,hw7⟩:∃ w7,w7=w6.setCell ⟨g,k*10+8,none⟩ (.slice a6 n6 c6):=⟨_,rfl⟩;rw [<- hw7] at Ma;have SA:=hid hrE;have HE':=hid Ma;have h7s:wr.heap.size<=w7.heap.size:=by rw [hw7];simp [jn9];have:=b6.size;have:=Xu.out;omega
    have H7S:=hid h7s;clear CZ hn6 hrE Ma hcell hv6 b6 Xt FI CIC h7s Xu;go_upto_region 8 with (fail)
    rw [<- hw7];clear hw7 ff c8;obtain ⟨hE,hcell⟩:=HE'.out.get SA.out uG.out;have c9:=hcell 9 _ rfl;have KC:=hid (IH.out (aj.aR ks) (by have:=Xq.out;have:=HN.out;omega) ks _ _ w7 (jm1 _) (by have:=Xq.out;have:=HN.out;have:=Ye.out;omega) (aj.lC hE).kids.inside (fun b hb=>hb.2) kF.out.2.2.2.2);clear hE hcell;go_wp2_with fail
    (with_reducible refine KC.out.mono ?_)
    rintro e w8 ⟨vk8,Fh,rfl,Ik⟩;obtain ⟨a8,n8,c8,rfl⟩:=Ik.TN;have b8:=Ik.aI;have SN:=HE'.out.below b8;have hn8:Rd (fun b=>(ok b\/w.heap.size<=b)/\b≠g) w8 (aX ks) [.slice a8 n8 c8]:=Ik.rd.weaken (fun b hb=>hb.elim (fun h=>h.1) (fun h=>⟨.inr (by have:=H7S.out;have:=Qn.out;omega),by have:=H7S.out;have:=FP.out;omega⟩));obtain ⟨rF,hrF,hF⟩:=SN.in9 uG.out SA.out hn8;obtain ⟨-,hcell⟩:=SN.get SA.out uG.out;clear c9;have c9:=hcell 9 _ rfl;have ff:=SN.free (by omega);have HF:=hid hF;clear SN hn8 hrF hF hcell Ik b8 HE' SA KC H7S;go_wp2;go_roundw;case rel=>exact ⟨k+1,rF,by have:=xQ.out;omega,by go_num,HF.out⟩
    case measure=>simp [intOf];omega
   ·have HRF:=hid hR;clear hR;go_wp2;go_ret;exact ⟨_,rows,rfl,HRF.out⟩
open Go.RowKit
theorem LJ (N:Nat):∀ (l:List ah) (ok:Nat->Prop) (v:jp5) (w:jp3),ah.aR l<=N->N<=1000000->Rd ok w (fC l) [v]->(∀ b,ok b->b<w.heap.size)->ah.jS l -> Calls Tryz.prog 60 #[v] w (fun e w'=>∃ v' rows,e=.returned v'/\ay 48 11 ok w'.heap.size w (l.map ah.d) rows v' w'):=by
 induction N using Nat.strongRecOn with
 | _ N ih=>
  intro l ok v w hN hNm hrd hB hbd;obtain ⟨a,n,cap,rfl⟩:=Rd.au hrd;have CC:=hid (Ij l ok _ w hrd hB (by have:=ah.cZ l;omega));have IH:=hid ih;have HN:=hid hN;have Ye:=hid hNm;have kE:=hid hbd;clear ih hN hNm hrd hbd;go_enter Tryz.func60,Tryz.ntmps60;go_wp2_with fail
  (with_reducible refine CC.out.mono ?_)
  rintro e w1 ⟨v1,Pm,rfl,hr1⟩;obtain ⟨nL,zL⟩:∃ nL,nL=l.length:=⟨_,rfl⟩;obtain ⟨a1,c1,rfl⟩:∃ a1 c1,v1=.slice a1 nL c1:=by obtain ⟨a',c',e'⟩:=hr1.slice;rw [jm6] at e';exact ⟨a',c',by rw [zL];exact e'⟩
  have xQ:=hid zL;have R0:Hid (JI 48 11 ok w ah.d l (.slice a1 nL c1) (.int .i64 0) w1):=⟨0,Pm,Nat.zero_le _,rfl,hr1⟩;have hnl:nL<=1000000:=by have:=ah.cZ l;have:=HN.out;have:=Ye.out;omega
  clear hr1 zL CC;go_wp2
  go_loopw [8] (fun vi wr=>JI 48 11 ok w ah.d l (.slice a1 nL c1) vi wr) (fun i _=>nL-(intOf i).toNat)
  case atStart=>exact R0.out
  case round=>
   clear R0;obtain ⟨k,rows,hk,rfl,hR⟩:=hrel;by_cases hlt:k<nL
   ·obtain ⟨x,hx⟩:∃ x,l[k]?=some x:=⟨_,List.getElem?_eq_getElem (by have:=xQ.out;omega)⟩;have hd:(l.map ah.d)[k]?=some x.d:=by rw [List.getElem?_map,hx];rfl
    have hbx:=ah.lJ l k x kE.out hx;have hsx:=ah.bg l k _ hx;obtain ⟨r,hr,hrx⟩:=hR.red.get k _ hd;obtain ⟨g,rfl,-,hc1,hcm,hg0⟩:=hR.at_ (by rw [jm6];have:=xQ.out;omega)
    obtain ⟨kd,lv,i,t,d,ti,at_,li,ks⟩:=x;obtain ⟨vc,vp,vl,vk,rfl,-⟩:=ah.open_ hrx;obtain ⟨hE,hcell⟩:=hR.get hr hd;have hI:=ah.Xp hE;obtain ⟨ac,nc,cc,rfl⟩:=Rd.au hI.at_.cls
    obtain ⟨ap,np,cp,rfl⟩:=Rd.au hI.at_.aJ
    obtain ⟨al,nl,cl,rfl⟩:=Rd.au hI.line;obtain ⟨ak,nk,ck,rfl⟩:=Rd.au hI.kids;rw [ah.bd] at hbx;rw [ah.sz] at hsx;unfold maxLen at hcm;have hgr:g<wr.heap.size:=(hR.own.lt g rfl).2;have AC:=hid (Am at_ _ _ wr.heap.size wr ⟨YB hI.at_.cls,YB hI.at_.aJ⟩ (jm1 _) hbx.1 hbx.2.1);have c6:=hcell 6 _ rfl;have c7:=hcell 7 _ rfl;have c8:=hcell 8 _ rfl;have kF:=hid hbx;have Xq:=hid hsx;have uG:=hid hd;have Xr:=hid hr;have HR:=hid hR;have Qn:=hid hR.aI.size;have FP:=hid hgr;clear hx hd hbx hsx hrx hE hcell hI hr hR hg0 hgr;go_wp2_with fail
    (with_reducible refine AC.out.mono ?_)
    rintro e w2 ⟨uc,up,rfl,hA2,b2⟩;obtain ⟨⟨a2,n2,c2,rfl⟩,⟨p2,m2,d2,rfl⟩⟩:=At.sl hA2;obtain ⟨rA,hrA,hA⟩:=(HR.out.below b2).bl6 uG.out Xr.out;obtain ⟨rB,hrB,hB'⟩:=hA.bl7 uG.out hrA (Ap hA2.cls FP.out) Qn.out FP.out;obtain ⟨rC,hrC,hC⟩:=hB'.bl8 uG.out hrB (Ap (Ap hA2.aJ FP.out) FP.out) Qn.out FP.out;obtain ⟨-,hcell⟩:=(HR.out.below b2).get Xr.out uG.out;clear c6 c7 c8;have c6:=hcell 6 _ rfl;have c7:=hcell 7 _ rfl;have c8:=hcell 8 _ rfl;have ff:=(HR.out.below b2).free (by omega);obtain ⟨w3,hw3⟩:∃ w3,w3=((w2.setCell ⟨g,k*11+6,none⟩ (.string at_.id)).setCell ⟨g,k*11+6+1,none⟩ (.slice a2 n2 c2)).setCell ⟨g,k*11+6+2,none⟩ (.slice p2 m2 d2):=⟨_,rfl⟩;rw [<- hw3] at hC;have L6:=hid hrC;have HC:=hid hC;have h3s:wr.heap.size<=w3.heap.size:=by rw [hw3];simp [jn9];exact b2.size
    have UW:=hid h3s;clear hA hrA hB' hrB hC hrC hcell hA2 b2 HR Xr AC h3s;go_upto_region 6 with (fail)
    rw [<- hw3];clear hw3 ff c6 c7 c8;obtain ⟨hE,hcell⟩:=HC.out.get L6.out uG.out;have c9:=hcell 9 _ rfl;have LC:=hid (Aq _ li _ _ w3 (jm1 _) kF.out.2.2.2.1 (ah.Xp hE).line.inside (fun b hb=>hb.2) kF.out.2.2.1);clear hE hcell;go_wp2_with fail
    (with_reducible refine LC.out.mono ?_)
    rintro e w4 ⟨vl4,dX,rfl,hr4⟩;obtain ⟨a4,n4,c4,rfl⟩:=hr4.TN;have b4:=hr4.aI;have SQ:=HC.out.below b4;have Rp:Rd (fun b=>(ok b\/w.heap.size<=b)/\b≠g) w4 (aX li) [.slice a4 n4 c4]:=hr4.rd.weaken (fun b hb=>hb.elim (fun h=>h.1) (fun h=>⟨.inr (by have:=UW.out;have:=Qn.out;omega),by have:=UW.out;have:=FP.out;omega⟩));obtain ⟨rD,hrD,hD⟩:=SQ.bl9 uG.out L6.out Rp;obtain ⟨-,hcell⟩:=SQ.get L6.out uG.out;clear c9;have c9:=hcell 9 _ rfl;have ff:=SQ.free (by omega);obtain ⟨w5,Gv⟩:∃ w5,w5=w4.setCell ⟨g,k*11+9,none⟩ (.slice a4 n4 c4):=⟨_,rfl⟩;rw [<- Gv] at hD;have FI:=hid hrD;have Xt:=hid hD;have h5s:wr.heap.size<=w5.heap.size:=by rw [Gv];simp [jn9];have:=b4.size;have:=UW.out;omega
    have Xu:=hid h5s;clear SQ Rp hrD hD hcell hr4 b4 HC L6 LC h5s UW;go_upto_region 7 with (fail)
    rw [<- Gv];clear Gv ff c9;obtain ⟨hE,hcell⟩:=Xt.out.get FI.out uG.out;have c10:=hcell 10 _ rfl;have KC:=hid (IH.out (ah.aR ks) (by have:=Xq.out;have:=HN.out;omega) ks _ _ w5 (jm1 _) (by have:=Xq.out;have:=HN.out;have:=Ye.out;omega) (ah.Xp hE).kids.inside (fun b hb=>hb.2) kF.out.2.2.2.2);clear hE hcell;go_wp2_with fail
    (with_reducible refine KC.out.mono ?_)
    rintro e w8 ⟨vk8,Fh,rfl,Ik⟩;obtain ⟨a8,n8,c8,rfl⟩:=Ik.TN;have b8:=Ik.aI;have SN:=Xt.out.below b8;have hn8:Rd (fun b=>(ok b\/w.heap.size<=b)/\b≠g) w8 (fC ks) [.slice a8 n8 c8]:=Ik.rd.weaken (fun b hb=>hb.elim (fun h=>h.1) (fun h=>⟨.inr (by have:=Xu.out;have:=Qn.out;omega),by have:=Xu.out;have:=FP.out;omega⟩));obtain ⟨rF,hrF,hF⟩:=SN.ji8 uG.out FI.out hn8;obtain ⟨-,hcell⟩:=SN.get FI.out uG.out;clear c10;have c10:=hcell 10 _ rfl;have ff:=SN.free (by omega);have HF:=hid hF;clear SN hn8 hrF hF hcell Ik b8 Xt FI KC Xu;go_wp2;go_roundw;case rel=>exact ⟨k+1,rF,by have:=xQ.out;omega,by go_num,HF.out⟩
    case measure=>simp [intOf];omega
   ·have HRF:=hid hR;clear hR;go_wp2;go_ret;exact ⟨_,rows,rfl,HRF.out⟩
end Go.Proofs.YtkfnkeflalcphaaGreatDoor

