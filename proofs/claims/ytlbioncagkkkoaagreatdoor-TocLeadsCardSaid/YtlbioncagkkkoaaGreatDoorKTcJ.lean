/- Contracts of toc.copyAttr, copyOne, copyLine. Contract of toc.copyLine. Contract of toc.full. Contract of toc.join. -/
import Derived.Test.YtlbioncagkkkoaaGreatDoorKTcM
import Derived.Test.YtlbioncagkkkoaaGreatDoorKWeight
import Derived.Test.YtlbioncagkkkoaaGreatDoorKInlsW
import Derived.Test.YtlbioncagkkkoaaGreatDoorKPlToc
import Derived.Test.YtlbioncagkkkoaaGreatDoorKRMergO
set_option maxHeartbeats 8000000
set_option maxRecDepth 100000
open Go.Lib (hid)
namespace Go.Proofs.YtlbioncagkkkoaaGreatDoor
open Go.RowKit
set_option linter.unusedVariables false
set_option linter.unusedSimpArgs false
theorem tocAttr_any (at_:At) (vc vp:Value) (B:Nat) (w:World) (h:AtR (·<B) w at_ vc vp) (hB:B<=w.heap.size) (hc:at_.cls.length<=1000000) (hp:at_.prs.length<=1000000) :
  Calls Tryz.prog 69 #[.agg #[.string at_.id,vc,vp]] w fun e w'=>∃ vc' vp',e=.returned (.agg #[.string at_.id,vc',vp'])/\AtR (w.heap.size<=·) w' at_ vc' vp'/\Below w.heap.size w w':=by
 obtain ⟨iS,hiS,hzS0,hzS1,hzS2⟩:=info_parts infoS
 obtain ⟨iP,hiP,hzP0,hzP1,hzP2⟩:=info_parts infoPr
 obtain ⟨hcls,hprs⟩:=h
 obtain ⟨Ac,capc,rowsc,hvc,hc1,hc2,hc3,hc4,hc5⟩:=Rd.reads hcls
 obtain ⟨Ap,capp,rowsp,hvp,hp1,hp2,hp3,hp4,hp5⟩:=Rd.reads hprs
 obtain ⟨nc,hnc⟩:∃ nc,nc=at_.cls.length:=⟨_,rfl⟩
 obtain ⟨np,hnp⟩:∃ np,np=at_.prs.length:=⟨_,rfl⟩
 have e1:(at_.cls.map D.str).length=nc:=by rw [hnc];simp
 have e2:(at_.prs.map Pr.d).length=np:=by rw [hnp];simp
 rw [e1] at hvc hc1 hc5
 rw [e2] at hvp hp1 hp5
 rw [<- hnc] at hc
 rw [<- hnp] at hp
 subst hvc hvp
 have h1c:∀ u∈rowsc.flatten,u.oneCell'=true:=by
  intro u hu
  rw [RdL.strs_rows _ _ hc3,strs_flat] at hu
  obtain ⟨s,_,rfl⟩:=List.mem_map.1 hu
  rfl
 have h1p:∀ u∈rowsp.flatten,u.oneCell'=true:=by
  intro u hu
  obtain ⟨r,hr,hu⟩:=List.mem_flatten.1 hu
  obtain ⟨j,hj,rfl⟩:=List.mem_iff_getElem.1 hr
  have hj2:j<(at_.prs.map Pr.d).length:=by rw [<- hp3.len];exact hj
  obtain ⟨r',hr',hd⟩:=hp3.get j _ (List.getElem?_eq_getElem hj2)
  rw [List.getElem?_eq_getElem hj] at hr'
  obtain rfl:=Option.some.inj hr'
  rw [List.getElem_map] at hd
  rw [Pr.open_ hd] at hu
  simp at hu
  rcases hu with rfl | rfl<;>rfl
 have HC5:=hid (hc5.more hB)
 have HP5:=hid (hp5.more hB)
 have H1C:=hid h1c
 have H1P:=hid h1p
 have HC3:=hid hc3
 have HP3:=hid hp3
 have HC4:=hid hc4
 have HP4:=hid hp4
 have HNC:=hid hnc
 have HNP:=hid hnp
 clear hc5 hp5 h1c h1p hc3 hp3 hc4 hp4 hnc hnp e1 e2 hcls hprs
 unfold maxLen at hc2 hp2
 go_enter Tryz.func69,Tryz.ntmps69
 go_wp2
 obtain ⟨w0,hw0⟩:∃ w0,w0=(w.alloc (.cells #[.string at_.id,.slice Ac nc capc,.slice Ap np capp] 44)).alloc (.cells #[.string ⟨#[]⟩,.slice none 0 0,.slice none 0 0] 44):=⟨_,rfl⟩
 have S0:CpS w w0.drew at_.id (.slice Ac nc capc) (.slice Ap np capp):=by
  rw [hw0]
  refine ⟨past (q11 w [.string at_.id,.slice Ac nc capc,.slice Ap np capp] _ 0 _ rfl) _,past (q11 w [.string at_.id,.slice Ac nc capc,.slice Ap np capp] _ 1 _ rfl) _,past (q11 w [.string at_.id,.slice Ac nc capc,.slice Ap np capp] _ 2 _ rfl) _,q03 (((Below.refl _ w).alloc (Nat.le_refl _) _).alloc (by simp) _) 1⟩
 have R0:RB w w0.drew:=by
  rw [hw0]
  unfold RB
  have:=heap_alloc_new (w.alloc (.cells #[.string at_.id,.slice Ac nc capc,.slice Ap np capp] 44)) (.cells #[.string ⟨#[]⟩,.slice none 0 0,.slice none 0 0] 44)
  rw [World.size_alloc] at this
  exact this
 rw [<- hw0]
 clear hw0
 go_region_held3 (fun w'=>w'.cell? ⟨w.heap.size,0,none⟩=some (.string at_.id)/\w'.cell? ⟨w.heap.size,1,none⟩=some (.slice Ac nc capc)/\w'.cell? ⟨w.heap.size,2,none⟩=some (.slice Ap np capp)/\Below w.heap.size w w')
  (first | exact S0 | exact (by assumption:CpS w _ at_.id (.slice Ac nc capc) (.slice Ap np capp)) | exact CpS.set (CpS.set (CpS.set (by assumption) _ _) _ _) _ _)
  (first
   | (refine step_append_any _ rfl (.const (.slice none 0 0)) (.tmp 6) 40 rfl w.heap.size 9 iS _ 1 16 Tryz.underlying40 hiS hzS0 hzS1 hzS2 rfl (by decide) (.slice none 0 0) 0 [] rfl (q20 _ _ _ _) w.heap.size Ac nc capc rowsc.flatten rfl (HC5.out.below (by assumption:_/\_/\_/\Below w.heap.size w _).2.2.2) H1C.out (by unfold maxLen;omega) (by omega) (by assumption:_/\_/\_/\Below w.heap.size w _).2.2.2.size ?_;intro vS wS hoS hgS _;simp only [Nat.zero_add,List.nil_append] at hoS;obtain ⟨aS,cS,rfl⟩:=q09 hoS;have hSS:=CpS.grown (by assumption) (show World.grownBy _ wS none from hgS);have hRS:=RB.grown (by assumption) (show World.grownBy _ wS none from hgS);obtain ⟨q0,q1,q2,q3,q4,q5⟩:=hRS.cells)
   | (refine step_append_any _ rfl (.const (.slice none 0 0)) (.tmp 9) 22 rfl w.heap.size 58 iP _ 2 32 Tryz.underlying22 hiP hzP0 hzP1 hzP2 rfl (by decide) (.slice none 0 0) 0 [] rfl (q20 _ _ _ _) w.heap.size Ap np capp rowsp.flatten rfl (HP5.out.below (by assumption:_/\_/\_/\Below w.heap.size w _).2.2.2) H1P.out (by unfold maxLen;omega) (by omega) (by assumption:_/\_/\_/\Below w.heap.size w _).2.2.2.size ?_;intro vP wP hoP hgP _;simp only [Nat.zero_add,List.nil_append] at hoP;obtain ⟨aP,cP,rfl⟩:=q09 hoP;have hSP:=CpS.grown (by assumption) (show World.grownBy _ wP none from hgP);have hRP:=RB.grown (by assumption) (show World.grownBy _ wP none from hgP);obtain ⟨q0,q1,q2,q3,q4,q5⟩:=hRP.cells))
 have oS:=hid (hoS.kept (show World.grownBy _ wP none from hgP) (by cases (Value.slice aS nc cS).ownBlock<;>simp))
 have oP:=hid hoP
 have nS:=own_rb oS.out hRP (by decide)
 have nP:=own_rb oP.out hRP (by decide)
 have FS:=hid (fun u0 u1 u2=>q1g (q1g (q1g oS.out ⟨w.heap.size+1,0,none⟩ u0 nS) ⟨w.heap.size+1,1,none⟩ u1 nS) ⟨w.heap.size+1,2,none⟩ u2 nS)
 have FP:=hid (fun u0 u1 u2=>q1g (q1g (q1g oP.out ⟨w.heap.size+1,0,none⟩ u0 nP) ⟨w.heap.size+1,1,none⟩ u1 nP) ⟨w.heap.size+1,2,none⟩ u2 nP)
 have FB:=hid (fun u0 u1 u2=>(CpS.set (CpS.set (CpS.set hSP 0 u0) 1 u1) 2 u2).2.2.2)
 clear hoS hoP hgS hgP nS nP oS oP
 go_wp2
 refine bodyPost_ret (v:=.agg #[.string at_.id,.slice aS nc cS,.slice aP np cP]) (by simp [results,Tryz.results69,go_sem,q0,q1,q2]) rfl ⟨_,_,rfl,⟨?_,?_⟩,FB.out _ _ _⟩
 ·refine Rd.sl_own (rows:=rowsc) (B:=w.heap.size) (e:=9) ?_ HC3.out.strs_any HC4.out (fun g hg=>((FS.out (.bool true) (.bool true) (.bool true)).lt g hg).1)
  rw [List.length_map,<- HNC.out];exact FS.out _ _ _
 ·refine Rd.sl_own (rows:=rowsp) (B:=w.heap.size) (e:=58) ?_ HP3.out.prs_any HP4.out (fun g hg=>((FP.out (.bool true) (.bool true) (.bool true)).lt g hg).1)
  rw [List.length_map,<- HNP.out];exact FP.out _ _ _
theorem one_strs {ok:Nat->Prop} {w:World} {l:List ByteArray} {rows:List (List Value)} (h:RdL ok w (l.map D.str) rows):∀ u∈rows.flatten,u.oneCell'=true:=by
 intro u hu
 rw [RdL.strs_rows _ _ h,strs_flat] at hu
 obtain ⟨s,_,rfl⟩:=List.mem_map.1 hu
 rfl
theorem one_cis {ok:Nat->Prop} {w:World} {l:List Ci} {rows:List (List Value)} (h:RdL ok w (l.map Ci.d) rows):∀ u∈rows.flatten,u.oneCell'=true:=by
 intro u hu
 obtain ⟨r,hr,hu⟩:=List.mem_flatten.1 hu
 obtain ⟨j,hj,rfl⟩:=List.mem_iff_getElem.1 hr
 have hj2:j<(l.map Ci.d).length:=by rw [<- h.len];exact hj
 obtain ⟨r',hr',hd⟩:=h.get j _ (List.getElem?_eq_getElem hj2)
 rw [List.getElem?_eq_getElem hj] at hr'
 obtain rfl:=Option.some.inj hr'
 rw [List.getElem_map] at hd
 rw [Ci.open_ hd] at hu
 simp at hu
 rcases hu with rfl | rfl | rfl | rfl<;>rfl
theorem Rd.far {m q:Nat} {w:World} {d:D} {cs:List Value} (h:Rd (m<·) w d cs) (hq:q<=m) (j:Nat) (u:Value):Rd (m<·) (w.setCell ⟨q,j,none⟩ u) d cs:=
 Rd.keep (fun b (hb:m<b) _=>⟨hb,Below.heap_setCell w ⟨q,j,none⟩ u b (by show b≠q;omega)⟩) _ _ h
theorem AtR.far {m q:Nat} {w:World} {a:At} {vc vp:Value} (h:AtR (m<·) w a vc vp) (hq:q<=m) (j:Nat) (u:Value):AtR (m<·) (w.setCell ⟨q,j,none⟩ u) a vc vp:=⟨h.cls.far hq j u,h.prs.far hq j u⟩
theorem Rd.keepG {m:Nat} {w w':World} {d:D} {cs:List Value} (h:Rd (m<·) w d cs) (hg:w.grownBy w' none):Rd (m<·) w' d cs:=Rd.keep (fun b hb hlt=>⟨hb,hg.block b hlt (by simp)⟩) _ _ h
theorem AtR.keepG {m:Nat} {w w':World} {a:At} {vc vp:Value} (h:AtR (m<·) w a vc vp) (hg:w.grownBy w' none):AtR (m<·) w' a vc vp:=⟨h.cls.keepG hg,h.prs.keepG hg⟩
theorem Below.ten {B g o:Nat} {w0 w:World} (h:Below B w0 w) (hg:B<=g) {c0 c1 c2 c3 c4 c5 c6 c7 c8 c9:Value}:Below B w0 (ten w g o c0 c1 c2 c3 c4 c5 c6 c7 c8 c9):=
 (((((((((h.setCell (p:=⟨g,_,none⟩) hg c0).setCell (p:=⟨g,_,none⟩) hg c1).setCell (p:=⟨g,_,none⟩) hg c2).setCell (p:=⟨g,_,none⟩) hg c3).setCell (p:=⟨g,_,none⟩) hg c4).setCell (p:=⟨g,_,none⟩) hg c5).setCell (p:=⟨g,_,none⟩) hg c6).setCell (p:=⟨g,_,none⟩) hg c7).setCell (p:=⟨g,_,none⟩) hg c8).setCell (p:=⟨g,_,none⟩) hg c9
structure One (p:Nat) (cs zs:List Value) (w0 w:World):Prop where
 a:PB p cs w
 z:PB (p+1) zs w
 bel:Below p w0 w
section
variable {p:Nat} {cs zs:List Value} {w0 w w':World}
theorem One.grown (h:One p cs zs w0 w) (hg:w.grownBy w' none) (hp:p<=w.heap.size):One p cs zs w0 w':=⟨h.a.grown hg,h.z.grown hg,h.bel.grown hg hp (by simp)⟩
theorem One.set (h:One p cs zs w0 w) (j:Nat) (u:Value):One p (cs.set j u) zs w0 (w.setCell ⟨p,j,none⟩ u):=⟨h.a.set j u,h.z.far (by omega) j u,h.bel.setCell (p:=⟨p,j,none⟩) (Nat.le_refl _) u⟩
end
theorem tocOne_any (k:Int) (t d ti:ByteArray) (at_:At) (ar:List ByteArray) (ci:List Ci) (vc vp va vi:Value) (ak:Option Addr) (nk ck:Nat) (B:Nat) (w:World)
  (hA:AtR (·<B) w at_ vc vp) (hAr:Rd (·<B) w (strsD ar) [va]) (hCi:Rd (·<B) w (cisD ci) [vi]) (hB:B<=w.heap.size) (b1:at_.cls.length<=1000000) (b2:at_.prs.length<=1000000) (b3:ar.length<=1000000) (b4:ci.length<=1000000) :
  Calls Tryz.prog 61 #[.agg #[.int .i64 k,.string t,.string d,.string ti,.string at_.id,vc,vp,va,vi,.slice ak nk ck]] w fun e w'=>∃ vc' vp' va' vi',e=.returned (.agg #[.int .i64 k,.string t,.string d,.string ti,.string at_.id,vc',vp',va',vi',.slice ak nk ck])/\AtR (w.heap.size<=·) w' at_ vc' vp'/\Rd (w.heap.size<=·) w' (strsD ar) [va']/\Rd (w.heap.size<=·) w' (cisD ci) [vi']/\Below w.heap.size w w':=by
 obtain ⟨iS,hiS,hzS0,hzS1,hzS2⟩:=info_parts infoS
 obtain ⟨iC,hiC,hzC0,hzC1,hzC2⟩:=info_parts infoCi
 obtain ⟨ac,nc,cc,rfl⟩:=Rd.sl_form hA.cls
 obtain ⟨ap,np,cp,rfl⟩:=Rd.sl_form hA.prs
 obtain ⟨Aa,ca,rowsa,rfl,ha1,ha2,ha3,ha4,ha5⟩:=Rd.reads hAr
 obtain ⟨Ai,cci,rowsi,rfl,hi1,hi2,hi3,hi4,hi5⟩:=Rd.reads hCi
 have ONE1:=hid (one_strs ha3)
 have ONE2:=hid (one_cis hi3)
 rw [List.length_map] at ha1 ha5 hi1 hi5
 obtain ⟨na,hna⟩:∃ na,na=ar.length:=⟨_,rfl⟩
 obtain ⟨ni,hni⟩:∃ ni,ni=ci.length:=⟨_,rfl⟩
 rw [List.length_map,List.length_map,<- hna,<- hni]
 rw [<- hna] at ha1 ha5 b3
 rw [<- hni] at hi1 hi5 b4
 have HNA:=hid hna
 have HNI:=hid hni
 have HA:=hid hA
 have HA3:=hid ha3
 have HA4:=hid ha4
 have HA5:=hid ha5
 have HI3:=hid hi3
 have HI4:=hid hi4
 have HI5:=hid hi5
 obtain ⟨p,hp⟩:∃ p,p=w.heap.size:=⟨_,rfl⟩
 obtain ⟨w0,hw0⟩:∃ w0,w0=(w.alloc (.cells #[.int .i64 k,.string t,.string d,.string ti,.string at_.id,.slice ac nc cc,.slice ap np cp,.slice Aa na ca,.slice Ai ni cci,.slice ak nk ck] 47)).alloc (.cells #[.int .i64 0,.string ⟨#[]⟩,.string ⟨#[]⟩,.string ⟨#[]⟩,.string ⟨#[]⟩,.slice none 0 0,.slice none 0 0,.slice none 0 0,.slice none 0 0,.slice none 0 0] 47):=⟨_,rfl⟩
 have S0:One p [.int .i64 k,.string t,.string d,.string ti,.string at_.id,.slice ac nc cc,.slice ap np cp,.slice Aa na ca,.slice Ai ni cci,.slice ak nk ck] [.int .i64 0,.string ⟨#[]⟩,.string ⟨#[]⟩,.string ⟨#[]⟩,.string ⟨#[]⟩,.slice none 0 0,.slice none 0 0,.slice none 0 0,.slice none 0 0,.slice none 0 0] w w0:=by
  rw [hw0,hp]
  refine ⟨PB.grown (heap_alloc_new w _) (World.grownBy_alloc _ _ none),?_,((Below.refl _ _).alloc (Nat.le_refl _) _).alloc (by simp) _⟩
  have:=heap_alloc_new (w.alloc (.cells #[.int .i64 k,.string t,.string d,.string ti,.string at_.id,.slice ac nc cc,.slice ap np cp,.slice Aa na ca,.slice Ai ni cci,.slice ak nk ck] 47)) (.cells #[.int .i64 0,.string ⟨#[]⟩,.string ⟨#[]⟩,.string ⟨#[]⟩,.string ⟨#[]⟩,.slice none 0 0,.slice none 0 0,.slice none 0 0,.slice none 0 0,.slice none 0 0] 47)
  rw [World.size_alloc] at this
  exact this
 have hp0:w0.heap.size=p+2:=by rw [hw0,hp];simp
 have HBW:Hid (B<=p):=by show B<=p;rw [hp];exact hB
 have HP:=hid hp
 have HW0:=hid hw0
 have HS0:=hid S0
 clear hA hAr hCi ha3 ha4 ha5 hi3 hi4 hi5 hna hni hB hw0 S0 hp
 unfold maxLen at ha2 hi2
 go_enter Tryz.func61,Tryz.ntmps61
 go_upto_region 1 with (fail)
 rw [<- HW0.out,<- HP.out]
 have hz0:=HS0.out.z.lt
 go_cut [] (fun wx=>∃ vc' vp',One p [.int .i64 k,.string t,.string d,.string ti,.string at_.id,vc',vp',.slice Aa na ca,.slice Ai ni cci,.slice ak nk ck] [.int .i64 0,.string ⟨#[]⟩,.string ⟨#[]⟩,.string ⟨#[]⟩,.string ⟨#[]⟩,.slice none 0 0,.slice none 0 0,.slice none 0 0,.slice none 0 0,.slice none 0 0] w wx/\AtR (p+1<·) wx at_ vc' vp')
 case first=>
  have d4:=HS0.out.a.cell 4 _ rfl
  have d5:=HS0.out.a.cell 5 _ rfl
  have d6:=HS0.out.a.cell 6 _ rfl
  have AA:=hid (tocAttr_any at_ (.slice ac nc cc) (.slice ap np cp) B w0 (HA.out.below (HS0.out.bel.mono HBW.out)) (by have:=HBW.out;omega) b1 b2)
  go_wp2_with fail
  refine AA.out.mono ?_
  rintro e w1 ⟨vc',vp',rfl,ha1',bb1⟩
  have H1:=hid (HS0.out.grown (q02 bb1) (by omega))
  have R1:=hid (ha1'.weaken (ok':=(p+1<·)) (fun b hb=>by omega))
  obtain ⟨ac',nc',cc',rfl⟩:=Rd.sl_form ha1'.cls
  obtain ⟨ap',np',cp',rfl⟩:=Rd.sl_form ha1'.prs
  have e4:=H1.out.a.cell 4 _ rfl
  have e5:=H1.out.a.cell 5 _ rfl
  have e6:=H1.out.a.cell 6 _ rfl
  have f4:=H1.out.a.free 4
  have f5:=H1.out.a.free 5
  have f6:=H1.out.a.free 6
  clear ha1' bb1 d4 d5 d6
  go_wp2_with fail
  go_meet
  exact ⟨_,_,((H1.out.set 4 _).set 5 _).set 6 _,((R1.out.far (Nat.le_succ p) 4 _).far (Nat.le_succ p) 5 _).far (Nat.le_succ p) 6 _⟩
 case rest=>
  obtain ⟨vc',vp',hO,hR⟩:=hcut
  obtain ⟨w1,hw1⟩:∃ w1:World,w1=wc:=⟨_,rfl⟩
  subst hw1
  obtain ⟨ac',nc',cc',rfl⟩:=Rd.sl_form hR.cls
  obtain ⟨ap',np',cp',rfl⟩:=Rd.sl_form hR.prs
  have HO1:=hid hO
  have HR1:=hid hR
  have d7:=hO.a.cell 7 _ rfl
  have hz1:=hO.z.lt
  have RA:=hid (HA5.out.below (hO.bel.mono HBW.out))
  clear hO hR HS0 HA HW0 hz0 hp0
  go_wp2_with (at_builtin;refine q08 _ rfl (.const (.slice none 0 0)) (.tmp 8) 40 rfl (p+2) 9 iS _ 1 16 Tryz.underlying40 hiS hzS0 hzS1 hzS2 rfl (by decide) (.slice none 0 0) 0 [] rfl (q20 _ _ _ _) B Aa na ca rowsa.flatten rfl RA.out ONE1.out ?x1 ?x2 ?x3 ?_)
  case x1=>unfold maxLen;omega
  case x2=>omega
  case x3=>omega
  intro va1 w2b hoA hgA _
  (try simp only [Nat.zero_add,List.nil_append] at hoA)
  obtain ⟨aa1,ca1,rfl⟩:=q09 hoA
  have hO2:=HO1.out.grown (show World.grownBy _ w2b none from hgA) (by omega)
  have HO2:=hid hO2
  have HR2:=hid (AtR.keepG HR1.out (show World.grownBy _ w2b none from hgA))
  have HOA:=hid hoA
  have d7:=hO2.a.cell 7 _ rfl
  have f7:=hO2.a.free 7
  clear hoA hgA hO2 HO1 HR1 RA hz1
  go_upto_region 3 with (fail)
  obtain ⟨w3,hw3⟩:∃ w3,w3=w2b.setCell ⟨p,7,none⟩ (.slice aa1 na ca1):=⟨_,rfl⟩
  have HO3:Hid (One p [.int .i64 k,.string t,.string d,.string ti,.string at_.id,.slice ac' nc' cc',.slice ap' np' cp',.slice aa1 na ca1,.slice Ai ni cci,.slice ak nk ck] [.int .i64 0,.string ⟨#[]⟩,.string ⟨#[]⟩,.string ⟨#[]⟩,.string ⟨#[]⟩,.slice none 0 0,.slice none 0 0,.slice none 0 0,.slice none 0 0,.slice none 0 0] w w3):=by
   show One _ _ _ _ _
   rw [hw3];exact HO2.out.set 7 _
  have HR3:Hid (AtR (p+1<·) w3 at_ (.slice ac' nc' cc') (.slice ap' np' cp')):=by
   show AtR _ _ _ _ _
   rw [hw3];exact HR2.out.far (Nat.le_succ p) 7 _
  have HA3':Hid (Rd (p+1<·) w3 (strsD ar) [.slice aa1 na ca1]):=by
   show Rd _ _ _ _
   rw [hw3]
   have ho:=q1g HOA.out ⟨p,7,none⟩ (.slice aa1 na ca1) (fun e=>by have h9:p+2<=p:=(HOA.out.lt p e).1;omega)
   refine Rd.sl_own (rows:=rowsa) (B:=p+2) (e:=9) ?_ HA3.out.strs_any HA4.out (fun g hg=>(ho.lt g hg).1)
   rw [List.length_map,<- HNA.out];exact ho
  rw [<- hw3]
  clear hw3 d7 f7 HO2 HR2 HOA HA3 HA4 HA5 ONE1
  have d8:=HO3.out.a.cell 8 _ rfl
  have hz3:=HO3.out.z.lt
  have RI:=hid (HI5.out.below (HO3.out.bel.mono HBW.out))
  go_wp2_with (at_builtin;refine q08 _ rfl (.const (.slice none 0 0)) (.tmp 12) 45 rfl (p+2) 96 iC _ 4 56 Tryz.underlying45 hiC hzC0 hzC1 hzC2 rfl (by decide) (.slice none 0 0) 0 [] rfl (q20 _ _ _ _) B Ai ni cci rowsi.flatten rfl RI.out ONE2.out ?x1 ?x2 ?x3 ?_)
  case x1=>unfold maxLen;omega
  case x2=>omega
  case x3=>omega
  intro vi1 w4b hoI hgI _
  (try simp only [Nat.zero_add,List.nil_append] at hoI)
  obtain ⟨ai1,ci1,rfl⟩:=q09 hoI
  have hO4:=HO3.out.grown (show World.grownBy _ w4b none from hgI) (by omega)
  have HO4:=hid hO4
  have HR4:=hid (AtR.keepG HR3.out (show World.grownBy _ w4b none from hgI))
  have HA4':=hid (Rd.keepG HA3'.out (show World.grownBy _ w4b none from hgI))
  have HOI:=hid hoI
  have d8:=hO4.a.cell 8 _ rfl
  have f8:=hO4.a.free 8
  clear hoI hgI hO4 HO3 HR3 HA3' RI hz3
  go_upto_region 4 with (fail)
  obtain ⟨w5,hw5⟩:∃ w5,w5=w4b.setCell ⟨p,8,none⟩ (.slice ai1 ni ci1):=⟨_,rfl⟩
  have HO5:Hid (One p [.int .i64 k,.string t,.string d,.string ti,.string at_.id,.slice ac' nc' cc',.slice ap' np' cp',.slice aa1 na ca1,.slice ai1 ni ci1,.slice ak nk ck] [.int .i64 0,.string ⟨#[]⟩,.string ⟨#[]⟩,.string ⟨#[]⟩,.string ⟨#[]⟩,.slice none 0 0,.slice none 0 0,.slice none 0 0,.slice none 0 0,.slice none 0 0] w w5):=by
   show One _ _ _ _ _
   rw [hw5];exact HO4.out.set 8 _
  have HR5:Hid (AtR (p+1<·) w5 at_ (.slice ac' nc' cc') (.slice ap' np' cp')):=by
   show AtR _ _ _ _ _
   rw [hw5];exact HR4.out.far (Nat.le_succ p) 8 _
  have HA5':Hid (Rd (p+1<·) w5 (strsD ar) [.slice aa1 na ca1]):=by
   show Rd _ _ _ _
   rw [hw5];exact HA4'.out.far (Nat.le_succ p) 8 _
  have HI5':Hid (Rd (p+1<·) w5 (cisD ci) [.slice ai1 ni ci1]):=by
   show Rd _ _ _ _
   rw [hw5]
   have ho:=q1g HOI.out ⟨p,8,none⟩ (.slice ai1 ni ci1) (fun e=>by have h9:p+2<=p:=(HOI.out.lt p e).1;omega)
   refine Rd.sl_own (rows:=rowsi) (B:=p+2) (e:=96) ?_ HI3.out.cis_any HI4.out (fun g hg=>(ho.lt g hg).1)
   rw [List.length_map,<- HNI.out];exact ho
  rw [<- hw5]
  clear hw5 d8 f8 HO4 HR4 HA4' HOI HI3 HI4 HI5 ONE2
  obtain ⟨w6,hw6⟩:∃ w6,w6=ten w5 (p+1) 0 (.int .i64 k) (.string t) (.string d) (.string ti) (.string at_.id) (.slice ac' nc' cc') (.slice ap' np' cp') (.slice aa1 na ca1) (.slice ai1 ni ci1) (.slice ak nk ck):=⟨_,rfl⟩
  have hz6:PB (p+1) [.int .i64 k,.string t,.string d,.string ti,.string at_.id,.slice ac' nc' cc',.slice ap' np' cp',.slice aa1 na ca1,.slice ai1 ni ci1,.slice ak nk ck] w6:=by
   rw [hw6]
   exact (((((((((HO5.out.z.set 0 _).set 1 _).set 2 _).set 3 _).set 4 _).set 5 _).set 6 _).set 7 _).set 8 _).set 9 _
  have hb6:∀ b,b≠p+1->w6.heap[b]?=w5.heap[b]?:=fun b hb=>by rw [hw6];exact ten_heap _ _ _ _ _ _ _ _ _ _ _ _ _ b hb
  have hbel6:Below p w w6:=by rw [hw6];exact Below.ten HO5.out.bel (Nat.le_succ p)
  have HR6:=hid (show AtR (p<=·) w6 at_ (.slice ac' nc' cc') (.slice ap' np' cp') from ⟨Rd.keep (fun b (hb:p+1<b) _=>⟨by omega,hb6 b (by omega)⟩) _ _ HR5.out.cls,Rd.keep (fun b (hb:p+1<b) _=>⟨by omega,hb6 b (by omega)⟩) _ _ HR5.out.prs⟩)
  have HA6:=hid (show Rd (p<=·) w6 (strsD ar) _ from Rd.keep (fun b (hb:p+1<b) _=>⟨by omega,hb6 b (by omega)⟩) _ _ HA5'.out)
  have HI6:=hid (show Rd (p<=·) w6 (cisD ci) _ from Rd.keep (fun b (hb:p+1<b) _=>⟨by omega,hb6 b (by omega)⟩) _ _ HI5'.out)
  have HB6:=hid hbel6
  have e0:=HO5.out.a.cell 0 _ rfl
  have e1:=HO5.out.a.cell 1 _ rfl
  have e2:=HO5.out.a.cell 2 _ rfl
  have e3:=HO5.out.a.cell 3 _ rfl
  have e4:=HO5.out.a.cell 4 _ rfl
  have e5:=HO5.out.a.cell 5 _ rfl
  have e6:=HO5.out.a.cell 6 _ rfl
  have e7:=HO5.out.a.cell 7 _ rfl
  have e8:=HO5.out.a.cell 8 _ rfl
  have e9:=HO5.out.a.cell 9 _ rfl
  have z0:=HO5.out.z.cell 0 _ rfl
  have y0:=HO5.out.z.free 0
  have y1:=HO5.out.z.free 1
  have y2:=HO5.out.z.free 2
  have y3:=HO5.out.z.free 3
  have y4:=HO5.out.z.free 4
  have y5:=HO5.out.z.free 5
  have y6:=HO5.out.z.free 6
  have y7:=HO5.out.z.free 7
  have y8:=HO5.out.z.free 8
  have y9:=HO5.out.z.free 9
  have z1:=HO5.out.z.cell 1 _ rfl
  have z2:=HO5.out.z.cell 2 _ rfl
  have z3:=HO5.out.z.cell 3 _ rfl
  have z4:=HO5.out.z.cell 4 _ rfl
  have z5:=HO5.out.z.cell 5 _ rfl
  have z6:=HO5.out.z.cell 6 _ rfl
  have z7:=HO5.out.z.cell 7 _ rfl
  have z8:=HO5.out.z.cell 8 _ rfl
  have z9:=HO5.out.z.cell 9 _ rfl
  have HZ6:=hid hz6
  have HW6:=hid hw6
  clear hz6 hb6 hbel6 hw6 HO5 HR5 HA5' HI5'
  go_wp2
  have hk:=HW6.out
  simp only [ten,Nat.zero_add] at hk
  rw [<- hk]
  clear hk e0 e1 e2 e3 e4 e5 e6 e7 e8 e9 z0 z1 z2 z3 z4 z5 z6 z7 z8 z9 y0 y1 y2 y3 y4 y5 y6 y7 y8 y9
  have r0:=HZ6.out.cell 0 _ rfl
  have r1:=HZ6.out.cell 1 _ rfl
  have r2:=HZ6.out.cell 2 _ rfl
  have r3:=HZ6.out.cell 3 _ rfl
  have r4:=HZ6.out.cell 4 _ rfl
  have r5:=HZ6.out.cell 5 _ rfl
  have r6:=HZ6.out.cell 6 _ rfl
  have r7:=HZ6.out.cell 7 _ rfl
  have r8:=HZ6.out.cell 8 _ rfl
  have r9:=HZ6.out.cell 9 _ rfl
  exact bodyPost_ret (v:=.agg #[.int .i64 k,.string t,.string d,.string ti,.string at_.id,.slice ac' nc' cc',.slice ap' np' cp',.slice aa1 na ca1,.slice ai1 ni ci1,.slice ak nk ck]) (by simp [results,Tryz.results61,go_sem,r0,r1,r2,r3,r4,r5,r6,r7,r8,r9]) rfl ⟨_,_,_,_,rfl,HP.out ▸ HR6.out,HP.out ▸ HA6.out,HP.out ▸ HI6.out,HP.out ▸ HB6.out⟩
open Go.RowKit
theorem PB.all {p:Nat} {w:World} {c0 c1 c2 c3 c4 c5 c6 c7 c8 c9:Value} (h:PB p [c0,c1,c2,c3,c4,c5,c6,c7,c8,c9] w) :
  w.cell? ⟨p,0,none⟩=some c0/\w.cell? ⟨p,1,none⟩=some c1/\w.cell? ⟨p,2,none⟩=some c2/\w.cell? ⟨p,3,none⟩=some c3/\w.cell? ⟨p,4,none⟩=some c4/\w.cell? ⟨p,5,none⟩=some c5 /\
   w.cell? ⟨p,6,none⟩=some c6/\w.cell? ⟨p,7,none⟩=some c7/\w.cell? ⟨p,8,none⟩=some c8/\w.cell? ⟨p,9,none⟩=some c9/\∀ j,w.frozen? ⟨p,j,none⟩=false:=
 ⟨h.cell 0 _ rfl,h.cell 1 _ rfl,h.cell 2 _ rfl,h.cell 3 _ rfl,h.cell 4 _ rfl,h.cell 5 _ rfl,h.cell 6 _ rfl,h.cell 7 _ rfl,h.cell 8 _ rfl,h.cell 9 _ rfl,h.free⟩
theorem RowU.ten {T:TypeId} {k U:Nat} {ok:Nat->Prop} {w0 w:World} {ds:List D} {rows:List (List Value)} {v:Value} (h:RowU T k ok U w0 ds rows v w) {p o:Nat} (hp:U<=p) (c0 c1 c2 c3 c4 c5 c6 c7 c8 c9:Value):RowU T k ok U w0 ds rows v (ten w p o c0 c1 c2 c3 c4 c5 c6 c7 c8 c9):=
 (((((((((h.set hp _ c0).set hp _ c1).set hp _ c2).set hp _ c3).set hp _ c4).set hp _ c5).set hp _ c6).set hp _ c7).set hp _ c8).set hp _ c9
theorem PB.ten {p:Nat} {w:World} {cs:List Value} (h:PB p cs w) (hl:cs.length=10) (c0 c1 c2 c3 c4 c5 c6 c7 c8 c9:Value):PB p [c0,c1,c2,c3,c4,c5,c6,c7,c8,c9] (ten w p 0 c0 c1 c2 c3 c4 c5 c6 c7 c8 c9):=by
 match cs,hl with
 | [_,_,_,_,_,_,_,_,_,_],_=>exact (((((((((h.set 0 c0).set 1 c1).set 2 c2).set 3 c3).set 4 c4).set 5 c5).set 6 c6).set 7 c7).set 8 c8).set 9 c9
theorem Rd.ten {m p o:Nat} {w:World} {d:D} {cs:List Value} (h:Rd (m<·) w d cs) (hp:p<=m) (c0 c1 c2 c3 c4 c5 c6 c7 c8 c9:Value):Rd (m<·) (ten w p o c0 c1 c2 c3 c4 c5 c6 c7 c8 c9) d cs:=
 Rd.keep (fun b (hb:m<b) _=>⟨hb,ten_heap _ _ _ _ _ _ _ _ _ _ _ _ _ b (by omega)⟩) _ _ h
theorem q2c {k:Int} {t d ti id:ByteArray} {a1 a2 a3 a4 a5:Option Addr} {n1 n2 n3 n4 n5 c1 c2 c3 c4 c5:Nat}:∀ u∈[Value.int .i64 k,.string t,.string d,.string ti,.string id,.slice a1 n1 c1,.slice a2 n2 c2,.slice a3 n3 c3,.slice a4 n4 c4,.slice a5 n5 c5],u.oneCell'=true:=by
 intro u hu
 simp at hu
 rcases hu with rfl | rfl | rfl | rfl | rfl | rfl | rfl | rfl | rfl | rfl<;>rfl
theorem map_take_snoc {α β:Type} (f:α->β) (l:List α) (k:Nat) (x:α) (h:l[k]?=some x):(l.take (k+1)).map f=(l.take k).map f++[f x]:=by
 rw [List.take_add_one,h];simp
def TlRel (w wr:World) (l:List Inl) (v vi:Value):Prop:=
 ∃ (k:Nat) (rows:List (List Value)),k<=l.length/\vi=.int .i64 k/\RowU 47 10 (fun _=>False) wr.heap.size w ((l.take k).map Inl.d) rows v wr
theorem tocLine_any (n:Nat):∀ (l:List Inl) (B:Nat) (v:Value) (w:World),Inl.szL l<=n->n<=1000000->Rd (·<B) w (q0w l) [v]->B<=w.heap.size->Inl.bdL l ->
  Calls Tryz.prog 70 #[v] w (LcPost w l):=by
 induction n using Nat.strongRecOn with
 | _ n ih=>
  intro l B v w hn hnm hrd hB hbd
  obtain ⟨iI,hiI,hzI0,hzI1,hzI2⟩:=info_parts infoIn
  obtain ⟨a,cap,hv,hs⟩:=Rd.sl_open hrd
  obtain rfl:v=.slice a l.length cap:=by simpa using hv
  have hcap:l.length<=cap:=by simpa using hs.le
  have hll:=Inl.len_le l
  have hmx:=hs.max
  have HS:=hid hs
  have IH:=hid ih
  have HBD:=hid hbd
  have R0:=hid (show TlRel w w l (.slice none 0 0) (.int .i64 0) from ⟨0,[],Nat.zero_le _,rfl,RowU.nil _ _ _ _⟩)
  clear hs hv hrd ih hbd
  unfold maxLen at hmx
  go_enter Tryz.func70,Tryz.ntmps70
  go_wp2
  go_loopw [3,8] (fun v vi wr=>TlRel w wr l v vi) (fun _ i _=>l.length-(intOf i).toNat)
  case atStart=>exact R0.out
  case round=>
   clear R0
   obtain ⟨k,rows,hk,rfl,hrow⟩:=hrel
   obtain ⟨ds,hds⟩:∃ ds,ds=(l.take k).map Inl.d:=⟨_,rfl⟩
   rw [<- hds] at hrow
   have hdn:ds.length=k:=by rw [hds];simp;omega
   have HDS:=hid hds
   have HDN:=hid hdn
   obtain ⟨av,cv,rfl,-,-⟩:=hrow.cap hdn
   have HROW:=hid hrow
   have hbel:=hrow.bel
   clear hrow hdn hds
   by_cases hlt:k<l.length
   ·obtain ⟨x,hx⟩:∃ x,l[k]?=some x:=⟨_,List.getElem?_eq_getElem hlt⟩
    obtain ⟨kd,t,d,ti,at_,ar,ci,ks⟩:=x
    obtain ⟨g,off,vc,vp,va,vi,vk,rfl,hok,hbl,hc,hR⟩:=q1b HS.out hx
    obtain ⟨c0,c1,c2,c3,c4,c5,c6,c7,c8,c9⟩:=hc.below hbel
    clear hc
    have hb1:=Inl.bdL_get l k _ HBD.out hx
    rw [Inl.bd] at hb1
    obtain ⟨hn1,hn2,hn3,hn4,hn5⟩:=hb1
    have hsz:=Inl.szL_get l k _ hx
    rw [Inl.sz] at hsz
    obtain ⟨ac,nc,cc,rfl⟩:=Rd.sl_form hR.at_.cls
    obtain ⟨ap,np,cp,rfl⟩:=Rd.sl_form hR.at_.prs
    obtain ⟨aa,na,ca,rfl⟩:=Rd.sl_form hR.args
    obtain ⟨ai,ni,ci',rfl⟩:=Rd.sl_form hR.cites
    obtain ⟨ak,nk,ck,rfl⟩:=Rd.sl_form hR.kids
    have HR:=hid hR
    have HX:=hid (map_take_snoc Inl.d l k _ hx)
    rw [<- HDS.out] at HX
    have HBEL:=hid hbel
    clear hR hx
    go_upto_region 5 with (fail)
    obtain ⟨p,hp⟩:∃ p,p=wr.heap.size:=⟨_,rfl⟩
    obtain ⟨wA,hwA⟩:∃ wA,wA=wr.alloc (.cells #[.int .i64 kd,.string t,.string d,.string ti,.string at_.id,.slice ac nc cc,.slice ap np cp,.slice aa na ca,.slice ai ni ci',.slice ak nk ck] 47):=⟨_,rfl⟩
    have PA:PB p [.int .i64 kd,.string t,.string d,.string ti,.string at_.id,.slice ac nc cc,.slice ap np cp,.slice aa na ca,.slice ai ni ci',.slice ak nk ck] wA:=by rw [hwA,hp];exact heap_alloc_new wr _
    have UA:RowU 47 10 (fun _=>False) p w ds rows (.slice av k cv) wA:=by rw [hwA,hp];exact HROW.out.alloc _
    have zA:wA.heap.size=p+1:=by rw [hwA,hp];simp
    rw [<- hwA,<- hp]
    have hpw:w.heap.size<=p:=by rw [hp];exact hbel.size
    clear hwA hp HROW HBEL hbel c0 c1 c2 c3 c4 c5 c6 c7 c8 c9 hbl
    have UA':=hid UA
    have ZA:=hid zA
    have hBA:=UA.bel.mono hB
    have OA:=hid (tocOne_any kd t d ti at_ ar ci (.slice ac nc cc) (.slice ap np cp) (.slice aa na ca) (.slice ai ni ci') ak nk ck B wA (HR.out.at_.below hBA) (HR.out.args.below hBA) (HR.out.cites.below hBA) (by omega) hn1 hn2 hn3 hn4)
    obtain ⟨e0,e1,e2,e3,e4,e5,e6,e7,e8,e9,ef⟩:=PA.all
    have HPA:=hid PA
    clear UA zA hBA PA
    go_wp2_with fail
    refine OA.out.mono ?_
    rintro e w1 ⟨vc',vp',va',vi',rfl,hA1,hA2,hA3,b1⟩
    obtain ⟨ac1,nc1,cc1,rfl⟩:=Rd.sl_form hA1.cls
    obtain ⟨ap1,np1,cp1,rfl⟩:=Rd.sl_form hA1.prs
    obtain ⟨aa1,na1,ca1,rfl⟩:=Rd.sl_form hA2
    obtain ⟨ai1,ni1,ci1,rfl⟩:=Rd.sl_form hA3
    have PA1:=HPA.out.grown (q02 b1)
    have U1:=hid (UA'.out.below b1)
    have hz:=ZA.out
    have T1:=hid (hA1.weaken (ok':=(p<·)) (fun b hb=>by omega))
    have T2:=hid (hA2.weaken (ok':=(p<·)) (fun b hb=>by omega))
    have T3:=hid (hA3.weaken (ok':=(p<·)) (fun b hb=>by omega))
    have HPA1:=hid PA1
    clear e0 e1 e2 e3 e4 e5 e6 e7 e8 e9 ef
    obtain ⟨e0,e1,e2,e3,e4,e5,e6,e7,e8,e9,ef⟩:=PA1.all
    clear hA1 hA2 hA3 b1 PA1 HPA UA' OA hz ZA
    go_upto_region 6 with (fail)
    obtain ⟨w2,hw2⟩:∃ w2,w2=ten w1 p 0 (.int .i64 kd) (.string t) (.string d) (.string ti) (.string at_.id) (.slice ac1 nc1 cc1) (.slice ap1 np1 cp1) (.slice aa1 na1 ca1) (.slice ai1 ni1 ci1) (.slice ak nk ck):=⟨_,rfl⟩
    have U2:RowU 47 10 (fun _=>False) p w ds rows (.slice av k cv) w2:=by rw [hw2];exact U1.out.ten (Nat.le_refl _) _ _ _ _ _ _ _ _ _ _
    have P2:PB p [.int .i64 kd,.string t,.string d,.string ti,.string at_.id,.slice ac1 nc1 cc1,.slice ap1 np1 cp1,.slice aa1 na1 ca1,.slice ai1 ni1 ci1,.slice ak nk ck] w2:=by rw [hw2];exact HPA1.out.ten rfl _ _ _ _ _ _ _ _ _ _
    have D1:AtR (p<·) w2 at_ (.slice ac1 nc1 cc1) (.slice ap1 np1 cp1):=by rw [hw2];exact ⟨T1.out.cls.ten (Nat.le_refl _) _ _ _ _ _ _ _ _ _ _,T1.out.prs.ten (Nat.le_refl _) _ _ _ _ _ _ _ _ _ _⟩
    have D2:Rd (p<·) w2 (strsD ar) [.slice aa1 na1 ca1]:=by rw [hw2];exact T2.out.ten (Nat.le_refl _) _ _ _ _ _ _ _ _ _ _
    have D3:Rd (p<·) w2 (cisD ci) [.slice ai1 ni1 ci1]:=by rw [hw2];exact T3.out.ten (Nat.le_refl _) _ _ _ _ _ _ _ _ _ _
    simp only [ten,Nat.zero_add] at hw2
    rw [<- hw2]
    clear hw2 e0 e1 e2 e3 e4 e5 e6 e7 e8 e9 ef T1 T2 T3 U1 HPA1
    have e9:=P2.cell 9 _ rfl
    have IK:=hid (IH.out (Inl.szL ks) (by omega) ks B (.slice ak nk ck) w2 (Nat.le_refl _) (by omega) (HR.out.kids.below (U2.bel.mono hB)) (Nat.le_trans hB U2.bel.size) hn5)
    have HU2:=hid U2
    have HP2:=hid P2
    have HD1:=hid D1
    have HD2:=hid D2
    have HD3:=hid D3
    have hz2:=P2.lt
    clear U2 P2 D1 D2 D3
    go_wp2_with fail
    refine IK.out.mono ?_
    rintro e w3 ⟨vk1,rfl,hk1,b3⟩
    obtain ⟨ak1,nk1,ck1,rfl⟩:=Rd.sl_form hk1
    have P3:=HP2.out.grown (q02 b3)
    have HU3:=hid (HU2.out.below b3)
    have HIN:=hid (show InR (p<·) w3 at_ ar ci ks (.slice ac1 nc1 cc1) (.slice ap1 np1 cp1) (.slice aa1 na1 ca1) (.slice ai1 ni1 ci1) (.slice ak1 nk1 ck1) from ⟨HD1.out.keepG (q02 b3),HD2.out.keepG (q02 b3),HD3.out.keepG (q02 b3),hk1.weaken (fun b hb=>by omega)⟩)
    have e9:=P3.cell 9 _ rfl
    have f9:=P3.free 9
    have HP3:=hid P3
    clear P3 hk1 b3 IK HD1 HD2 HD3 HU2 HP2 hz2
    go_upto_region 7 with (fail)
    obtain ⟨w4,hw4⟩:∃ w4,w4=w3.setCell ⟨p,9,none⟩ (.slice ak1 nk1 ck1):=⟨_,rfl⟩
    have HU4:Hid (RowU 47 10 (fun _=>False) p w ds rows (.slice av k cv) w4):=by
     show RowU _ _ _ _ _ _ _ _ _
     rw [hw4];exact HU3.out.set (Nat.le_refl _) 9 _
    have P4:PB p [.int .i64 kd,.string t,.string d,.string ti,.string at_.id,.slice ac1 nc1 cc1,.slice ap1 np1 cp1,.slice aa1 na1 ca1,.slice ai1 ni1 ci1,.slice ak1 nk1 ck1] w4:=by rw [hw4];exact HP3.out.set 9 _
    have HI4:Hid (InR (p<·) w4 at_ ar ci ks (.slice ac1 nc1 cc1) (.slice ap1 np1 cp1) (.slice aa1 na1 ca1) (.slice ai1 ni1 ci1) (.slice ak1 nk1 ck1)):=by
     show InR _ _ _ _ _ _ _ _ _ _ _
     rw [hw4];exact ⟨HIN.out.at_.far (Nat.le_refl _) 9 _,HIN.out.args.far (Nat.le_refl _) 9 _,HIN.out.cites.far (Nat.le_refl _) 9 _,HIN.out.kids.far (Nat.le_refl _) 9 _⟩
    rw [<- hw4]
    obtain ⟨e0,e1,e2,e3,e4,e5,e6,e7,e8,e9,ef⟩:=P4.all
    clear hw4 P4 HU3 HP3 HIN f9
    have hdl:k<=10000000:=by omega
    go_wp2_with (at_builtin;refine q0p rfl _ _ 38 rfl iI _ 192 Tryz.underlying38 hiI hzI0 hzI1 hzI2 rfl (by decide) HU4.out (fun _=>False.elim) (Inl.mk kd t d ti at_ ar ci ks).d [.int .i64 kd,.string t,.string d,.string ti,.string at_.id,.slice ac1 nc1 cc1,.slice ap1 np1 cp1,.slice aa1 na1 ca1,.slice ai1 ni1 ci1,.slice ak1 nk1 ck1] ((Inl.mk_ kd t d ti HI4.out).weaken (fun b hb=>.inr (Nat.le_of_lt hb))) rfl q2c HDN.out hdl (by decide) rfl rfl ?_)
    intro a' c' w5 hrow hg5
    have HROW:=hid hrow
    rw [<- HX.out] at HROW
    clear hrow hg5
    go_wp2
    go_roundw
    case rel=>exact ⟨k+1,_,by omega,by go_num,HROW.out⟩
    case measure=>simp [intOf];omega
   ·have hkl:k=l.length:=by omega
    subst hkl
    rw [HDS.out,List.take_length] at HROW
    go_wp2
    go_ret
    exact ⟨_,rfl,HROW.out.rd0,hbel⟩
open Go.RowKit
theorem fullL_snoc (l:List Inl) (k:Nat) (x:Inl) (h:l[k]?=some x):fullL (l.take (k+1))=fullL (l.take k)++if fullB x=true then [x] else []:=by
 unfold fullL
 rw [List.take_add_one,h,List.filter_append]
 simp [List.filter_cons]
theorem fullL_len (l:List Inl):(fullL l).length<=l.length:=List.length_filter_le _ _
def FuRel (f:List Inl->List Inl) (ok:Nat->Prop) (w wr:World) (l:List Inl) (v vi:Value):Prop:=
 ∃ (k:Nat) (rows:List (List Value)),k<=l.length/\vi=.int .i64 k/\RowU 47 10 ok wr.heap.size w ((f (l.take k)).map Inl.d) rows v wr
def FuPost (ok:Nat->Prop) (w:World) (l:List Inl) (e:Ending) (w':World):Prop:=∃ v,e=.returned v/\Rd (fun b=>ok b\/w.heap.size<=b) w' (q0w l) [v]/\Below w.heap.size w w'
theorem full_any0 (l:List Inl) (ok:Nat->Prop) (v:Value) (w:World) (hn:l.length<=1000000) (hrd:Rd ok w (q0w l) [v]) (hB:∀ b,ok b->b<w.heap.size) :
  Calls Tryz.prog 64 #[v] w (FuPost ok w (fullL l)):=by
  obtain ⟨iI,hiI,hzI0,hzI1,hzI2⟩:=info_parts infoIn
  obtain ⟨a,cap,hv,hs⟩:=Rd.sl_open hrd
  obtain rfl:v=.slice a l.length cap:=by simpa using hv
  have hcap:l.length<=cap:=by simpa using hs.le
  have hmx:=hs.max
  have HS:=hid hs
  have HB:=hid hB
  have R0:=hid (show FuRel fullL ok w w l (.slice none 0 0) (.int .i64 0) from ⟨0,[],Nat.zero_le _,rfl,RowU.nil _ _ _ _⟩)
  clear hs hv hrd hB
  unfold maxLen at hmx
  go_enter Tryz.func64,Tryz.ntmps64
  go_wp2
  go_loopw [3,8] (fun v vi wr=>FuRel fullL ok w wr l v vi) (fun _ i _=>l.length-(intOf i).toNat)
  case atStart=>exact R0.out
  case round=>
   clear R0
   obtain ⟨k,rows,hk,rfl,hrow⟩:=hrel
   obtain ⟨ds,hds⟩:∃ ds,ds=(fullL (l.take k)).map Inl.d:=⟨_,rfl⟩
   rw [<- hds] at hrow
   obtain ⟨m,hm⟩:∃ m,m=ds.length:=⟨_,rfl⟩
   have hmk:m<=k:=by rw [hm,hds,List.length_map];have:=fullL_len (l.take k);simp at this;omega
   have HDN:=hid hm.symm
   have HDS:=hid hds
   obtain ⟨av,cv,rfl,-,-⟩:=hrow.cap hm.symm
   have HROW:=hid hrow
   have hbel:=hrow.bel
   clear hrow hm hds
   by_cases hlt:k<l.length
   ·obtain ⟨x,hx⟩:∃ x,l[k]?=some x:=⟨_,List.getElem?_eq_getElem hlt⟩
    have HX:=hid (fullL_snoc l k x hx)
    have HFB:Hid (fullB x=(!decide (x.kd=1)||!q06 x.tx)):=rfl
    obtain ⟨kd,t,d,ti,at_,ar,ci,ks⟩:=x
    change Hid (fullB (Inl.mk kd t d ti at_ ar ci ks)=(!decide (kd=1)||!q06 t)) at HFB
    obtain ⟨g,off,vc,vp,va,vi,vk,rfl,hok,hbl,hc,hR⟩:=q1b (HS.out.up0 hbel) hx
    obtain ⟨c0,c1,c2,c3,c4,c5,c6,c7,c8,c9⟩:=hc
    obtain ⟨ac,nc,cc,rfl⟩:=Rd.sl_form hR.at_.cls
    obtain ⟨ap,np,cp,rfl⟩:=Rd.sl_form hR.at_.prs
    obtain ⟨aa,na,ca,rfl⟩:=Rd.sl_form hR.args
    obtain ⟨ai,ni,ci',rfl⟩:=Rd.sl_form hR.cites
    obtain ⟨ak,nk,ck,rfl⟩:=Rd.sl_form hR.kids
    obtain ⟨p,hp⟩:∃ p,p=wr.heap.size:=⟨_,rfl⟩
    obtain ⟨wA,hwA⟩:∃ wA,wA=wr.alloc (.cells #[.int .i64 kd,.string t,.string d,.string ti,.string at_.id,.slice ac nc cc,.slice ap np cp,.slice aa na ca,.slice ai ni ci',.slice ak nk ck] 47):=⟨_,rfl⟩
    have PA:PB p [.int .i64 kd,.string t,.string d,.string ti,.string at_.id,.slice ac nc cc,.slice ap np cp,.slice aa na ca,.slice ai ni ci',.slice ak nk ck] wA:=by rw [hwA,hp];exact heap_alloc_new wr _
    have UA:=hid (show RowU 47 10 ok p w ds rows (.slice av m cv) wA by rw [hwA,hp];exact HROW.out.alloc _)
    have HIN:=hid (show Rd (fun b=>ok b\/p<=b) wA (Inl.mk kd t d ti at_ ar ci ks).d [.int .i64 kd,.string t,.string d,.string ti,.string at_.id,.slice ac nc cc,.slice ap np cp,.slice aa na ca,.slice ai ni ci',.slice ak nk ck] from Rd.keep (fun b hb hlt=>⟨.inl hb,by rw [hwA];exact Below.heap_alloc _ _ b hlt⟩) _ _ (Inl.mk_ kd t d ti hR))
    clear hR hx hbel hok hbl
    go_upto_region 5 with (fail)
    rw [<- hwA,<- hp]
    obtain ⟨e0,e1,e2,e3,e4,e5,e6,e7,e8,e9,ef⟩:=PA.all
    clear hwA hp HROW c0 c1 c2 c3 c4 c5 c6 c7 c8 c9 PA
    have hdl:m<=10000000:=by omega
    by_cases h1:kd=1
    ·subst h1
     have q1:((1:Int) != 1)=false:=rfl
     by_cases h2:q06 t=true
     ·have q2:(!t.toList.isEmpty)=false:=by rw [emp_eq0,h2];rfl
      rw [HFB.out,h2,if_neg (by simp),List.append_nil] at HX
      have HR2:=hid (show RowU 47 10 ok wA.heap.size w ((fullL (l.take (k+1))).map Inl.d) rows (.slice av m cv) wA by rw [HX.out,<- HDS.out];exact UA.out.top)
      clear h2 HFB HX
      go_wp2
      go_roundw
      case rel=>exact ⟨k+1,_,by omega,by go_num,HR2.out⟩
      case measure=>simp [intOf];omega
     ·have h2':q06 t=false:=by simpa using h2
      have q2:(!t.toList.isEmpty)=true:=by rw [emp_eq0,h2'];rfl
      rw [HFB.out,h2',if_pos (by simp)] at HX
      have HX2:=hid (show (fullL (l.take (k+1))).map Inl.d=ds++[(Inl.mk 1 t d ti at_ ar ci ks).d] by rw [HX.out,HDS.out,List.map_append];rfl)
      clear h2 h2' HFB HX
      go_wp2_with (at_builtin;refine q0p rfl _ _ 38 rfl iI _ 192 Tryz.underlying38 hiI hzI0 hzI1 hzI2 rfl (by decide) UA.out HB.out (Inl.mk 1 t d ti at_ ar ci ks).d [.int .i64 1,.string t,.string d,.string ti,.string at_.id,.slice ac nc cc,.slice ap np cp,.slice aa na ca,.slice ai ni ci',.slice ak nk ck] HIN.out rfl q2c HDN.out hdl (by decide) rfl rfl ?_)
      intro a' c' w5 hrow hg5
      have HROW:=hid hrow
      rw [<- HX2.out] at HROW
      clear hrow hg5
      go_wp2
      go_roundw
      case rel=>exact ⟨k+1,_,by omega,by go_num,HROW.out⟩
      case measure=>simp [intOf];omega
    ·have q1:(kd != 1)=true:=neg_kd h1
     rw [HFB.out,decide_eq_false h1,if_pos (by simp)] at HX
     have HX2:=hid (show (fullL (l.take (k+1))).map Inl.d=ds++[(Inl.mk kd t d ti at_ ar ci ks).d] by rw [HX.out,HDS.out,List.map_append];rfl)
     clear h1 HFB HX
     go_wp2_with (at_builtin;refine q0p rfl _ _ 38 rfl iI _ 192 Tryz.underlying38 hiI hzI0 hzI1 hzI2 rfl (by decide) UA.out HB.out (Inl.mk kd t d ti at_ ar ci ks).d [.int .i64 kd,.string t,.string d,.string ti,.string at_.id,.slice ac nc cc,.slice ap np cp,.slice aa na ca,.slice ai ni ci',.slice ak nk ck] HIN.out rfl q2c HDN.out hdl (by decide) rfl rfl ?_)
     intro a' c' w5 hrow hg5
     have HROW:=hid hrow
     rw [<- HX2.out] at HROW
     clear hrow hg5
     go_wp2
     go_roundw
     case rel=>exact ⟨k+1,_,by omega,by go_num,HROW.out⟩
     case measure=>simp [intOf];omega
   ·have hkl:k=l.length:=by omega
    subst hkl
    rw [HDS.out,List.take_length] at HROW
    go_wp2
    go_ret
    exact ⟨_,rfl,HROW.out.rd,hbel⟩
theorem FuPost.inside {ok:Nat->Prop} {w:World} {l:List Inl} {e:Ending} {w':World} (h:FuPost (fun b=>ok b/\b<w.heap.size) w l e w'):FuPost ok w l e w':=by
 obtain ⟨v,h1,h2,h3⟩:=h
 exact ⟨v,h1,h2.weaken (fun b hb=>hb.imp And.left id),h3⟩
theorem full_any (l:List Inl) (ok:Nat->Prop) (v:Value) (w:World) (hn:l.length<=1000000) (hrd:Rd ok w (q0w l) [v]) :
  Calls Tryz.prog 64 #[v] w (FuPost ok w (fullL l)):=
 (full_any0 l _ v w hn hrd.inside (fun _ h=>h.2)).mono fun _ _ h=>h.inside
open Go.RowKit
def ttop:List Inl->Nat
 | []=>0
 | x::l=>x.tx.size+ttop l
theorem ttop_app:∀ (l m:List Inl),ttop (l++m)=ttop l+ttop m
 | [],m=>by simp [ttop]
 | x::l,m=>by rw [List.cons_append,ttop,ttop,ttop_app l m];omega
theorem ttop_take (l:List Inl) (k:Nat):ttop (l.take k)<=ttop l:=by
 conv=>rhs;rw [<- List.take_append_drop k l]
 rw [ttop_app];omega
theorem ttop_snoc (l:List Inl) (k:Nat) (x:Inl) (h:l[k]?=some x):ttop (l.take (k+1))=ttop (l.take k)+x.tx.size:=by
 rw [List.take_add_one,h,ttop_app];simp [ttop]
theorem joinK_snoc (q:Int) (l:List Inl) (k:Nat) (x:Inl) (h:l[k]?=some x):q1k q (l.take (k+1))=addK q (q1k q (l.take k)) x:=by
 unfold q1k
 rw [List.take_add_one,h,List.foldl_append];rfl
def EdgeK (q:Int) (l out:List Inl) (k:Nat):Prop:=∀ x,l[k]?=some x->x.kd=q->∀ y,out.getLast?=some y->y.kd≠q
theorem addK_edge {q:Int} {l out:List Inl} {k:Nat} {x:Inl} (he:EdgeK q l out k) (hx:l[k]?=some x):addK q out x=out++[x]:=by
 unfold addK
 by_cases hq:x.kd=q
 ·rw [if_pos hq]
  cases hg:out.getLast? with
  | none=>rfl
  | some y=>simp only;rw [if_neg (he x hx hq y hg)]
 ·rw [if_neg hq]
theorem addK_more (q:Int) (out:List Inl) (x y:Inl) (c:ByteArray) (hx:x.kd=q) (hy:y.kd=q):addK q (out++[x.setTx c]) y=out++[x.setTx (c++y.tx)]:=by
 unfold addK
 rw [if_pos hy,List.getLast?_concat]
 simp only
 rw [if_pos (by rw [Inl.set_kd];exact hx),List.dropLast_concat]
 obtain ⟨k,t,d,ti,a,ar,ci,ks⟩:=x
 rfl
theorem addK_len (q:Int) (out:List Inl) (x:Inl):(addK q out x).length<=out.length+1:=by
 unfold addK
 split
 ·split
  ·split
   ·simp [List.length_dropLast]
   ·simp
  ·simp
 ·simp
theorem foldK_len (q:Int):∀ (l out:List Inl),(l.foldl (addK q) out).length<=out.length+l.length
 | [],out=>by simp
 | x::l,out=>by
  have h1:=addK_len q out x
  have h2:=foldK_len q l (addK q out x)
  rw [List.foldl_cons,List.length_cons];omega
theorem joinK_len (q:Int) (l:List Inl):(q1k q l).length<=l.length:=by
 have:=foldK_len q l []
 unfold q1k;simpa using this
theorem EdgeK.next {q:Int} {l out:List Inl} {k:Nat} {x:Inl} (h:x.kd≠q\/∀ y,l[k+1]?=some y->y.kd≠q):EdgeK q l (out++[x]) (k+1):=by
 intro y hy hq z hz
 rw [List.getLast?_concat] at hz
 obtain rfl:=Option.some.inj hz
 rcases h with h | h
 ·exact h
 ·exact absurd hq (h y hy)
def JnRel (q:Int) (ok:Nat->Prop) (w wr:World) (l:List Inl) (v vi:Value):Prop:=
 ∃ (k:Nat) (rows:List (List Value)),k<=l.length/\vi=.int .i64 k/\RowU 47 10 ok wr.heap.size w ((q1k q (l.take k)).map Inl.d) rows v wr/\EdgeK q l (q1k q (l.take k)) k
def JnIn (q:Int) (l out:List Inl) (x:Inl) (k p1:Nat) (wA:World) (vi:Value) (wx:World):Prop:=
 ∃ (j:Nat) (c:ByteArray),k+1<=j/\j<=l.length/\vi=.int .i64 j/\q1k q (l.take j)=out++[x.setTx c]/\c.size<=ttop (l.take j)/\Bd p1 p1 c.data.toList wx/\Below p1 wA wx
theorem join_toc0 (q:Int) (l:List Inl) (ok:Nat->Prop) (v:Value) (w:World) (hn:l.length<=1000000) (ht:ttop l<=100000000000) (hrd:Rd ok w (q0w l) [v]) (hB:∀ b,ok b->b<w.heap.size) :
  Calls Tryz.prog 63 #[v,.int .i64 q] w (FuPost ok w (q1k q l)):=by
  obtain ⟨iI,hiI,hzI0,hzI1,hzI2⟩:=info_parts infoIn
  obtain ⟨a,cap,hv,hs⟩:=Rd.sl_open hrd
  obtain rfl:v=.slice a l.length cap:=by simpa using hv
  have hcap:l.length<=cap:=by simpa using hs.le
  have hmx:=hs.max
  have HS:=hid hs
  have HB:=hid hB
  have HT:=hid (fun k=>Nat.le_trans (ttop_take l k) ht)
  have R0:=hid (show JnRel q ok w w l (.slice none 0 0) (.int .i64 0) from ⟨0,[],Nat.zero_le _,rfl,RowU.nil _ _ _ _,fun x _ _ y hy=>by simp [q1k] at hy⟩)
  clear hs hv hrd ht hB
  unfold maxLen at hmx
  go_enter Tryz.func63,Tryz.ntmps63
  go_wp2
  go_loopw [5,6] (fun v vi wr=>JnRel q ok w wr l v vi) (fun _ i _=>l.length-(intOf i).toNat)
  case atStart=>exact R0.out
  case round=>
   clear R0
   obtain ⟨k,rows,hk,rfl,hrow,hed⟩:=hrel
   obtain ⟨out,hout⟩:∃ out,out=q1k q (l.take k):=⟨_,rfl⟩
   rw [<- hout] at hrow hed
   obtain ⟨m,hm⟩:∃ m,m=(out.map Inl.d).length:=⟨_,rfl⟩
   have hmk:m<=k:=by rw [hm,hout,List.length_map];have:=joinK_len q (l.take k);simp at this;omega
   have HDN:=hid hm.symm
   have HOUT:=hid hout
   have HED:=hid hed
   obtain ⟨av,cv,rfl,-,-⟩:=hrow.cap hm.symm
   have HROW:=hid hrow
   have hbel:=hrow.bel
   clear hrow hm hout hed
   by_cases hlt:k<l.length
   ·obtain ⟨x,hx⟩:∃ x,l[k]?=some x:=⟨_,List.getElem?_eq_getElem hlt⟩
    have hsn:=joinK_snoc q l k x hx
    rw [<- HOUT.out,addK_edge HED.out hx] at hsn
    have HSN:=hid hsn
    have htx:=ttop_snoc l k x hx
    have ht1:=HT.out (k+1)
    obtain ⟨kd,t,d,ti,at_,ar,ci,ks⟩:=x
    change ttop (l.take (k+1))=ttop (l.take k)+t.size at htx
    obtain ⟨g,off,vc,vp,va,vi,vk,rfl,hok,hbl,hc,hR⟩:=q1b (HS.out.up0 hbel) hx
    obtain ⟨c0,c1,c2,c3,c4,c5,c6,c7,c8,c9⟩:=hc
    obtain ⟨ac,nc,cc,rfl⟩:=Rd.sl_form hR.at_.cls
    obtain ⟨ap,np,cp,rfl⟩:=Rd.sl_form hR.at_.prs
    obtain ⟨aa,na,ca,rfl⟩:=Rd.sl_form hR.args
    obtain ⟨ai,ni,ci',rfl⟩:=Rd.sl_form hR.cites
    obtain ⟨ak,nk,ck,rfl⟩:=Rd.sl_form hR.kids
    obtain ⟨p,hp⟩:∃ p,p=wr.heap.size:=⟨_,rfl⟩
    obtain ⟨wA,hwA⟩:∃ wA,wA=wr.alloc (.cells #[.int .i64 kd,.string t,.string d,.string ti,.string at_.id,.slice ac nc cc,.slice ap np cp,.slice aa na ca,.slice ai ni ci',.slice ak nk ck] 47):=⟨_,rfl⟩
    have PA:PB p [.int .i64 kd,.string t,.string d,.string ti,.string at_.id,.slice ac nc cc,.slice ap np cp,.slice aa na ca,.slice ai ni ci',.slice ak nk ck] wA:=by rw [hwA,hp];exact heap_alloc_new wr _
    have UA:=hid (show RowU 47 10 ok p w (out.map Inl.d) rows (.slice av m cv) wA by rw [hwA,hp];exact HROW.out.alloc _)
    have HIN:=hid (show InR ok wA at_ ar ci ks (.slice ac nc cc) (.slice ap np cp) (.slice aa na ca) (.slice ai ni ci') (.slice ak nk ck) from inR_keep hR (fun b hb hlt=>⟨hb,by rw [hwA];exact Below.heap_alloc _ _ b hlt⟩))
    have zA:wA.heap.size=p+1:=by rw [hwA,hp];simp
    have ZA:=hid zA
    have hpw:w.heap.size<=p:=by rw [hp];exact hbel.size
    have HBP:Hid (∀ b,ok b->b<p):=fun b hb=>Nat.lt_of_lt_of_le (HB.out b hb) hpw
    have HPA:=hid PA
    have NX:=hid (fun (h:k+1<l.length)=>q1b (HS.out.up0 UA.out.bel) (show l[k+1]?=some (.mk (l[k+1]).kd (l[k+1]).tx (match l[k+1] with | .mk _ _ d _ _ _ _ _=>d) (match l[k+1] with | .mk _ _ _ d _ _ _ _=>d) (match l[k+1] with | .mk _ _ _ _ d _ _ _=>d) (match l[k+1] with | .mk _ _ _ _ _ d _ _=>d) (match l[k+1] with | .mk _ _ _ _ _ _ d _=>d) (match l[k+1] with | .mk _ _ _ _ _ _ _ d=>d)) by rw [List.getElem?_eq_getElem h];congr 1;cases l[k+1];rfl))
    clear hR hx hbel hok hbl hsn zA
    go_upto_region 6 with (fail)
    rw [<- hwA,<- hp]
    obtain ⟨e0,e1,e2,e3,e4,e5,e6,e7,e8,e9,ef⟩:=PA.all
    clear hwA hp HROW c0 c1 c2 c3 c4 c5 c6 c7 c8 c9 PA
    have hdl:m<=10000000:=by omega
    have HX2:=hid (show (q1k q (l.take (k+1))).map Inl.d=out.map Inl.d++[(Inl.mk kd t d ti at_ ar ci ks).d] by rw [HSN.out,List.map_append];rfl)
    by_cases hq:kd=q
    ·have q1:(kd==q)=true:=by rw [beq_iff_eq];exact hq
     have HQ:=hid hq
     by_cases hl1:k+1<l.length
     ·have q2:decide ((k:Int)+1<(l.length:Int))=true:=by simp;omega
      have q2':decide (k+1<l.length)=true:=by simp;omega
      obtain ⟨g2,off2,vc2,vp2,va2,vi2,vk2,hag,-,-,hc2,-⟩:=NX.out hl1
      cases hag
      have n0:=hc2.c0
      have HYQ:Hid (∀ y,l[k+1]?=some y->y.kd=(l[k+1]).kd):=fun y hy=>by rw [List.getElem?_eq_getElem hl1] at hy;rw [<- Option.some.inj hy]
      obtain ⟨nk2,hnk2⟩:∃ y,y=(l[k+1]).kd:=⟨_,rfl⟩
      rw [<- hnk2] at n0 HYQ
      clear hc2 hnk2 NX
      by_cases hq2:nk2=q
      ·have q3:(nk2==q)=true:=by rw [beq_iff_eq];exact hq2
       obtain ⟨wb,hwb⟩:∃ wb,wb=wA.alloc (.cells #[.pointer none,.slice none 0 0] 126):=⟨_,rfl⟩
       have B0:Bd (p+1) (p+1) [] wb:=by
        have hz:=ZA.out
        rw [hwb,<- hz];exact ⟨Lib.IsBuilderF.of (Lib.fresh_isBuilder 126 5 wA),by simp⟩
       have bb:Below (p+1) wA wb:=by
        have hz:=ZA.out
        rw [hwb,<- hz];exact (Below.refl _ wA).alloc (Nat.le_refl _) _
       have WS:=hid (writeString_k (p+1) (p+1) (Lib.byteCells []) t wb B0.1 (by show 0+t.size<=_;omega) B0.2)
       have s1:=(HPA.out.grown (w':=wb) (by rw [hwb];exact World.grownBy_alloc _ _ none)).cell 1 _ rfl
       have BB:=hid bb
       clear B0 bb hq2 hq
       go_upto_region 8 with (fail)
       rw [<- hwb,ZA.out]
       clear hwb n0 e0 e1 e2 e3 e4 e5 e6 e7 e8 e9 ef
       go_wp2_with fail
       (with_reducible refine WS.out.mono ?_)
       rintro e w3 ⟨rfl,hw3⟩
       have J0:Hid (JnIn q l out (Inl.mk kd t d ti at_ ar ci ks) k (p+1) wA (.int .i64 ((k:Int)+1)) w3):=by
        refine ⟨k+1,t,Nat.le_refl _,by omega,by go_num,HSN.out,by omega,⟨?_,?_⟩,BB.out.trans hw3.2.1⟩
        ·have:=hw3.1;rw [q1t,<- Lib.byteCells_append] at this;simpa using this
        ·have:=(BB.out.trans hw3.2.1).size;have:=ZA.out;omega
       clear hw3 WS s1 BB
       obtain ⟨p1,hp1⟩:∃ p1,p1=p+1:=⟨_,rfl⟩
       rw [<- hp1] at J0 ⊢
       have HP1:=hid hp1
       clear hp1 q2 q2' q3 HYQ HX2 htx ht1
       go_wp2
       go_loopw [6] (fun vi wx=>JnIn q l out (Inl.mk kd t d ti at_ ar ci ks) k p1 wA vi wx) (fun i _=>l.length-(intOf i).toNat)
       case atStart=>exact J0.out
       case round=>
        clear J0
        obtain ⟨j,c,hkj,hj,rfl,hjn,hcs,hbd,hbel⟩:=hrel
        have HJN:=hid hjn
        have HBD:=hid hbd
        have HBEL:=hid hbel
        have htj:=HT.out j
        have UX:=hid (UA.out.same (show wA.heap.size<=wr.heap.size from hbel.size) ⟨hbel.os,hbel.tape,hbel.output⟩ (fun b hb=>hbel.block b (by have:=HP1.out;omega)))
        clear hjn hbd hbel
        have PX:=hid (show PB p [.int .i64 kd,.string t,.string d,.string ti,.string at_.id,.slice ac nc cc,.slice ap np cp,.slice aa na ca,.slice ai ni ci',.slice ak nk ck] wr from (HBEL.out.block p (by have:=HP1.out;omega)).trans HPA.out)
        have ST:=hid (Tryz.Builder_String_any_f p1 p1 c.data.toList wr HBD.out.1 HBD.out.2)
        rw [bytes_same] at ST
        by_cases hjl:j<l.length
        ·have q2:decide ((j:Int)<(l.length:Int))=true:=by simp;omega
         have q2':decide (j<l.length)=true:=by simp;omega
         obtain ⟨y,hy⟩:∃ y,l[j]?=some y:=⟨_,List.getElem?_eq_getElem hjl⟩
         obtain ⟨kd2,t2,d2,ti2,at2,ar2,ci2,ks2⟩:=y
         obtain ⟨g2,off2,vc2,vp2,va2,vi2,vk2,hag,-,-,hc2,-⟩:=q1b (HS.out.up0 UX.out.bel) hy
         cases hag
         have n0:=hc2.c0
         have n1:=hc2.c1
         have htj2:=ttop_snoc l j _ hy
         have htj3:=HT.out (j+1)
         change ttop (l.take (j+1))=ttop (l.take j)+t2.size at htj2
         clear hc2
         by_cases hk2:kd2=q
         ·have q3:(kd2==q)=true:=by rw [beq_iff_eq];exact hk2
          have WS:=hid (writeString_k p1 p1 (Lib.byteCells c.data.toList) t2 wr HBD.out.1 (by rw [Lib.byteCells_length,<- Lib.size_eq];omega) HBD.out.2)
          have HJ2:=hid (show q1k q (l.take (j+1))=out++[(Inl.mk kd t d ti at_ ar ci ks).setTx (c++t2)] by rw [joinK_snoc q l j _ hy,HJN.out];exact addK_more q out _ _ c HQ.out hk2)
          clear hy hk2 ST PX UX
          go_wp2_with fail
          (with_reducible refine WS.out.mono ?_)
          rintro e w3 ⟨rfl,hw3⟩
          have HW3:=hid hw3
          clear hw3 WS
          go_wp2
          go_roundw
          case rel=>exact ⟨j+1,c++t2,by omega,by omega,by go_num,HJ2.out,by rw [ByteArray.size_append];omega,⟨by have:=HW3.out.1;rw [q1t,<- Lib.byteCells_append] at this;rw [ByteArray.data_append,Array.toList_append];exact this,Nat.le_trans HBD.out.2 HW3.out.2.1.size⟩,HBEL.out.trans HW3.out.2.1⟩
          case measure=>simp [intOf];omega
         ·have q3:(kd2==q)=false:=by rw [beq_eq_false_iff_ne];exact hk2
          have ED:Hid (EdgeK q l (q1k q (l.take j)) j):=fun z hz hzq=>by rw [hy] at hz;cases hz;exact absurd hzq hk2
          clear hy hk2 n1
          go_wp2_with fail
          (with_reducible refine ST.out.mono ?_)
          rintro e w5 ⟨rfl,-,b5⟩
          have P5:=(b5.block p (by have:=HP1.out;omega)).trans PX.out
          have P5:PB p [.int .i64 kd,.string t,.string d,.string ti,.string at_.id,.slice ac nc cc,.slice ap np cp,.slice aa na ca,.slice ai ni ci',.slice ak nk ck] w5:=P5
          have U5:=hid (UX.out.same (show wr.heap.size<=w5.heap.size from b5.size) ⟨b5.os,b5.tape,b5.output⟩ (fun b hb=>b5.block b (by have:=HP1.out;omega)))
          have HB5:=hid (HBEL.out.trans b5)
          have HP5:=hid P5
          have d1:=P5.cell 1 _ rfl
          have f1:=P5.free 1
          clear b5 P5 PX UX ST
          go_upto_region 13 with (fail)
          obtain ⟨w6,hw6⟩:∃ w6,w6=w5.setCell ⟨p,1,none⟩ (.string c):=⟨_,rfl⟩
          have U6:Hid (RowU 47 10 ok p w (out.map Inl.d) rows (.slice av m cv) w6):=by
           show RowU _ _ _ _ _ _ _ _ _
           rw [hw6];exact U5.out.set (Nat.le_refl _) 1 _
          have P6:PB p [.int .i64 kd,.string c,.string d,.string ti,.string at_.id,.slice ac nc cc,.slice ap np cp,.slice aa na ca,.slice ai ni ci',.slice ak nk ck] w6:=by rw [hw6];exact HP5.out.set 1 _
          have IN6:Hid (InR ok w6 at_ ar ci ks (.slice ac nc cc) (.slice ap np cp) (.slice aa na ca) (.slice ai ni ci') (.slice ak nk ck)):=by
           refine inR_keep HIN.out (fun b hb hlt=>⟨hb,?_⟩)
           rw [hw6,Below.heap_setCell w5 ⟨p,1,none⟩ _ b (by show b≠p;have:=HBP.out b hb;omega)]
           exact HB5.out.block b (by have:=HP1.out;have:=HBP.out b hb;omega)
          rw [<- hw6]
          obtain ⟨e0,e1,e2,e3,e4,e5,e6,e7,e8,e9,ef⟩:=P6.all
          have HX6:=hid (show (q1k q (l.take j)).map Inl.d=out.map Inl.d++[(Inl.mk kd c d ti at_ ar ci ks).d] by rw [HJN.out,List.map_append];rfl)
          clear hw6 P6 U5 HP5 HB5 f1 d1
          go_wp2_with (at_builtin;refine q0p rfl _ _ 38 rfl iI _ 192 Tryz.underlying38 hiI hzI0 hzI1 hzI2 rfl (by decide) U6.out HB.out (Inl.mk kd c d ti at_ ar ci ks).d [.int .i64 kd,.string c,.string d,.string ti,.string at_.id,.slice ac nc cc,.slice ap np cp,.slice aa na ca,.slice ai ni ci',.slice ak nk ck] ((Inl.mk_ kd c d ti IN6.out).weaken (fun b hb=>.inl hb)) rfl q2c HDN.out hdl (by decide) rfl rfl ?_)
          intro a' c' w7 hrow hg7
          have HROW:=hid hrow
          rw [<- HX6.out] at HROW
          clear hrow hg7
          go_wp2
          go_roundw
          case rel=>exact ⟨j,_,hj,by go_num,HROW.out,ED.out⟩
          case measure=>simp [intOf];omega
        ·have q2:decide ((j:Int)<(l.length:Int))=false:=by simp;omega
         have q2':decide (j<l.length)=false:=by simp;omega
         have ED:Hid (EdgeK q l (q1k q (l.take j)) j):=fun z hz _=>by rw [List.getElem?_eq_none (by omega)] at hz;cases hz
         go_wp2_with fail
         (with_reducible refine ST.out.mono ?_)
         rintro e w5 ⟨rfl,-,b5⟩
         have P5:=(b5.block p (by have:=HP1.out;omega)).trans PX.out
         have P5:PB p [.int .i64 kd,.string t,.string d,.string ti,.string at_.id,.slice ac nc cc,.slice ap np cp,.slice aa na ca,.slice ai ni ci',.slice ak nk ck] w5:=P5
         have U5:=hid (UX.out.same (show wr.heap.size<=w5.heap.size from b5.size) ⟨b5.os,b5.tape,b5.output⟩ (fun b hb=>b5.block b (by have:=HP1.out;omega)))
         have HB5:=hid (HBEL.out.trans b5)
         have HP5:=hid P5
         have d1:=P5.cell 1 _ rfl
         have f1:=P5.free 1
         clear b5 P5 PX UX ST
         go_upto_region 13 with (fail)
         obtain ⟨w6,hw6⟩:∃ w6,w6=w5.setCell ⟨p,1,none⟩ (.string c):=⟨_,rfl⟩
         have U6:Hid (RowU 47 10 ok p w (out.map Inl.d) rows (.slice av m cv) w6):=by
          show RowU _ _ _ _ _ _ _ _ _
          rw [hw6];exact U5.out.set (Nat.le_refl _) 1 _
         have P6:PB p [.int .i64 kd,.string c,.string d,.string ti,.string at_.id,.slice ac nc cc,.slice ap np cp,.slice aa na ca,.slice ai ni ci',.slice ak nk ck] w6:=by rw [hw6];exact HP5.out.set 1 _
         have IN6:Hid (InR ok w6 at_ ar ci ks (.slice ac nc cc) (.slice ap np cp) (.slice aa na ca) (.slice ai ni ci') (.slice ak nk ck)):=by
          refine inR_keep HIN.out (fun b hb hlt=>⟨hb,?_⟩)
          rw [hw6,Below.heap_setCell w5 ⟨p,1,none⟩ _ b (by show b≠p;have:=HBP.out b hb;omega)]
          exact HB5.out.block b (by have:=HP1.out;have:=HBP.out b hb;omega)
         rw [<- hw6]
         obtain ⟨e0,e1,e2,e3,e4,e5,e6,e7,e8,e9,ef⟩:=P6.all
         have HX6:=hid (show (q1k q (l.take j)).map Inl.d=out.map Inl.d++[(Inl.mk kd c d ti at_ ar ci ks).d] by rw [HJN.out,List.map_append];rfl)
         clear hw6 P6 U5 HP5 HB5 f1 d1
         go_wp2_with (at_builtin;refine q0p rfl _ _ 38 rfl iI _ 192 Tryz.underlying38 hiI hzI0 hzI1 hzI2 rfl (by decide) U6.out HB.out (Inl.mk kd c d ti at_ ar ci ks).d [.int .i64 kd,.string c,.string d,.string ti,.string at_.id,.slice ac nc cc,.slice ap np cp,.slice aa na ca,.slice ai ni ci',.slice ak nk ck] ((Inl.mk_ kd c d ti IN6.out).weaken (fun b hb=>.inl hb)) rfl q2c HDN.out hdl (by decide) rfl rfl ?_)
         intro a' c' w7 hrow hg7
         have HROW:=hid hrow
         rw [<- HX6.out] at HROW
         clear hrow hg7
         go_wp2
         go_roundw
         case rel=>exact ⟨j,_,hj,by go_num,HROW.out,ED.out⟩
         case measure=>simp [intOf];omega
      ·have q3:(nk2==q)=false:=by rw [beq_eq_false_iff_ne];exact hq2
       have ED:Hid (EdgeK q l (out++[Inl.mk kd t d ti at_ ar ci ks]) (k+1)):=EdgeK.next (.inr fun y hy=>by rw [HYQ.out y hy];exact hq2)
       clear hq2 hq HYQ
       go_wp2_with (at_builtin;refine q0p rfl _ _ 38 rfl iI _ 192 Tryz.underlying38 hiI hzI0 hzI1 hzI2 rfl (by decide) UA.out HB.out (Inl.mk kd t d ti at_ ar ci ks).d [.int .i64 kd,.string t,.string d,.string ti,.string at_.id,.slice ac nc cc,.slice ap np cp,.slice aa na ca,.slice ai ni ci',.slice ak nk ck] ((Inl.mk_ kd t d ti HIN.out).weaken (fun b hb=>.inl hb)) rfl q2c HDN.out hdl (by decide) rfl rfl ?_)
       intro a' c' w5 hrow hg5
       have HROW:=hid hrow
       rw [<- HX2.out] at HROW
       clear hrow hg5
       go_wp2
       go_roundw
       case rel=>exact ⟨k+1,_,by omega,by go_num,HROW.out,HSN.out ▸ ED.out⟩
       case measure=>simp [intOf];omega
     ·have q2:decide ((k:Int)+1<(l.length:Int))=false:=by simp;omega
      have q2':decide (k+1<l.length)=false:=by simp;omega
      have ED:Hid (EdgeK q l (out++[Inl.mk kd t d ti at_ ar ci ks]) (k+1)):=EdgeK.next (.inr fun y hy=>by rw [List.getElem?_eq_none (by omega)] at hy;cases hy)
      clear hq NX
      go_wp2_with (at_builtin;refine q0p rfl _ _ 38 rfl iI _ 192 Tryz.underlying38 hiI hzI0 hzI1 hzI2 rfl (by decide) UA.out HB.out (Inl.mk kd t d ti at_ ar ci ks).d [.int .i64 kd,.string t,.string d,.string ti,.string at_.id,.slice ac nc cc,.slice ap np cp,.slice aa na ca,.slice ai ni ci',.slice ak nk ck] ((Inl.mk_ kd t d ti HIN.out).weaken (fun b hb=>.inl hb)) rfl q2c HDN.out hdl (by decide) rfl rfl ?_)
      intro a' c' w5 hrow hg5
      have HROW:=hid hrow
      rw [<- HX2.out] at HROW
      clear hrow hg5
      go_wp2
      go_roundw
      case rel=>exact ⟨k+1,_,by omega,by go_num,HROW.out,HSN.out ▸ ED.out⟩
      case measure=>simp [intOf];omega
    ·have q1:(kd==q)=false:=by rw [beq_eq_false_iff_ne];exact hq
     have ED:Hid (EdgeK q l (out++[Inl.mk kd t d ti at_ ar ci ks]) (k+1)):=EdgeK.next (.inl hq)
     clear hq NX
     go_wp2_with (at_builtin;refine q0p rfl _ _ 38 rfl iI _ 192 Tryz.underlying38 hiI hzI0 hzI1 hzI2 rfl (by decide) UA.out HB.out (Inl.mk kd t d ti at_ ar ci ks).d [.int .i64 kd,.string t,.string d,.string ti,.string at_.id,.slice ac nc cc,.slice ap np cp,.slice aa na ca,.slice ai ni ci',.slice ak nk ck] ((Inl.mk_ kd t d ti HIN.out).weaken (fun b hb=>.inl hb)) rfl q2c HDN.out hdl (by decide) rfl rfl ?_)
     intro a' c' w5 hrow hg5
     have HROW:=hid hrow
     rw [<- HX2.out] at HROW
     clear hrow hg5
     go_wp2
     go_roundw
     case rel=>exact ⟨k+1,_,by omega,by go_num,HROW.out,HSN.out ▸ ED.out⟩
     case measure=>simp [intOf];omega
   ·have hkl:k=l.length:=by omega
    subst hkl
    rw [HOUT.out,List.take_length] at HROW
    go_wp2
    go_ret
    exact ⟨_,rfl,HROW.out.rd,hbel⟩
theorem join_toc (q:Int) (l:List Inl) (ok:Nat->Prop) (v:Value) (w:World) (hn:l.length<=1000000) (ht:ttop l<=100000000000) (hrd:Rd ok w (q0w l) [v]) :
  Calls Tryz.prog 63 #[v,.int .i64 q] w (FuPost ok w (q1k q l)):=
 (join_toc0 q l _ v w hn ht hrd.inside (fun _ h=>h.2)).mono fun _ _ h=>h.inside
end Go.Proofs.YtlbioncagkkkoaaGreatDoor
