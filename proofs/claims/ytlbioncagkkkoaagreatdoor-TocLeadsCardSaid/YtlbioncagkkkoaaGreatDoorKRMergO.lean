/- The contract of tree.mergedInline. String of a builder that holds something: what lies above its blocks stands. The contract of tree.Merge. The contract of publisherref04.Merge, whatever blocks the inlines lead to. -/
import Derived.Test.YtlbioncagkkkoaaGreatDoorKInlsW
import Derived.Test.YtlbioncagkkkoaaGreatDoorKPlToc
import Derived.Test.YtlbioncagkkkoaaGreatDoorKAppend
import Derived.RegionTactic
import Derived.Test.YtlbioncagkkkoaaGreatDoorKTcM
set_option maxHeartbeats 8000000
set_option maxRecDepth 100000
open Go.Lib (hid)
namespace Go.Proofs.YtlbioncagkkkoaaGreatDoor
open Go.RowKit
set_option linter.unusedVariables false
set_option linter.unusedSimpArgs false
structure MI (w:World) (cs zs:List Value) (wr:World):Prop where
 p:PB w.heap.size cs wr
 r:PB (w.heap.size+1) zs wr
 bl:Below w.heap.size w wr
 sz:w.heap.size+2<=wr.heap.size
theorem MI.grown {w wr w':World} {cs zs:List Value} (h:MI w cs zs wr) (hg:wr.grownBy w' none):MI w cs zs w':=
 ⟨h.p.grown hg,h.r.grown hg,h.bl.grown hg h.bl.size (by simp),Nat.le_trans h.sz hg.size⟩
theorem PB.far {p:Nat} {cs:List Value} {w:World} (h:PB p cs w) {q:Nat} (hq:p≠q) (j:Nat) (u:Value):PB p cs (w.setCell ⟨q,j,none⟩ u):=(Below.heap_setCell w ⟨q,j,none⟩ u p hq).trans h
theorem MI.set {w wr:World} {cs zs:List Value} (h:MI w cs zs wr) (j:Nat) (u:Value):MI w (cs.set j u) zs (wr.setCell ⟨w.heap.size,j,none⟩ u):=
 ⟨h.p.set j u,h.r.far (by omega) j u,h.bl.setCell (p:=⟨w.heap.size,j,none⟩) (Nat.le_refl _) u,by simpa [World.setCell] using h.sz⟩
theorem MI.setR {w wr:World} {cs zs:List Value} (h:MI w cs zs wr) (j:Nat) (u:Value):MI w cs (zs.set j u) (wr.setCell ⟨w.heap.size+1,j,none⟩ u):=
 ⟨h.p.far (by omega) j u,h.r.set j u,h.bl.setCell (p:=⟨w.heap.size+1,j,none⟩) (by simp) u,by simpa [World.setCell] using h.sz⟩
theorem Above.set2 {p q:Nat} {w:World} (hq:q<=p) (j:Nat) (u:Value):Above p w (w.setCell ⟨q,j,none⟩ u):=fun b hb _=>Below.heap_setCell w ⟨q,j,none⟩ u b (by show b≠q;omega)
theorem mergedInline_any (kd:Int) (t d ti:ByteArray) (at_:At) (ar:List ByteArray) (ci:List Ci) (ks:List Inl) (ac ap aa ai ak:Option Addr) (nc cc np cp na ca ni cai nk ck:Nat) (B:Nat) (w:World)
  (h:InR (·<B) w at_ ar ci ks (.slice ac nc cc) (.slice ap np cp) (.slice aa na ca) (.slice ai ni cai) (.slice ak nk ck)) (hB:B<=w.heap.size)
  (hn1:at_.cls.length<=1000000) (hn2:at_.prs.length<=1000000) (hn3:ar.length<=1000000) (hn4:ci.length<=1000000)
  (HK:∀ v w2,Rd (·<B) w2 (q0w ks) [v]->B<=w2.heap.size->Calls Tryz.prog 62 #[v] w2 (LcPost w2 (Inl.mergeL ks))) :
  Calls Tryz.prog 92 #[.agg #[.int .i64 kd,.string t,.string d,.string ti,.string at_.id,.slice ac nc cc,.slice ap np cp,.slice aa na ca,.slice ai ni cai,.slice ak nk ck]] w fun e w'=>∃ ac1 nc1 cc1 ap1 np1 cp1 aa1 na1 ca1 ai1 ni1 cai1 ak1 nk1 ck1,e=.returned (.agg #[.int .i64 kd,.string t,.string d,.string ti,.string at_.id,.slice ac1 nc1 cc1,.slice ap1 np1 cp1,.slice aa1 na1 ca1,.slice ai1 ni1 cai1,.slice ak1 nk1 ck1]) /\
   InR (w.heap.size<=·) w' at_ ar ci (Inl.mergeL ks) (.slice ac1 nc1 cc1) (.slice ap1 np1 cp1) (.slice aa1 na1 ca1) (.slice ai1 ni1 cai1) (.slice ak1 nk1 ck1)/\Below w.heap.size w w':=by
 have HR:=hid h
 have HM:=hid HK
 clear h HK
 go_enter Tryz.func92,Tryz.ntmps92
 go_upto_region 1 with (fail)
 obtain ⟨w0,hw0⟩:∃ w0,w0=(w.alloc (.cells #[.int .i64 kd,.string t,.string d,.string ti,.string at_.id,.slice ac nc cc,.slice ap np cp,.slice aa na ca,.slice ai ni cai,.slice ak nk ck] 47)).alloc (.cells #[.int .i64 0,.string ⟨#[]⟩,.string ⟨#[]⟩,.string ⟨#[]⟩,.string ⟨#[]⟩,.slice none 0 0,.slice none 0 0,.slice none 0 0,.slice none 0 0,.slice none 0 0] 47):=⟨_,rfl⟩
 have I0:MI w [.int .i64 kd,.string t,.string d,.string ti,.string at_.id,.slice ac nc cc,.slice ap np cp,.slice aa na ca,.slice ai ni cai,.slice ak nk ck] [.int .i64 0,.string ⟨#[]⟩,.string ⟨#[]⟩,.string ⟨#[]⟩,.string ⟨#[]⟩,.slice none 0 0,.slice none 0 0,.slice none 0 0,.slice none 0 0,.slice none 0 0] w0:=by
  rw [hw0]
  refine ⟨(Below.heap_alloc _ _ _ (by simp)).trans (heap_alloc_new w _),?_,((Below.refl _ w).alloc (Nat.le_refl _) _).alloc (by simp) _,by simp⟩
  have:=heap_alloc_new (w.alloc (.cells #[.int .i64 kd,.string t,.string d,.string ti,.string at_.id,.slice ac nc cc,.slice ap np cp,.slice aa na ca,.slice ai ni cai,.slice ak nk ck] 47)) (.cells #[.int .i64 0,.string ⟨#[]⟩,.string ⟨#[]⟩,.string ⟨#[]⟩,.string ⟨#[]⟩,.slice none 0 0,.slice none 0 0,.slice none 0 0,.slice none 0 0,.slice none 0 0] 47)
  rw [World.size_alloc] at this
  exact this
 rw [<- hw0]
 clear hw0
 have HI0:=hid I0
 have d4:=I0.p.cell 4 _ rfl
 have d5:=I0.p.cell 5 _ rfl
 have d6:=I0.p.cell 6 _ rfl
 have CT:=hid (tcopyAttr_any at_ _ _ B w0 (HR.out.at_.below (I0.bl.mono hB)) (Nat.le_trans hB I0.bl.size) hn1 hn2)
 clear I0
 go_wp2_with fail
 refine CT.out.mono ?_
 rintro e w1 ⟨vc1,vp1,rfl,hat1,b1⟩
 obtain ⟨ac1,nc1,cc1,rfl⟩:=Rd.sl_form hat1.cls
 obtain ⟨ap1,np1,cp1,rfl⟩:=Rd.sl_form hat1.prs
 have hz0:=HI0.out.sz
 have I1:=HI0.out.grown (q02 b1)
 have HI1:=hid I1
 have AT1:=hid (hat1.weaken (ok':=(w.heap.size+1<·)) (fun b hb=>by omega))
 have d4:=I1.p.cell 4 _ rfl
 have d5:=I1.p.cell 5 _ rfl
 have d6:=I1.p.cell 6 _ rfl
 have f4:=I1.p.free 4
 have f5:=I1.p.free 5
 have f6:=I1.p.free 6
 clear I1 CT HI0 hat1 b1 hz0
 go_upto_region 2 with (fail)
 obtain ⟨w2,hw2⟩:∃ w2,w2=((w1.setCell ⟨w.heap.size,4,none⟩ (.string at_.id)).setCell ⟨w.heap.size,5,none⟩ (.slice ac1 nc1 cc1)).setCell ⟨w.heap.size,6,none⟩ (.slice ap1 np1 cp1):=⟨_,rfl⟩
 have I2:MI w [.int .i64 kd,.string t,.string d,.string ti,.string at_.id,.slice ac1 nc1 cc1,.slice ap1 np1 cp1,.slice aa na ca,.slice ai ni cai,.slice ak nk ck] [.int .i64 0,.string ⟨#[]⟩,.string ⟨#[]⟩,.string ⟨#[]⟩,.string ⟨#[]⟩,.slice none 0 0,.slice none 0 0,.slice none 0 0,.slice none 0 0,.slice none 0 0] w2:=by
  rw [hw2];exact ((HI1.out.set 4 _).set 5 _).set 6 _
 have AT2:Hid (AtR (w.heap.size+1<·) w2 at_ (.slice ac1 nc1 cc1) (.slice ap1 np1 cp1)):=by
  show AtR _ _ _ _ _
  rw [hw2];exact ((AT1.out.above (Above.set2 (by omega) 4 _)).above (Above.set2 (by omega) 5 _)).above (Above.set2 (by omega) 6 _)
 rw [<- hw2]
 clear hw2 d4 d5 d6 f4 f5 f6 HI1 AT1
 have HI2:=hid I2
 have d7:=I2.p.cell 7 _ rfl
 have CS:=hid (cloneS_any ar B _ w2 (HR.out.args.below (I2.bl.mono hB)) (Nat.le_trans hB I2.bl.size) hn3)
 clear I2
 go_wp2_with fail
 refine CS.out.mono ?_
 rintro e w2b ⟨va1,rfl,hra,ba⟩
 obtain ⟨aa1,na1,ca1,rfl⟩:=Rd.sl_form hra
 have hz2:=HI2.out.sz
 have I2b:=HI2.out.grown (q02 ba)
 have HI2b:=hid I2b
 have AT2b:=hid (AT2.out.above (Above.grown (q02 ba)))
 have RA2b:=hid (hra.weaken (ok':=(w.heap.size+1<·)) (fun b hb=>by omega))
 have d7:=I2b.p.cell 7 _ rfl
 have f7:=I2b.p.free 7
 clear I2b HI2 AT2 CS hra ba hz2
 go_upto_region 3 with (fail)
 obtain ⟨w3,hw3⟩:∃ w3,w3=w2b.setCell ⟨w.heap.size,7,none⟩ (.slice aa1 na1 ca1):=⟨_,rfl⟩
 have I3:MI w [.int .i64 kd,.string t,.string d,.string ti,.string at_.id,.slice ac1 nc1 cc1,.slice ap1 np1 cp1,.slice aa1 na1 ca1,.slice ai ni cai,.slice ak nk ck] [.int .i64 0,.string ⟨#[]⟩,.string ⟨#[]⟩,.string ⟨#[]⟩,.string ⟨#[]⟩,.slice none 0 0,.slice none 0 0,.slice none 0 0,.slice none 0 0,.slice none 0 0] w3:=by rw [hw3];exact HI2b.out.set 7 _
 have AT3:Hid (AtR (w.heap.size+1<·) w3 at_ (.slice ac1 nc1 cc1) (.slice ap1 np1 cp1)):=by
  show AtR _ _ _ _ _
  rw [hw3];exact AT2b.out.above (Above.set2 (by omega) 7 _)
 have RA3:Hid (Rd (w.heap.size+1<·) w3 (strsD ar) [.slice aa1 na1 ca1]):=by
  show Rd _ _ _ _
  rw [hw3];exact RA2b.out.above (Above.set2 (by omega) 7 _)
 rw [<- hw3]
 clear hw3 d7 f7 HI2b AT2b RA2b
 have HI3:=hid I3
 have d8:=I3.p.cell 8 _ rfl
 have CC:=hid (cloneC_any ci B _ w3 (HR.out.cites.below (I3.bl.mono hB)) (Nat.le_trans hB I3.bl.size) hn4)
 clear I3
 go_wp2_with fail
 refine CC.out.mono ?_
 rintro e w3b ⟨vi1,rfl,hri,bi3⟩
 obtain ⟨ai1,ni1,cai1,rfl⟩:=Rd.sl_form hri
 have hz3:=HI3.out.sz
 have I3b:=HI3.out.grown (q02 bi3)
 have HI3b:=hid I3b
 have AT3b:=hid (AT3.out.above (Above.grown (q02 bi3)))
 have RA3b:=hid (RA3.out.above (Above.grown (q02 bi3)))
 have RI3b:=hid (hri.weaken (ok':=(w.heap.size+1<·)) (fun b hb=>by omega))
 have d8:=I3b.p.cell 8 _ rfl
 have f8:=I3b.p.free 8
 clear I3b HI3 AT3 RA3 CC hri bi3 hz3
 go_upto_region 4 with (fail)
 obtain ⟨w4,hw4⟩:∃ w4,w4=w3b.setCell ⟨w.heap.size,8,none⟩ (.slice ai1 ni1 cai1):=⟨_,rfl⟩
 have I4:MI w [.int .i64 kd,.string t,.string d,.string ti,.string at_.id,.slice ac1 nc1 cc1,.slice ap1 np1 cp1,.slice aa1 na1 ca1,.slice ai1 ni1 cai1,.slice ak nk ck] [.int .i64 0,.string ⟨#[]⟩,.string ⟨#[]⟩,.string ⟨#[]⟩,.string ⟨#[]⟩,.slice none 0 0,.slice none 0 0,.slice none 0 0,.slice none 0 0,.slice none 0 0] w4:=by rw [hw4];exact HI3b.out.set 8 _
 have AT4:Hid (AtR (w.heap.size+1<·) w4 at_ (.slice ac1 nc1 cc1) (.slice ap1 np1 cp1)):=by
  show AtR _ _ _ _ _
  rw [hw4];exact AT3b.out.above (Above.set2 (by omega) 8 _)
 have RA4:Hid (Rd (w.heap.size+1<·) w4 (strsD ar) [.slice aa1 na1 ca1]):=by
  show Rd _ _ _ _
  rw [hw4];exact RA3b.out.above (Above.set2 (by omega) 8 _)
 have RI4:Hid (Rd (w.heap.size+1<·) w4 (cisD ci) [.slice ai1 ni1 cai1]):=by
  show Rd _ _ _ _
  rw [hw4];exact RI3b.out.above (Above.set2 (by omega) 8 _)
 rw [<- hw4]
 clear hw4 d8 f8 HI3b AT3b RA3b RI3b
 have HI4:=hid I4
 have d9:=I4.p.cell 9 _ rfl
 have CM:=hid (HM.out (.slice ak nk ck) w4 (HR.out.kids.below (I4.bl.mono hB)) (Nat.le_trans hB I4.bl.size))
 clear I4
 go_wp2_with fail
 refine CM.out.mono ?_
 rintro e w5 ⟨vk1,rfl,hk1,b5⟩
 obtain ⟨ak1,nk1,ck1,rfl⟩:=Rd.sl_form hk1
 have hz4:=HI4.out.sz
 have I5:=HI4.out.grown (q02 b5)
 have HI5:=hid I5
 have AT5:=hid (AT4.out.above (Above.grown (q02 b5)))
 have RA5:=hid (RA4.out.above (Above.grown (q02 b5)))
 have RI5:=hid (RI4.out.above (Above.grown (q02 b5)))
 have RK5:=hid (hk1.weaken (ok':=(w.heap.size+1<·)) (fun b hb=>by omega))
 have d9:=I5.p.cell 9 _ rfl
 have f9:=I5.p.free 9
 clear I5 HI4 AT4 RA4 RI4 CM hk1 b5 hz4
 go_upto_region 5 with (fail)
 obtain ⟨w6,hw6⟩:∃ w6,w6=w5.setCell ⟨w.heap.size,9,none⟩ (.slice ak1 nk1 ck1):=⟨_,rfl⟩
 have I6:MI w [.int .i64 kd,.string t,.string d,.string ti,.string at_.id,.slice ac1 nc1 cc1,.slice ap1 np1 cp1,.slice aa1 na1 ca1,.slice ai1 ni1 cai1,.slice ak1 nk1 ck1] [.int .i64 0,.string ⟨#[]⟩,.string ⟨#[]⟩,.string ⟨#[]⟩,.string ⟨#[]⟩,.slice none 0 0,.slice none 0 0,.slice none 0 0,.slice none 0 0,.slice none 0 0] w6:=by rw [hw6];exact HI5.out.set 9 _
 have IN6:Hid (InR (w.heap.size+1<·) w6 at_ ar ci (Inl.mergeL ks) (.slice ac1 nc1 cc1) (.slice ap1 np1 cp1) (.slice aa1 na1 ca1) (.slice ai1 ni1 cai1) (.slice ak1 nk1 ck1)):=by
  show InR _ _ _ _ _ _ _ _ _ _ _
  rw [hw6]
  exact ⟨AT5.out.above (Above.set2 (by omega) 9 _),RA5.out.above (Above.set2 (by omega) 9 _),RI5.out.above (Above.set2 (by omega) 9 _),RK5.out.above (Above.set2 (by omega) 9 _)⟩
 rw [<- hw6]
 clear hw6 d9 f9 HI5 AT5 RA5 RI5 RK5
 have q0:=I6.p.cell 0 _ rfl
 have r0:=I6.r.cell 0 _ rfl
 have g0:=I6.r.free 0
 have q1:=I6.p.cell 1 _ rfl
 have r1:=I6.r.cell 1 _ rfl
 have g1:=I6.r.free 1
 have q2:=I6.p.cell 2 _ rfl
 have r2:=I6.r.cell 2 _ rfl
 have g2:=I6.r.free 2
 have q3:=I6.p.cell 3 _ rfl
 have r3:=I6.r.cell 3 _ rfl
 have g3:=I6.r.free 3
 have q4:=I6.p.cell 4 _ rfl
 have r4:=I6.r.cell 4 _ rfl
 have g4:=I6.r.free 4
 have q5:=I6.p.cell 5 _ rfl
 have r5:=I6.r.cell 5 _ rfl
 have g5:=I6.r.free 5
 have q6:=I6.p.cell 6 _ rfl
 have r6:=I6.r.cell 6 _ rfl
 have g6:=I6.r.free 6
 have q7:=I6.p.cell 7 _ rfl
 have r7:=I6.r.cell 7 _ rfl
 have g7:=I6.r.free 7
 have q8:=I6.p.cell 8 _ rfl
 have r8:=I6.r.cell 8 _ rfl
 have g8:=I6.r.free 8
 have q9:=I6.p.cell 9 _ rfl
 have r9:=I6.r.cell 9 _ rfl
 have g9:=I6.r.free 9
 have FB:=hid (fun u0 u1 u2 u3 u4 u5 u6 u7 u8 u9=>((((((((((I6.setR 0 u0).setR 1 u1).setR 2 u2).setR 3 u3).setR 4 u4).setR 5 u5).setR 6 u6).setR 7 u7).setR 8 u8).setR 9 u9).bl)
 have AB_:∀ u0 u1 u2 u3 u4 u5 u6 u7 u8 u9,Above (w.heap.size+1) w6 (World.setCell (World.setCell (World.setCell (World.setCell (World.setCell (World.setCell (World.setCell (World.setCell (World.setCell (World.setCell w6 ⟨w.heap.size+1,0,none⟩ u0) ⟨w.heap.size+1,1,none⟩ u1) ⟨w.heap.size+1,2,none⟩ u2) ⟨w.heap.size+1,3,none⟩ u3) ⟨w.heap.size+1,4,none⟩ u4) ⟨w.heap.size+1,5,none⟩ u5) ⟨w.heap.size+1,6,none⟩ u6) ⟨w.heap.size+1,7,none⟩ u7) ⟨w.heap.size+1,8,none⟩ u8) ⟨w.heap.size+1,9,none⟩ u9):=fun u0 u1 u2 u3 u4 u5 u6 u7 u8 u9 b hb hlt=>by
  repeat rw [Below.heap_setCell _ _ _ b (by show b≠w.heap.size+1;omega)]
 have HAB:=hid AB_
 clear AB_ I6
 go_wp2
 refine bodyPost_ret (v:=.agg #[.int .i64 kd,.string t,.string d,.string ti,.string at_.id,.slice ac1 nc1 cc1,.slice ap1 np1 cp1,.slice aa1 na1 ca1,.slice ai1 ni1 cai1,.slice ak1 nk1 ck1]) (by simp [results,Tryz.results92,go_sem,r0,r1,r2,r3,r4,r5,r6,r7,r8,r9]) rfl ⟨_,_,_,_,_,_,_,_,_,_,_,_,_,_,_,rfl,⟨?_,?_,?_,?_⟩,FB.out _ _ _ _ _ _ _ _ _ _⟩
 ·exact (IN6.out.at_.above (HAB.out _ _ _ _ _ _ _ _ _ _)).weaken (fun b hb=>by omega)
 ·exact (IN6.out.args.above (HAB.out _ _ _ _ _ _ _ _ _ _)).weaken (fun b hb=>by omega)
 ·exact (IN6.out.cites.above (HAB.out _ _ _ _ _ _ _ _ _ _)).weaken (fun b hb=>by omega)
 ·exact (IN6.out.kids.above (HAB.out _ _ _ _ _ _ _ _ _ _)).weaken (fun b hb=>by omega)
open Go.RowKit
theorem bString_far (B b:Nat) (l:List UInt8) (w0 w:World) (h:Lib.IsBuilderF 126 5 B b (Lib.byteCells l) w0) (hw:Below w0.heap.size w0 w) (h0:l≠[]) :
  Calls Tryz.prog 94 #[.pointer (some ⟨b,0,none⟩)] w fun e w'=>e=.returned (.string ⟨l.toArray⟩)/\Below B w w'/\(∀ k,w0.heap.size<=k->w'.heap[k]?=w.heap[k]?):=by
 obtain ⟨p,hB,v,hbk,hown,hne⟩:∃ p,Lib.BuilderAtF 126 5 B b p (Lib.byteCells l) w0:=by
  rcases h with h | h
  ·exact ⟨_,h⟩
  ·exact ⟨_,h⟩
 have hl0:l.length≠0:=by simpa using h0
 rw [Lib.byteCells_length] at hown
 obtain ⟨g,cap,cur,fz,rfl,hbg,hg,hfz,hnc,hcm,hcs,htake⟩:∃ g cap cur fz,v=.slice (some ⟨g,0,none⟩) l.length cap/\B<=g/\w0.heap[g]?=some (.cells cur 5 fz)/\fz.2<=l.length*1/\l.length<=cap/\cap<=maxLen/\cur.size=cap*1/\cur.toList.take (l.length*1)=Lib.byteCells l:=by
  rcases hown.2 with ⟨_,hz⟩ | ⟨g,cap,cur,fz,hv,r⟩
  ·exact absurd hz hl0
  ·exact ⟨g,cap,cur,fz,hv,r⟩
 have hgl:g<w0.heap.size:=(Array.getElem?_eq_some_iff.1 hg).1
 have hbl:b<w0.heap.size:=(Array.getElem?_eq_some_iff.1 hbk).1
 have hg2:w.heap[g]?=some (.cells cur 5 fz):=(hw.block g hgl).trans hg
 have hbk2:w.heap[b]?=some (.cells #[p,.slice (some ⟨g,0,none⟩) l.length cap] 126 (0,0)):=(hw.block b hbl).trans hbk
 have c1:w.drew.cell? ⟨b,1,none⟩=some (.slice (some ⟨g,0,none⟩) l.length cap):=by
  have:w.drew.heap[b]?=some (.cells #[p,.slice (some ⟨g,0,none⟩) l.length cap] 126 (0,0)):=hbk2
  rw [Lib.cell_of_heap this];rfl
 have hSD:(Builtin.unsafeSliceData_ #[124] 153 #[.slice (some ⟨g,0,none⟩) l.length cap]).run Tryz.prog w.drew=.ok (.pointer (some ⟨g,0,none⟩)) w.drew:=
  Lib.run_unsafeSliceData_row _ _ _ _ _ _ (by omega)
 have hUS:(Builtin.unsafeString_ #[153,3] 9 #[.pointer (some ⟨g,0,none⟩),.int .i64 l.length]).run Tryz.prog w.drew=.ok (.string ⟨l.toArray⟩) (w.drew.freeze ⟨g,0,none⟩ l.length):=by
  refine Lib.run_unsafeString_row w.drew 153 3 9 5 Tryz.underlying153 (by kernel_rfl) g cur.size (by have hg':w.drew.heap[g]?=some (.cells cur 5 fz):=hg2;simp [World.shape?,hg']) l h0 (by omega) (by unfold maxLen at hcm;omega) ?_
  intro j x hx
  have hj:cur[j]?=some (.int .u8 x.toNat):=by
   have h1:(Lib.byteCells l)[j]?=some (.int .u8 x.toNat):=by simp [Lib.byteCells,hx]
   rw [<- htake] at h1
   have hjl:j<l.length*1:=by
    have:=(List.getElem?_eq_some_iff.1 hx).1;omega
   rw [List.getElem?_take_of_lt hjl] at h1
   rw [<- h1];simp
  have hg':w.drew.heap[g]?=some (.cells cur 5 fz):=hg2
  have e:((⟨g,0,none⟩:Addr).add j)=⟨g,j,none⟩:=by unfold Addr.add;split<;>simp_all
  rw [e,Lib.cell_of_heap hg'];exact hj
 have FB:=hid (Lib.below_freeze (Below.drew (Below.refl B w)) (p:=⟨g,0,none⟩) hbg l.length)
 have FK:Hid (∀ k,w0.heap.size<=k->(w.drew.freeze ⟨g,0,none⟩ l.length).heap[k]?=w.heap[k]?):=by
  intro k hk
  have hne':g≠k:=by omega
  unfold World.freeze
  split
  ·rfl
  ·show (Array.modify _ _ _)[k]?=_
   rw [Array.getElem?_modify,if_neg hne']
   rfl
 clear hg hbk hown hbk2 hg2 htake
 go_enter Tryz.func94,Tryz.ntmps94
 go_wp2
 go_region
 all_goals (go_wp2;go_ret;exact ⟨rfl,FB.out,FK.out⟩)
open Go.RowKit
mutual
def Inl.txB:Inl->Prop
 | .mk _ t _ _ _ _ _ ks=>t.size<=100000/\Inl.txBL ks
def Inl.txBL:List Inl->Prop
 | []=>True
 | x::l=>x.txB/\Inl.txBL l
end
theorem Inl.txBL_get:∀ (l:List Inl) (k:Nat) (x:Inl),Inl.txBL l->l[k]?=some x->x.txB
 | [],_,_,_,h=>by simp at h
 | y::l,0,x,hb,h=>by simp at h;subst h;rw [Inl.txBL] at hb;exact hb.1
 | y::l,k+1,x,hb,h=>by rw [Inl.txBL] at hb;exact Inl.txBL_get l k x hb.2 (by simpa using h)
structure Coll (w:World) (acc:List Inl) (v:Value) (rows:List (List Value)) (wr:World):Prop where
 own:wr.ownsRow w.heap.size 47 10 v acc.length rows.flatten
 red:RdL (fun b=>w.heap.size<=b/\v.ownBlock≠some b) wr (acc.map Inl.d) rows
 len:∀ r∈rows,r.length=10
 bel:Below w.heap.size w wr
theorem Coll.grown {w:World} {acc:List Inl} {v:Value} {rows:List (List Value)} {wr w':World} (h:Coll w acc v rows wr) (hg:wr.grownBy w' none):Coll w acc v rows w':=
 ⟨h.own.kept hg (by cases v.ownBlock<;>simp),RdL.keep (fun b hb hlt=>⟨hb,hg.block b hlt (by simp)⟩) _ _ h.red,h.len,h.bel.grown hg h.bel.size (by simp)⟩
theorem Coll.push {w w2 w7:World} {acc:List Inl} {v v':Value} {rows:List (List Value)} {x:Inl} {cs:List Value} {S:Nat} {o:Obj} (h:Coll w acc v rows w2) (hS:∀ g,v.ownBlock=some g->g<S) (hwS:w.heap.size<=S)
  (hx:Rd (S<=·) w2 x.d cs) (hl:cs.length=10) (hown:w7.ownsRow w.heap.size 47 10 v' (acc.length+1) (rows.flatten++cs)) (hg:(w2.alloc o).grownBy w7 v.ownBlock)
  (hat:v'.ownBlock=v.ownBlock\/v'.ownBlock=some (w2.heap.size+1)):Coll w (acc++[x]) v' (rows++[cs]) w7:=by
 have hv':∀ b,b<w2.heap.size->v.ownBlock≠some b->v'.ownBlock≠some b:=by
  intro b hb hne
  rcases hat with e | e
  ·rw [e];exact hne
  ·rw [e];intro h;have:=Option.some.inj h;omega
 have hh:∀ b,b<w2.heap.size->v.ownBlock≠some b->w7.heap[b]?=w2.heap[b]?:=fun b hb hne=>
  (hg.block b (by rw [World.size_alloc];omega) (fun e=>hne e.symm)).trans (Below.heap_alloc _ _ b hb)
 refine ⟨?_,?_,?_,below_app h.bel h.bel.size h.own hg⟩
 ·rw [List.length_append,List.flatten_append];simpa using hown
 ·rw [List.map_append]
  refine RdL.app (RdL.keep (fun b hb hlt'=>⟨⟨hb.1,hv' b hlt' hb.2⟩,hh b hlt' hb.2⟩) _ _ h.red) (RdL.one ?_)
  refine Rd.keep (fun b hb hlt'=>?_) _ _ hx
  have hne:v.ownBlock≠some b:=fun e=>by have:=hS b e;omega
  exact ⟨⟨by omega,hv' b hlt' hne⟩,hh b hlt' hne⟩
 ·intro r hr
  rcases List.mem_append.1 hr with hr | hr
  ·exact h.len r hr
  ·simp at hr;subst hr;exact hl
def MgRel (w:World) (l:List Inl) (v vi:Value) (wr:World):Prop:=
 ∃ (k:Nat) (rows:List (List Value)),k<=l.length/\vi=.int .i64 k/\Coll w (Inl.mergeL (l.take k)) v rows wr/\Edge l (Inl.mergeL (l.take k)) k
def MgIn (l out:List Inl) (k:Nat) (wr:World) (vi vf:Value) (wx:World):Prop:=
 ∃ (j:Nat) (fi:Int) (c:ByteArray),k<=j/\j<=l.length/\vi=.int .i64 j/\vf=.int .i64 fi/\Grp l out j fi c/\c.size<=j*100000/\Bd wr.heap.size wr.heap.size c.data.toList wx/\Below wr.heap.size wr wx
theorem emp_eq0 (s:ByteArray):s.toList.isEmpty=q06 s:=by
 rw [Lib.toList_data,Bool.eq_iff_iff,List.isEmpty_iff,q06,decide_eq_true_iff]
theorem inR_keep {ok ok':Nat->Prop} {w w':World} {at_:At} {ar:List ByteArray} {ci:List Ci} {ks:List Inl} {vc vp va vi vk:Value} (h:InR ok w at_ ar ci ks vc vp va vi vk) (hk:∀ b,ok b->b<w.heap.size->ok' b/\w'.heap[b]?=w.heap[b]?):InR ok' w' at_ ar ci ks vc vp va vi vk:=
 ⟨⟨Rd.keep hk _ _ h.at_.cls,Rd.keep hk _ _ h.at_.prs⟩,Rd.keep hk _ _ h.args,Rd.keep hk _ _ h.cites,Rd.keep hk _ _ h.kids⟩
theorem bytes_same (c:ByteArray):(⟨c.data.toList.toArray⟩:ByteArray)=c:=by cases c;simp
theorem neg_kd {a:Int} (h:a≠1):(a != 1)=true:=by simp [h]
theorem tMerge_any (n:Nat):∀ (l:List Inl) (B:Nat) (v:Value) (w:World),Inl.szL l<=n->n<=1000000->Rd (·<B) w (q0w l) [v]->B<=w.heap.size->Inl.bdL l->Inl.txBL l ->
  Calls Tryz.prog 62 #[v] w (LcPost w (Inl.mergeL l)):=by
 induction n using Nat.strongRecOn with
 | _ n ih=>
  intro l B v w hn hnm hrd hB hbd htx
  obtain ⟨iI,hiI,hzI0,hzI1,hzI2⟩:=info_parts infoIn
  obtain ⟨a,cap,hv,hs⟩:=Rd.sl_open hrd
  obtain rfl:v=.slice a l.length cap:=by simpa using hv
  have hcap:l.length<=cap:=by simpa using hs.le
  have hll:=Inl.len_le l
  have hmx:=hs.max
  unfold maxLen at hmx
  have HS:=hid hs
  have IH:=hid ih
  have HBD:=hid hbd
  have HTX:=hid htx
  have R0:Hid (MgRel w l (.slice none 0 0) (.int .i64 0) w):=⟨0,[],Nat.zero_le _,rfl,⟨q20 _ _ _ _,RdL.none,by simp,Below.refl _ _⟩,Edge.zero l⟩
  clear hs hv hrd ih hbd htx
  go_enter Tryz.func62,Tryz.ntmps62
  go_wp2
  go_loopw [3,4] (fun v vi wr=>MgRel w l v vi wr) (fun _ i _=>l.length-(intOf i).toNat)
  case atStart=>exact R0.out
  case round=>
   clear R0
   obtain ⟨k,rows,hk,rfl,hco,hed⟩:=hrel
   have hol:(Inl.mergeL (l.take k)).length<=k:=by
    have:=mergeA_len (l.take k) []
    unfold Inl.mergeL
    simp only [List.length_nil,List.length_take] at this
    omega
   obtain ⟨out,hout⟩:∃ out,out=Inl.mergeL (l.take k):=⟨_,rfl⟩
   have HOUT:=hid hout
   rw [<- hout] at hed hco hol
   obtain ⟨av,cv,rfl⟩:=q09 hco.own
   have HED:=hid hed
   have HCO:=hid hco
   clear hed hco hout
   by_cases hlt:k<l.length
   ·obtain ⟨x,hx⟩:∃ x,l[k]?=some x:=⟨_,List.getElem?_eq_getElem hlt⟩
    by_cases hkd:x.kd=1
    case neg=>
     obtain ⟨kd,t,d,ti,at_,ar,ci,ks⟩:=x
     have hkd:kd≠1:=hkd
     obtain ⟨g,off,vc,vp,va,vi,vk,rfl,hok,hbl,hc,hR⟩:=q1b (HS.out.below (HCO.out.bel.mono hB)) hx
     obtain ⟨aa,na,ca,rfl⟩:=Rd.sl_form hR.args
     obtain ⟨ai,ni,cai,rfl⟩:=Rd.sl_form hR.cites
     obtain ⟨ac,nc,cc,rfl⟩:=Rd.sl_form hR.at_.cls
     obtain ⟨ap,np,cp,rfl⟩:=Rd.sl_form hR.at_.prs
     obtain ⟨ak,nk,ck,rfl⟩:=Rd.sl_form hR.kids
     have hb1:=Inl.bdL_get l k _ HBD.out hx
     rw [Inl.bd] at hb1
     obtain ⟨hn1,hn2,hn3,hn4,hn5⟩:=hb1
     have ht1:=Inl.txBL_get l k _ HTX.out hx
     rw [Inl.txB] at ht1
     have hsz:=Inl.szL_get l k _ hx
     rw [Inl.sz] at hsz
     obtain ⟨c0,c1,c2,c3,c4,c5,c6,c7,c8,c9⟩:=hc
     have hbw:=HCO.out.bel.size
     have MI_:=hid (mergedInline_any kd t d ti at_ ar ci ks ac ap aa ai ak nc cc np cp na ca ni cai nk ck B wr hR (by omega) hn1 hn2 hn3 hn4 (fun v w2 h1 h2=>IH.out (Inl.szL ks) (by omega) ks B v w2 (Nat.le_refl _) (by omega) h1 h2 hn5 ht1.2))
     have hne:=neg_kd hkd
     have HX:=hid hx
     have HKD:=hid hkd
     have HT1:=hid ht1
     clear hkd hx hR hn1 hn2 hn3 hn4 hn5 ht1 hok hbl
     go_wp2_with fail
     refine MI_.out.mono ?_
     rintro e w2 ⟨ac1,nc1,cc1,ap1,np1,cp1,aa1,na1,ca1,ai1,ni1,cai1,ak1,nk1,ck1,rfl,hin,b2⟩
     have C2:=hid (HCO.out.grown (q02 b2))
     have HIN:=hid hin
     have hb2:=C2.out.bel.size
     clear MI_ hin c0 c1 c2 c3 c4 c5 c6 c7 c8 c9
     go_wp2_with (at_builtin;refine q08 _ rfl (.tmp 18) (.tmp 24) 38 rfl w.heap.size 47 iI _ 10 192 Tryz.underlying38 hiI hzI0 hzI1 hzI2 rfl (by decide) (.slice av out.length cv) out.length rows.flatten rfl (C2.out.own.alloc _) (w2.heap.size+1) (some ⟨w2.heap.size,0,none⟩) 1 1 [.int .i64 kd,.string t,.string d,.string ti,.string at_.id,.slice ac1 nc1 cc1,.slice ap1 np1 cp1,.slice aa1 na1 ca1,.slice ai1 ni1 cai1,.slice ak1 nk1 ck1] rfl ?g1 ?g2 ?g3 ?g4 ?g5 ?_)
     case g1=>exact ⟨rfl,fun _=>⟨_,rfl,by simp,q0o w2 [.int .i64 kd,.string t,.string d,.string ti,.string at_.id,.slice ac1 nc1 cc1,.slice ap1 np1 cp1,.slice aa1 na1 ca1,.slice ai1 ni1 cai1,.slice ak1 nk1 ck1] _⟩⟩
     case g2=>intro u hu;simp at hu;rcases hu with rfl | rfl | rfl | rfl | rfl | rfl | rfl | rfl | rfl | rfl<;>rfl
     case g3=>unfold maxLen;omega
     case g4=>omega
     case g5=>simp;omega
     intro v' w7 hown' hgrow hat
     have P7:=hid (C2.out.push (x:=Inl.mk kd t d ti at_ ar ci (Inl.mergeL ks)) (S:=wr.heap.size) (cs:=[.int .i64 kd,.string t,.string d,.string ti,.string at_.id,.slice ac1 nc1 cc1,.slice ap1 np1 cp1,.slice aa1 na1 ca1,.slice ai1 ni1 cai1,.slice ak1 nk1 ck1]) (fun g hg=>(HCO.out.own.lt g hg).2) hbw (Inl.mk_ kd t d ti HIN.out) rfl hown' hgrow (by simpa using hat))
     clear hown' hgrow hat
     go_wp2
     go_roundw
     case rel=>
      have hm:Inl.mergeL (l.take (k+1))=out++[Inl.mk kd t d ti at_ ar ci (Inl.mergeL ks)]:=by
       rw [mergeL_snoc HX.out,<- HOUT.out,addM_not _ _ (by rw [Inl.mergeX_kd];exact HKD.out),Inl.mergeX];rfl
      exact ⟨k+1,_,by omega,by go_num,by rw [hm];exact P7.out,by rw [hm];exact Edge.one HKD.out⟩
     case measure=>simp [intOf];omega
    obtain ⟨wo,hwo⟩:∃ wo,wo=wr:=⟨_,rfl⟩
    subst hwo
    obtain ⟨kd,t,d,ti,at_,ar,ci,ks⟩:=x
    have hkd:kd=1:=hkd
    subst hkd
    obtain ⟨g,off,vc,vp,va,vi,vk,rfl,hok,hbl,hc,hR⟩:=q1b (HS.out.below (HCO.out.bel.mono hB)) hx
    have c0:=hc.c0
    have HX:=hid hx
    obtain ⟨wb,hwb⟩:∃ wb,wb=wo.alloc (.cells #[.pointer none,.slice none 0 0] 126):=⟨_,rfl⟩
    have R1:Hid (MgIn l out k wo (.int .i64 k) (.int .i64 (-1)) wb):=by
     refine ⟨k,-1,⟨#[]⟩,Nat.le_refl _,hk,rfl,rfl,?_,Nat.zero_le _,?_,?_⟩
     ·rw [HOUT.out];exact Grp.start l k
     ·rw [hwb];exact ⟨Lib.IsBuilderF.of (Lib.fresh_isBuilder 126 5 wo),by simp⟩
     ·rw [hwb];exact (Below.refl _ wo).alloc (Nat.le_refl _) _
    clear hc hR hx hok hbl
    go_wp2
    rw [<- hwb]
    clear hwb
    go_loopw [4,5] (fun vi vf wx=>MgIn l out k wo vi vf wx) (fun i _ _=>l.length-(intOf i).toNat)
    case atStart=>exact R1.out
    case round=>
     clear R1 c0
     obtain ⟨j,fi,c,hkj,hj,rfl,rfl,hgr,hcs,hbd2,hbw2⟩:=hrel
     have HG:=hid hgr
     have HBD2:=hid hbd2
     clear hgr hbd2
     by_cases hjl:j<l.length
     ·obtain ⟨y,hy⟩:∃ y,l[j]?=some y:=⟨_,List.getElem?_eq_getElem hjl⟩
      obtain ⟨kd2,t2,d2,ti2,at2,ar2,ci2,ks2⟩:=y
      obtain ⟨g2,off2,vc2,vp2,va2,vi2,vk2,hag2,hok2,hbl2,hc2,hR2⟩:=q1b (HS.out.below ((HCO.out.grown (q02 hbw2)).bel.mono hB)) hy
      cases hag2
      obtain ⟨e0,e1,-,-,-,-,-,-,-,-⟩:=hc2
      have ht2:=Inl.txBL_get l j _ HTX.out hy
      rw [Inl.txB] at ht2
      have HY2:=hid hy
      have hts:=ht2.1
      clear hR2 hok2 hbl2 ht2 hy
      by_cases hk2:kd2=1
      ·subst hk2
       have WS:=hid (writeString_k wo.heap.size wo.heap.size (Lib.byteCells c.data.toList) t2 wr HBD2.out.1 (by rw [Lib.byteCells_length,<- Lib.size_eq];omega) HBD2.out.2)
       have hgr:=HG.out
       cases het:q06 t2 with
       | true=>
        have hie:t2.toList.isEmpty=true:=by rw [emp_eq0];exact het
        have NG:=hid (HG.out.skip HY2.out rfl het)
        rcases hgr with ⟨rfl,-⟩ | ⟨f,rfl,-⟩
        ·clear het
         go_wp2_with fail
         refine WS.out.mono ?_
         rintro e w3 ⟨rfl,hw3⟩
         have HW3:=hid hw3
         clear hw3
         go_wp2
         go_roundw
         case rel=>exact ⟨j+1,-1,c++t2,by omega,by omega,by go_num,by go_num,NG.out,by rw [ByteArray.size_append];omega,⟨by have:=HW3.out.1;rw [q1t,<- Lib.byteCells_append] at this;rw [ByteArray.data_append,Array.toList_append];exact this,Nat.le_trans HBD2.out.2 HW3.out.2.1.size⟩,hbw2.trans HW3.out.2.1⟩
         case measure=>simp [intOf];omega
        ·have hf0:decide ((f:Int)<0)=false:=by simp
         clear het
         go_wp2_with fail
         refine WS.out.mono ?_
         rintro e w3 ⟨rfl,hw3⟩
         have HW3:=hid hw3
         clear hw3
         go_wp2
         go_roundw
         case rel=>exact ⟨j+1,f,c++t2,by omega,by omega,by go_num,by go_num,NG.out,by rw [ByteArray.size_append];omega,⟨by have:=HW3.out.1;rw [q1t,<- Lib.byteCells_append] at this;rw [ByteArray.data_append,Array.toList_append];exact this,Nat.le_trans HBD2.out.2 HW3.out.2.1.size⟩,hbw2.trans HW3.out.2.1⟩
         case measure=>simp [intOf];omega
       | false=>
        have hie:t2.toList.isEmpty=false:=by rw [emp_eq0];exact het
        rcases hgr with ⟨rfl,-⟩ | ⟨f,rfl,-⟩
        ·have NG:=hid (HG.out.first HY2.out rfl het (HED.out _ HX.out rfl))
         clear het
         go_wp2_with fail
         refine WS.out.mono ?_
         rintro e w3 ⟨rfl,hw3⟩
         have HW3:=hid hw3
         clear hw3
         go_wp2
         go_roundw
         case rel=>exact ⟨j+1,j,c++t2,by omega,by omega,by go_num,by go_num,NG.out,by rw [ByteArray.size_append];omega,⟨by have:=HW3.out.1;rw [q1t,<- Lib.byteCells_append] at this;rw [ByteArray.data_append,Array.toList_append];exact this,Nat.le_trans HBD2.out.2 HW3.out.2.1.size⟩,hbw2.trans HW3.out.2.1⟩
         case measure=>simp [intOf];omega
        ·have NG:=hid (HG.out.more HY2.out rfl het)
         have hf0:decide ((f:Int)<0)=false:=by simp
         clear het
         go_wp2_with fail
         refine WS.out.mono ?_
         rintro e w3 ⟨rfl,hw3⟩
         have HW3:=hid hw3
         clear hw3
         go_wp2
         go_roundw
         case rel=>exact ⟨j+1,f,c++t2,by omega,by omega,by go_num,by go_num,NG.out,by rw [ByteArray.size_append];omega,⟨by have:=HW3.out.1;rw [q1t,<- Lib.byteCells_append] at this;rw [ByteArray.data_append,Array.toList_append];exact this,Nat.le_trans HBD2.out.2 HW3.out.2.1.size⟩,hbw2.trans HW3.out.2.1⟩
         case measure=>simp [intOf];omega
      ·have hkf:=beq_false_of_ne hk2
       have hstop:∀ x,l[j]?=some x->x.kd≠1:=fun x hx=>by
        rw [HY2.out] at hx
        cases hx;exact hk2
       have hjk:k<j:=by
        rcases Nat.lt_or_ge k j with h | h
        ·exact h
        ·obtain rfl:j=k:=by omega
         have:=HY2.out
         rw [HX.out] at this
         cases this
         exact absurd rfl hk2
       clear hk2
       have C1:=hid (HCO.out.grown (q02 hbw2))
       have hgr:=HG.out
       rcases hgr with ⟨rfl,hm,-⟩ | ⟨f,rfl,hfj,y,hy,hyk,hm,hcn⟩
       ·have HM:=hid hm
        clear hm
        go_wp2
        go_roundw
        case rel=>exact ⟨j,rows,hj,by go_num,by rw [HM.out];exact C1.out,Edge.stop hstop⟩
        case measure=>simp [intOf];omega
       ·obtain ⟨kd,t,d,ti,at_,ar,ci,ks⟩:=y
        have hyk:kd=1:=hyk
        subst hyk
        have hwx:=C1.out.bel.size
        obtain ⟨g,off,vc,vp,va,vi,vk,hag,hok,hbl,hc,hR⟩:=q1b (HS.out.below (C1.out.bel.mono hB)) hy
        obtain ⟨aa,na,ca,rfl⟩:=Rd.sl_form hR.args
        obtain ⟨ai,ni,cai,rfl⟩:=Rd.sl_form hR.cites
        obtain ⟨ac,nc,cc,rfl⟩:=Rd.sl_form hR.at_.cls
        obtain ⟨ap,np,cp,rfl⟩:=Rd.sl_form hR.at_.prs
        obtain ⟨ak,nk,ck,rfl⟩:=Rd.sl_form hR.kids
        have hb1:=Inl.bdL_get l f _ HBD.out hy
        rw [Inl.bd] at hb1
        obtain ⟨hn1,hn2,hn3,hn4,hn5⟩:=hb1
        have ht1:=Inl.txBL_get l f _ HTX.out hy
        rw [Inl.txB] at ht1
        have hsz:=Inl.szL_get l f _ hy
        rw [Inl.sz] at hsz
        obtain ⟨c0,c1,c2,c3,c4,c5,c6,c7,c8,c9⟩:=hc
        have MI_:=hid (mergedInline_any 1 t d ti at_ ar ci ks ac ap aa ai ak nc cc np cp na ca ni cai nk ck B wr hR (by omega) hn1 hn2 hn3 hn4 (fun v w2 h1 h2=>IH.out (Inl.szL ks) (by omega) ks B v w2 (Nat.le_refl _) (by omega) h1 h2 hn5 ht1.2))
        have HY:=hid hy
        have HM:=hid hm
        have HSTOP:=hid hstop
        have hf0:decide ((0:Int)<=(f:Int))=true:=by simp
        have hag':=hag.symm
        cases hag'
        clear hy hm hR hn1 hn2 hn3 hn4 hn5 ht1 hok hbl hstop
        go_wp2_with fail
        refine MI_.out.mono ?_
        rintro e w2 ⟨ac1,nc1,cc1,ap1,np1,cp1,aa1,na1,ca1,ai1,ni1,cai1,ak1,nk1,ck1,rfl,hin,b2⟩
        have C2:=hid (C1.out.grown (q02 b2))
        have HIN:=hid hin
        have B2:=hid b2
        have HBB:=hid hbw2
        have hb2:=b2.size
        obtain ⟨w4,hw4⟩:∃ w4,w4=w2.alloc (.cells #[.int .i64 1,.string t,.string d,.string ti,.string at_.id,.slice ac1 nc1 cc1,.slice ap1 np1 cp1,.slice aa1 na1 ca1,.slice ai1 ni1 cai1,.slice ak1 nk1 ck1] 47):=⟨_,rfl⟩
        have b4:Below w2.heap.size w2 w4:=by rw [hw4];exact (Below.refl _ _).alloc (Nat.le_refl _) _
        have P4:PB w2.heap.size [.int .i64 1,.string t,.string d,.string ti,.string at_.id,.slice ac1 nc1 cc1,.slice ap1 np1 cp1,.slice aa1 na1 ca1,.slice ai1 ni1 cai1,.slice ak1 nk1 ck1] w4:=by rw [hw4];exact heap_alloc_new w2 _
        have ST0:=bString_far wo.heap.size wo.heap.size c.data.toList wr w4 HBD2.out.1 (q01 b2 b4) hcn
        rw [bytes_same] at ST0
        have ST:=hid ST0
        have B4:=hid b4
        have HP4:=hid P4
        clear hin b2 b4 P4 ST0 MI_ hcn c0 c1 c2 c3 c4 c5 c6 c7 c8 c9 hbw2
        go_upto_region 16 with (fail)
        rw [<- hw4]
        clear hw4
        go_wp2_with fail
        refine ST.out.mono ?_
        rintro e w5 ⟨rfl,b5,k5⟩
        have B5:=hid b5
        have K5:=hid k5
        have P5:PB w2.heap.size [.int .i64 1,.string t,.string d,.string ti,.string at_.id,.slice ac1 nc1 cc1,.slice ap1 np1 cp1,.slice aa1 na1 ca1,.slice ai1 ni1 cai1,.slice ak1 nk1 ck1] w5:=(k5 _ hb2).trans HP4.out
        have HP5:=hid P5
        have d1:=P5.cell 1 _ rfl
        have f1:=P5.free 1
        clear b5 k5 P5 ST
        go_upto_region 17 with (fail)
        obtain ⟨w6,hw6⟩:∃ w6,w6=w5.setCell ⟨w2.heap.size,1,none⟩ (.string c):=⟨_,rfl⟩
        have P6:PB w2.heap.size [.int .i64 1,.string c,.string d,.string ti,.string at_.id,.slice ac1 nc1 cc1,.slice ap1 np1 cp1,.slice aa1 na1 ca1,.slice ai1 ni1 cai1,.slice ak1 nk1 ck1] w6:=by rw [hw6];exact HP5.out.set 1 _
        have BW4:=q01 HBB.out (q01 B2.out B4.out)
        have BW6:Below wo.heap.size wo w6:=by
         rw [hw6]
         exact (BW4.trans B5.out).setCell (p:=⟨w2.heap.size,1,none⟩) (Nat.le_trans HBB.out.size hb2) _
        have C6:=hid (HCO.out.grown (q02 BW6))
        have IN6:Hid (InR (wo.heap.size<=·) w6 at_ ar ci (Inl.mergeL ks) (.slice ac1 nc1 cc1) (.slice ap1 np1 cp1) (.slice aa1 na1 ca1) (.slice ai1 ni1 cai1) (.slice ak1 nk1 ck1)):=by
         refine inR_keep HIN.out (fun b hb hlt=>⟨Nat.le_trans HBB.out.size hb,?_⟩)
         rw [hw6,Below.heap_setCell w5 ⟨w2.heap.size,1,none⟩ _ b (by show b≠w2.heap.size;omega),K5.out b hb,B4.out.block b hlt]
        have e0:=P6.cell 0 _ rfl
        have e1:=P6.cell 1 _ rfl
        have e2:=P6.cell 2 _ rfl
        have e3:=P6.cell 3 _ rfl
        have e4:=P6.cell 4 _ rfl
        have e5:=P6.cell 5 _ rfl
        have e6:=P6.cell 6 _ rfl
        have e7:=P6.cell 7 _ rfl
        have e8:=P6.cell 8 _ rfl
        have e9:=P6.cell 9 _ rfl
        have hb6:=C6.out.bel.size
        rw [<- hw6]
        clear hw6 P6 BW4 BW6 d1 f1
        go_wp2_with (at_builtin;refine q08 _ rfl (.tmp 68) (.tmp 70) 38 rfl w.heap.size 47 iI _ 10 192 Tryz.underlying38 hiI hzI0 hzI1 hzI2 rfl (by decide) (.slice av out.length cv) out.length rows.flatten rfl (C6.out.own.alloc _) (w6.heap.size+1) (some ⟨w6.heap.size,0,none⟩) 1 1 [.int .i64 1,.string c,.string d,.string ti,.string at_.id,.slice ac1 nc1 cc1,.slice ap1 np1 cp1,.slice aa1 na1 ca1,.slice ai1 ni1 cai1,.slice ak1 nk1 ck1] rfl ?g1 ?g2 ?g3 ?g4 ?g5 ?_)
        case g1=>exact ⟨rfl,fun _=>⟨_,rfl,by simp,q0o w6 [.int .i64 1,.string c,.string d,.string ti,.string at_.id,.slice ac1 nc1 cc1,.slice ap1 np1 cp1,.slice aa1 na1 ca1,.slice ai1 ni1 cai1,.slice ak1 nk1 ck1] _⟩⟩
        case g2=>intro u hu;simp at hu;rcases hu with rfl | rfl | rfl | rfl | rfl | rfl | rfl | rfl | rfl | rfl<;>rfl
        case g3=>unfold maxLen;omega
        case g4=>omega
        case g5=>simp;omega
        intro v' w7 hown' hgrow hat
        have P7:=hid (C6.out.push (x:=Inl.mk 1 c d ti at_ ar ci (Inl.mergeL ks)) (S:=wo.heap.size) (cs:=[.int .i64 1,.string c,.string d,.string ti,.string at_.id,.slice ac1 nc1 cc1,.slice ap1 np1 cp1,.slice aa1 na1 ca1,.slice ai1 ni1 cai1,.slice ak1 nk1 ck1]) (fun g hg=>(HCO.out.own.lt g hg).2) HCO.out.bel.size (Inl.mk_ 1 c d ti IN6.out) rfl hown' hgrow (by simpa using hat))
        clear hown' hgrow hat
        go_wp2
        go_roundw
        case rel=>
         have hm:Inl.mergeL (l.take j)=out++[Inl.mk 1 c d ti at_ ar ci (Inl.mergeL ks)]:=by
          rw [HM.out,Inl.mergeX];rfl
         exact ⟨j,_,Nat.le_of_not_lt (by omega),by go_num,by rw [hm];exact P7.out,by rw [hm];exact Edge.stop HSTOP.out⟩
        case measure=>simp [intOf];omega
     ·have hje:j=l.length:=by omega
      subst hje
      have hstop:∀ x,l[l.length]?=some x->x.kd≠1:=fun x hx=>by simp at hx
      have C1:=hid (HCO.out.grown (q02 hbw2))
      have hgr:=HG.out
      rcases hgr with ⟨rfl,hm,-⟩ | ⟨f,rfl,hfj,y,hy,hyk,hm,hcn⟩
      ·have HM:=hid hm
       clear hm
       go_wp2
       go_roundw
       case rel=>exact ⟨l.length,rows,hj,by go_num,by rw [HM.out];exact C1.out,Edge.stop hstop⟩
       case measure=>simp [intOf];omega
      ·obtain ⟨kd,t,d,ti,at_,ar,ci,ks⟩:=y
       have hyk:kd=1:=hyk
       subst hyk
       have hwx:=C1.out.bel.size
       obtain ⟨g,off,vc,vp,va,vi,vk,hag,hok,hbl,hc,hR⟩:=q1b (HS.out.below (C1.out.bel.mono hB)) hy
       obtain ⟨aa,na,ca,rfl⟩:=Rd.sl_form hR.args
       obtain ⟨ai,ni,cai,rfl⟩:=Rd.sl_form hR.cites
       obtain ⟨ac,nc,cc,rfl⟩:=Rd.sl_form hR.at_.cls
       obtain ⟨ap,np,cp,rfl⟩:=Rd.sl_form hR.at_.prs
       obtain ⟨ak,nk,ck,rfl⟩:=Rd.sl_form hR.kids
       have hb1:=Inl.bdL_get l f _ HBD.out hy
       rw [Inl.bd] at hb1
       obtain ⟨hn1,hn2,hn3,hn4,hn5⟩:=hb1
       have ht1:=Inl.txBL_get l f _ HTX.out hy
       rw [Inl.txB] at ht1
       have hsz:=Inl.szL_get l f _ hy
       rw [Inl.sz] at hsz
       obtain ⟨c0,c1,c2,c3,c4,c5,c6,c7,c8,c9⟩:=hc
       have MI_:=hid (mergedInline_any 1 t d ti at_ ar ci ks ac ap aa ai ak nc cc np cp na ca ni cai nk ck B wr hR (by omega) hn1 hn2 hn3 hn4 (fun v w2 h1 h2=>IH.out (Inl.szL ks) (by omega) ks B v w2 (Nat.le_refl _) (by omega) h1 h2 hn5 ht1.2))
       have HY:=hid hy
       have HM:=hid hm
       have HSTOP:=hid hstop
       have hf0:decide ((0:Int)<=(f:Int))=true:=by simp
       have hag':=hag.symm
       cases hag'
       clear hy hm hR hn1 hn2 hn3 hn4 hn5 ht1 hok hbl hstop
       go_wp2_with fail
       refine MI_.out.mono ?_
       rintro e w2 ⟨ac1,nc1,cc1,ap1,np1,cp1,aa1,na1,ca1,ai1,ni1,cai1,ak1,nk1,ck1,rfl,hin,b2⟩
       have C2:=hid (C1.out.grown (q02 b2))
       have HIN:=hid hin
       have B2:=hid b2
       have HBB:=hid hbw2
       have hb2:=b2.size
       obtain ⟨w4,hw4⟩:∃ w4,w4=w2.alloc (.cells #[.int .i64 1,.string t,.string d,.string ti,.string at_.id,.slice ac1 nc1 cc1,.slice ap1 np1 cp1,.slice aa1 na1 ca1,.slice ai1 ni1 cai1,.slice ak1 nk1 ck1] 47):=⟨_,rfl⟩
       have b4:Below w2.heap.size w2 w4:=by rw [hw4];exact (Below.refl _ _).alloc (Nat.le_refl _) _
       have P4:PB w2.heap.size [.int .i64 1,.string t,.string d,.string ti,.string at_.id,.slice ac1 nc1 cc1,.slice ap1 np1 cp1,.slice aa1 na1 ca1,.slice ai1 ni1 cai1,.slice ak1 nk1 ck1] w4:=by rw [hw4];exact heap_alloc_new w2 _
       have ST0:=bString_far wo.heap.size wo.heap.size c.data.toList wr w4 HBD2.out.1 (q01 b2 b4) hcn
       rw [bytes_same] at ST0
       have ST:=hid ST0
       have B4:=hid b4
       have HP4:=hid P4
       clear hin b2 b4 P4 ST0 MI_ hcn c0 c1 c2 c3 c4 c5 c6 c7 c8 c9 hbw2
       go_upto_region 16 with (fail)
       rw [<- hw4]
       clear hw4
       go_wp2_with fail
       refine ST.out.mono ?_
       rintro e w5 ⟨rfl,b5,k5⟩
       have B5:=hid b5
       have K5:=hid k5
       have P5:PB w2.heap.size [.int .i64 1,.string t,.string d,.string ti,.string at_.id,.slice ac1 nc1 cc1,.slice ap1 np1 cp1,.slice aa1 na1 ca1,.slice ai1 ni1 cai1,.slice ak1 nk1 ck1] w5:=(k5 _ hb2).trans HP4.out
       have HP5:=hid P5
       have d1:=P5.cell 1 _ rfl
       have f1:=P5.free 1
       clear b5 k5 P5 ST
       go_upto_region 17 with (fail)
       obtain ⟨w6,hw6⟩:∃ w6,w6=w5.setCell ⟨w2.heap.size,1,none⟩ (.string c):=⟨_,rfl⟩
       have P6:PB w2.heap.size [.int .i64 1,.string c,.string d,.string ti,.string at_.id,.slice ac1 nc1 cc1,.slice ap1 np1 cp1,.slice aa1 na1 ca1,.slice ai1 ni1 cai1,.slice ak1 nk1 ck1] w6:=by rw [hw6];exact HP5.out.set 1 _
       have BW4:=q01 HBB.out (q01 B2.out B4.out)
       have BW6:Below wo.heap.size wo w6:=by
        rw [hw6]
        exact (BW4.trans B5.out).setCell (p:=⟨w2.heap.size,1,none⟩) (Nat.le_trans HBB.out.size hb2) _
       have C6:=hid (HCO.out.grown (q02 BW6))
       have IN6:Hid (InR (wo.heap.size<=·) w6 at_ ar ci (Inl.mergeL ks) (.slice ac1 nc1 cc1) (.slice ap1 np1 cp1) (.slice aa1 na1 ca1) (.slice ai1 ni1 cai1) (.slice ak1 nk1 ck1)):=by
        refine inR_keep HIN.out (fun b hb hlt=>⟨Nat.le_trans HBB.out.size hb,?_⟩)
        rw [hw6,Below.heap_setCell w5 ⟨w2.heap.size,1,none⟩ _ b (by show b≠w2.heap.size;omega),K5.out b hb,B4.out.block b hlt]
       have e0:=P6.cell 0 _ rfl
       have e1:=P6.cell 1 _ rfl
       have e2:=P6.cell 2 _ rfl
       have e3:=P6.cell 3 _ rfl
       have e4:=P6.cell 4 _ rfl
       have e5:=P6.cell 5 _ rfl
       have e6:=P6.cell 6 _ rfl
       have e7:=P6.cell 7 _ rfl
       have e8:=P6.cell 8 _ rfl
       have e9:=P6.cell 9 _ rfl
       have hb6:=C6.out.bel.size
       rw [<- hw6]
       clear hw6 P6 BW4 BW6 d1 f1
       go_wp2_with (at_builtin;refine q08 _ rfl (.tmp 68) (.tmp 70) 38 rfl w.heap.size 47 iI _ 10 192 Tryz.underlying38 hiI hzI0 hzI1 hzI2 rfl (by decide) (.slice av out.length cv) out.length rows.flatten rfl (C6.out.own.alloc _) (w6.heap.size+1) (some ⟨w6.heap.size,0,none⟩) 1 1 [.int .i64 1,.string c,.string d,.string ti,.string at_.id,.slice ac1 nc1 cc1,.slice ap1 np1 cp1,.slice aa1 na1 ca1,.slice ai1 ni1 cai1,.slice ak1 nk1 ck1] rfl ?g1 ?g2 ?g3 ?g4 ?g5 ?_)
       case g1=>exact ⟨rfl,fun _=>⟨_,rfl,by simp,q0o w6 [.int .i64 1,.string c,.string d,.string ti,.string at_.id,.slice ac1 nc1 cc1,.slice ap1 np1 cp1,.slice aa1 na1 ca1,.slice ai1 ni1 cai1,.slice ak1 nk1 ck1] _⟩⟩
       case g2=>intro u hu;simp at hu;rcases hu with rfl | rfl | rfl | rfl | rfl | rfl | rfl | rfl | rfl | rfl<;>rfl
       case g3=>unfold maxLen;omega
       case g4=>omega
       case g5=>simp;omega
       intro v' w7 hown' hgrow hat
       have P7:=hid (C6.out.push (x:=Inl.mk 1 c d ti at_ ar ci (Inl.mergeL ks)) (S:=wo.heap.size) (cs:=[.int .i64 1,.string c,.string d,.string ti,.string at_.id,.slice ac1 nc1 cc1,.slice ap1 np1 cp1,.slice aa1 na1 ca1,.slice ai1 ni1 cai1,.slice ak1 nk1 ck1]) (fun g hg=>(HCO.out.own.lt g hg).2) HCO.out.bel.size (Inl.mk_ 1 c d ti IN6.out) rfl hown' hgrow (by simpa using hat))
       clear hown' hgrow hat
       go_wp2
       go_roundw
       case rel=>
        have hm:Inl.mergeL (l.take l.length)=out++[Inl.mk 1 c d ti at_ ar ci (Inl.mergeL ks)]:=by
         rw [HM.out,Inl.mergeX];rfl
        exact ⟨l.length,_,Nat.le_of_not_lt (by omega),by go_num,by rw [hm];exact P7.out,by rw [hm];exact Edge.stop HSTOP.out⟩
       case measure=>simp [intOf];omega
   ·have hkl:k=l.length:=by omega
    subst hkl
    rw [List.take_length] at HOUT
    go_wp2
    go_ret
    have RED:=HCO.out.red
    rw [HOUT.out] at RED
    refine ⟨_,rfl,Rd.sl_own (rows:=rows) (B:=w.heap.size) (e:=47) ?_ (RdL.keep (fun b hb _=>⟨hb.1,rfl⟩) _ _ RED) HCO.out.len (fun g hg=>(HCO.out.own.lt g hg).1),HCO.out.bel⟩
    rw [List.length_map,<- HOUT.out];exact HCO.out.own
open Go.RowKit
end Go.Proofs.YtlbioncagkkkoaaGreatDoor

