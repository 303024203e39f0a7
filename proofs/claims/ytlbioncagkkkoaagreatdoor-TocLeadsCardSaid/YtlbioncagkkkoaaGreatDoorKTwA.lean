/- Contract of toc.Fill. The small case with which each statement of layer 24 ends: plain part. The small case with which each statement of layer 24 ends: it answers true. -/
import Derived.Test.YtlbioncagkkkoaaGreatDoorKTcX
import Derived.Test.YtlbioncagkkkoaaGreatDoorKPlSb
import Derived.Deep.RegionLaw
set_option maxHeartbeats 8000000
set_option maxRecDepth 100000
open Go.Lib (hid)
namespace Go.Proofs.YtlbioncagkkkoaaGreatDoor
open Go.RowKit Go.Maps
set_option linter.unusedVariables false
set_option linter.unusedSimpArgs false
theorem fill1_any (k lv:Int) (i t d ti id:ByteArray) (ac ap al ak:Option Addr) (nc cc np cp nl cl nk ck:Nat) (w:World) :
    Calls Tryz.prog 35 #[.agg #[.int .i64 k,.int .i64 lv,.string i,.string t,.string d,.string ti,.string id,.slice ac nc cc,.slice ap np cp,.slice al nl cl,.slice ak nk ck]] w fun e w'=>e=.returned (.slice none 0 0)/\Below w.heap.size w w':=by
  have HB:=hid ((Below.refl w.heap.size w).alloc (Nat.le_refl _) (.cells #[.int .i64 k,.int .i64 lv,.string i,.string t,.string d,.string ti,.string id,.slice ac nc cc,.slice ap np cp,.slice al nl cl,.slice ak nk ck] 53))
  go_enter Tryz.func35,Tryz.ntmps35
  go_wp2
  go_ret
  exact ⟨rfl,HB.out⟩
def FI1 (N pM:Nat) (o:Option Obj) (Fz:Nat->Prop) (wx:World):Prop:=(∀ b,¬ Fz b)/\N<=wx.heap.size/\wx.heap[pM]?=o
theorem kids1 {N pM:Nat} {o:Option Obj} (h:pM<N):KidsC 35 #[] (fun _=>[]) N pM (FI1 N pM o) where
  ent:=ent1
  lt:=fun Fz w hf b hb=>(hf.1 b hb).elim
  nlt:=fun Fz w hf=>hf.2.1
  pm:=h
  keep:=fun Fz w w' hf hb hs _=>⟨hf.1,Nat.le_trans hf.2.1 hs,(hb pM (.inl h)).trans hf.2.2⟩
  call:=fun Fz w k lv i t d ti at_ ac ap al ak nc cc np cp nl cl nk ck hf hA=>by
    refine (fill1_any k lv i t d ti at_.id ac ap al ak nc cc np cp nl cl nk ck w).mono ?_
    rintro e w' ⟨rfl,hb⟩
    exact ⟨.slice none 0 0,Fz,rfl,Rd.nil_mk _ _ _,q0e (q02 hb) _,⟨hf.1,Nat.le_trans hf.2.1 hb.size,(hb.block pM (Nat.lt_of_lt_of_le h hf.2.1)).trans hf.2.2⟩,fun b h=>h,fun b h=>.inl h⟩
theorem kids2 {N mb p5 p4:Nat} {v2:Value} {all:List En} (h1:mb<N) (h2:p5<N) (h3:p4<N) (h5:p5≠mb) (h4:p4≠mb) (hok:EnsOk all) :
    KidsC 36 #[.pointer (some ⟨p5,0,none⟩),.pointer (some ⟨p4,0,none⟩)] (fun a=>q1v (uptoE all (q1o a))) N mb (FlS N mb p5 p4 v2 all) where
  ent:=ent2
  lt:=fun Fz w hf b hb=>(hf.lt b hb).2
  nlt:=fun Fz w hf=>hf.n
  pm:=h1
  keep:=fun Fz w w' hf hb hs _=>hf.keep h1 h2 h3 hb hs
  call:=fun Fz w k lv i t d ti at_ ac ap al ak nc cc np cp nl cl nk ck hf hA=>fill2_any h1 h2 h3 h5 h4 hok Fz w k lv i t d ti at_ ac ap al ak nc cc np cp nl cl nk ck hf hA
theorem one_prsG (l:List Pr) (rs:List (List Value)) (ok:Nat->Prop) (w:World) (h:RdL ok w (l.map Pr.d) rs):∀ u∈rs.flatten,u.oneCell'=true:=by
  intro u hu
  obtain ⟨r,hr,hu⟩:=List.mem_flatten.1 hu
  obtain ⟨j,hj,rfl⟩:=List.mem_iff_getElem.1 hr
  have hj2:j<(l.map Pr.d).length:=by rw [<- h.len];exact hj
  obtain ⟨r',hr',hd⟩:=h.get j _ (List.getElem?_eq_getElem hj2)
  rw [List.getElem?_eq_getElem hj] at hr'
  obtain rfl:=Option.some.inj hr'
  rw [List.getElem_map] at hd
  rw [Pr.open_ hd] at hu
  simp at hu
  rcases hu with rfl | rfl<;>rfl
structure FdB (S:Nat) (vm vb:Value) (w wz:World):Prop where
  d:CB 25 S [vm,vb] wz
  r:CB 25 (S+1) [.slice none 0 0,.slice none 0 0] wz
  bel:Below S w wz
theorem FdB.grown {S:Nat} {vm vb:Value} {w wz wy:World} {row:Option Nat} (h:FdB S vm vb w wz) (hg:wz.grownBy wy row) (hr:∀ g,row=some g->S+2<=g):FdB S vm vb w wy:=
  ⟨q04 h.d hg (fun e=>by have:=hr S e.symm;omega),q04 h.r hg (fun e=>by have:=hr (S+1) e.symm;omega),h.bel.grown hg (Nat.le_of_lt h.d.lt) (fun g e=>by have:=hr g e;omega)⟩
def FillPost (w:World) (me:List Pr) (l:List Blk) (e:Ending) (w':World):Prop:=
  ∃ vm' vb',e=.returned (.agg #[vm',vb'])/\Rd (w.heap.size<=·) w' (prsD me) [vm']/\Rd (w.heap.size<=·) w' (q0x l) [vb']/\Below w.heap.size w w'
theorem fill_any (me:List Pr) (l:List Blk) (vm vb:Value) (w:World) (hm:Rd (·<w.heap.size) w (prsD me) [vm]) (hb:Rd (·<w.heap.size) w (q0x l) [vb]) (hd:DocW (bareL l)) (hok:EnsOk (allE l)) (hbd:Blk.bdL l) (hsz:Blk.szL l<=1000000) (hme:me.length<=1000000) (hPT:PT w) :
    Calls Tryz.prog 13 #[.agg #[vm,vb]] w (FillPost w me (fillL l)):=by
  obtain ⟨iP,hiP,hzP0,hzP1,hzP2⟩:=info_parts infoPr
  obtain ⟨am,cm,hvm,hsm⟩:=Rd.sl_open hm
  obtain ⟨mn,hmn⟩:∃ mn,mn=me.length:=⟨_,rfl⟩
  obtain rfl:vm=.slice am mn cm:=by rw [hmn];simpa using hvm
  obtain ⟨ab,nb,cb,rfl⟩:=Rd.slf hb
  obtain ⟨S,hS⟩:∃ S,S=w.heap.size:=⟨_,rfl⟩
  obtain ⟨W0,hW0⟩:∃ W,W=(w.alloc (.cells #[.slice am mn cm,.slice ab nb cb] 25)).alloc (.cells #[.slice none 0 0,.slice none 0 0] 25):=⟨_,rfl⟩
  have z0:W0.heap.size=S+2:=by rw [hW0,hS];simp
  have D0:FdB S (.slice am mn cm) (.slice ab nb cb) w W0:=by
    refine ⟨?_,?_,?_⟩
    · rw [hW0,hS];exact q04 (CB.new _ _ w) (World.grownBy_alloc _ _ none) (by simp)
    · have:=CB.new 25 [.slice none 0 0,.slice none 0 0] (w.alloc (.cells #[.slice am mn cm,.slice ab nb cb] 25))
      rw [World.size_alloc] at this
      rw [hW0,hS];exact this
    · rw [hW0,hS];exact ((Below.refl _ _).alloc (Nat.le_refl _) _).alloc (by simp) _
  have HMS:Hid (Rd (·<S) w (prsD me) [.slice am mn cm]):=by rw [hS];exact hm
  have HBS:Hid (Rd (·<S) w (q0x l) [.slice ab nb cb]):=by rw [hS];exact hb
  have W1:=hid (withKids_any (kids1 (N:=S+2) (pM:=S) (o:=W0.heap[S]?) (by omega)) 1000000 l S (.slice ab nb cb) (fun _=>False) W0 hsz (Nat.le_refl _) (HBS.out.below D0.bel) (Nat.le_refl _) hbd ⟨fun b h=>h,by omega,rfl⟩)
  have HD:=hid hd
  have HOK:=hid hok
  have HBD:=hid hbd
  have HPT:=hid hPT
  have HS:=hid hS
  have HD0:=hid D0
  have HW0:=hid hW0
  have HMN:=hid hmn
  have Z0:=hid z0
  have hmm:=@run_makeMap Tryz.prog
  have hsz':=hsz
  clear hm hb hd hok hbd hPT hvm hsm D0 hS hW0 hmn z0
  go_enter Tryz.func13,Tryz.ntmps13
  go_upto_region 1 with (fail)
  rw [<- HS.out,<- HW0.out]
  have x1:=HD0.out.d.cell 1 _ rfl
  go_wp2_with fail
  refine W1.out.mono ?_
  rintro e w1 ⟨v1,F1,rfl,hb1,hg1,⟨hf1,hn1,ho1⟩,-,-⟩
  have b1:Below W0.heap.size W0 w1:=⟨hg1.os,hg1.tape,hg1.output,hg1.size,fun b hb=>by
    by_cases e:b=S
    · rw [e];exact ho1
    · exact hg1.block b hb (fun e'=>e (Option.some.inj e'))⟩
  obtain ⟨a1,n1,c1,rfl⟩:=Rd.slf hb1
  have D1:=hid (HD0.out.grown (q02 b1) (by simp))
  have hpt1:PT w1:=HPT.out.grown (q02 (by rw [<- HS.out];exact D1.out.bel:Below w.heap.size w w1)) (by simp)
  have OF:=hid (of_any (bareL l) (.slice none 0 0) (.slice a1 n1 c1) 6 w1 ⟨_,_,_,rfl⟩ (hb1.inside.weaken (fun b hb=>hb.2)) HD.out hpt1)
  have hz1:=b1.size
  clear W1 hb1 hg1 hf1 hn1 ho1 b1 x1 HD HPT hpt1
  go_wp2_with fail
  (with_reducible refine OF.out.mono ?_)
  rintro e w2 ⟨v2,rfl,hE2,b2⟩
  change Rd (w1.heap.size<=·) w2 (ensD (allE l)) [v2] at hE2
  obtain ⟨a2,n2,c2,rfl⟩:=Rd.slf hE2
  obtain ⟨p4,hp4⟩:∃ p4,p4=w2.heap.size:=⟨_,rfl⟩
  obtain ⟨W3,hW3⟩:∃ W,W=((w2.alloc (.cells #[.slice a2 n2 c2] 29)).alloc (.map #[] 0)).alloc (.cells #[.map (some (p4+1))] 71):=⟨_,rfl⟩
  have z3:W3.heap.size=p4+3:=by rw [hW3,hp4];simp
  have g3:w2.grownBy W3 none:=by rw [hW3];exact q05 (q05 (World.grownBy_alloc _ _ none) (World.grownBy_alloc _ _ none)) (World.grownBy_alloc _ _ none)
  have k4:CB 29 p4 [.slice a2 n2 c2] W3:=by
    rw [hW3,hp4]
    exact q04 (q04 (CB.new _ _ w2) (World.grownBy_alloc _ _ none) (by simp)) (World.grownBy_alloc _ _ none) (by simp)
  have k5:CB 71 (p4+2) [.map (some (p4+1))] W3:=by
    have:=CB.new 71 [.map (some (p4+1))] ((w2.alloc (.cells #[.slice a2 n2 c2] 29)).alloc (.map #[] 0))
    rw [World.size_alloc,World.size_alloc,<- hp4] at this
    rw [hW3];exact this
  have mv:ValAt W3 (p4+1) 0 (fun _=>none):=by
    have h1:=ValAt.made (w2.alloc (.cells #[.slice a2 n2 c2] 29))
    rw [World.size_alloc,<- hp4] at h1
    rw [hW3]
    exact h1.same (Below.heap_alloc _ _ (p4+1) (by simp;omega))
  have hz2:=b2.size
  have en3:Rd (fun b=>b<p4+3/\b≠p4+1) W3 (ensD (allE l)) [.slice a2 n2 c2]:=
    Rd.keep (ok:=fun b=>w1.heap.size<=b/\b<w2.heap.size) (w:=w2) (fun b hb hlt=>⟨⟨by omega,by omega⟩,g3.block b hlt (by simp)⟩) _ _ hE2.inside
  have F3:FlS (p4+3) (p4+1) (p4+2) p4 (.slice a2 n2 c2) (allE l) (fun _=>False) W3:=
    ⟨by omega,fun b h=>h.elim,k5,k4,en3,0,_,mv,Nat.zero_le _,fun d v h=>by cases h⟩
  have D3:=hid ((D1.out.grown (q02 b2) (by simp)).grown g3 (by simp))
  have HF3:=hid F3
  have hSp:S+2<=p4:=by have:=Z0.out;omega
  have hF3n:p4+3<=W3.heap.size:=by omega
  clear hE2 b2 g3 k4 k5 mv en3 F3 OF D1 hz2
  have HP4:=hid hp4
  have HW3:=hid hW3
  have Z3:=hid z3
  have hmn2:mn<=1000000:=by rw [HMN.out];exact hme
  have META:Hid (∀ wz:World,Below S w wz->Rd (fun b=>b<S\/wz.heap.size<=b) wz (.sl 2 (me.map Pr.d)) [.slice am mn cm]):=fun wz h=>(HMS.out.below h).weaken (fun b hb=>.inl hb)
  have WK:Hid (∀ wz:World,FlS (p4+3) (p4+1) (p4+2) p4 (.slice a2 n2 c2) (allE l) (fun _=>False) wz->Below S w wz->Calls Tryz.prog 34 #[.slice ab nb cb,.func (.func 36) #[] #[.pointer (some ⟨p4+2,0,none⟩),.pointer (some ⟨p4,0,none⟩)]] wz (KcPost (FlS (p4+3) (p4+1) (p4+2) p4 (.slice a2 n2 c2) (allE l)) (p4+1) (fun _=>False) wz (fillL l))):=
    fun wz hf hb=>withKids_any (kids2 (by omega) (by omega) (by omega) (by omega) (by omega) HOK.out) 1000000 l S _ _ wz hsz' (Nat.le_refl _) (HBS.out.below hb) (by omega) HBD.out hf
  have HN0:Hid (([]:List D).length=0):=rfl
  have HNM:Hid ((me.map Pr.d).length=mn):=by show _=_;rw [List.length_map,HMN.out]
  have HFd:=hid (show FlS (p4+3) (p4+1) (p4+2) p4 (.slice a2 n2 c2) (allE l) (fun _=>False) W3.drew from HF3.out.grown (by omega) (by omega) (by omega) ⟨rfl,rfl,rfl,Nat.le_refl _,fun _ _ _=>rfl⟩)
  have HDd:=hid (show FdB S (.slice am mn cm) (.slice ab nb cb) w W3.drew from ⟨D3.out.d,D3.out.r,D3.out.bel.drew⟩)
  have FINAL:Hid (∀ (wE:World) (a5:Option Addr) (c5:Nat) (a7:Option Addr) (n7 c7:Nat),FdB S (.slice am mn cm) (.slice ab nb cb) w wE->Rd (p4<=·) wE (prsD me) [.slice a5 mn c5]->Rd (p4<=·) wE (q0x (fillL l)) [.slice a7 n7 c7] ->
      FillPost w me (fillL l) (.returned (.agg #[.slice a5 mn c5,.slice a7 n7 c7])) ((wE.setCell ⟨S+1,0,none⟩ (.slice a5 mn c5)).setCell ⟨S+1,1,none⟩ (.slice a7 n7 c7)) /\
      CB 25 (S+1) [.slice a5 mn c5,.slice a7 n7 c7] ((wE.setCell ⟨S+1,0,none⟩ (.slice a5 mn c5)).setCell ⟨S+1,1,none⟩ (.slice a7 n7 c7))):=by
    intro wE a5 c5 a7 n7 c7 hD hM hB
    have far:∀ b,b≠S+1->((wE.setCell ⟨S+1,0,none⟩ (.slice a5 mn c5)).setCell ⟨S+1,1,none⟩ (.slice a7 n7 c7)).heap[b]?=wE.heap[b]?:=fun b hb=>(Below.heap_setCell _ ⟨S+1,1,none⟩ _ b hb).trans (Below.heap_setCell _ ⟨S+1,0,none⟩ _ b hb)
    refine ⟨⟨_,_,rfl,?_,?_,?_⟩,cb_set (cb_set hD.r 0 _) 1 _⟩
    · exact Rd.keep (ok:=(p4<=·)) (w:=wE) (fun b (hb:p4<=b) _=>⟨by rw [<- HS.out];omega,far b (by omega)⟩) _ _ hM
    · exact Rd.keep (ok:=(p4<=·)) (w:=wE) (fun b (hb:p4<=b) _=>⟨by rw [<- HS.out];omega,far b (by omega)⟩) _ _ hB
    · rw [<- HS.out]
      exact (hD.bel.setCell (p:=⟨S+1,0,none⟩) (Nat.le_succ S) _).setCell (p:=⟨S+1,1,none⟩) (Nat.le_succ S) _
  clear hp4 hW3 z3
  go_upto_region 5 with (fail)
  rw [<- HP4.out,show p4+1+1=p4+2 from rfl,<- HW3.out]
  have x0:=D3.out.d.cell 0 _ rfl
  have x1:=D3.out.d.cell 1 _ rfl
  have hz3:=Z3.out
  have HZ3:Hid (p4<=W3.heap.size):=by show p4<=_;omega
  clear hz3 hmm
  go_region_law (first
    | (go_simp;go_at_call 34;(with_reducible refine (WK.out _ (by first | exact HFd.out | exact F5) (by first | exact HDd.out.bel | exact D5.bel)).mono ?_);rintro e w7 ⟨v7,F7,rfl,h7,g7,-,-,-⟩;obtain ⟨a7,n7,c7,rfl⟩:=Rd.slf h7;have D7:FdB S (.slice am mn cm) (.slice ab nb cb) w w7:=(by first | exact FdB.grown D5 g7 (fun g e=>by have:=Option.some.inj e;omega) | exact HDd.out.grown g7 (fun g e=>by have:=Option.some.inj e;omega));have y0:=D7.d.cell 0 _ rfl;have y1:=D7.d.cell 1 _ rfl;have u0:=D7.r.cell 0 _ rfl;have u1:=D7.r.cell 1 _ rfl;have f0:=q1c D7.r 0;have f1:=q1c D7.r 1)
    | (refine step_puts rfl (.const (.slice none 0 0)) (.tmp 16) 22 rfl iP _ 32 Tryz.underlying22 hiP hzP0 hzP1 hzP2 rfl (by decide) (RowU.nil 58 2 (fun b=>b<S) _) (fun b hb=>by first | exact Nat.lt_of_lt_of_le hb (Nat.le_of_lt (Nat.lt_trans (Nat.lt_succ_self S) HDd.out.r.lt)) | exact Nat.lt_of_lt_of_le hb (Nat.le_of_lt (Nat.lt_trans (Nat.lt_succ_self S) D7.r.lt))) (.slice am mn cm) (META.out _ (by first | exact HDd.out.bel | exact D7.bel)) (fun rs ok' h=>one_prsG me rs ok' _ h) HN0.out HNM.out (by omega) (by decide) rfl rfl ?_;intro a5 c5 rows5 w5 hrow5 hg5;rw [Nat.zero_add] at *;have D5:FdB S (.slice am mn cm) (.slice ab nb cb) w w5:=(by first | exact FdB.grown D7 hg5 (fun g e=>by cases e) | exact HDd.out.grown hg5 (fun g e=>by cases e));have F5:=(by first | exact HFd.out.grown (by omega) (by omega) (by omega) hg5 | exact True.intro);have y0:=D5.d.cell 0 _ rfl;have y1:=D5.d.cell 1 _ rfl;have u0:=D5.r.cell 0 _ rfl;have u1:=D5.r.cell 1 _ rfl;have f0:=q1c D5.r 0;have f1:=q1c D5.r 1))
  all_goals
    have hp43:=HZ3.out
    first
    | (have hg5':World.grownBy w7 w5 none:=hg5
       have g7':World.grownBy W3.drew w7 (some (p4+1)):=g7
       have hz7:W3.heap.size<=w7.heap.size:=g7'.size
       have hzz:=Z3.out
       have VM5:Rd (p4<=·) w5 (prsD me) [.slice a5 mn c5]:=Rd.sl_own (rows:=rows5) (B:=w7.heap.size) (e:=58) hrow5.own hrow5.red.prs_any hrow5.len (fun g hg=>by have:=(hrow5.own.lt g hg).1;omega)
       have VB5:Rd (p4<=·) w5 (q0x (fillL l)) [.slice a7 n7 c7]:=Rd.keep (ok:=(W3.heap.size<=·)) (w:=w7) (fun b (hb:W3.heap.size<=b) hlt=>⟨by omega,hg5'.block b hlt (by simp)⟩) _ _ h7
       obtain ⟨FP,FC⟩:=FINAL.out w5 a5 c5 a7 n7 c7 D5 VM5 VB5
       have FP:=hid FP
       have FC:=hid FC
       clear VM5 VB5 D5 D7 F5 h7 g7 hg5 hrow5 hzz
       go_wp2_with fail
       have r0:=FC.out.cell 0 _ rfl
       have r1:=FC.out.cell 1 _ rfl
       exact bodyPost_ret (v:=.agg #[.slice a5 mn c5,.slice a7 n7 c7]) (by simp [results,Tryz.results13,go_sem,r0,r1]) rfl FP.out)
    | (have g7':World.grownBy w5 w7 (some (p4+1)):=g7
       have hg5':World.grownBy W3.drew w5 none:=hg5
       have hz5:W3.heap.size<=w5.heap.size:=hg5'.size
       have hzz:=Z3.out
       have VM5:Rd (W3.heap.size<=·) w5 (prsD me) [.slice a5 mn c5]:=Rd.sl_own (rows:=rows5) (B:=W3.heap.size) (e:=58) hrow5.own hrow5.red.prs_any hrow5.len (fun g hg=>(hrow5.own.lt g hg).1)
       have VM7:Rd (p4<=·) w7 (prsD me) [.slice a5 mn c5]:=Rd.keep (ok:=(W3.heap.size<=·)) (w:=w5) (fun b (hb:W3.heap.size<=b) hlt=>⟨by omega,g7'.block b hlt (fun e=>by have:=Option.some.inj e;omega)⟩) _ _ VM5
       have VB7:Rd (p4<=·) w7 (q0x (fillL l)) [.slice a7 n7 c7]:=h7.weaken (fun b hb=>by have h9:w5.heap.size<=b:=hb;omega)
       obtain ⟨FP,FC⟩:=FINAL.out w7 a5 c5 a7 n7 c7 D7 VM7 VB7
       have FP:=hid FP
       have FC:=hid FC
       clear VM5 VM7 VB7 D5 D7 F5 h7 g7 hg5 hrow5 hzz
       go_wp2_with fail
       have r0:=FC.out.cell 0 _ rfl
       have r1:=FC.out.cell 1 _ rfl
       exact bodyPost_ret (v:=.agg #[.slice a5 mn c5,.slice a7 n7 c7]) (by simp [results,Tryz.results13,go_sem,r0,r1]) rfl FP.out)
open Go.RowKit
def awLn:List Inl:=[txI ⟨#[65,32]⟩,.mk 9 ⟨#[]⟩ ⟨#[120]⟩ ⟨#[]⟩ at0 [] [] [.mk 6 ⟨#[]⟩ ⟨#[]⟩ ⟨#[]⟩ at0 [] [] [txI ⟨#[98]⟩]],.mk 12 ⟨#[110]⟩ ⟨#[]⟩ ⟨#[]⟩ at0 [] [] []]
def awA:At:=⟨⟨#[97]⟩,[],[]⟩
def awH:Blk:=.mk 2 1 ⟨#[]⟩ ⟨#[]⟩ ⟨#[]⟩ ⟨#[]⟩ awA awLn []
def awD:Blk:=.mk 13 0 tocS ⟨#[]⟩ ⟨#[]⟩ ⟨#[]⟩ at0 [] []
def awT:List Blk:=[awH,awD]
theorem aw_ent:entL awLn=[txI ⟨#[65,32]⟩,.mk 6 ⟨#[]⟩ ⟨#[]⟩ ⟨#[]⟩ at0 [] [] [txI ⟨#[98]⟩]]:=by rfl
theorem aw_val:valS (cntUp ns0.c 1) 1=⟨#[49]⟩:=by
  have e:(cntUp ns0.c 1).take 1=[1]:=by rfl
  unfold valS
  rw [e]
  simp only [List.map_cons,List.map_nil]
  rw [Lib.decDigits_one (show 1<10 by decide)]
  rfl
theorem aw_one:(Blk.numL true ns0 awT).out=[⟨⟨#[97]⟩,secS,⟨#[49]⟩,awLn⟩]:=by
  rw [<- aw_val]
  rfl
theorem aw_notes:notesL awT=[]:=by rfl
theorem aw_nums:q25 awT=[⟨⟨#[97]⟩,secS,⟨#[49]⟩,awLn⟩]:=by
  unfold q25
  rw [aw_one,aw_notes];rfl
def awE1:En:=⟨1,⟨#[97]⟩,⟨#[49]⟩,[txI ⟨#[65,32]⟩,.mk 6 ⟨#[]⟩ ⟨#[]⟩ ⟨#[]⟩ at0 [] [] [txI ⟨#[98]⟩]],[]⟩
theorem aw_toc (n:Int) (h:1<=n):tocL (q25 awT) n=[awE1]:=by
  have hs:shownB n ⟨⟨#[97]⟩,secS,⟨#[49]⟩,awLn⟩=true:=by
    have h1:levB ⟨#[49]⟩=1:=by rfl
    unfold shownB
    rw [h1]
    simp [h]
    rfl
  rw [aw_nums]
  unfold tocL
  rw [List.filter_cons,if_pos hs,List.filter_nil,List.map_singleton]
  unfold entOf awE1
  rw [aw_ent];rfl
theorem aw_toc0:tocL (q25 awT) 0=[]:=by
  have hs:shownB 0 ⟨⟨#[97]⟩,secS,⟨#[49]⟩,awLn⟩=false:=by
    have h1:levB ⟨#[49]⟩=1:=by rfl
    unfold shownB
    rw [h1]
    simp
  rw [aw_nums]
  unfold tocL
  rw [List.filter_cons,if_neg (by rw [hs];simp),List.filter_nil];rfl
theorem aw_bare:bareL awT=awT:=by rfl
theorem aw_allE:allE awT=[awE1]:=by
  unfold allE
  rw [aw_bare,aw_toc 6 (by decide)]
theorem aw_fill:fillL awT=[awH,.mk 13 0 tocS ⟨#[]⟩ ⟨#[]⟩ ⟨#[]⟩ at0 [] (q1v [awE1])]:=by
  have h:fillK awT at0=q1v [awE1]:=by
    unfold fillK
    rw [aw_allE];rfl
  rw [<- h];rfl
theorem aw_list1:q1v [awE1]=[.mk 7 0 ⟨#[]⟩ ⟨#[]⟩ ⟨#[]⟩ ⟨#[]⟩ at0 [] [itemB awE1 []]]:=by
  unfold q1v
  rw [q14,List.takeWhile_nil,List.dropWhile_nil,q0f]
  unfold q1v
  rw [q0f];rfl
def awEn (n:Int):En:=⟨n,⟨#[]⟩,⟨#[]⟩,[],[]⟩
def awEs:List En:=[awEn 1,awEn 2,awEn 1]
theorem aw_list3:∃ i2,q1v awEs=[.mk 7 0 ⟨#[]⟩ ⟨#[]⟩ ⟨#[]⟩ ⟨#[]⟩ at0 [] [itemB (awEn 1) [i2],itemB (awEn 1) []]]:=by
  refine ⟨.mk 7 0 ⟨#[]⟩ ⟨#[]⟩ ⟨#[]⟩ ⟨#[]⟩ at0 [] [itemB (awEn 2) []],?_⟩
  have t1:[awEn 2,awEn 1].takeWhile (awEn 1).over=[awEn 2]:=by rfl
  have t2:[awEn 2,awEn 1].dropWhile (awEn 1).over=[awEn 1]:=by rfl
  have l0:q1v ([]:List En)=[]:=by unfold q1v;rw [q0f];rfl
  have l2:q1v [awEn 2]=[.mk 7 0 ⟨#[]⟩ ⟨#[]⟩ ⟨#[]⟩ ⟨#[]⟩ at0 [] [itemB (awEn 2) []]]:=by
    unfold q1v
    rw [q14,List.takeWhile_nil,List.dropWhile_nil,q0f,l0];rfl
  unfold awEs q1v
  rw [q14,t1,t2,l2,q14,List.takeWhile_nil,List.dropWhile_nil,q0f,l0];rfl
theorem sh_nil (n:Int):ShOk (awEn n):=by
  have h:q0z (awEn n)=[]:=by rfl
  refine ⟨by rw [h];simp [Inl.szL],by rw [h];simp [Inl.bdL],by rw [h];simp [Inl.txBL],?_,?_,by simp [awEn,Inl.bdL],by simp [awEn,Inl.szL]⟩
  · show (⟨#[]⟩:ByteArray).size<=1000000;decide
  · show (⟨#[]⟩:ByteArray).size<=100000;decide
theorem aw_ens:EnsOk awEs:=⟨by decide,fun x hx=>by
  simp [awEs] at hx
  rcases hx with rfl | rfl | rfl<;>exact sh_nil _⟩
theorem aw_sh1:ShOk awE1:=by
  have h:q0z awE1=[txI ⟨#[49,32]⟩,txI ⟨#[65,32]⟩,.mk 6 ⟨#[]⟩ ⟨#[]⟩ ⟨#[]⟩ at0 [] [] [txI ⟨#[98]⟩]]:=by rfl
  refine ⟨by rw [h];decide,by rw [h];simp [Inl.bdL,Inl.bd,txI,at0,Inl.szL,Inl.sz],?_,by decide,by decide,by simp [awE1,Inl.bdL,Inl.bd,txI,at0,Inl.szL,Inl.sz],by decide⟩
  rw [h]
  simp [Inl.txBL,Inl.txB,txI]
  decide
theorem aw_ens1:EnsOk (allE awT):=by
  rw [aw_allE]
  exact ⟨by decide,fun x hx=>by
    simp at hx;subst hx;exact aw_sh1⟩
theorem aw_docW:DocW awT where
  bd:=by simp [awT,awH,awD,Blk.bdL,Blk.bd,awA,at0,awLn,Inl.bdL,Inl.bd,txI,Inl.szL,Inl.sz]
  sz:=by decide
  ln:=by decide
  info:=by
    intro b hb
    have e:Blk.eachL awT=[awH,awD]:=by rfl
    rw [e] at hb
    simp at hb
    rcases hb with rfl | rfl
    · show (⟨#[]⟩:ByteArray).size<=1000;decide
    · show tocS.size<=1000;decide
  tx:=by
    intro x hx
    have e:Blk.inlsL awT=[txI ⟨#[65,32]⟩,.mk 9 ⟨#[]⟩ ⟨#[120]⟩ ⟨#[]⟩ at0 [] [] [.mk 6 ⟨#[]⟩ ⟨#[]⟩ ⟨#[]⟩ at0 [] [] [txI ⟨#[98]⟩]],.mk 6 ⟨#[]⟩ ⟨#[]⟩ ⟨#[]⟩ at0 [] [] [txI ⟨#[98]⟩],txI ⟨#[98]⟩,.mk 12 ⟨#[110]⟩ ⟨#[]⟩ ⟨#[]⟩ at0 [] [] []]:=by rfl
    rw [e] at hx
    simp at hx
    rcases hx with rfl | rfl | rfl | rfl | rfl<;>decide
  lines:=by
    intro b hb
    have e:Blk.eachL awT=[awH,awD]:=by rfl
    rw [e] at hb
    simp at hb
    rcases hb with rfl | rfl
    · refine ⟨by decide,by simp [awH,Blk.lineOf,awLn,Inl.bdL,Inl.bd,txI,at0,Inl.szL,Inl.sz],?_,?_,by decide⟩
      · simp [awH,Blk.lineOf,awLn,Inl.txBL,Inl.txB,txI]
        decide
      · simp [awH,Blk.lineOf,awLn,Inl.kdwL,Inl.kdw,txI]
    · exact LnOk.nil
open Go.RowKit
theorem litN {T:TypeId} {k n n1:Nat} {w:World} {ds:List D} {rows:List (List Value)} (hn:ds.length=n) (hr:∀ r∈rows,r.length=k) (hx:RdL (n1<=·) w ds rows) (h1:n1<=w.heap.size) (hm:n<=maxLen) :
    Rd (n1<=·) (w.alloc (.cells rows.flatten.toArray T)) (.sl k ds) [.slice (some ⟨w.heap.size,0,none⟩) n n]:=by
  subst hn
  have hl:rows.flatten.length=ds.length*k:=by rw [flat_len k rows hr,hx.len]
  refine Rd.sl_own (rows:=rows) (B:=w.heap.size) (e:=T) ⟨hl,.inr ⟨w.heap.size,ds.length,rows.flatten.toArray,rfl,Nat.le_refl _,heap_alloc_new w _,Nat.le_refl _,hm,by simp [hl],?_⟩⟩ (RdL.keep (fun b hb hlt=>⟨hb,Below.heap_alloc w _ b hlt⟩) _ _ hx) hr (fun g hg=>by
    have e1:w.heap.size=g:=by simpa [Value.ownBlock] using hg
    omega)
  show List.take _ rows.flatten=_
  rw [<- hl]
  exact List.take_length
def tR (t:ByteArray):List Value:=[.int .i64 1,.string t,.string ⟨#[]⟩,.string ⟨#[]⟩,.string ⟨#[]⟩,.slice none 0 0,.slice none 0 0,.slice none 0 0,.slice none 0 0,.slice none 0 0]
def kR (k:Int) (t d:ByteArray) (g:Nat):List Value:=[.int .i64 k,.string t,.string d,.string ⟨#[]⟩,.string ⟨#[]⟩,.slice none 0 0,.slice none 0 0,.slice none 0 0,.slice none 0 0,.slice (some ⟨g,0,none⟩) 1 1]
def nR:List Value:=[.int .i64 12,.string ⟨#[110]⟩,.string ⟨#[]⟩,.string ⟨#[]⟩,.string ⟨#[]⟩,.slice none 0 0,.slice none 0 0,.slice none 0 0,.slice none 0 0,.slice none 0 0]
def hR (g:Nat):List Value:=[.int .i64 2,.int .i64 1,.string ⟨#[]⟩,.string ⟨#[]⟩,.string ⟨#[]⟩,.string ⟨#[]⟩,.string ⟨#[97]⟩,.slice none 0 0,.slice none 0 0,.slice (some ⟨g,0,none⟩) 3 3,.slice none 0 0]
def dR:List Value:=[.int .i64 13,.int .i64 0,.string ⟨#[116,111,99]⟩,.string ⟨#[]⟩,.string ⟨#[]⟩,.string ⟨#[]⟩,.string ⟨#[]⟩,.slice none 0 0,.slice none 0 0,.slice none 0 0,.slice none 0 0]
theorem aw_laid (w:World) (W1 W2 W3 W4:World) (h1:W1=w.alloc (.cells [tR ⟨#[98]⟩].flatten.toArray 47)) (h2:W2=W1.alloc (.cells [kR 6 ⟨#[]⟩ ⟨#[]⟩ w.heap.size].flatten.toArray 47))
    (h3:W3=W2.alloc (.cells [tR ⟨#[65,32]⟩,kR 9 ⟨#[]⟩ ⟨#[120]⟩ (w.heap.size+1),nR].flatten.toArray 47)) (h4:W4=W3.alloc (.cells [hR (w.heap.size+2),dR].flatten.toArray 53)) :
    Rd (w.heap.size<=·) W4 (q0x awT) [.slice (some ⟨w.heap.size+3,0,none⟩) 2 2]:=by
  have z1:W1.heap.size=w.heap.size+1:=by rw [h1,World.size_alloc]
  have z2:W2.heap.size=w.heap.size+2:=by rw [h2,World.size_alloc,z1]
  have z3:W3.heap.size=w.heap.size+3:=by rw [h3,World.size_alloc,z2]
  have r1:Rd (w.heap.size<=·) W1 (q0w [txI ⟨#[98]⟩]) [.slice (some ⟨w.heap.size,0,none⟩) 1 1]:=by
    rw [h1]
    exact litN (k:=10) (ds:=[txI ⟨#[98]⟩].map Inl.d) rfl (by simp [tR]) (RdL.one (tx_nil _ _ _)) (Nat.le_refl _) (by unfold maxLen;omega)
  have r2:Rd (w.heap.size<=·) W2 (q0w [(.mk 6 ⟨#[]⟩ ⟨#[]⟩ ⟨#[]⟩ at0 [] [] [txI ⟨#[98]⟩]:Inl)]) [.slice (some ⟨w.heap.size+1,0,none⟩) 1 1]:=by
    rw [h2,<- z1]
    exact litN (k:=10) (ds:=[(.mk 6 ⟨#[]⟩ ⟨#[]⟩ ⟨#[]⟩ at0 [] [] [txI ⟨#[98]⟩]:Inl)].map Inl.d) rfl (by simp [kR]) (RdL.one (Inl.mk_ 6 ⟨#[]⟩ ⟨#[]⟩ ⟨#[]⟩ (a:=at0) ⟨⟨Rd.nil_mk _ _ _,Rd.nil_mk _ _ _⟩,Rd.nil_mk _ _ _,Rd.nil_mk _ _ _,r1⟩)) (by omega) (by unfold maxLen;omega)
  have r3:Rd (w.heap.size<=·) W3 (q0w awLn) [.slice (some ⟨w.heap.size+2,0,none⟩) 3 3]:=by
    rw [h3,<- z2]
    exact litN (k:=10) (ds:=awLn.map Inl.d) rfl (by simp [tR,kR,nR]) (RdL.cons (tx_nil _ _ _) (RdL.cons (Inl.mk_ 9 ⟨#[]⟩ ⟨#[120]⟩ ⟨#[]⟩ (a:=at0) ⟨⟨Rd.nil_mk _ _ _,Rd.nil_mk _ _ _⟩,Rd.nil_mk _ _ _,Rd.nil_mk _ _ _,r2⟩)
      (RdL.one (Inl.mk_ 12 ⟨#[110]⟩ ⟨#[]⟩ ⟨#[]⟩ (a:=at0) ⟨⟨Rd.nil_mk _ _ _,Rd.nil_mk _ _ _⟩,Rd.nil_mk _ _ _,Rd.nil_mk _ _ _,Rd.nil_mk _ _ _⟩)))) (by omega) (by unfold maxLen;omega)
  rw [h4,<- z3]
  exact litN (k:=11) (ds:=awT.map Blk.d) rfl (by simp [hR,dR]) (RdL.cons (Blk.mk_ 2 1 ⟨#[]⟩ ⟨#[]⟩ ⟨#[]⟩ ⟨#[]⟩ (a:=awA) ⟨⟨Rd.nil_mk _ _ _,Rd.nil_mk _ _ _⟩,r3,Rd.nil_mk _ _ _⟩)
    (RdL.one (Blk.mk_ 13 0 tocS ⟨#[]⟩ ⟨#[]⟩ ⟨#[]⟩ (a:=at0) ⟨⟨Rd.nil_mk _ _ _,Rd.nil_mk _ _ _⟩,Rd.nil_mk _ _ _,Rd.nil_mk _ _ _⟩))) (by omega) (by unfold maxLen;omega)
def eR (n:Int):List Value:=[.int .i64 n,.string ⟨#[]⟩,.string ⟨#[]⟩,.slice none 0 0,.slice none 0 0]
theorem eR_rd (ok:Nat->Prop) (w:World) (n:Int):Rd ok w (awEn n).d (eR n):=En.mk_ (awEn n) ⟨Rd.nil_mk _ _ _,Rd.nil_mk _ _ _⟩
theorem awake_any (w:World) (hPT:PT w):Calls Tryz.prog 8 #[] w fun e w'=>e=.returned (.bool true)/\Below w.heap.size w w':=by
  obtain ⟨S,hS⟩:∃ S,S=w.heap.size:=⟨_,rfl⟩
  obtain ⟨W5,hW5⟩:∃ W,W=(((((w.alloc (.cells #[.int .i64 1,.string ⟨#[98]⟩,.string ⟨#[]⟩,.string ⟨#[]⟩,.string ⟨#[]⟩,.slice none 0 0,.slice none 0 0,.slice none 0 0,.slice none 0 0,.slice none 0 0] 47)).alloc (.cells #[.int .i64 6,.string ⟨#[]⟩,.string ⟨#[]⟩,.string ⟨#[]⟩,.string ⟨#[]⟩,.slice none 0 0,.slice none 0 0,.slice none 0 0,.slice none 0 0,.slice (some ⟨S,0,none⟩) 1 1] 47)).alloc (.cells #[.int .i64 1,.string ⟨#[65,32]⟩,.string ⟨#[]⟩,.string ⟨#[]⟩,.string ⟨#[]⟩,.slice none 0 0,.slice none 0 0,.slice none 0 0,.slice none 0 0,.slice none 0 0,.int .i64 9,.string ⟨#[]⟩,.string ⟨#[120]⟩,.string ⟨#[]⟩,.string ⟨#[]⟩,.slice none 0 0,.slice none 0 0,.slice none 0 0,.slice none 0 0,.slice (some ⟨S+1,0,none⟩) 1 1,.int .i64 12,.string ⟨#[110]⟩,.string ⟨#[]⟩,.string ⟨#[]⟩,.string ⟨#[]⟩,.slice none 0 0,.slice none 0 0,.slice none 0 0,.slice none 0 0,.slice none 0 0] 47)).alloc (.cells #[.int .i64 2,.int .i64 1,.string ⟨#[]⟩,.string ⟨#[]⟩,.string ⟨#[]⟩,.string ⟨#[]⟩,.string ⟨#[97]⟩,.slice none 0 0,.slice none 0 0,.slice (some ⟨S+2,0,none⟩) 3 3,.slice none 0 0,.int .i64 13,.int .i64 0,.string ⟨#[116,111,99]⟩,.string ⟨#[]⟩,.string ⟨#[]⟩,.string ⟨#[]⟩,.string ⟨#[]⟩,.slice none 0 0,.slice none 0 0,.slice none 0 0,.slice none 0 0] 53)).alloc (.cells #[.slice none 0 0,.slice (some ⟨S+3,0,none⟩) 2 2] 25)):=⟨_,rfl⟩
  have z5:W5.heap.size=S+5:=by rw [hW5,hS];simp
  have b5:Below S w W5:=by
    rw [hW5,hS]
    exact (((((Below.refl _ w).alloc (Nat.le_refl _) _).alloc (by simp) _).alloc (by simp;omega) _).alloc (by simp;omega) _).alloc (by simp;omega) _
  have hL:Rd (S<=·) W5 (q0x awT) [.slice (some ⟨S+3,0,none⟩) 2 2]:=by
    have h:=aw_laid w _ _ _ _ rfl rfl rfl rfl
    rw [<- hS] at h
    have h2:=h.up0 ((Below.refl _ _).alloc (Nat.le_refl _) (.cells #[.slice none 0 0,.slice (some ⟨S+3,0,none⟩) 2 2] 25))
    rw [hW5]
    rw [hS]
    rw [hS] at h2
    exact h2
  have kD:CB 25 (S+4) [.slice none 0 0,.slice (some ⟨S+3,0,none⟩) 2 2] W5:=by
    have:=CB.new 25 [.slice none 0 0,.slice (some ⟨S+3,0,none⟩) 2 2] ((((w.alloc (.cells #[.int .i64 1,.string ⟨#[98]⟩,.string ⟨#[]⟩,.string ⟨#[]⟩,.string ⟨#[]⟩,.slice none 0 0,.slice none 0 0,.slice none 0 0,.slice none 0 0,.slice none 0 0] 47)).alloc (.cells #[.int .i64 6,.string ⟨#[]⟩,.string ⟨#[]⟩,.string ⟨#[]⟩,.string ⟨#[]⟩,.slice none 0 0,.slice none 0 0,.slice none 0 0,.slice none 0 0,.slice (some ⟨S,0,none⟩) 1 1] 47)).alloc (.cells #[.int .i64 1,.string ⟨#[65,32]⟩,.string ⟨#[]⟩,.string ⟨#[]⟩,.string ⟨#[]⟩,.slice none 0 0,.slice none 0 0,.slice none 0 0,.slice none 0 0,.slice none 0 0,.int .i64 9,.string ⟨#[]⟩,.string ⟨#[120]⟩,.string ⟨#[]⟩,.string ⟨#[]⟩,.slice none 0 0,.slice none 0 0,.slice none 0 0,.slice none 0 0,.slice (some ⟨S+1,0,none⟩) 1 1,.int .i64 12,.string ⟨#[110]⟩,.string ⟨#[]⟩,.string ⟨#[]⟩,.string ⟨#[]⟩,.slice none 0 0,.slice none 0 0,.slice none 0 0,.slice none 0 0,.slice none 0 0] 47)).alloc (.cells #[.int .i64 2,.int .i64 1,.string ⟨#[]⟩,.string ⟨#[]⟩,.string ⟨#[]⟩,.string ⟨#[]⟩,.string ⟨#[97]⟩,.slice none 0 0,.slice none 0 0,.slice (some ⟨S+2,0,none⟩) 3 3,.slice none 0 0,.int .i64 13,.int .i64 0,.string ⟨#[116,111,99]⟩,.string ⟨#[]⟩,.string ⟨#[]⟩,.string ⟨#[]⟩,.string ⟨#[]⟩,.slice none 0 0,.slice none 0 0,.slice none 0 0,.slice none 0 0] 53))
    rw [World.size_alloc,World.size_alloc,World.size_alloc,World.size_alloc,<- hS] at this
    rw [hW5];exact this
  have HL:=hid hL
  have KD:=hid kD
  have B5:=hid b5
  have HPT:=hid hPT
  have HS:=hid hS
  have HW5:=hid hW5
  have Z5:=hid z5
  clear hL kD b5 hPT hS hW5 z5
  go_enter Tryz.func8,Tryz.ntmps8
  go_upto_region 3 with (fail)
  rw [<- HS.out,show S+1+1=S+2 from rfl,show S+2+1=S+3 from rfl,show S+3+1=S+4 from rfl,<- HW5.out]
  have hz5:W5.heap.size=S+5:=Z5.out
  have PT5:Hid (PT W5):=HPT.out.grown (q02 (by rw [<- HS.out];exact B5.out:Below w.heap.size w W5)) (by simp)
  have OF:=hid (of_any awT (.slice none 0 0) (.slice (some ⟨S+3,0,none⟩) 2 2) 3 W5 ⟨_,_,_,rfl⟩ (HL.out.inside.weaken (fun b hb=>hb.2)) aw_docW PT5.out)
  rw [aw_toc 3 (by decide)] at OF
  have x0:=KD.out.cell 0 _ rfl
  have x1:=KD.out.cell 1 _ rfl
  clear hz5
  go_wp2_with fail
  (with_reducible refine OF.out.mono ?_)
  rintro e w6 ⟨v6,rfl,h6,b6⟩
  obtain ⟨a6,c6,hv6,hs6⟩:=Rd.sl_open h6
  obtain rfl:v6=.slice a6 1 c6:=by simpa using hv6
  have hcap6:1<=c6:=by simpa using hs6.le
  obtain ⟨g6,o6,vl6,vr6,rfl,-,hg6,d0,d1,d2,d3,d4,hER⟩:=ens_at hs6 (k:=0) (x:=awE1) rfl
  obtain ⟨al6,cl6,hvl,-⟩:=Rd.sl_open hER.line
  obtain rfl:vl6=.slice al6 2 cl6:=by simpa [awE1] using hvl
  have KD6:=hid (KD.out.below (b6.mono (by have:=KD.out.lt;omega)))
  have B6:=hid (B5.out.trans (b6.mono (by have:=Z5.out;omega)))
  have HL6:=hid (HL.out.up0 b6)
  have PT6:Hid (PT w6):=PT5.out.grown (q02 b6) (by simp)
  have hz6:=b6.size
  change w6.cell? ⟨g6,o6+0*5,none⟩=some (.int .i64 1) at d0
  change w6.cell? ⟨g6,o6+0*5+1,none⟩=some (.string ⟨#[97]⟩) at d1
  change w6.cell? ⟨g6,o6+0*5+2,none⟩=some (.string ⟨#[49]⟩) at d2
  rw [Nat.zero_mul,Nat.add_zero] at d0 d1 d2 d3 d4
  have D0:=hid d0
  have D1:=hid d1
  have D2:=hid d2
  have D3:=hid d3
  clear OF h6 b6 hv6 hs6 hER hvl x0 x1 d0 d1 d2 d3 d4
  obtain ⟨w7,hw7⟩:∃ w7,w7=(w6.alloc (.cells #[.int .i64 1,.string ⟨#[]⟩,.string ⟨#[]⟩,.slice none 0 0,.slice none 0 0,.int .i64 2,.string ⟨#[]⟩,.string ⟨#[]⟩,.slice none 0 0,.slice none 0 0,.int .i64 1,.string ⟨#[]⟩,.string ⟨#[]⟩,.slice none 0 0,.slice none 0 0] 42)):=⟨_,rfl⟩
  have b7:Below w6.heap.size w6 w7:=by rw [hw7];exact (Below.refl _ _).alloc (Nat.le_refl _) _
  have h7:Rd (w6.heap.size<=·) w7 (ensD awEs) [.slice (some ⟨w6.heap.size,0,none⟩) 3 3]:=by
    rw [hw7]
    exact litN (k:=5) (ds:=awEs.map En.d) (rows:=[eR 1,eR 2,eR 1]) rfl (by simp [eR]) (RdL.cons (eR_rd _ _ _) (RdL.cons (eR_rd _ _ _) (RdL.one (eR_rd _ _ _)))) (Nat.le_refl _) (by unfold maxLen;omega)
  have LS:=hid (tocList_any awEs (.slice (some ⟨w6.heap.size,0,none⟩) 3 3) w7 (h7.inside.weaken (fun b hb=>hb.2)) aw_ens)
  have HW7:=hid hw7
  have B7:=hid b7
  clear hw7 b7 h7
  go_upto_region 4 with (fail)
  go_wp2_with fail
  rw [<- HW7.out]
  (with_reducible refine LS.out.mono ?_)
  rintro e w8 ⟨v8,rfl,h8,b8⟩
  obtain ⟨i2,hl3⟩:=aw_list3
  rw [hl3] at h8
  obtain ⟨a8,c8,hv8,hs8⟩:=Rd.sl_open h8
  obtain rfl:v8=.slice a8 1 c8:=by simpa using hv8
  have hcap8:1<=c8:=by simpa using hs8.le
  obtain ⟨g8,o8,vc8,vp8,vl8,vk8,rfl,-,hg8,hc8,hR8⟩:=q1w hs8 (k:=0) rfl
  obtain ⟨ak8,ck8,hvk8,hsk8⟩:=Rd.sl_open hR8.kids
  obtain rfl:vk8=.slice ak8 2 ck8:=by simpa using hvk8
  have hcapk8:2<=ck8:=by simpa using hsk8.le
  obtain ⟨g9,o9,vc9,vp9,vl9,vk9,rfl,-,hg9,hc9,hR9⟩:=q1w hsk8 (k:=0) rfl
  obtain ⟨ak9,ck9,hvk9,-⟩:=Rd.sl_open hR9.kids
  obtain rfl:vk9=.slice ak9 2 ck9:=by simpa using hvk9
  have e10:=hc8.c10
  have f10:=hc9.c10
  rw [Nat.zero_mul,Nat.add_zero] at e10 f10
  have b68:=q01 B7.out b8
  have d0:w8.cell? ⟨g6,o6,none⟩=_:=(b68.cell (p:=⟨g6,o6,none⟩) hg6).trans D0.out
  have d1:w8.cell? ⟨g6,o6+1,none⟩=_:=(b68.cell (p:=⟨g6,o6+1,none⟩) hg6).trans D1.out
  have d2:w8.cell? ⟨g6,o6+2,none⟩=_:=(b68.cell (p:=⟨g6,o6+2,none⟩) hg6).trans D2.out
  have d3:w8.cell? ⟨g6,o6+3,none⟩=_:=(b68.cell (p:=⟨g6,o6+3,none⟩) hg6).trans D3.out
  have KD8:=hid (KD6.out.below b68)
  have B8:=hid (B6.out.trans (b68.mono (by have:=B6.out.size;have:=HS.out;omega)))
  have HL8:=hid (HL6.out.up0 b68)
  have PT8:Hid (PT w8):=PT6.out.grown (q02 b68) (by simp)
  have x0:=KD8.out.cell 0 _ rfl
  have x1:=KD8.out.cell 1 _ rfl
  have OF:=hid (of_any awT (.slice none 0 0) (.slice (some ⟨S+3,0,none⟩) 2 2) 0 w8 ⟨_,_,_,rfl⟩ (HL8.out.inside.weaken (fun b hb=>hb.2)) aw_docW PT8.out)
  rw [aw_toc0] at OF
  clear LS h8 b8 hl3 hv8 hs8 hc8 hR8 hvk8 hsk8 hc9 hR9 hvk9 b68 D0 D1 D2 D3 KD6 B6 HL6 PT6 HL PT5 KD B5
  go_wp2_with fail
  (with_reducible refine OF.out.mono ?_)
  rintro e w10 ⟨v10,rfl,h10,b10⟩
  obtain ⟨a10,c10,hv10,-⟩:=Rd.sl_open h10
  obtain rfl:v10=.slice a10 0 c10:=by simpa using hv10
  have KD10:=hid (KD8.out.below b10)
  have B10:=hid (B8.out.trans (b10.mono (by have:=B8.out.size;have:=HS.out;omega)))
  have HL10:=hid (HL8.out.up0 b10)
  have PT10:Hid (PT w10):=PT8.out.grown (q02 b10) (by simp)
  have x0:=KD10.out.cell 0 _ rfl
  have x1:=KD10.out.cell 1 _ rfl
  have FL:=hid (fill_any [] awT (.slice none 0 0) (.slice (some ⟨S+3,0,none⟩) 2 2) w10 (Rd.nil_mk _ _ _) (HL10.out.inside.weaken (fun b hb=>hb.2)) (by rw [aw_bare];exact aw_docW) aw_ens1 aw_docW.bd (by decide) (by simp) PT10.out)
  rw [aw_fill,aw_list1] at FL
  clear OF h10 hv10 d0 d1 d2 d3 e10 f10 b10
  go_wp2_with fail
  (with_reducible refine FL.out.mono ?_)
  rintro e w11 ⟨vm11,vb11,rfl,hm11,h11,b11⟩
  obtain ⟨am,nm,cm,rfl⟩:=Rd.slf hm11
  obtain ⟨a11,c11,hv11,hs11⟩:=Rd.sl_open h11
  obtain rfl:vb11=.slice a11 2 c11:=by simpa using hv11
  have hcap11:2<=c11:=by simpa using hs11.le
  obtain ⟨g11,o11,vc11,vp11,vl11,vk11,rfl,-,hg11,hc11,hR11⟩:=q1w hs11 (k:=1) rfl
  obtain ⟨ak11,ck11,hvk11,hsk11⟩:=Rd.sl_open hR11.kids
  obtain rfl:vk11=.slice ak11 1 ck11:=by simpa using hvk11
  have hcapk11:1<=ck11:=by simpa using hsk11.le
  obtain ⟨g12,o12,vc12,vp12,vl12,vk12,rfl,-,hg12,hc12,hR12⟩:=q1w hsk11 (k:=0) rfl
  obtain ⟨ak12,ck12,hvk12,-⟩:=Rd.sl_open hR12.kids
  obtain rfl:vk12=.slice ak12 1 ck12:=by simpa using hvk12
  have e10:=hc11.c10
  have f10:=hc12.c10
  rw [Nat.zero_mul,Nat.add_zero] at f10
  rw [Nat.one_mul] at e10
  have B11:=hid (B10.out.trans (b11.mono (by have:=B10.out.size;have:=HS.out;omega)))
  have FB:Hid (∀ cs T,Below w.heap.size w (w11.alloc (.cells cs T))):=fun cs T=>by rw [<- HS.out];exact B11.out.alloc (by have:=B11.out.size;have:=HS.out;omega) _
  clear FL hm11 h11 hv11 hs11 hc11 hR11 hvk11 hsk11 hc12 hR12 hvk12 b11 x0 x1
  have y10:=fun o=>past (w:=w11) e10 o
  have y11:=fun o=>past (w:=w11) f10 o
  go_wp2
  go_ret
  exact ⟨rfl,FB.out _ _⟩
end Go.Proofs.YtlbioncagkkkoaaGreatDoor
