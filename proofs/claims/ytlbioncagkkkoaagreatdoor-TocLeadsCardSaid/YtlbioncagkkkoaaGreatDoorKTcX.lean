/- Contract of toc.withKids, whatever function gives the Kids. Maps of the call's own from numbers to slices of entries; what the function of Kids of toc.Fill keeps. Contract of the function of Kids of toc.Fill. -/
import Derived.Test.YtlbioncagkkkoaaGreatDoorKRtL
import Derived.Test.YtlbioncagkkkoaaGreatDoorKTcG
import Derived.Deep.RegionWith
import Derived.Deep.CutBlock
import Derived.Test.YtlbioncagkkkoaaGreatDoorKTcM
import Derived.Maps.OwnSet
set_option maxHeartbeats 8000000
set_option maxRecDepth 100000
open Go.Lib (hid)
namespace Go.Proofs.YtlbioncagkkkoaaGreatDoor
open Go.RowKit
set_option linter.unusedVariables false
set_option linter.unusedSimpArgs false
def KcPost (FI:(Nat->Prop)->World->Prop) (pM:Nat) (Fz:Nat->Prop) (w:World) (ks:List Blk) (e:Ending) (w':World):Prop:=
 ∃ (v:Value) (Fz':Nat->Prop),e=.returned v/\Rd (w.heap.size<=·) w' (q0x ks) [v]/\w.grownBy w' (some pM)/\FI Fz' w'/\(∀ b,Fz b->Fz' b)/\(∀ b,Fz' b->Fz b\/w.heap.size<=b)
structure KidsC (fk:FuncId) (caps:Array Value) (K:At->List Blk) (N pM:Nat) (FI:(Nat->Prop)->World->Prop):Prop where
 ent:∀ (args:Array Value) (w:World),Sem.run Tryz.prog (callFunc fk args) w=.ok (.enter fk args) w
 lt:∀ Fz w,FI Fz w->∀ b,Fz b->b<w.heap.size
 nlt:∀ Fz w,FI Fz w->N<=w.heap.size
 pm:pM<N
 keep:∀ Fz w w',FI Fz w->(∀ b,(b<N\/Fz b)->w'.heap[b]?=w.heap[b]?)->w.heap.size<=w'.heap.size->(w'.os=w.os/\w'.tape=w.tape/\w'.output=w.output)->FI Fz w'
 call:∀ (Fz:Nat->Prop) (w:World) (k lv:Int) (i t d ti:ByteArray) (at_:At) (ac ap al ak:Option Addr) (nc cc np cp nl cl nk ck:Nat),FI Fz w->AtR (·<w.heap.size) w at_ (.slice ac nc cc) (.slice ap np cp) ->
  Calls Tryz.prog fk (#[.agg #[.int .i64 k,.int .i64 lv,.string i,.string t,.string d,.string ti,.string at_.id,.slice ac nc cc,.slice ap np cp,.slice al nl cl,.slice ak nk ck]]++caps) w (KcPost FI pM Fz w (K at_))
structure WkB (FI:(Nat->Prop)->World->Prop) (pM:Nat) (w:World) (Fz:Nat->Prop) (p:Nat) (cs:List Value) (ds:List D) (rows:List (List Value)) (v:Value) (Fz':Nat->Prop) (wx:World):Prop where
 row:∃ w0:World,w0.heap.size=w.heap.size/\RowU 53 11 (fun _=>False) p w0 ds rows v wx
 bx:CB 53 p cs wx
 fi:FI Fz' wx
 gr:w.grownBy wx (some pM)
 f1:∀ b,Fz b->Fz' b
 f2:∀ b,Fz' b->Fz b\/w.heap.size<=b
 fp:¬ Fz' p
 fo:∀ g,v.ownBlock=some g->¬ Fz' g
 wp:w.heap.size<=p
section
variable {fk:FuncId} {caps:Array Value} {K:At->List Blk} {N pM:Nat} {FI:(Nat->Prop)->World->Prop} {w wx wy:World} {Fz Fz':Nat->Prop} {p:Nat} {cs:List Value} {ds:List D} {rows:List (List Value)} {v:Value}
theorem KidsC.grown (hK:KidsC fk caps K N pM FI) (h:FI Fz wx) (hg:wx.grownBy wy none):FI Fz wy:=
 hK.keep _ _ _ h (fun b hb=>hg.block b (by rcases hb with hb | hb;exact Nat.lt_of_lt_of_le hb (hK.nlt _ _ h);exact hK.lt _ _ h b hb) (by simp)) hg.size ⟨hg.os,hg.tape,hg.output⟩
theorem KidsC.grownR (hK:KidsC fk caps K N pM FI) (h:FI Fz wx) {row:Option Nat} (hg:wx.grownBy wy row) (hr:∀ g,row=some g->N<=g/\¬ Fz g):FI Fz wy:=
 hK.keep _ _ _ h (fun b hb=>hg.block b (by rcases hb with hb | hb;exact Nat.lt_of_lt_of_le hb (hK.nlt _ _ h);exact hK.lt _ _ h b hb) (fun e=>by
  obtain ⟨h1,h2⟩:=hr b e.symm
  rcases hb with hb | hb
  ·omega
  ·exact h2 hb)) hg.size ⟨hg.os,hg.tape,hg.output⟩
theorem WkB.grown (hK:KidsC fk caps K N pM FI) (h:WkB FI pM w Fz p cs ds rows v Fz' wx) (hpw:pM<w.heap.size) (hg:wx.grownBy wy none):WkB FI pM w Fz p cs ds rows v Fz' wy:=by
 obtain ⟨w0,h1,h2⟩:=h.row
 exact ⟨⟨w0,h1,h2.grown hg⟩,q04 h.bx hg (by simp),hK.grown h.fi hg,q05 h.gr (q0e hg _),h.f1,h.f2,h.fp,h.fo,h.wp⟩
theorem WkB.set (hK:KidsC fk caps K N pM FI) (h:WkB FI pM w Fz p cs ds rows v Fz' wx) (hNw:N<=w.heap.size) (j:Nat) (u:Value):WkB FI pM w Fz p (cs.set j u) ds rows v Fz' (wx.setCell ⟨p,j,none⟩ u):=by
 obtain ⟨w0,h1,h2⟩:=h.row
 have hk:wx.grownBy (wx.setCell ⟨p,j,none⟩ u) (some p):=⟨rfl,rfl,rfl,by simp [World.setCell],fun b hb hne=>Below.heap_setCell wx ⟨p,j,none⟩ u b (fun e=>hne (by rw [e]))⟩
 have hwp:=h.wp
 exact ⟨⟨w0,h1,h2.set (Nat.le_refl _) j u⟩,cb_set h.bx j u,hK.grownR h.fi hk (fun g e=>by have e1:=Option.some.inj e;subst e1;exact ⟨by omega,h.fp⟩),q2d h.gr hk (fun g e=>by have e1:=Option.some.inj e;omega),h.f1,h.f2,h.fp,h.fo,h.wp⟩
theorem WkB.called (hK:KidsC fk caps K N pM FI) (h:WkB FI pM w Fz p cs ds rows v Fz' wx) (hNw:N<=w.heap.size) {F2:Nat->Prop} (hg:wx.grownBy wy (some pM)) (hf:FI F2 wy) (g1:∀ b,Fz' b->F2 b) (g2:∀ b,F2 b->Fz' b\/wx.heap.size<=b):WkB FI pM w Fz p cs ds rows v F2 wy:=by
 obtain ⟨w0,h1,h2⟩:=h.row
 have hpm:=hK.pm
 have hwp:=h.wp
 have hl:=h.bx.lt
 have hwx:=h.gr.size
 obtain ⟨w1,h3,h4⟩:=h2.hop2 (by omega) hg
 refine ⟨⟨w1,h3.trans h1,h4⟩,q04 h.bx hg (fun e=>by have:=Option.some.inj e;omega),hf,q05 h.gr hg,fun b hb=>g1 b (h.f1 b hb),fun b hb=>?_,fun hb=>?_,fun g hg' hb=>?_,h.wp⟩
 ·rcases g2 b hb with h5 | h5
  ·exact h.f2 b h5
  ·exact .inr (by omega)
 ·rcases g2 p hb with h5 | h5
  ·exact h.fp h5
  ·omega
 ·have h6:=h2.oU g hg'
  rcases g2 g hb with h5 | h5
  ·exact h.fo g hg' h5
  ·omega
end
theorem below_two {B pM:Nat} {w wr wx:World} (h1:w.grownBy wr (some pM)) (h2:w.grownBy wx (some pM)) (hB:B<=pM) (hp:pM<w.heap.size) (hz:wr.heap.size<=wx.heap.size):Below B wr wx:=
 ⟨h2.os.trans h1.os.symm,h2.tape.trans h1.tape.symm,h2.output.trans h1.output.symm,hz,fun b hb=>by
  have ne:some b≠some pM:=fun e=>by have:=Option.some.inj e;omega
  rw [h2.block b (by omega) ne,h1.block b (by omega) ne]⟩
theorem Rd.hopM {p pM:Nat} {w w':World} {d:D} {cs:List Value} (h:Rd (p<·) w d cs) (hp:pM<=p) (hg:w.grownBy w' (some pM)):Rd (p<·) w' d cs:=
 Rd.keep (fun b (hb:p<b) hlt=>⟨hb,hg.block b hlt (fun e=>by have:=Option.some.inj e;omega)⟩) _ _ h
def WkRel (FI:(Nat->Prop)->World->Prop) (pM:Nat) (K:At->List Blk) (w:World) (Fz:Nat->Prop) (l:List Blk) (v vi:Value) (wr:World):Prop:=
 ∃ (k:Nat) (rows:List (List Value)) (Fz':Nat->Prop),k<=l.length/\vi=.int .i64 k/\(∃ w0:World,w0.heap.size=w.heap.size/\RowU 53 11 (fun _=>False) wr.heap.size w0 ((Blk.wkL K (l.take k)).map Blk.d) rows v wr)/\FI Fz' wr/\w.grownBy wr (some pM) /\
  (∀ b,Fz b->Fz' b)/\(∀ b,Fz' b->Fz b\/w.heap.size<=b)/\∀ g,v.ownBlock=some g->¬ Fz' g
theorem withKids_any {fk:FuncId} {caps:Array Value} {K:At->List Blk} {N pM:Nat} {FI:(Nat->Prop)->World->Prop} (hK:KidsC fk caps K N pM FI) (n:Nat):∀ (l:List Blk) (B:Nat) (v:Value) (Fz:Nat->Prop) (w:World),Blk.szL l<=n->n<=1000000->Rd (·<B) w (q0x l) [v]->B<=pM->Blk.bdL l->FI Fz w ->
  Calls Tryz.prog 34 #[v,.func (.func fk) #[] caps] w (KcPost FI pM Fz w (Blk.wkL K l)):=by
 induction n using Nat.strongRecOn with
 | _ n ih=>
  intro l B v Fz w hn hnm hrd hB hbd hfi
  obtain ⟨iB,hiB,hzB0,hzB1,hzB2⟩:=info_parts infoBl
  obtain ⟨a,cap,hv,hs⟩:=Rd.sl_open hrd
  obtain rfl:v=.slice a l.length cap:=by simpa using hv
  have hcap:l.length<=cap:=by simpa using hs.le
  have hll:=Blk.len_le l
  have hmx:=hs.max
  unfold maxLen at hmx
  have hpm:=hK.pm
  have hNw:=hK.nlt _ _ hfi
  have HS:=hid hs
  have IH:=hid ih
  have HBD:=hid hbd
  have HK:=hid hK
  have R0:=hid (show WkRel FI pM K w Fz l (.slice none 0 0) (.int .i64 0) w from ⟨0,[],Fz,Nat.zero_le _,rfl,⟨w,rfl,by simpa [Blk.wkL] using RowU.nil 53 11 (fun _=>False) w⟩,hfi,World.grownBy.refl w _,fun b h=>h,fun b h=>.inl h,by simp [Value.ownBlock]⟩)
  clear hs hv hrd ih hbd hfi hK
  go_enter Tryz.func34,Tryz.ntmps34
  go_wp2
  go_loopw [5,10] (fun v vi wr=>WkRel FI pM K w Fz l v vi wr) (fun _ i _=>l.length-(intOf i).toNat)
  case atStart=>exact R0.out
  case round=>
   clear R0
   obtain ⟨k,rows,Fz',hk,rfl,⟨w0,hw0,hrow⟩,hfi,hgr,hf1,hf2,hfo⟩:=hrel
   obtain ⟨ds,hds⟩:∃ ds,ds=(Blk.wkL K (l.take k)).map Blk.d:=⟨_,rfl⟩
   rw [<- hds] at hrow
   obtain ⟨m,hm⟩:∃ m,m=ds.length:=⟨_,rfl⟩
   have hmk:m<=k:=by rw [hm,hds,List.length_map,wkL_len,List.length_take];omega
   have HDN:=hid hm.symm
   have HDS:=hid hds
   obtain ⟨av,cv,rfl,-,-⟩:=hrow.cap hm.symm
   have hwz:=hgr.size
   have bB:Below B w wr:=⟨hgr.os,hgr.tape,hgr.output,hgr.size,fun b hb=>hgr.block b (by omega) (fun e=>by have:=Option.some.inj e;omega)⟩
   have HSR:=hid (HS.out.below bB)
   have HREST:=hid (And.intro hw0 (And.intro hrow (And.intro hfi (And.intro hgr (And.intro hf1 (And.intro hf2 hfo))))))
   clear hrow hm hds hw0 hfi hgr hf1 hf2 hfo bB
   by_cases hlt:k<l.length
   ·obtain ⟨x,hx⟩:∃ x,l[k]?=some x:=⟨_,List.getElem?_eq_getElem hlt⟩
    have hsn:=wkL_snoc K l k x hx
    have hb1:=Blk.bdL_get l k x HBD.out hx
    have hsz:=Blk.szL_get l k x hx
    obtain ⟨kd,lv,i,t,d,ti,at_,li,ks⟩:=x
    rw [Blk.bd] at hb1
    rw [Blk.sz] at hsz
    obtain ⟨hn1,hn2,hn3,hn4,hn5⟩:=hb1
    obtain ⟨g,off,vc,vp,vl,vk,rfl,hgo,hgl,hc,hR⟩:=q1w HSR.out hx
    obtain ⟨c0,c1,c2,c3,c4,c5,c6,c7,c8,c9,c10⟩:=hc
    obtain ⟨ac,nc,cc,rfl⟩:=Rd.sl_form hR.at_.cls
    obtain ⟨ap,np,cp,rfl⟩:=Rd.sl_form hR.at_.prs
    obtain ⟨al,nl,cl,rfl⟩:=Rd.sl_form hR.line
    obtain ⟨ak,nk,ck,rfl⟩:=Rd.sl_form hR.kids
    obtain ⟨p,hp⟩:∃ p,p=wr.heap.size:=⟨_,rfl⟩
    obtain ⟨wA,hwA⟩:∃ wA,wA=wr.alloc (.cells #[.int .i64 kd,.int .i64 lv,.string i,.string t,.string d,.string ti,.string at_.id,.slice ac nc cc,.slice ap np cp,.slice al nl cl,.slice ak nk ck] 53):=⟨_,rfl⟩
    have VA:WkB FI pM w Fz p [.int .i64 kd,.int .i64 lv,.string i,.string t,.string d,.string ti,.string at_.id,.slice ac nc cc,.slice ap np cp,.slice al nl cl,.slice ak nk ck] ds rows (.slice av m cv) Fz' wA:=by
     obtain ⟨hw0,hrow,hfi,hgr,hf1,hf2,hfo⟩:=HREST.out
     rw [hwA,hp]
     exact ⟨⟨w0,hw0,hrow.alloc _⟩,CB.new _ _ _,HK.out.grown hfi (World.grownBy_alloc _ _ none),q05 hgr (q0e (World.grownBy_alloc _ _ none) _),hf1,hf2,fun h=>by have:=HK.out.lt _ _ hfi _ h;omega,hfo,hwz⟩
    have HVA:=hid VA
    have HGR:=hid HREST.out.2.2.2.1
    have hpw:pM<w.heap.size:=by omega
    have BEL:Hid (∀ (wx:World),w.grownBy wx (some pM)->p<wx.heap.size->Below B wr wx):=fun wx h1 h2=>below_two HGR.out h1 hB hpw (by omega)
    have HR:=hid hR
    have HP:=hid hp
    have hpB:B<=p:=by omega
    have hMp:pM<=p:=by omega
    obtain ⟨tb,htb⟩:∃ tb:Bool,tb=decide (kd=13/\i=tocS):=⟨_,rfl⟩
    obtain ⟨KS,hKS⟩:∃ KS,KS=(if kd=13/\i=tocS then K at_ else Blk.wkL K ks):=⟨_,rfl⟩
    have HKS:Hid (KS=if tb=true then K at_ else Blk.wkL K ks):=by
     show _=_
     rw [hKS,htb];simp only [decide_eq_true_eq]
    have HX2:Hid ((Blk.wkL K (l.take (k+1))).map Blk.d=ds++[(Blk.mk kd lv i t d ti at_ li KS).d]):=by
     show _=_
     rw [hsn,List.map_append,<- HDS.out,Blk.wk,hKS];rfl
    have HTB:=hid htb
    clear htb hKS
    have HWZ:=hid hwz
    clear hx hsn hgo hgl hR VA hwz
    go_upto_region 5 with (fail)
    rw [<- hwA,<- hp]
    clear hwA hp c0 c1 c2 c3 c4 c5 c6 c7 c8 c9 c10
    go_cut [] (fun wx=>∃ ac1 nc1 cc1 ap1 np1 cp1 al1 nl1 cl1,WkB FI pM w Fz p [.int .i64 kd,.int .i64 lv,.string i,.string t,.string d,.string ti,.string at_.id,.slice ac1 nc1 cc1,.slice ap1 np1 cp1,.slice al1 nl1 cl1,.slice ak nk ck] ds rows (.slice av m cv) Fz' wx/\AtR (p<·) wx at_ (.slice ac1 nc1 cc1) (.slice ap1 np1 cp1)/\Rd (p<·) wx (q0w li) [.slice al1 nl1 cl1])
    case first=>
     have d6:=HVA.out.bx.cell 6 _ rfl
     have d7:=HVA.out.bx.cell 7 _ rfl
     have d8:=HVA.out.bx.cell 8 _ rfl
     have d9:=HVA.out.bx.cell 9 _ rfl
     have hpA:=HVA.out.bx.lt
     have gD:wA.grownBy wA.drew none:=⟨rfl,rfl,rfl,Nat.le_refl _,fun _ _ _=>rfl⟩
     have VD:=hid (HVA.out.grown HK.out hpw gD)
     have CT:=hid (tocAttr_any at_ (.slice ac nc cc) (.slice ap np cp) B wA.drew (HR.out.at_.below (BEL.out _ VD.out.gr hpA)) (by show B<=wA.heap.size;omega) hn1 hn2)
     have CLN:=hid (fun (wq:World) (h:WkB FI pM w Fz p [.int .i64 kd,.int .i64 lv,.string i,.string t,.string d,.string ti,.string at_.id,.slice ac nc cc,.slice ap np cp,.slice al nl cl,.slice ak nk ck] ds rows (.slice av m cv) Fz' wq)=>tocLine_any 1000000 li B (.slice al nl cl) wq hn4 (Nat.le_refl _) (HR.out.line.below (BEL.out _ h.gr h.bx.lt)) (by have:=h.bx.lt;omega) hn3)
     clear gD
     go_region_with (first
      | (go_at_call 69;(with_reducible refine CT.out.mono ?_);rintro e w1 ⟨vc1,vp1,rfl,hat1,b1⟩;have C1:=VD.out.grown HK.out hpw (q02 b1);have e9:=C1.bx.cell 9 _ rfl;obtain ⟨ac1,nc1,cc1,rfl⟩:=Rd.sl_form hat1.cls;obtain ⟨ap1,np1,cp1,rfl⟩:=Rd.sl_form hat1.prs)
      | (go_at_call 70;(with_reducible refine (CLN.out _ (by assumption)).mono ?_);rintro e w2 ⟨vl1,rfl,hli1,b2⟩;have C2:=WkB.grown HK.out (by assumption:WkB FI pM w Fz p [.int .i64 kd,.int .i64 lv,.string i,.string t,.string d,.string ti,.string at_.id,.slice ac nc cc,.slice ap np cp,.slice al nl cl,.slice ak nk ck] ds rows (.slice av m cv) Fz' _) hpw (q02 b2);have e6:=C2.bx.cell 6 _ rfl;have e7:=C2.bx.cell 7 _ rfl;have e8:=C2.bx.cell 8 _ rfl;have e9:=C2.bx.cell 9 _ rfl;have f6:=q1c C2.bx 6;have f7:=q1c C2.bx 7;have f8:=q1c C2.bx 8;have f9:=q1c C2.bx 9;obtain ⟨al1,nl1,cl1,rfl⟩:=Rd.sl_form hli1))
     all_goals
      have hpl:=C1.bx.lt
      have AT2:=hid ((hat1.weaken (ok':=(p<·)) (fun b hb=>by have h9:wA.heap.size<=b:=hb;omega)).above (Above.grown (q02 b2)))
      have LI2:=hid (hli1.weaken (ok':=(p<·)) (fun b hb=>by have h9:w1.heap.size<=b:=hb;omega))
      have HC2:=hid C2
      clear hat1 hli1 C1 C2
      go_wp2_with fail
      go_meet
      exact ⟨ac1,nc1,cc1,ap1,np1,cp1,al1,nl1,cl1,(((HC2.out.set HK.out hNw 6 _).set HK.out hNw 7 _).set HK.out hNw 8 _).set HK.out hNw 9 _,
       (((AT2.out.above (Above.set 6 _)).above (Above.set 7 _)).above (Above.set 8 _)).above (Above.set 9 _),(((LI2.out.above (Above.set 6 _)).above (Above.set 7 _)).above (Above.set 8 _)).above (Above.set 9 _)⟩
    case rest=>
     obtain ⟨ac1,nc1,cc1,ap1,np1,cp1,al1,nl1,cl1,C5,at5,li5⟩:=hcut
     obtain ⟨w5,hw5⟩:∃ w5:World,w5=wc:=⟨_,rfl⟩
     subst hw5
     have IT:=hid (isToc_any kd lv i t d ti at_.id ac1 ap1 al1 ak nc1 cc1 np1 cp1 nl1 cl1 nk ck w5)
     rw [<- HTB.out] at IT
     obtain ⟨e0,e1,e2,e3,e4,e5,e6,e7,e8,e9,e10⟩:=cb_elev C5.bx
     have HC5:=hid C5
     have AT5:=hid at5
     have LI5:=hid li5
     clear C5 at5 li5 HVA
     go_wp2_with fail
     (with_reducible refine IT.out.mono ?_)
     rintro e w6 ⟨rfl,b6⟩
     have V6:=hid (HC5.out.grown HK.out hpw (q02 b6))
     have AT6:=hid (AT5.out.above (Above.grown (q02 b6)))
     have LI6:=hid (LI5.out.above (Above.grown (q02 b6)))
     obtain ⟨e0,e1,e2,e3,e4,e5,e6,e7,e8,e9,e10⟩:=cb_elev V6.out.bx
     have hp6:=V6.out.bx.lt
     clear b6 HC5 AT5 LI5 IT
     go_upto_if 23 with (fail)
     go_cut [] (fun wx=>∃ (F2:Nat->Prop) (a2:Option Addr) (n2 c2:Nat),WkB FI pM w Fz p [.int .i64 kd,.int .i64 lv,.string i,.string t,.string d,.string ti,.string at_.id,.slice ac1 nc1 cc1,.slice ap1 np1 cp1,.slice al1 nl1 cl1,.slice a2 n2 c2] ds rows (.slice av m cv) F2 wx/\AtR (p<·) wx at_ (.slice ac1 nc1 cc1) (.slice ap1 np1 cp1)/\Rd (p<·) wx (q0w li) [.slice al1 nl1 cl1]/\Rd (p<·) wx (q0x KS) [.slice a2 n2 c2])
     case first=>
      cases htoc:tb with
      | true=>
       have KC:=hid (HK.out.call Fz' w6 kd lv i t d ti at_ ac1 ap1 al1 ak nc1 cc1 np1 cp1 nl1 cl1 nk ck V6.out.fi ⟨AT6.out.cls.inside.weaken (fun b hb=>hb.2),AT6.out.prs.inside.weaken (fun b hb=>hb.2)⟩)
       have HT:Hid (KS=K at_):=by show _=_;rw [HKS.out,htoc];rfl
       clear htoc
       go_wp2_with fail
       rw [HK.out.ent,Oper.upon_enter]
       refine KC.out.mono ?_
       rintro e w7 ⟨v7,F7,rfl,h7,g7,hf7,m7a,m7b⟩
       obtain ⟨a7,n7,c7,rfl⟩:=Rd.sl_form h7
       have V7:=V6.out.called HK.out hNw g7 hf7 m7a m7b
       have f10:=q1c V7.bx 10
       have e10:=V7.bx.cell 10 _ rfl
       have V7H:=hid V7
       have AT7:=hid (show AtR (p<·) w7 at_ (.slice ac1 nc1 cc1) (.slice ap1 np1 cp1) from ⟨AT6.out.cls.hopM hMp g7,AT6.out.prs.hopM hMp g7⟩)
       have LI7:=hid (LI6.out.hopM hMp g7)
       have K7:=hid (h7.weaken (ok':=(p<·)) (fun b hb=>by have h9:w6.heap.size<=b:=hb;omega))
       clear V7 h7 g7 hf7 m7a m7b KC e0 e1 e2 e3 e4 e5 e6 e7 e8 e9
       go_wp2
       go_meet
       refine ⟨F7,a7,n7,c7,V7H.out.set HK.out hNw 10 _,AT7.out.above (Above.set 10 _),LI7.out.above (Above.set 10 _),?_⟩
       rw [HT.out]
       exact K7.out.above (Above.set 10 _)
      | false=>
       have hbl:=BEL.out _ V6.out.gr hp6
       have KC:=hid (IH.out (Blk.szL ks) (by omega) ks B (.slice ak nk ck) Fz' w6 (Nat.le_refl _) (by omega) (HR.out.kids.below hbl) hB hn5 V6.out.fi)
       have HT:Hid (KS=Blk.wkL K ks):=by show _=_;rw [HKS.out,htoc];rfl
       clear htoc hbl
       go_wp2_with fail
       (with_reducible refine KC.out.mono ?_)
       rintro e w7 ⟨v7,F7,rfl,h7,g7,hf7,m7a,m7b⟩
       obtain ⟨a7,n7,c7,rfl⟩:=Rd.sl_form h7
       have V7:=V6.out.called HK.out hNw g7 hf7 m7a m7b
       have f10:=q1c V7.bx 10
       have e10:=V7.bx.cell 10 _ rfl
       have V7H:=hid V7
       have AT7:=hid (show AtR (p<·) w7 at_ (.slice ac1 nc1 cc1) (.slice ap1 np1 cp1) from ⟨AT6.out.cls.hopM hMp g7,AT6.out.prs.hopM hMp g7⟩)
       have LI7:=hid (LI6.out.hopM hMp g7)
       have K7:=hid (h7.weaken (ok':=(p<·)) (fun b hb=>by have h9:w6.heap.size<=b:=hb;omega))
       clear V7 h7 g7 hf7 m7a m7b KC e0 e1 e2 e3 e4 e5 e6 e7 e8 e9
       go_wp2
       go_meet
       refine ⟨F7,a7,n7,c7,V7H.out.set HK.out hNw 10 _,AT7.out.above (Above.set 10 _),LI7.out.above (Above.set 10 _),?_⟩
       rw [HT.out]
       exact K7.out.above (Above.set 10 _)
     case rest=>
      obtain ⟨F2,a2,n2,c2,V8,at8,li8,ks8⟩:=hcut
      obtain ⟨w8,hw8⟩:∃ w8:World,w8=wc:=⟨_,rfl⟩
      subst hw8
      obtain ⟨e0,e1,e2,e3,e4,e5,e6,e7,e8,e9,e10⟩:=cb_elev V8.bx
      obtain ⟨w1,hz1,hrow8⟩:=V8.row
      have HROW8:=hid hrow8
      have HZ1:=hid hz1
      have HV8:=hid V8
      have EL8:=hid (show Rd (fun b=>False\/p<=b) w8 (Blk.mk kd lv i t d ti at_ li KS).d [.int .i64 kd,.int .i64 lv,.string i,.string t,.string d,.string ti,.string at_.id,.slice ac1 nc1 cc1,.slice ap1 np1 cp1,.slice al1 nl1 cl1,.slice a2 n2 c2] from
       Blk.mk_ kd lv i t d ti ⟨⟨at8.cls.weaken (fun b hb=>.inr (Nat.le_of_lt hb)),at8.prs.weaken (fun b hb=>.inr (Nat.le_of_lt hb))⟩,li8.weaken (fun b hb=>.inr (Nat.le_of_lt hb)),ks8.weaken (fun b hb=>.inr (Nat.le_of_lt hb))⟩)
      clear V8 at8 li8 ks8 hz1 hrow8 V6 AT6 LI6
      go_wp2_with (at_builtin;refine wpList_putA rfl (.tmp 33) (.tmp 35) 23 rfl iB _ 192 Tryz.underlying23 hiB hzB0 hzB1 hzB2 rfl (by decide) HROW8.out (fun _=>False.elim) (Blk.mk kd lv i t d ti at_ li KS).d [.int .i64 kd,.int .i64 lv,.string i,.string t,.string d,.string ti,.string at_.id,.slice ac1 nc1 cc1,.slice ap1 np1 cp1,.slice al1 nl1 cl1,.slice a2 n2 c2] EL8.out rfl one_elev HDN.out (by omega) (by decide) rfl rfl ?_)
      intro a9 c9 w9 hrow9 hg9 hat9
      have REL:Hid (WkRel FI pM K w Fz l (.slice a9 (m+1) c9) (.int .i64 ((k+1:Nat):Int)) w9):=by
       have hown:=HROW8.out.own
       have hoU:=HROW8.out.oU
       refine ⟨k+1,_,F2,by omega,rfl,⟨w1,HZ1.out,by rw [HX2.out];exact hrow9⟩,?_,q2d (q05 HV8.out.gr (q0e (World.grownBy_alloc _ _ none) _)) hg9 (fun g9 e=>by have h9:=(hown.lt g9 e).1;rw [HZ1.out] at h9;exact h9),HV8.out.f1,HV8.out.f2,?_⟩
       ·exact HK.out.grownR (HK.out.grown HV8.out.fi (World.grownBy_alloc _ _ none)) hg9 (fun g9 e=>⟨by have h9:=(hown.lt g9 e).1;rw [HZ1.out] at h9;omega,HV8.out.fo g9 e⟩)
       ·intro g9 e hF
        rcases hat9 with h9 | h9
        ·exact HV8.out.fo g9 (h9.symm.trans e) hF
        ·rw [h9] at e
         have h10:=HK.out.lt _ _ HV8.out.fi g9 hF
         have h11:=Option.some.inj e
         omega
      clear hrow9 hg9 hat9
      go_wp2
      go_roundw
      case rel=>exact REL.out
      case measure=>simp [intOf];omega
   ·have hkl:k=l.length:=by omega
    subst hkl
    rw [List.take_length] at HDS
    go_wp2
    go_ret
    obtain ⟨hw0,hrow,hfi,hgr,hf1,hf2,hfo⟩:=HREST.out
    have h1:=hrow.rd0
    rw [HDS.out,hw0] at h1
    exact ⟨.slice av m cv,Fz',rfl,h1,hgr,hfi,hf1,hf2⟩
theorem ent1 (args:Array Value) (w:World):Sem.run Tryz.prog (callFunc 35 args) w=.ok (.enter 35 args) w:=by kernel_rfl
theorem ent2 (args:Array Value) (w:World):Sem.run Tryz.prog (callFunc 36 args) w=.ok (.enter 36 args) w:=by kernel_rfl
open Go.RowKit Go.Maps
theorem owns_isMapV {w:World} {P:Program} {k:TypeId} {R:Value->Option (DataW Value × List MemPlace)} {b n:Nat} {D:DataW Value} (h:w.ownsMap P k R b n D):IsMap D:=by
 obtain ⟨es,c,_,_,_,rfl⟩:=h
 exact ⟨_,rfl⟩
def RV (v:Value):Option (DataW Value × List MemPlace):=some (.held v,[])
def nilV:Value:=.slice none 0 0
def ValAt (w:World) (b n:Nat) (f:Int->Option Value):Prop:=
 ∃ D:DataW Value,w.ownsMap Tryz.prog 3 RV b n D/\∀ s:Int,Maps.has D (iKey s)=(f s).isSome/\D.atKey (iKey s) (.held nilV)=.held ((f s).getD nilV)
theorem zeroE (w:World):(zeroValue 29).run Tryz.prog w=.ok nilV w:=by kernel_rfl
theorem ValAt.look {w:World} {b n:Nat} {f:Int->Option Value} (h:ValAt w b n f) (s:Int) (hs:(Lit.int .i64 s).wf=true) :
  (Instr.lookup 71 (.map (some b)) (.int .i64 s) true).run Tryz.prog w=.ok (.tuple #[(f s).getD nilV,.bool (f s).isSome]) w:=by
 obtain ⟨D,hD,hat⟩:=h
 obtain ⟨v,ps,hrun,hv⟩:=hD.look_ok keyI Tryz.underlying71 (zeroE w) (zd:=.held nilV) (zp:=[]) rfl (keyOf_int_mk Tryz.underlying3 hs)
 obtain ⟨h1,h2⟩:=hat s
 unfold iKey at h1 h2
 rw [h2] at hv
 unfold RV at hv
 obtain ⟨hv,-⟩:=Prod.mk.inj (Option.some.inj hv)
 have hv:=DataW.held.inj hv
 rw [hrun,h1,hv]
theorem ValAt.put {w:World} {b n:Nat} {f:Int->Option Value} (h:ValAt w b n f) (s:Int) (x:Value) (hs:(Lit.int .i64 s).wf=true) (hn:n<maxLen) :
  ∃ w',(Instr.mapUpdate 71 (.map (some b)) (.int .i64 s) x).run Tryz.prog w=.ok () w'/\ValAt w' b (n+1) (fun t=>if t=s then some x else f t)/\w.grownBy w' (some b):=by
 obtain ⟨D,hD,hat⟩:=h
 obtain ⟨w',hrun,hD',hg⟩:=hD.update keyI Tryz.underlying71 hn (keyOf_int_mk Tryz.underlying3 hs) (d:=.held x) (ps:=[]) rfl
 refine ⟨w',hrun,⟨_,hD',fun t=>?_⟩,hg⟩
 by_cases e:t=s
 ·subst e
  show Maps.has (D.put (iKey t) _) (iKey t)=_/\(D.put (iKey t) _).atKey _ _=_
  rw [atKey_put_same (owns_isMapV hD) (iKey_lit t),has_put_same (owns_isMapV hD) (iKey_lit t)]
  dsimp only
  rw [if_pos rfl]
  exact ⟨rfl,rfl⟩
 ·show Maps.has (D.put (iKey s) _) (iKey t)=_/\(D.put (iKey s) _).atKey _ _=_
  rw [atKey_put_other (fun h=>e (iKey_inj _ _ h)),has_put_other (fun h=>e (iKey_inj _ _ h))]
  dsimp only
  rw [if_neg e]
  exact hat t
theorem ValAt.made (w:World):ValAt (w.alloc (.map #[] 0)) w.heap.size 0 (fun _=>none):=
 ⟨_,World.ownsMap_made w _ _ _,fun s=>⟨rfl,rfl⟩⟩
theorem ValAt.same {w w':World} {b n:Nat} {f:Int->Option Value} (h:ValAt w b n f) (hb:w'.heap[b]?=w.heap[b]?):ValAt w' b n f:=by
 obtain ⟨D,⟨es,c,h1,h2,h3⟩,hat⟩:=h
 exact ⟨D,⟨es,c,hb.trans h1,h2,h3⟩,hat⟩
theorem ValAt.lt {w:World} {b n:Nat} {f:Int->Option Value} (h:ValAt w b n f):b<w.heap.size:=by
 obtain ⟨D,hD,_⟩:=h;exact hD.lt
def cntF (f:Int->Option Value):Nat:=(if (f 1).isSome=true then 1 else 0)+(if (f 2).isSome=true then 1 else 0)+(if (f 3).isSome=true then 1 else 0)+(if (f 4).isSome=true then 1 else 0)+(if (f 5).isSome=true then 1 else 0)+(if (f 6).isSome=true then 1 else 0)
theorem cntF_le (f:Int->Option Value):cntF f<=6:=by
 unfold cntF
 repeat' split
 all_goals omega
theorem cntF_put (f:Int->Option Value) (d:Int) (x:Value) (h1:1<=d) (h6:d<=6) (hn:f d=none):cntF f+1<=cntF (fun t=>if t=d then some x else f t):=by
 unfold cntF
 obtain rfl | rfl | rfl | rfl | rfl | rfl:d=1\/d=2\/d=3\/d=4\/d=5\/d=6:=by omega
 all_goals
  simp [hn]
  try omega
structure FlS (N mb p5 p4:Nat) (v2:Value) (all:List En) (Fz:Nat->Prop) (wx:World):Prop where
 n:N<=wx.heap.size
 lt:∀ b,Fz b->N<=b/\b<wx.heap.size
 k5:CB 71 p5 [.map (some mb)] wx
 k4:CB 29 p4 [v2] wx
 en:Rd (fun b=>b<N/\b≠mb) wx (ensD all) [v2]
 mp:∃ (nn:Nat) (f:Int->Option Value),ValAt wx mb nn f/\nn<=cntF f/\∀ d v,f d=some v->Rd (fun b=>Fz b\/(b<N/\b≠mb)) wx (ensD (uptoE all d)) [v]
theorem FlS.keep {N mb p5 p4:Nat} {v2:Value} {all:List En} {Fz:Nat->Prop} {w w':World} (h:FlS N mb p5 p4 v2 all Fz w) (h1:mb<N) (h2:p5<N) (h3:p4<N) (hb:∀ b,(b<N\/Fz b)->w'.heap[b]?=w.heap[b]?) (hs:w.heap.size<=w'.heap.size):FlS N mb p5 p4 v2 all Fz w':=by
 obtain ⟨nn,f,m1,m2,m3⟩:=h.mp
 exact
 {n:=Nat.le_trans h.n hs,lt:=fun b hb'=>⟨(h.lt b hb').1,Nat.lt_of_lt_of_le (h.lt b hb').2 hs⟩,k5:=(hb _ (.inl h2)).trans h.k5,k4:=(hb _ (.inl h3)).trans h.k4
  en:=Rd.keep (fun b hb' _=>⟨hb',hb b (.inl hb'.1)⟩) _ _ h.en
  mp:=⟨nn,f,m1.same (hb _ (.inl h1)),m2,fun d v hd=>Rd.keep (fun b hb' _=>⟨hb',hb b (hb'.elim .inr fun h=>.inl h.1)⟩) _ _ (m3 d v hd)⟩ }
open Go.RowKit Go.Maps
theorem FlS.grown {N mb p5 p4:Nat} {v2:Value} {all:List En} {Fz:Nat->Prop} {w w':World} (h:FlS N mb p5 p4 v2 all Fz w) (h1:mb<N) (h2:p5<N) (h3:p4<N) (hg:w.grownBy w' none):FlS N mb p5 p4 v2 all Fz w':=
 h.keep h1 h2 h3 (fun b hb=>hg.block b (by rcases hb with hb | hb;exact Nat.lt_of_lt_of_le hb h.n;exact (h.lt b hb).2) (by simp)) hg.size
theorem upto_snoc (l:List En) (n:Int) (k:Nat) (x:En) (h:l[k]?=some x):uptoE (l.take (k+1)) n=uptoE (l.take k) n++if decide (x.lv<=n)=true then [x] else []:=by
 unfold uptoE
 rw [List.take_add_one,h,List.filter_append]
 by_cases hs:x.lv<=n<;>simp [hs]
theorem upto_len (l:List En) (n:Int):(uptoE l n).length<=l.length:=List.length_filter_le _ _
theorem EnsOk.upto {all:List En} (h:EnsOk all) (n:Int):EnsOk (uptoE all n):=⟨Nat.le_trans (upto_len all n) h.len,fun x hx=>h.sh x (List.mem_filter.1 hx).1⟩
def F2Rel (N mb:Nat) (wl:World) (all:List En) (dep:Int) (v vi:Value) (wr:World):Prop:=
 ∃ (k:Nat) (rows:List (List Value)),k<=all.length/\vi=.int .i64 k/\RowU 42 5 (fun b=>b<N/\b≠mb) wr.heap.size wl ((uptoE (all.take k) dep).map En.d) rows v wr
def digB (o:Option ByteArray):Bool:=match o with
 | some v=>match v.data.toList with
  | [c]=>decide (49<=c.toNat)&&decide (c.toNat<=54)
  | _=>false
 | none=>false
theorem digB_no (o:Option ByteArray) (h:digB o=false):depV o=3:=by
 unfold digB at h
 unfold depV
 split at h
 ·split at h
  ·rename_i c hc
   simp only [hc]
   exact if_neg (fun hh=>by simp [hh.1,hh.2] at h)
  ·rename_i hx
   simp only
 ·rfl
theorem digB_yes (o:Option ByteArray) (h:digB o=true):∃ c:UInt8,o=some ⟨#[c]⟩/\49<=c.toNat/\c.toNat<=54/\depV o=(c.toNat:Int)-48:=by
 unfold digB at h
 split at h
 ·rename_i v
  split at h
  ·rename_i c hc
   simp at h
   obtain ⟨⟨l⟩⟩:=v
   simp only at hc
   subst hc
   exact ⟨c,rfl,h.1,h.2,by unfold depV;simp only;rw [if_pos h]⟩
  ·cases h
 ·cases h
theorem fill2_any {N mb p5 p4:Nat} {v2:Value} {all:List En} (h1:mb<N) (h2:p5<N) (h3:p4<N) (h5:p5≠mb) (h4:p4≠mb) (hok:EnsOk all) (Fz:Nat->Prop) (w:World) (k lv:Int) (i t d ti:ByteArray) (at_:At) (ac ap al ak:Option Addr) (nc cc np cp nl cl nk ck:Nat)
  (hf:FlS N mb p5 p4 v2 all Fz w) (hA:AtR (·<w.heap.size) w at_ (.slice ac nc cc) (.slice ap np cp)) :
  Calls Tryz.prog 36 #[.agg #[.int .i64 k,.int .i64 lv,.string i,.string t,.string d,.string ti,.string at_.id,.slice ac nc cc,.slice ap np cp,.slice al nl cl,.slice ak nk ck],.pointer (some ⟨p5,0,none⟩),.pointer (some ⟨p4,0,none⟩)] w
   (KcPost (FlS N mb p5 p4 v2 all) mb Fz w (q1v (uptoE all (q1o at_)))):=by
 obtain ⟨iE,hiE,hzE0,hzE1,hzE2⟩:=info_parts infoEn
 obtain ⟨ea,ec,hv2,hs2⟩:=Rd.sl_open hf.en
 obtain rfl:v2=.slice ea all.length ec:=by simpa using hv2
 have hcap:all.length<=ec:=by simpa using hs2.le
 have hmx:=hs2.max
 unfold maxLen at hmx
 have hlen:=hok.len
 obtain ⟨w1,hw1⟩:∃ w1,w1=w.alloc (.cells #[.int .i64 k,.int .i64 lv,.string i,.string t,.string d,.string ti,.string at_.id,.slice ac nc cc,.slice ap np cp,.slice al nl cl,.slice ak nk ck] 53):=⟨_,rfl⟩
 have k1:CB 53 w.heap.size [.int .i64 k,.int .i64 lv,.string i,.string t,.string d,.string ti,.string at_.id,.slice ac nc cc,.slice ap np cp,.slice al nl cl,.slice ak nk ck] w1:=by rw [hw1];exact CB.new _ _ _
 have b1:Below w.heap.size w w1:=by rw [hw1];exact (Below.refl _ _).alloc (Nat.le_refl _) _
 have GT:=hid (get_any at_.id depS at_.prs ac nc cc (.slice ap np cp) w1 ((hA.prs.below b1).weaken (fun b hb=>Nat.lt_of_lt_of_le hb b1.size)))
 have B1:=hid b1
 have HF:=hid hf
 have HOK:=hid hok
 have hNw:=hf.n
 obtain ⟨dep,hdep⟩:∃ dep,dep=q1o at_:=⟨_,rfl⟩
 have hdb:=dep_bd (getP at_.prs depS)
 change 1<=q1o at_/\q1o at_<=6 at hdb
 rw [<- hdep] at hdb ⊢
 obtain ⟨hd1,hd6⟩:=hdb
 have HDEP:Hid (dep=depV (getP at_.prs depS)):=hdep
 have d6:=k1.cell 6 _ rfl
 have d7:=k1.cell 7 _ rfl
 have d8:=k1.cell 8 _ rfl
 clear hv2 hs2 hok hf hA k1 b1 hdep
 go_enter Tryz.func36,Tryz.ntmps36
 go_upto_region 2 with (fail)
 rw [<- hw1]
 clear hw1
 go_wp2_with fail
 refine GT.out.mono ?_
 rintro e w3 ⟨rfl,b2⟩
 have hb3:=q01 B1.out b2
 clear b2 GT d6 d7 d8
 generalize getP at_.prs depS=o at *
 go_upto_region 3 with (fail)
 go_cut [33] (fun v wx=>v=.bool (digB o)/\wx=w3)
 case first=>
  cases o with
  | none=>
   go_wp2
   go_meet
   exact ⟨rfl,rfl⟩
  | some v=>
   by_cases hv1:v.size=1
   ·obtain ⟨c,rfl⟩:∃ c,v=⟨#[c]⟩:=by
     obtain ⟨⟨l⟩⟩:=v
     match l,hv1 with
     | [c],_=>exact ⟨c,rfl⟩
    have HD:Hid (digB (some ⟨#[c]⟩)=(decide (49<=c.toNat)&&decide (c.toNat<=54))):=rfl
    have hc:=c.toNat_lt
    have ei:∀ h:0<(⟨#[c]⟩:ByteArray).size,(⟨#[c]⟩:ByteArray)[0]'h=c:=fun _=>rfl
    by_cases hc1:49<=c.toNat
    ·have qa:decide ((49:Int)<=(c.toNat:Int))=true:=decide_eq_true (by omega)
     by_cases hc2:c.toNat<=54
     ·have qb:decide ((c.toNat:Int)<=54)=true:=decide_eq_true (by omega)
      go_wp2
      go_meet
      exact ⟨by rw [HD.out];simp [hc1,hc2],rfl⟩
     ·have qb:decide ((c.toNat:Int)<=54)=false:=decide_eq_false (by omega)
      go_wp2
      go_meet
      exact ⟨by rw [HD.out];simp [hc2],rfl⟩
    ·have qa:decide ((49:Int)<=(c.toNat:Int))=false:=decide_eq_false (by omega)
     go_wp2
     go_meet
     exact ⟨by rw [HD.out];simp [hc1],rfl⟩
   ·have HD:Hid (digB (some v)=false):=by
     show _=_
     unfold digB
     obtain ⟨⟨l⟩⟩:=v
     match l,hv1 with
     | [],_=>rfl
     | [c],h=>exact absurd rfl h
     | _::_::_,_=>rfl
    have q1:((v.size:Int)==1)=false:=by rw [beq_eq_false_iff_ne];omega
    go_wp2
    go_meet
    exact ⟨by rw [HD.out],rfl⟩
 case rest=>
  obtain ⟨rfl,rfl⟩:=hcut
  go_upto_if 33 with (fail)
  go_cut [5] (fun v wx=>v=.int .i64 dep/\wx=wc)
  case first=>
   cases hdg:digB o with
   | true=>
    obtain ⟨c,rfl,hc1,hc2,hc3⟩:=digB_yes o hdg
    have HD2:Hid (dep=(c.toNat:Int)-48):=HDEP.out.trans hc3
    have hc:=c.toNat_lt
    have ei:∀ h:0<(⟨#[c]⟩:ByteArray).size,(⟨#[c]⟩:ByteArray)[0]'h=c:=fun _=>rfl
    have qw:IntKind.u8.wrap ((c.toNat:Int)-48)=(c.toNat:Int)-48:=by unfold IntKind.wrap;simp [IntKind.bits];omega
    clear hc3 hdg
    go_wp2
    go_meet
    exact ⟨by rw [HD2.out],rfl⟩
   | false=>
    have HD2:Hid (dep=3):=HDEP.out.trans (digB_no o hdg)
    clear hdg
    go_wp2
    go_meet
    exact ⟨by rw [HD2.out],rfl⟩
  case rest=>
  obtain ⟨rfl,rfl⟩:=hcut
  obtain ⟨w3,hw3⟩:∃ w3:World,w3=wc:=⟨_,rfl⟩
  subst hw3
  have F3:=HF.out.grown h1 h2 h3 (q02 hb3)
  obtain ⟨nn,f,m1,m2,m3⟩:=F3.mp
  have hlk:=m1.look dep (WalkArith.wf_i64 (by omega))
  obtain ⟨x8,hx8⟩:∃ x8,x8=(f dep).getD nilV:=⟨_,rfl⟩
  obtain ⟨o9,ho9⟩:∃ o9,o9=(f dep).isSome:=⟨_,rfl⟩
  rw [<- hx8,<- ho9] at hlk
  have HX8:=hid hx8
  have HO9:=hid ho9
  clear hx8 ho9
  have e5:=F3.k5.cell 0 _ rfl
  have e4:=F3.k4.cell 0 _ rfl
  have M1:=hid m1
  have M2:=hid m2
  have M3:=hid m3
  have HF3:=hid F3
  have B3:=hid hb3
  have hw3:=hb3.size
  clear m1 m2 m3 F3 hb3 B1 HF HDEP
  go_upto_if 45 with (fail)
  go_cut [8] (fun v wx=>∃ (F2:Nat->Prop),Rd (fun b=>F2 b\/(b<N/\b≠mb)) wx (ensD (uptoE all dep)) [v]/\FlS N mb p5 p4 (.slice ea all.length ec) all F2 wx/\w.grownBy wx (some mb)/\(∀ b,Fz b->F2 b)/\(∀ b,F2 b->Fz b\/w.heap.size<=b))
  case first=>
   cases o9 with
   | true=>
    obtain ⟨v,hv⟩:=Option.isSome_iff_exists.1 HO9.out.symm
    obtain rfl:x8=v:=HX8.out.trans (by rw [hv];rfl)
    have HV:=hid (M3.out dep x8 hv)
    clear hv
    go_wp2
    go_meet
    exact ⟨Fz,HV.out,HF3.out,q0e (q02 B3.out) _,fun b h=>h,fun b h=>.inl h⟩
   | false=>
    have hfd:f dep=none:=Option.isNone_iff_eq_none.1 (by rw [Option.isNone_iff_eq_none,<- Option.not_isSome_iff_eq_none,<- HO9.out];simp)
    obtain rfl:x8=.slice none 0 0:=HX8.out.trans (by rw [hfd];rfl)
    have HFD:=hid hfd
    obtain ⟨ea',ec',hv2,hs2⟩:=Rd.sl_open HF3.out.en
    obtain ⟨rfl,rfl⟩:ea=ea'/\ec=ec':=by
     have h9:=(List.cons.inj hv2).1
     injection h9 with h9 _ h10
     exact ⟨h9,h10⟩
    have HS2:=hid hs2
    have R0:=hid (show F2Rel N mb w3 all dep (.slice none 0 0) (.int .i64 0) w3 from ⟨0,[],Nat.zero_le _,rfl,RowU.nil _ _ _ _⟩)
    have hNw3:N<=w3.heap.size:=HF3.out.n
    clear hfd hv2 hs2
    simp only [Bool.not_false]
    go_wp2
    go_loopw [8,48] (fun v vi wr=>F2Rel N mb w3 all dep v vi wr) (fun _ i _=>all.length-(intOf i).toNat)
    case atStart=>exact R0.out
    case round=>
     clear R0
     obtain ⟨k9,rows,hk,rfl,hrow⟩:=hrel
     obtain ⟨ds,hds⟩:∃ ds,ds=(uptoE (all.take k9) dep).map En.d:=⟨_,rfl⟩
     rw [<- hds] at hrow
     obtain ⟨m,hm⟩:∃ m,m=ds.length:=⟨_,rfl⟩
     have hmk:m<=k9:=by
      have:=upto_len (all.take k9) dep
      rw [List.length_take] at this
      rw [hm,hds,List.length_map];omega
     have HDN:=hid hm.symm
     have HDS:=hid hds
     obtain ⟨av,cv,rfl,-,-⟩:=hrow.cap hm.symm
     have HROW:=hid hrow
     have hbel:=hrow.bel
     clear hrow hm hds
     by_cases hlt:k9<all.length
     ·obtain ⟨x,hx⟩:∃ x,all[k9]?=some x:=⟨_,List.getElem?_eq_getElem hlt⟩
      have hsn:=upto_snoc all dep k9 x hx
      obtain ⟨g,off,vl,vr,rfl,hgo,hgl,c0,c1,c2,c3,c4,hER⟩:=ens_at (HS2.out.up0 hbel) hx
      obtain ⟨xl,id',tx,line,refs⟩:=x
      obtain ⟨al',nl',cl',rfl⟩:=Rd.sl_form hER.line
      obtain ⟨ar',nr',cr',rfl⟩:=Rd.sl_form hER.refs
      dsimp only at c0 c1 c2 c3 c4 hsn
      obtain ⟨p,hp⟩:∃ p,p=wr.heap.size:=⟨_,rfl⟩
      obtain ⟨wA,hwA⟩:∃ wA,wA=wr.alloc (.cells #[.int .i64 xl,.string id',.string tx,.slice al' nl' cl',.slice ar' nr' cr'] 42):=⟨_,rfl⟩
      have PA:CB 42 p [.int .i64 xl,.string id',.string tx,.slice al' nl' cl',.slice ar' nr' cr'] wA:=by rw [hwA,hp];exact CB.new _ _ _
      have UA:=hid (show RowU 42 5 (fun b=>b<N/\b≠mb) p w3 ds rows (.slice av m cv) wA by rw [hwA,hp];exact HROW.out.alloc _)
      have EL:=hid (show Rd (fun b=>(b<N/\b≠mb)\/p<=b) wA (En.mk xl id' tx line refs).d [.int .i64 xl,.string id',.string tx,.slice al' nl' cl',.slice ar' nr' cr'] from
       Rd.keep (ok:=fun b=>b<N/\b≠mb) (w:=wr) (fun b hb hlt'=>⟨.inl hb,by rw [hwA];exact Below.heap_alloc _ _ b hlt'⟩) _ _ (En.mk_ ⟨xl,id',tx,line,refs⟩ hER))
      obtain ⟨bb,hbb⟩:∃ bb,bb=decide (xl<=dep):=⟨_,rfl⟩
      have qb:decide (xl<=dep)=bb:=hbb.symm
      rw [qb] at hsn
      have HSN:Hid ((uptoE (all.take (k9+1)) dep).map En.d=ds++(if bb=true then [(⟨xl,id',tx,line,refs⟩:En)] else []).map En.d):=by
       show _=_
       rw [hsn,List.map_append,<- HDS.out]
      clear hER hx hbel hgo hgl hsn HDS hbb
      go_upto_region 10 with (fail)
      rw [<- hwA,<- hp]
      clear hwA hp HROW c0 c1 c2 c3 c4
      have e0:=PA.cell 0 _ rfl
      have e1:=PA.cell 1 _ rfl
      have e2:=PA.cell 2 _ rfl
      have e3:=PA.cell 3 _ rfl
      have e4':=PA.cell 4 _ rfl
      cases bb with
      | false=>
       have HX:Hid ((uptoE (all.take (k9+1)) dep).map En.d=ds):=by show _=_;rw [HSN.out];simp
       have HROW:=hid UA.out.top
       rw [<- HX.out] at HROW
       go_wp2
       go_roundw
       case rel=>exact ⟨k9+1,_,by omega,by go_num,HROW.out⟩
       case measure=>simp [intOf];omega
      | true=>
       have HX:Hid ((uptoE (all.take (k9+1)) dep).map En.d=ds++[(⟨xl,id',tx,line,refs⟩:En).d]):=by show _=_;rw [HSN.out];simp
       go_wp2_with (at_builtin;refine q0p rfl (.tmp 56) (.tmp 58) 29 rfl iE _ 88 Tryz.underlying29 hiE hzE0 hzE1 hzE2 rfl (by decide) UA.out (fun b hb=>Nat.lt_of_lt_of_le hb.1 hNw3) (⟨xl,id',tx,line,refs⟩:En).d [.int .i64 xl,.string id',.string tx,.slice al' nl' cl',.slice ar' nr' cr'] EL.out rfl one_five HDN.out (by omega) (by decide) rfl rfl ?_)
       intro a' c' w9 hrow hg9
       have HROW:=hid hrow
       rw [<- HX.out] at HROW
       clear hrow hg9
       go_wp2
       go_roundw
       case rel=>exact ⟨k9+1,_,by omega,by go_num,HROW.out⟩
       case measure=>simp [intOf];omega
     ·have hkl:k9=all.length:=by omega
      subst hkl
      rw [List.take_length] at HDS
      have mR:ValAt wr mb nn f:=M1.out.same (hbel.block mb (by omega))
      obtain ⟨w7,hup,hv7,hg7⟩:=mR.put dep (.slice av m cv) (WalkArith.wf_i64 (by omega)) (by have:=cntF_le f;have:=M2.out;unfold maxLen;omega)
      have FR:=HF3.out.grown h1 h2 h3 (q02 hbel)
      have e5:=FR.k5.cell 0 _ rfl
      have hRD:=HROW.out.rd.inside
      rw [HDS.out] at hRD
      have hwr:=hbel.size
      have ne:∀ b,b≠mb->some b≠some mb:=fun b hb e=>hb (Option.some.inj e)
      have h7:Rd (fun b=>(Fz b\/(w3.heap.size<=b/\b<wr.heap.size))\/(b<N/\b≠mb)) w7 (ensD (uptoE all dep)) [.slice av m cv]:=
       Rd.keep (ok:=fun b=>((b<N/\b≠mb)\/w3.heap.size<=b)/\b<wr.heap.size) (w:=wr) (fun b hb hlt'=>⟨by omega,hg7.block b hlt' (ne b (by omega))⟩) _ _ hRD
      have FIN:Hid (∃ (F2:Nat->Prop),Rd (fun b=>F2 b\/(b<N/\b≠mb)) w7 (ensD (uptoE all dep)) [.slice av m cv]/\FlS N mb p5 p4 (.slice ea all.length ec) all F2 w7/\w.grownBy w7 (some mb)/\(∀ b,Fz b->F2 b)/\(∀ b,F2 b->Fz b\/w.heap.size<=b)):=by
       refine ⟨fun b=>Fz b\/(w3.heap.size<=b/\b<wr.heap.size),h7,?_,q05 (q05 (q0e (q02 B3.out) _) (q0e (q02 hbel) _)) hg7,fun b h=>.inl h,fun b h=>h.imp id (fun h=>by omega)⟩
       have hsz:=hg7.size
       refine ⟨Nat.le_trans FR.n hsz,fun b hb=>⟨by rcases hb with hb | hb;exact (FR.lt b hb).1;omega,Nat.lt_of_lt_of_le (by rcases hb with hb | hb;exact (FR.lt b hb).2;exact hb.2) hsz⟩,q04 FR.k5 hg7 (ne _ h5),q04 FR.k4 hg7 (ne _ h4),Rd.keep (fun b hb hlt'=>⟨hb,hg7.block b hlt' (ne b hb.2)⟩) _ _ FR.en,nn+1,_,hv7,Nat.le_trans (Nat.succ_le_succ M2.out) (cntF_put f dep _ hd1 hd6 HFD.out),?_⟩
       intro d v hdv
       by_cases hdd:d=dep
       ·rw [if_pos hdd] at hdv
        rw [hdd,<- Option.some.inj hdv]
        exact h7
       ·rw [if_neg hdd] at hdv
        refine Rd.keep (ok:=fun b=>Fz b\/(b<N/\b≠mb)) (w:=w3) (fun b hb hlt'=>⟨hb.imp .inl id,?_⟩) _ _ (M3.out d v hdv)
        have hbm:b≠mb:=by
         rcases hb with hb | hb
         ·have h9:=(HF3.out.lt b hb).1
          omega
         ·exact hb.2
        rw [hg7.block b (by omega) (ne b hbm),hbel.block b hlt']
      clear mR hv7 hg7 FR hRD h7 ne hbel
      go_wp2
      go_meet
      exact FIN.out
  case rest=>
   obtain ⟨F2,hRD,F4,g4,m4a,m4b⟩:=hcut
   obtain ⟨av4,nv4,cv4,hv4⟩:=Rd.sl_form hRD
   subst hv4
   obtain ⟨w4,hw4⟩:∃ w4:World,w4=wc:=⟨_,rfl⟩
   subst hw4
   have LS:=hid (tocList_any (uptoE all dep) (.slice av4 nv4 cv4) w4 (hRD.inside.weaken (fun b hb=>hb.2)) (HOK.out.upto dep))
   have FIN:Hid (∀ (v5:Value) (w5:World),Rd (w4.heap.size<=·) w5 (q0x (q1v (uptoE all dep))) [v5]->Below w4.heap.size w4 w5->KcPost (FlS N mb p5 p4 (.slice ea all.length ec) all) mb Fz w (q1v (uptoE all dep)) (.returned v5) w5):=
    fun v5 w5 h5' b5=>⟨v5,F2,rfl,h5'.weaken (fun b hb=>Nat.le_trans g4.size hb),q05 g4 (q0e (q02 b5) _),F4.grown h1 h2 h3 (q02 b5),m4a,m4b⟩
   clear hRD F4 g4 m4a m4b M1 M2 M3 HF3 B3 HX8 HO9 hlk e5 e4
   go_wp2_with fail
   (with_reducible refine LS.out.mono ?_)
   rintro e w5 ⟨v5,rfl,h5',b5⟩
   have FI:=FIN.out v5 w5 h5' b5
   have FIH:=hid FI
   clear FI FIN h5' b5 LS
   go_wp2
   go_ret
   exact FIH.out
end Go.Proofs.YtlbioncagkkkoaaGreatDoor
