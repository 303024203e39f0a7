/- publisherref04.texts, Pairs, attrs, SameLine, SameBlocks, Same: they answer whether the data are equal. publisherref04.SameBlocks, Same: they answer whether the data are equal. -/
import Derived.Test.YtlbioncagkkkoaaGreatDoorKWeight
import Derived.Deep.DeepCutAuto
import Derived.RegionTactic
import Derived.BigRegion
set_option maxHeartbeats 8000000
set_option maxRecDepth 100000
open Go.Lib (hid)
namespace Go.Proofs.YtlbioncagkkkoaaGreatDoor
open Go.RowKit
set_option linter.unusedVariables false
set_option linter.unusedSimpArgs false
theorem Rd.any {ok:Nat->Prop} {w:World} {d:D} {cs:List Value} (h:Rd ok w d cs):Rd (·<w.heap.size) w d cs:=Rd.keep (fun b _ hlt=>⟨hlt,rfl⟩) _ _ h
theorem q2a {y z:ByteArray} (h:y≠z):(y.toList != z.toList)=true:=by
 rw [Lib.toList_data,Lib.toList_data]
 simp only [bne_iff_ne,ne_eq]
 intro e
 exact h (ByteArray.ext (Array.ext' e))
theorem q2b {y z:ByteArray} (h:y≠z):(y.toList==z.toList)=false:=by
 have:=q2a h
 simpa [bne] using this
theorem take_same {α:Type} {l m:List α} {k:Nat} {y:α} (h:l.take k=m.take k) (h1:l[k]?=some y) (h2:m[k]?=some y):l.take (k+1)=m.take (k+1):=by
 rw [List.take_add_one,List.take_add_one,h,h1,h2]
theorem get_ne {α:Type} {l m:List α} {k:Nat} {y z:α} (h1:l[k]?=some y) (h2:m[k]?=some z) (h:y≠z):l≠m:=by
 rintro rfl
 rw [h1] at h2
 exact h (Option.some.inj h2)
theorem take_whole {α:Type} {l m:List α} (h:l.take l.length=m.take l.length) (hl:l.length=m.length):l=m:=by
 rw [List.take_length,hl,List.take_length] at h
 exact h
def DqRel {α:Type} (l m:List α) (w:World) (vi:Value) (wr:World):Prop:=∃ k q:Nat,k<=l.length/\vi=.int .i64 k/\l.take k=m.take k/\wr=w.drewN q
def SmPost {α:Type} (l m:List α) (w:World) (e:Ending) (w':World):Prop:=∃ b,e=.returned (.bool b)/\(b=true↔l=m)/\Below w.heap.size w w'
def SmPq {α:Type} (l m:List α) (w:World) (e:Ending) (w':World):Prop:=∃ b,e=.returned (.bool b)/\(b=true↔l=m)/\∃ q,w'=w.drewN q
theorem no_iff {P:Prop} (h:¬ P):false=true↔P:=⟨fun e=>(by cases e),fun e=>absurd e h⟩
theorem yes_iff {P:Prop} (h:P):true=true↔P:=⟨fun _=>h,fun _=>rfl⟩
theorem texts_any (l m:List ByteArray) (v1 v2:Value) (w:World) (h1:Rd (·<w.heap.size) w (strsD l) [v1]) (h2:Rd (·<w.heap.size) w (strsD m) [v2]) :
  Calls Tryz.prog 59 #[v1,v2] w (SmPq l m w):=by
 obtain ⟨a1,c1,hv1,hs1⟩:=Rd.sl_open h1
 obtain ⟨a2,c2,hv2,hs2⟩:=Rd.sl_open h2
 obtain rfl:v1=.slice a1 l.length c1:=by simpa using hv1
 obtain rfl:v2=.slice a2 m.length c2:=by simpa using hv2
 have hc1:l.length<=c1:=by simpa using hs1.le
 have hc2:m.length<=c2:=by simpa using hs2.le
 have hm1:=hs1.max
 have hm2:=hs2.max
 unfold maxLen at hm1 hm2
 have H1:=hid hs1
 have H2:=hid hs2
 clear h1 h2 hv1 hv2 hs1 hs2
 by_cases hL:l.length=m.length
 case neg=>
  have hll:((l.length:Int) != m.length)=true:=by simp;omega
  have hno:l≠m:=fun h=>hL (by rw [h])
  have HNO:=hid hno
  clear hno H1 H2 hL
  go_enter Tryz.func59,Tryz.ntmps59
  go_wp2
  go_ret
  exact ⟨false,rfl,no_iff HNO.out,0,rfl⟩
 have hll:((l.length:Int) != m.length)=false:=by simp;omega
 have HL:=hid hL
 have hme:m.length=l.length:=hL.symm
 clear hL
 have R0:Hid (DqRel l m w (.int .i64 0) w):=⟨0,0,Nat.zero_le _,rfl,by simp,rfl⟩
 go_enter Tryz.func59,Tryz.ntmps59
 go_wp2
 go_loopw [5] (fun i wr=>DqRel l m w i wr) (fun i _=>l.length-(intOf i).toNat)
 case atStart=>exact R0.out
 case round=>
  clear R0
  obtain ⟨k,q,hk,rfl,htk,rfl⟩:=hrel
  have HTK:=hid htk
  clear htk
  by_cases hlt:k<l.length
  ·obtain ⟨y,hy⟩:∃ y,l[k]?=some y:=⟨_,List.getElem?_eq_getElem hlt⟩
   obtain ⟨z,hz⟩:∃ z,m[k]?=some z:=⟨_,List.getElem?_eq_getElem (by omega)⟩
   obtain ⟨b1,o1,rfl,-,-,k1⟩:=strs_at H1.out hy
   obtain ⟨b2,o2,rfl,-,-,k2⟩:=strs_at H2.out hz
   by_cases hyz:y=z
   ·subst hyz
    have HTS:=hid (take_same HTK.out hy hz)
    clear H1 H2 hy hz
    have hne:(y.toList != y.toList)=false:=by simp
    go_wp2_with fail
    go_quiet (fail)
    go_wp2
    go_roundw
    case rel=>exact ⟨k+1,_,by omega,by go_num,HTS.out,rfl⟩
    case measure=>simp [intOf];omega
   ·have HNE:=hid (get_ne hy hz hyz)
    clear H1 H2 hy hz
    have hne:=q2a hyz
    have hne2:=q2b hyz
    clear hyz
    go_wp2_with fail
    go_quiet (fail)
    go_wp2
    go_ret
    exact ⟨false,rfl,no_iff HNE.out,_,World.drewN_drewN _ _ _⟩
  ·obtain rfl:k=l.length:=by omega
   clear H1 H2
   go_wp2
   go_ret
   exact ⟨true,rfl,yes_iff (take_whole HTK.out HL.out),q,rfl⟩
theorem pairs_any (l m:List Pr) (v1 v2:Value) (w:World) (h1:Rd (·<w.heap.size) w (prsD l) [v1]) (h2:Rd (·<w.heap.size) w (prsD m) [v2]) :
  Calls Tryz.prog 32 #[v1,v2] w (SmPq l m w):=by
 obtain ⟨a1,c1,hv1,hs1⟩:=Rd.sl_open h1
 obtain ⟨a2,c2,hv2,hs2⟩:=Rd.sl_open h2
 obtain rfl:v1=.slice a1 l.length c1:=by simpa using hv1
 obtain rfl:v2=.slice a2 m.length c2:=by simpa using hv2
 have hc1:l.length<=c1:=by simpa using hs1.le
 have hc2:m.length<=c2:=by simpa using hs2.le
 have hm1:=hs1.max
 have hm2:=hs2.max
 unfold maxLen at hm1 hm2
 have H1:=hid hs1
 have H2:=hid hs2
 clear h1 h2 hv1 hv2 hs1 hs2
 by_cases hL:l.length=m.length
 case neg=>
  have hll:((l.length:Int) != m.length)=true:=by simp;omega
  have hno:l≠m:=fun h=>hL (by rw [h])
  have HNO:=hid hno
  clear hno H1 H2 hL
  go_enter Tryz.func32,Tryz.ntmps32
  go_wp2
  go_ret
  exact ⟨false,rfl,no_iff HNO.out,0,rfl⟩
 have hll:((l.length:Int) != m.length)=false:=by simp;omega
 have HL:=hid hL
 have hme:m.length=l.length:=hL.symm
 clear hL
 have R0:Hid (DqRel l m w (.int .i64 0) w):=⟨0,0,Nat.zero_le _,rfl,by simp,rfl⟩
 go_enter Tryz.func32,Tryz.ntmps32
 go_wp2
 go_loopw [5] (fun i wr=>DqRel l m w i wr) (fun i _=>l.length-(intOf i).toNat)
 case atStart=>exact R0.out
 case round=>
  clear R0
  obtain ⟨k,q,hk,rfl,htk,rfl⟩:=hrel
  have HTK:=hid htk
  clear htk
  by_cases hlt:k<l.length
  ·obtain ⟨y,hy⟩:∃ y,l[k]?=some y:=⟨_,List.getElem?_eq_getElem hlt⟩
   obtain ⟨z,hz⟩:∃ z,m[k]?=some z:=⟨_,List.getElem?_eq_getElem (by omega)⟩
   obtain ⟨b1,o1,rfl,-,-,k1,k2⟩:=prs_at H1.out hy
   obtain ⟨b2,o2,rfl,-,-,k3,k4⟩:=prs_at H2.out hz
   by_cases hyz:y=z
   ·subst hyz
    have HTS:=hid (take_same HTK.out hy hz)
    clear H1 H2 hy hz
    obtain ⟨yk,yv⟩:=y
    dsimp only at k1 k2 k3 k4
    have hne1:(yk.toList != yk.toList)=false:=by simp
    have hne2:(yv.toList != yv.toList)=false:=by simp
    have hne3:(yk.toList==yk.toList)=true:=by simp
    have hne4:(yv.toList==yv.toList)=true:=by simp
    go_wp2_with fail
    go_quiet (fail)
    go_wp2
    go_roundw
    case rel=>exact ⟨k+1,_,by omega,by go_num,HTS.out,rfl⟩
    case measure=>simp [intOf];omega
   ·have HNE:=hid (get_ne hy hz hyz)
    clear H1 H2 hy hz
    obtain ⟨yk,yv⟩:=y
    obtain ⟨zk,zv⟩:=z
    dsimp only at k1 k2 k3 k4
    by_cases e1:yk=zk
    ·subst e1
     have e2:yv≠zv:=fun e=>hyz (by rw [e])
     have hne1:(yk.toList != yk.toList)=false:=by simp
     have hne3:(yk.toList==yk.toList)=true:=by simp
     have hne2:=q2a e2
     have hne4:=q2b e2
     clear hyz e2
     go_wp2_with fail
     go_quiet (fail)
     go_wp2
     go_ret
     exact ⟨false,rfl,no_iff HNE.out,_,World.drewN_drewN _ _ _⟩
    ·have hne1:=q2a e1
     have hne3:=q2b e1
     clear hyz e1
     go_wp2_with fail
     go_quiet (fail)
     go_wp2
     go_ret
     exact ⟨false,rfl,no_iff HNE.out,_,World.drewN_drewN _ _ _⟩
  ·obtain rfl:k=l.length:=by omega
   clear H1 H2
   go_wp2
   go_ret
   exact ⟨true,rfl,yes_iff (take_whole HTK.out HL.out),q,rfl⟩
theorem attrs_any (a b:At) (vc vp uc up:Value) (w:World) (h1:AtR (·<w.heap.size) w a vc vp) (h2:AtR (·<w.heap.size) w b uc up) :
  Calls Tryz.prog 58 #[.agg #[.string a.id,vc,vp],.agg #[.string b.id,uc,up]] w fun e w'=>∃ r,e=.returned (.bool r)/\(r=true↔a=b)/\Below w.heap.size w w':=by
 obtain ⟨ac,nc,cc,rfl⟩:=Rd.slf h1.cls
 obtain ⟨ap,np,cp,rfl⟩:=Rd.slf h1.prs
 obtain ⟨bc,mc,dc,rfl⟩:=Rd.slf h2.cls
 obtain ⟨bp,mp,dp,rfl⟩:=Rd.slf h2.prs
 obtain ⟨w0,hw0⟩:∃ w0,w0=(w.alloc (.cells #[.string a.id,.slice ac nc cc,.slice ap np cp] 44)).alloc (.cells #[.string b.id,.slice bc mc dc,.slice bp mp dp] 44):=⟨_,rfl⟩
 have hb0:Below w.heap.size w w0:=by rw [hw0];exact ((Below.refl _ _).alloc (Nat.le_refl _) _).alloc (by simp) _
 have k1:CB 44 w.heap.size [.string a.id,.slice ac nc cc,.slice ap np cp] w0:=by
  rw [hw0];exact (CB.new _ _ _).below ((Below.refl _ _).alloc (Nat.le_refl _) _)
 have k2:CB 44 (w.heap.size+1) [.string b.id,.slice bc mc dc,.slice bp mp dp] w0:=by
  rw [hw0]
  have:=CB.new 44 [.string b.id,.slice bc mc dc,.slice bp mp dp] (w.alloc (.cells #[.string a.id,.slice ac nc cc,.slice ap np cp] 44))
  rwa [World.size_alloc] at this
 have T1:=hid (texts_any a.cls b.cls _ _ w0 (h1.cls.up hb0) (h2.cls.up hb0))
 have T2:=hid (fun q=>pairs_any a.prs b.prs _ _ (w0.drewN q) ((h1.prs.up hb0).up (q03 (Below.refl _ _) q)) ((h2.prs.up hb0).up (q03 (Below.refl _ _) q)))
 have x0:=k1.cell 0 _ rfl
 have x1:=k1.cell 1 _ rfl
 have x2:=k1.cell 2 _ rfl
 have y0:=k2.cell 0 _ rfl
 have y1:=k2.cell 1 _ rfl
 have y2:=k2.cell 2 _ rfl
 obtain ⟨ia,ca,pa⟩:=a
 obtain ⟨ib,cb,pb⟩:=b
 dsimp only at x0 y0 T1 T2 hw0 ⊢
 have HB0:=hid hb0
 clear h1 h2 k1 k2 hb0
 by_cases c0:ia=ib
 case neg=>
  have hee:=q2b c0
  have hno:¬ (At.mk ia ca pa=At.mk ib cb pb):=fun h=>c0 (by injection h)
  have HNO:=hid hno
  clear c0 hno
  go_enter Tryz.func58,Tryz.ntmps58
  go_upto_region 1 with (fail)
  rw [<- hw0]
  clear hw0
  go_wp2
  go_ret
  exact ⟨false,rfl,no_iff HNO.out,HB0.out⟩
 subst c0
 have hee:(ia.toList==ia.toList)=true:=by simp
 go_enter Tryz.func58,Tryz.ntmps58
 go_upto_region 1 with (fail)
 rw [<- hw0]
 clear hw0
 go_wp2_with fail
 refine T1.out.mono ?_
 rintro e w1 ⟨r1,rfl,i1,q,rfl⟩
 have I1:=hid i1
 clear i1
 cases r1 with
 | false=>
  go_wp2
  go_ret
  exact ⟨false,rfl,no_iff (fun h=>by injection h with _ h _;exact absurd (I1.out.2 h) (by simp)),q03 HB0.out q⟩
 | true=>
  go_wp2_with fail
  refine (T2.out q).mono ?_
  rintro e w1 ⟨r2,rfl,i2,q2,rfl⟩
  have I2:=hid i2
  clear i2
  go_wp2
  go_ret
  refine ⟨r2,rfl,?_,q03 HB0.out _⟩
  rw [I2.out]
  have:=I1.out.1 (by simp)
  simp [this]
def SmL2 {α:Type} (l m:List α) (w:World) (vi:Value) (wr:World):Prop:=∃ k,k<=l.length/\vi=.int .i64 k/\l.take k=m.take k/\Below w.heap.size w wr
def Two (T:TypeId) (w:World) (cs ds:List Value) (v6 v7:Value) (wx:World):Prop:=∃ p q:Nat,v6=.pointer (some ⟨p,0,none⟩)/\v7=.pointer (some ⟨q,0,none⟩)/\CB T p cs wx/\CB T q ds wx/\Below w.heap.size w wx
theorem two_12 (T:TypeId) (w:World) (cs ds:List Value):Two T w cs ds (.pointer (some ⟨w.heap.size,0,none⟩)) (.pointer (some ⟨w.heap.size+1,0,none⟩)) ((w.alloc (.cells cs.toArray T)).alloc (.cells ds.toArray T)).drew:=
 ⟨_,_,rfl,rfl,((CB.new T cs w).below ((Below.refl _ _).alloc (Nat.le_refl _) (.cells ds.toArray T)):CB T _ cs _),by have:=CB.new T ds (w.alloc (.cells cs.toArray T));rwa [World.size_alloc] at this,q03 (((Below.refl _ _).alloc (Nat.le_refl _) _).alloc (by simp) _) 1⟩
theorem two_21 (T:TypeId) (w:World) (cs ds:List Value):Two T w cs ds (.pointer (some ⟨w.heap.size+1,0,none⟩)) (.pointer (some ⟨w.heap.size,0,none⟩)) ((w.alloc (.cells ds.toArray T)).alloc (.cells cs.toArray T)).drew:=by
 obtain ⟨p,q,h1,h2,h3,h4,h5⟩:=two_12 T w ds cs
 exact ⟨q,p,h2,h1,h4,h3,h5⟩
def FsEq (FE:Prop) (T:TypeId) (p q:Nat) (cs ds:List Value) (w:World) (v:Value) (wx:World):Prop:=∃ b,v=.bool b/\(b=false↔FE)/\CB T p cs wx/\CB T q ds wx/\Below w.heap.size w wx
theorem ne_iff {P:Prop} (h:¬ P):true=false↔P:=⟨fun e=>(by cases e),fun e=>absurd e h⟩
theorem sameLine_any (n:Nat):∀ (l m:List Inl) (v1 v2:Value) (w:World),Inl.szL l<=n->Rd (·<w.heap.size) w (q0w l) [v1]->Rd (·<w.heap.size) w (q0w m) [v2] ->
  Calls Tryz.prog 24 #[v1,v2] w (SmPost l m w):=by
 induction n using Nat.strongRecOn with
 | _ n ih=>
  intro l m v1 v2 w hn h1 h2
  obtain ⟨a1,c1,hv1,hs1⟩:=Rd.sl_open h1
  obtain ⟨a2,c2,hv2,hs2⟩:=Rd.sl_open h2
  obtain rfl:v1=.slice a1 l.length c1:=by simpa using hv1
  obtain rfl:v2=.slice a2 m.length c2:=by simpa using hv2
  have hc1:l.length<=c1:=by simpa using hs1.le
  have hc2:m.length<=c2:=by simpa using hs2.le
  have hm1:=hs1.max
  have hm2:=hs2.max
  unfold maxLen at hm1 hm2
  have H1:=hid hs1
  have H2:=hid hs2
  have IH:=hid ih
  clear h1 h2 hv1 hv2 hs1 hs2 ih
  by_cases hL:l.length=m.length
  case neg=>
   have hll:((l.length:Int) != m.length)=true:=by simp;omega
   have HNO:=hid (fun h:l=m=>hL (by rw [h]))
   clear H1 H2 hL IH
   go_enter Tryz.func24,Tryz.ntmps24
   go_wp2
   go_ret
   exact ⟨false,rfl,no_iff HNO.out,Below.refl _ _⟩
  have hll:((l.length:Int) != m.length)=false:=by simp;omega
  have HL:=hid hL
  have hme:m.length=l.length:=hL.symm
  clear hL
  have R0:Hid (SmL2 l m w (.int .i64 0) w):=⟨0,Nat.zero_le _,rfl,by simp,Below.refl _ _⟩
  go_enter Tryz.func24,Tryz.ntmps24
  go_wp2
  go_loopw [5] (fun i wr=>SmL2 l m w i wr) (fun i _=>l.length-(intOf i).toNat)
  case atStart=>exact R0.out
  case round=>
   clear R0
   obtain ⟨k,hk,rfl,htk,hbel⟩:=hrel
   have HBEL:=hid hbel
   have HTK:=hid htk
   clear hbel htk
   by_cases hlt:k<l.length
   ·obtain ⟨x,hx⟩:∃ x,l[k]?=some x:=⟨_,List.getElem?_eq_getElem hlt⟩
    obtain ⟨y,hy⟩:∃ y,m[k]?=some y:=⟨_,List.getElem?_eq_getElem (by omega)⟩
    obtain ⟨kd,t,d,ti,at_,ar,ci,ks⟩:=x
    obtain ⟨kd',t',d',ti',at_',ar',ci',ks'⟩:=y
    obtain ⟨g,off,vc,vp,va,vi,vk,rfl,hok,hbl,hc,hR⟩:=q1b H1.out hx
    obtain ⟨g',off',vc',vp',va',vi',vk',rfl,hok',hbl',hc',hR'⟩:=q1b H2.out hy
    have hsz:=Inl.szL_get l k _ hx
    rw [Inl.sz] at hsz
    obtain ⟨aa,na,ca,rfl⟩:=Rd.slf hR.args
    obtain ⟨ai,cai,hvi,hsi⟩:=Rd.sl_open hR.cites
    obtain ⟨ac,nc,cc,rfl⟩:=Rd.slf hR.at_.cls
    obtain ⟨ap,np,cp,rfl⟩:=Rd.slf hR.at_.prs
    obtain ⟨ak,nk,ck,rfl⟩:=Rd.slf hR.kids
    obtain ⟨aa',na',ca',rfl⟩:=Rd.slf hR'.args
    obtain ⟨ai',cai',hvi',hsi'⟩:=Rd.sl_open hR'.cites
    obtain ⟨ac',nc',cc',rfl⟩:=Rd.slf hR'.at_.cls
    obtain ⟨ap',np',cp',rfl⟩:=Rd.slf hR'.at_.prs
    obtain ⟨ak',nk',ck',rfl⟩:=Rd.slf hR'.kids
    obtain rfl:vi=.slice ai ci.length cai:=by simpa using hvi
    obtain rfl:vi'=.slice ai' ci'.length cai':=by simpa using hvi'
    obtain ⟨p0,p1,p2,p3,p4,p5,p6,p7,p8,p9⟩:=hc.at2 (w':=wr) (HBEL.out.block g hok)
    obtain ⟨q0,q1,q2,q3,q4,q5,q6,q7,q8,q9⟩:=hc'.at2 (w':=wr) (HBEL.out.block g' hok')
    have HR:=hid hR
    have HR':=hid hR'
    have HSI:=hid hsi
    have HSI':=hid hsi'
    have HX:=hid hx
    have HY:=hid hy
    clear hc hc' hR hR' hsi hsi' hvi hvi' hx hy
    have hlg:=q0c p0
    have hlg':=q0c q0
    go_upto_region 6 with (fail)
    go_cut [6,7] (fun v6 v7 wx=>Two 47 wr [.int .i64 kd,.string t,.string d,.string ti,.string at_.id,.slice ac nc cc,.slice ap np cp,.slice aa na ca,.slice ai ci.length cai,.slice ak nk ck] [.int .i64 kd',.string t',.string d',.string ti',.string at_'.id,.slice ac' nc' cc',.slice ap' np' cp',.slice aa' na' ca',.slice ai' ci'.length cai',.slice ak' nk' ck'] v6 v7 wx)
    case first=>
     go_region
     all_goals
      go_wp2_with fail
      go_meet
      first
      | exact two_12 _ _ _ _
      | exact two_21 _ _ _ _
    case rest=>
     obtain ⟨p,q,rfl,rfl,k1,k2,hb⟩:=hcut
     have hbw:=q01 HBEL.out hb
     have K1:=hid k1
     have K2:=hid k2
     have HBW:=hid hbw
     clear p0 p1 p2 p3 p4 p5 p6 p7 p8 p9 q0 q1 q2 q3 q4 q5 q6 q7 q8 q9 hb hlg hlg' HBEL
     go_upto_region 7 with (fail)
     go_cut [86] (fun v wx=>FsEq (kd=kd'/\t=t'/\d=d'/\ti=ti'/\at_=at_'/\ar=ar'/\ci.length=ci'.length/\ks=ks') 47 p q [.int .i64 kd,.string t,.string d,.string ti,.string at_.id,.slice ac nc cc,.slice ap np cp,.slice aa na ca,.slice ai ci.length cai,.slice ak nk ck] [.int .i64 kd',.string t',.string d',.string ti',.string at_'.id,.slice ac' nc' cc',.slice ap' np' cp',.slice aa' na' ca',.slice ai' ci'.length cai',.slice ak' nk' ck'] wc v wx)
     case first=>
      have z0:=k1.cell 0 _ rfl
      have y0:=k2.cell 0 _ rfl
      by_cases f0:kd=kd'
      case neg=>
       have n0:(kd != kd')=true:=by simp [f0]
       clear k1 k2 hbw
       go_wp2_with fail
       go_meet
       exact ⟨true,rfl,ne_iff (fun h=>f0 h.1),K1.out,K2.out,Below.refl _ _⟩
      subst f0
      have n0:(kd != kd)=false:=by simp
      have z1:=k1.cell 1 _ rfl
      have y1:=k2.cell 1 _ rfl
      by_cases f1:t=t'
      case neg=>
       have n1:=q2a f1
       have n1':=q2b f1
       clear k1 k2 hbw
       go_wp2_with fail
       go_meet
       exact ⟨true,rfl,ne_iff (fun h=>f1 h.2.1),K1.out,K2.out,Below.refl _ _⟩
      subst f1
      have n1:(t.toList != t.toList)=false:=by simp
      have n1':(t.toList==t.toList)=true:=by simp
      have z2:=k1.cell 2 _ rfl
      have y2:=k2.cell 2 _ rfl
      by_cases f2:d=d'
      case neg=>
       have n2:=q2a f2
       have n2':=q2b f2
       clear k1 k2 hbw
       go_wp2_with fail
       go_meet
       exact ⟨true,rfl,ne_iff (fun h=>f2 h.2.2.1),K1.out,K2.out,Below.refl _ _⟩
      subst f2
      have n2:(d.toList != d.toList)=false:=by simp
      have n2':(d.toList==d.toList)=true:=by simp
      have z3:=k1.cell 3 _ rfl
      have y3:=k2.cell 3 _ rfl
      by_cases f3:ti=ti'
      case neg=>
       have n3:=q2a f3
       have n3':=q2b f3
       clear k1 k2 hbw
       go_wp2_with fail
       go_meet
       exact ⟨true,rfl,ne_iff (fun h=>f3 h.2.2.2.1),K1.out,K2.out,Below.refl _ _⟩
      subst f3
      have n3:(ti.toList != ti.toList)=false:=by simp
      have n3':(ti.toList==ti.toList)=true:=by simp
      have z4:=k1.cell 4 _ rfl
      have z5:=k1.cell 5 _ rfl
      have z6:=k1.cell 6 _ rfl
      have y4:=k2.cell 4 _ rfl
      have y5:=k2.cell 5 _ rfl
      have y6:=k2.cell 6 _ rfl
      have A1:=hid (attrs_any at_ at_' _ _ _ _ wc (HR.out.at_.up hbw) (HR'.out.at_.up hbw))
      clear k1 k2 hbw
      go_wp2_with fail
      refine A1.out.mono ?_
      rintro e w1 ⟨r1,rfl,i1,b1⟩
      have I1:=hid i1
      have B1:=hid b1
      have k1:=K1.out.below b1
      have k2:=K2.out.below b1
      have hbw:=q01 HBW.out b1
      have K3:=hid k1
      have K4:=hid k2
      have HBV:=hid hbw
      clear i1 b1 A1 z0 z1 z2 z3 z4 z5 z6 y0 y1 y2 y3 y4 y5 y6
      cases r1 with
      | false=>
       clear k1 k2 hbw
       go_wp2_with fail
       go_meet
       exact ⟨true,rfl,ne_iff (fun h=>absurd (I1.out.2 h.2.2.2.2.1) (by simp)),K3.out,K4.out,B1.out⟩
      | true=>
       have z7:=k1.cell 7 _ rfl
       have y7:=k2.cell 7 _ rfl
       have T1:=hid (texts_any ar ar' _ _ w1 (HR.out.args.up hbw) (HR'.out.args.up hbw))
       have hat:=I1.out.1 (by simp)
       have HAT:=hid hat
       clear hat k1 k2 hbw
       go_wp2_with fail
       refine T1.out.mono ?_
       rintro e w2 ⟨r2,rfl,i2,qq,rfl⟩
       have I2:=hid i2
       have k1:=K3.out.cell 8 _ rfl
       have k2:=K4.out.cell 8 _ rfl
       have k3:=K3.out.cell 9 _ rfl
       have k4:=K4.out.cell 9 _ rfl
       clear i2 T1 z7 y7
       cases r2 with
       | false=>
        go_wp2_with fail
        go_meet
        exact ⟨true,rfl,ne_iff (fun h=>absurd (I2.out.2 h.2.2.2.2.2.1) (by simp)),K3.out,K4.out,q03 B1.out qq⟩
       | true=>
        have har:=I2.out.1 (by simp)
        have HAR:=hid har
        clear har
        by_cases c4:ci.length=ci'.length
        case neg=>
         have n4:((ci.length:Int) != ci'.length)=true:=by simp;omega
         go_wp2_with fail
         go_meet
         exact ⟨true,rfl,ne_iff (fun h=>c4 h.2.2.2.2.2.2.1),K3.out,K4.out,q03 B1.out qq⟩
        have n4:((ci.length:Int) != ci'.length)=false:=by simp;omega
        have C4:=hid c4
        have S1:=hid (IH.out (Inl.szL ks) (by omega) ks ks' _ _ (w1.drewN qq) (Nat.le_refl _) (HR.out.kids.up (q03 HBV.out qq)) (HR'.out.kids.up (q03 HBV.out qq)))
        clear c4
        go_wp2_with fail
        refine S1.out.mono ?_
        rintro e w3 ⟨r3,rfl,i3,b3⟩
        have I3:=hid i3
        have B3:=hid b3
        clear i3 b3 S1 k1 k2 k3 k4
        have B13:=hid (q01 (q03 B1.out qq) B3.out)
        have K5:Hid (CB 47 p _ w3):=K3.out.below (q01 (q03 (Below.refl _ _) qq) B3.out)
        have K6:Hid (CB 47 q _ w3):=K4.out.below (q01 (q03 (Below.refl _ _) qq) B3.out)
        go_wp2_with fail
        go_meet
        refine ⟨!r3,rfl,?_,K5.out,K6.out,B13.out⟩
        have i3:=I3.out
        constructor
        ·intro h
         have h:r3=true:=by simpa using h
         exact ⟨by simp,by simp,by simp,by simp,HAT.out,HAR.out,C4.out,i3.1 h⟩
        ·intro h
         have:=i3.2 h.2.2.2.2.2.2.2
         simp [this]
     case rest=>
      obtain ⟨b,rfl,hfe,k1,k2,hb⟩:=hcut
      have HFE:=hid hfe
      have hbw:=q01 HBW.out hb
      have HB3:=hid hbw
      cases b with
      | true=>
       have HNO:Hid (l≠m):=get_ne HX.out HY.out (fun h=>by injection h with h0 h1 h2 h3 h4 h5 h6 h7;exact absurd (HFE.out.2 ⟨h0,h1,h2,h3,h4,h5,by rw [h6],h7⟩) (by simp))
       clear hfe k1 k2 hb hbw
       go_wp2
       go_ret
       exact ⟨false,rfl,no_iff HNO.out,HB3.out⟩
      | false=>
       obtain ⟨h0,h1,h2,h3,h4,h5,h6,h7⟩:=HFE.out.1 (by simp)
       subst h0 h1 h2 h3 h4 h5 h7
       have z8:=k1.cell 8 _ rfl
       have y8:=k2.cell 8 _ rfl
       have hci:ci.length<=cai:=by simpa using HSI.out.le
       have hci':ci'.length<=cai':=by simpa using HSI'.out.le
       have hcm:=HSI.out.max
       have hcm':=HSI'.out.max
       unfold maxLen at hcm hcm'
       rw [<- h6] at hci'
       have CI:Hid (∀ j y,ci[j]?=some y->∃ b off,ai=some ⟨b,off,none⟩/\wc.cell? ⟨b,off+j*4,none⟩=some (.string y.key)/\wc.cell? ⟨b,off+j*4+1,none⟩=some (.string y.pre)/\wc.cell? ⟨b,off+j*4+2,none⟩=some (.string y.suf)/\wc.cell? ⟨b,off+j*4+3,none⟩=some (.bool y.bare)):=by
        intro j y hy
        obtain ⟨b,off,i1,i2,i3,j0,j1,j2,j3⟩:=cis_at HSI.out hy
        have hs:=q07 (hbw.block b i2)
        exact ⟨b,off,i1,(hs _).trans j0,(hs _).trans j1,(hs _).trans j2,(hs _).trans j3⟩
       have CI':Hid (∀ j y,ci'[j]?=some y->∃ b off,ai'=some ⟨b,off,none⟩/\wc.cell? ⟨b,off+j*4,none⟩=some (.string y.key)/\wc.cell? ⟨b,off+j*4+1,none⟩=some (.string y.pre)/\wc.cell? ⟨b,off+j*4+2,none⟩=some (.string y.suf)/\wc.cell? ⟨b,off+j*4+3,none⟩=some (.bool y.bare)):=by
        intro j y hy
        obtain ⟨b,off,i1,i2,i3,j0,j1,j2,j3⟩:=cis_at HSI'.out hy
        have hs:=q07 (hbw.block b i2)
        exact ⟨b,off,i1,(hs _).trans j0,(hs _).trans j1,(hs _).trans j2,(hs _).trans j3⟩
       have H6:=hid h6
       have CX:Hid (∀ cj,ci=cj->ci'=cj->l.take (k+1)=m.take (k+1)):=fun cj e1 e2=>take_same HTK.out HX.out (by rw [HY.out,e1,e2])
       have CN:Hid (ci≠ci'->l≠m):=fun h=>get_ne HX.out HY.out (fun e=>h (by injection e))
       have R1:Hid (DqRel ci ci' wc (.int .i64 0) wc):=⟨0,0,Nat.zero_le _,rfl,by simp,rfl⟩
       have hcl:ci'.length=ci.length:=h6.symm
       clear hfe hb hbw k1 k2 HSI HSI' HR HR' h6 HX HY HBW K1 K2
       go_wp2
       go_loopw [8] (fun i wz=>DqRel ci ci' wc i wz) (fun i _=>ci.length-(intOf i).toNat)
       case atStart=>exact R1.out
       case round=>
        clear R1
        obtain ⟨j,q2,hj,rfl,htj,rfl⟩:=hrel
        have HTJ:=hid htj
        clear htj
        by_cases hjl:j<ci.length
        ·obtain ⟨y,hy⟩:∃ y,ci[j]?=some y:=⟨_,List.getElem?_eq_getElem hjl⟩
         obtain ⟨z,hz⟩:∃ z,ci'[j]?=some z:=⟨_,List.getElem?_eq_getElem (by omega)⟩
         obtain ⟨b,o1,rfl,j0,j1,j2,j3⟩:=CI.out j y hy
         obtain ⟨b',o2,rfl,j0',j1',j2',j3'⟩:=CI'.out j z hz
         by_cases hyz:y=z
         ·subst hyz
          have HTS:=hid (take_same HTJ.out hy hz)
          obtain ⟨yk,yp,ys,yb⟩:=y
          dsimp only at j0 j1 j2 j3 j0' j1' j2' j3'
          have m1:(yk.toList != yk.toList)=false:=by simp
          have m2:(yp.toList != yp.toList)=false:=by simp
          have m3:(ys.toList != ys.toList)=false:=by simp
          have m4:(yb != yb)=false:=by simp
          clear CI CI' hy hz
          go_wp2_with fail
          go_quiet (fail)
          go_wp2
          go_roundw
          case rel=>exact ⟨j+1,_,by omega,by go_num,HTS.out,rfl⟩
          case measure=>simp [intOf];omega
         ·have HNE:=hid (CN.out (get_ne hy hz hyz))
          obtain ⟨yk,yp,ys,yb⟩:=y
          obtain ⟨zk,zp,zs,zb⟩:=z
          dsimp only at j0 j1 j2 j3 j0' j1' j2' j3'
          clear CI CI' hy hz
          by_cases e1:yk=zk
          case neg=>
           have m1:=q2a e1
           have m1':=q2b e1
           clear hyz
           go_wp2_with fail
           go_quiet (fail)
           go_wp2
           go_ret
           exact ⟨false,rfl,no_iff HNE.out,q03 (q03 HB3.out _) _⟩
          subst e1
          have m1:(yk.toList != yk.toList)=false:=by simp
          have m1':(yk.toList==yk.toList)=true:=by simp
          by_cases e2:yp=zp
          case neg=>
           have m2:=q2a e2
           have m2':=q2b e2
           clear hyz
           go_wp2_with fail
           go_quiet (fail)
           go_wp2
           go_ret
           exact ⟨false,rfl,no_iff HNE.out,q03 (q03 HB3.out _) _⟩
          subst e2
          have m2:(yp.toList != yp.toList)=false:=by simp
          have m2':(yp.toList==yp.toList)=true:=by simp
          by_cases e3:ys=zs
          case neg=>
           have m3:=q2a e3
           have m3':=q2b e3
           clear hyz
           go_wp2_with fail
           go_quiet (fail)
           go_wp2
           go_ret
           exact ⟨false,rfl,no_iff HNE.out,q03 (q03 HB3.out _) _⟩
          subst e3
          have m3:(ys.toList != ys.toList)=false:=by simp
          have m3':(ys.toList==ys.toList)=true:=by simp
          have e4:yb≠zb:=fun e=>hyz (by rw [e])
          have m4:(yb != zb)=true:=by simp [e4]
          have m4':(yb==zb)=false:=by simp [e4]
          clear hyz e4
          go_wp2_with fail
          go_quiet (fail)
          go_wp2
          go_ret
          exact ⟨false,rfl,no_iff HNE.out,q03 (q03 HB3.out _) _⟩
        ·have hcc:ci=ci':=take_whole (by
          have:j=ci.length:=by omega
          rw [<- this];exact HTJ.out) H6.out
         have HTS:=hid (CX.out ci rfl hcc.symm)
         clear CI CI' hcc
         go_wp2
         go_roundw
         case rel=>exact ⟨k+1,by omega,by go_num,HTS.out,q03 HB3.out q2⟩
         case measure=>simp [intOf];omega
   ·obtain rfl:k=l.length:=by omega
    clear IH H1 H2
    go_wp2
    go_ret
    exact ⟨true,rfl,yes_iff (take_whole HTK.out HL.out),HBEL.out⟩
open Go.RowKit
theorem BlCells.at3 {w w':World} {b o:Nat} {k lv:Int} {i t d ti id:ByteArray} {vc vp vl vk:Value} (h:BlCells w b o k lv i t d ti id vc vp vl vk) (hb:w'.heap[b]?=w.heap[b]?):BlCells w' b o k lv i t d ti id vc vp vl vk:=by
 obtain ⟨c0,c1,c2,c3,c4,c5,c6,c7,c8,c9,c10⟩:=h
 exact ⟨(q07 hb _).trans c0,(q07 hb _).trans c1,(q07 hb _).trans c2,(q07 hb _).trans c3,(q07 hb _).trans c4,(q07 hb _).trans c5,(q07 hb _).trans c6,(q07 hb _).trans c7,(q07 hb _).trans c8,(q07 hb _).trans c9,(q07 hb _).trans c10⟩
theorem sameBlocks_any (n:Nat):∀ (l m:List Blk) (v1 v2:Value) (w:World),Blk.szL l<=n->Rd (·<w.heap.size) w (q0x l) [v1]->Rd (·<w.heap.size) w (q0x m) [v2] ->
  Calls Tryz.prog 33 #[v1,v2] w (SmPost l m w):=by
 induction n using Nat.strongRecOn with
 | _ n ih=>
  intro l m v1 v2 w hn h1 h2
  obtain ⟨a1,c1,hv1,hs1⟩:=Rd.sl_open h1
  obtain ⟨a2,c2,hv2,hs2⟩:=Rd.sl_open h2
  obtain rfl:v1=.slice a1 l.length c1:=by simpa using hv1
  obtain rfl:v2=.slice a2 m.length c2:=by simpa using hv2
  have hc1:l.length<=c1:=by simpa using hs1.le
  have hc2:m.length<=c2:=by simpa using hs2.le
  have hm1:=hs1.max
  have hm2:=hs2.max
  unfold maxLen at hm1 hm2
  have H1:=hid hs1
  have H2:=hid hs2
  have IH:=hid ih
  clear h1 h2 hv1 hv2 hs1 hs2 ih
  by_cases hL:l.length=m.length
  case neg=>
   have hll:((l.length:Int) != m.length)=true:=by simp;omega
   have HNO:=hid (fun h:l=m=>hL (by rw [h]))
   clear H1 H2 hL IH
   go_enter Tryz.func33,Tryz.ntmps33
   go_wp2
   go_ret
   exact ⟨false,rfl,no_iff HNO.out,Below.refl _ _⟩
  have hll:((l.length:Int) != m.length)=false:=by simp;omega
  have HL:=hid hL
  have hme:m.length=l.length:=hL.symm
  clear hL
  have R0:Hid (SmL2 l m w (.int .i64 0) w):=⟨0,Nat.zero_le _,rfl,by simp,Below.refl _ _⟩
  go_enter Tryz.func33,Tryz.ntmps33
  go_wp2
  go_loopw [5] (fun i wr=>SmL2 l m w i wr) (fun i _=>l.length-(intOf i).toNat)
  case atStart=>exact R0.out
  case round=>
   clear R0
   obtain ⟨k,hk,rfl,htk,hbel⟩:=hrel
   have HBEL:=hid hbel
   have HTK:=hid htk
   clear hbel htk
   by_cases hlt:k<l.length
   ·obtain ⟨x,hx⟩:∃ x,l[k]?=some x:=⟨_,List.getElem?_eq_getElem hlt⟩
    obtain ⟨y,hy⟩:∃ y,m[k]?=some y:=⟨_,List.getElem?_eq_getElem (by omega)⟩
    obtain ⟨kd,lv,inf,t,d,ti,at_,li,ks⟩:=x
    obtain ⟨kd',lv',inf',t',d',ti',at_',li',ks'⟩:=y
    obtain ⟨g,off,vc,vp,vl,vk,rfl,hok,hbl,hc,hR⟩:=q1w H1.out hx
    obtain ⟨g',off',vc',vp',vl',vk',rfl,hok',hbl',hc',hR'⟩:=q1w H2.out hy
    have hsz:=Blk.szL_get l k _ hx
    rw [Blk.sz] at hsz
    obtain ⟨ac,nc,cc,rfl⟩:=Rd.slf hR.at_.cls
    obtain ⟨ap,np,cp,rfl⟩:=Rd.slf hR.at_.prs
    obtain ⟨al,nl,cl,rfl⟩:=Rd.slf hR.line
    obtain ⟨ak,nk,ck,rfl⟩:=Rd.slf hR.kids
    obtain ⟨ac',nc',cc',rfl⟩:=Rd.slf hR'.at_.cls
    obtain ⟨ap',np',cp',rfl⟩:=Rd.slf hR'.at_.prs
    obtain ⟨al',nl',cl',rfl⟩:=Rd.slf hR'.line
    obtain ⟨ak',nk',ck',rfl⟩:=Rd.slf hR'.kids
    obtain ⟨p0,p1,p2,p3,p4,p5,p6,p7,p8,p9,p10⟩:=hc.at3 (w':=wr) (HBEL.out.block g hok)
    obtain ⟨q0,q1,q2,q3,q4,q5,q6,q7,q8,q9,q10⟩:=hc'.at3 (w':=wr) (HBEL.out.block g' hok')
    have HR:=hid hR
    have HR':=hid hR'
    have HX:=hid hx
    have HY:=hid hy
    have hlg:=q0c p0
    have hlg':=q0c q0
    clear hc hc' hR hR' hx hy
    go_upto_region 6 with (fail)
    go_cut [6,7] (fun v6 v7 wx=>Two 53 wr [.int .i64 kd,.int .i64 lv,.string inf,.string t,.string d,.string ti,.string at_.id,.slice ac nc cc,.slice ap np cp,.slice al nl cl,.slice ak nk ck] [.int .i64 kd',.int .i64 lv',.string inf',.string t',.string d',.string ti',.string at_'.id,.slice ac' nc' cc',.slice ap' np' cp',.slice al' nl' cl',.slice ak' nk' ck'] v6 v7 wx)
    case first=>
     go_region
     all_goals
      go_wp2_with fail
      go_meet
      first
      | exact two_12 _ _ _ _
      | exact two_21 _ _ _ _
    case rest=>
     obtain ⟨p,q,rfl,rfl,k1,k2,hb⟩:=hcut
     have hbw:=q01 HBEL.out hb
     have K1:=hid k1
     have K2:=hid k2
     have HBW:=hid hbw
     clear p0 p1 p2 p3 p4 p5 p6 p7 p8 p9 p10 q0 q1 q2 q3 q4 q5 q6 q7 q8 q9 q10 hb hlg hlg' HBEL
     go_upto_region 7 with (fail)
     go_cut [90] (fun v wx=>FsEq (kd=kd'/\lv=lv'/\inf=inf'/\t=t'/\d=d'/\ti=ti'/\at_=at_'/\li=li'/\ks=ks') 53 p q [.int .i64 kd,.int .i64 lv,.string inf,.string t,.string d,.string ti,.string at_.id,.slice ac nc cc,.slice ap np cp,.slice al nl cl,.slice ak nk ck] [.int .i64 kd',.int .i64 lv',.string inf',.string t',.string d',.string ti',.string at_'.id,.slice ac' nc' cc',.slice ap' np' cp',.slice al' nl' cl',.slice ak' nk' ck'] wc v wx)
     case first=>
      have z0:=k1.cell 0 _ rfl
      have y0:=k2.cell 0 _ rfl
      by_cases f0:kd=kd'
      case neg=>
       have n0:(kd != kd')=true:=by simp [f0]
       clear k1 k2 hbw
       go_wp2_with fail
       go_meet
       exact ⟨true,rfl,ne_iff (fun h=>f0 h.1),K1.out,K2.out,Below.refl _ _⟩
      subst f0
      have n0:(kd != kd)=false:=by simp
      have z1:=k1.cell 1 _ rfl
      have y1:=k2.cell 1 _ rfl
      by_cases f1:lv=lv'
      case neg=>
       have n1:(lv != lv')=true:=by simp [f1]
       clear k1 k2 hbw
       go_wp2_with fail
       go_meet
       exact ⟨true,rfl,ne_iff (fun h=>f1 h.2.1),K1.out,K2.out,Below.refl _ _⟩
      subst f1
      have n1:(lv != lv)=false:=by simp
      have z2:=k1.cell 2 _ rfl
      have y2:=k2.cell 2 _ rfl
      by_cases f2:inf=inf'
      case neg=>
       have n2:=q2a f2
       have n2':=q2b f2
       clear k1 k2 hbw
       go_wp2_with fail
       go_meet
       exact ⟨true,rfl,ne_iff (fun h=>f2 h.2.2.1),K1.out,K2.out,Below.refl _ _⟩
      subst f2
      have n2:(inf.toList != inf.toList)=false:=by simp
      have n2':(inf.toList==inf.toList)=true:=by simp
      have z3:=k1.cell 3 _ rfl
      have y3:=k2.cell 3 _ rfl
      by_cases f3:t=t'
      case neg=>
       have n3:=q2a f3
       have n3':=q2b f3
       clear k1 k2 hbw
       go_wp2_with fail
       go_meet
       exact ⟨true,rfl,ne_iff (fun h=>f3 h.2.2.2.1),K1.out,K2.out,Below.refl _ _⟩
      subst f3
      have n3:(t.toList != t.toList)=false:=by simp
      have n3':(t.toList==t.toList)=true:=by simp
      have z4:=k1.cell 4 _ rfl
      have y4:=k2.cell 4 _ rfl
      by_cases f4:d=d'
      case neg=>
       have n4:=q2a f4
       have n4':=q2b f4
       clear k1 k2 hbw
       go_wp2_with fail
       go_meet
       exact ⟨true,rfl,ne_iff (fun h=>f4 h.2.2.2.2.1),K1.out,K2.out,Below.refl _ _⟩
      subst f4
      have n4:(d.toList != d.toList)=false:=by simp
      have n4':(d.toList==d.toList)=true:=by simp
      have z5:=k1.cell 5 _ rfl
      have y5:=k2.cell 5 _ rfl
      by_cases f5:ti=ti'
      case neg=>
       have n5:=q2a f5
       have n5':=q2b f5
       clear k1 k2 hbw
       go_wp2_with fail
       go_meet
       exact ⟨true,rfl,ne_iff (fun h=>f5 h.2.2.2.2.2.1),K1.out,K2.out,Below.refl _ _⟩
      subst f5
      have n5:(ti.toList != ti.toList)=false:=by simp
      have n5':(ti.toList==ti.toList)=true:=by simp
      have z6:=k1.cell 6 _ rfl
      have z7:=k1.cell 7 _ rfl
      have z8:=k1.cell 8 _ rfl
      have y6:=k2.cell 6 _ rfl
      have y7:=k2.cell 7 _ rfl
      have y8:=k2.cell 8 _ rfl
      have A1:=hid (attrs_any at_ at_' _ _ _ _ wc (HR.out.at_.up hbw) (HR'.out.at_.up hbw))
      clear k1 k2 hbw
      go_wp2_with fail
      refine A1.out.mono ?_
      rintro e w1 ⟨r1,rfl,i1,b1⟩
      have I1:=hid i1
      have B1:=hid b1
      have k1:=K1.out.below b1
      have k2:=K2.out.below b1
      have hbw:=q01 HBW.out b1
      have K3:=hid k1
      have K4:=hid k2
      have HBV:=hid hbw
      clear i1 b1 A1 z0 z1 z2 z3 z4 z5 z6 z7 z8 y0 y1 y2 y3 y4 y5 y6 y7 y8
      cases r1 with
      | false=>
       clear k1 k2 hbw
       go_wp2_with fail
       go_meet
       exact ⟨true,rfl,ne_iff (fun h=>absurd (I1.out.2 h.2.2.2.2.2.2.1) (by simp)),K3.out,K4.out,B1.out⟩
      | true=>
       have z9:=k1.cell 9 _ rfl
       have y9:=k2.cell 9 _ rfl
       have T1:=hid (sameLine_any (Inl.szL li) li li' _ _ w1 (Nat.le_refl _) (HR.out.line.up hbw) (HR'.out.line.up hbw))
       have hat:=I1.out.1 (by simp)
       have HAT:=hid hat
       clear hat k1 k2 hbw
       go_wp2_with fail
       refine T1.out.mono ?_
       rintro e w2 ⟨r2,rfl,i2,b2⟩
       have I2:=hid i2
       have B2:=hid (q01 B1.out b2)
       have K5:=hid (K3.out.below b2)
       have K6:=hid (K4.out.below b2)
       have HBU:=hid (q01 HBV.out b2)
       clear i2 b2 T1 z9 y9
       cases r2 with
       | false=>
        go_wp2_with fail
        go_meet
        exact ⟨true,rfl,ne_iff (fun h=>absurd (I2.out.2 h.2.2.2.2.2.2.2.1) (by simp)),K5.out,K6.out,B2.out⟩
       | true=>
        have har:=I2.out.1 (by simp)
        have HAR:=hid har
        have z10:=K5.out.cell 10 _ rfl
        have y10:=K6.out.cell 10 _ rfl
        have S1:=hid (IH.out (Blk.szL ks) (by omega) ks ks' _ _ w2 (Nat.le_refl _) (HR.out.kids.up HBU.out) (HR'.out.kids.up HBU.out))
        clear har
        go_wp2_with fail
        refine S1.out.mono ?_
        rintro e w3 ⟨r3,rfl,i3,b3⟩
        have I3:=hid i3
        have B3:=hid (q01 B2.out b3)
        have K7:=hid (K5.out.below b3)
        have K8:=hid (K6.out.below b3)
        clear i3 b3 S1 z10 y10
        go_wp2_with fail
        go_meet
        refine ⟨!r3,rfl,?_,K7.out,K8.out,B3.out⟩
        have i3:=I3.out
        constructor
        ·intro h
         have h:r3=true:=by simpa using h
         exact ⟨by simp,by simp,by simp,by simp,by simp,by simp,HAT.out,HAR.out,i3.1 h⟩
        ·intro h
         have:=i3.2 h.2.2.2.2.2.2.2.2
         simp [this]
     case rest=>
      obtain ⟨b,rfl,hfe,k1,k2,hb⟩:=hcut
      have HFE:=hid hfe
      have HB3:=hid (q01 HBW.out hb)
      cases b with
      | true=>
       have HNO:Hid (l≠m):=get_ne HX.out HY.out (fun h=>by injection h with h0 h1 h2 h3 h4 h5 h6 h7 h8;exact absurd (HFE.out.2 ⟨h0,h1,h2,h3,h4,h5,h6,h7,h8⟩) (by simp))
       clear hfe k1 k2 hb
       go_wp2
       go_ret
       exact ⟨false,rfl,no_iff HNO.out,HB3.out⟩
      | false=>
       obtain ⟨h0,h1,h2,h3,h4,h5,h6,h7,h8⟩:=HFE.out.1 (by simp)
       subst h0 h1 h2 h3 h4 h5 h6 h7 h8
       have HTS:=hid (take_same HTK.out HX.out HY.out)
       clear hfe k1 k2 hb
       go_wp2
       go_roundw
       case rel=>exact ⟨k+1,by omega,by go_num,HTS.out,HB3.out⟩
       case measure=>simp [intOf];omega
   ·obtain rfl:k=l.length:=by omega
    clear IH H1 H2
    go_wp2
    go_ret
    exact ⟨true,rfl,yes_iff (take_whole HTK.out HL.out),HBEL.out⟩
theorem same_any (me me':List Pr) (l l':List Blk) (vm vb um ub:Value) (w:World) (h1:Rd (·<w.heap.size) w (prsD me) [vm]) (h2:Rd (·<w.heap.size) w (prsD me') [um]) (h3:Rd (·<w.heap.size) w (q0x l) [vb]) (h4:Rd (·<w.heap.size) w (q0x l') [ub]) :
  Calls Tryz.prog 12 #[.agg #[vm,vb],.agg #[um,ub]] w fun e w'=>∃ b,e=.returned (.bool b)/\(b=true↔me=me'/\l=l')/\Below w.heap.size w w':=by
 obtain ⟨am,nm,cm,rfl⟩:=Rd.slf h1
 obtain ⟨bm,mm,dm,rfl⟩:=Rd.slf h2
 obtain ⟨ab,nb,cb,rfl⟩:=Rd.slf h3
 obtain ⟨bb,mb,db,rfl⟩:=Rd.slf h4
 obtain ⟨w0,hw0⟩:∃ w0,w0=(w.alloc (.cells #[.slice am nm cm,.slice ab nb cb] 25)).alloc (.cells #[.slice bm mm dm,.slice bb mb db] 25):=⟨_,rfl⟩
 have hb0:Below w.heap.size w w0:=by rw [hw0];exact ((Below.refl _ _).alloc (Nat.le_refl _) _).alloc (by simp) _
 have k1:CB 25 w.heap.size [.slice am nm cm,.slice ab nb cb] w0:=by
  rw [hw0];exact (CB.new _ _ _).below ((Below.refl _ _).alloc (Nat.le_refl _) _)
 have k2:CB 25 (w.heap.size+1) [.slice bm mm dm,.slice bb mb db] w0:=by
  rw [hw0]
  have:=CB.new 25 [.slice bm mm dm,.slice bb mb db] (w.alloc (.cells #[.slice am nm cm,.slice ab nb cb] 25))
  rwa [World.size_alloc] at this
 have T1:=hid (pairs_any me me' _ _ w0 (h1.up hb0) (h2.up hb0))
 have T2:=hid (fun q=>sameBlocks_any (Blk.szL l) l l' _ _ (w0.drewN q) (Nat.le_refl _) ((h3.up hb0).up (q03 (Below.refl _ _) q)) ((h4.up hb0).up (q03 (Below.refl _ _) q)))
 have x0:=k1.cell 0 _ rfl
 have x1:=k1.cell 1 _ rfl
 have y0:=k2.cell 0 _ rfl
 have y1:=k2.cell 1 _ rfl
 have HB0:=hid hb0
 clear h1 h2 h3 h4 k1 k2 hb0
 go_enter Tryz.func12,Tryz.ntmps12
 go_upto_region 1 with (fail)
 rw [<- hw0]
 clear hw0
 go_wp2_with fail
 refine T1.out.mono ?_
 rintro e w1 ⟨r1,rfl,i1,q,rfl⟩
 have I1:=hid i1
 clear i1
 cases r1 with
 | false=>
  go_wp2
  go_ret
  exact ⟨false,rfl,no_iff (fun h=>absurd (I1.out.2 h.1) (by simp)),q03 HB0.out q⟩
 | true=>
  go_wp2_with fail
  refine (T2.out q).mono ?_
  rintro e w2 ⟨r2,rfl,i2,b2⟩
  have I2:=hid i2
  have B2:=hid (q01 (q03 HB0.out q) b2)
  clear i2 b2
  go_wp2
  go_ret
  refine ⟨r2,rfl,?_,B2.out⟩
  rw [I2.out]
  have:=I1.out.1 (by simp)
  simp [this]
theorem same_eq (me:List Pr) (l:List Blk) (vm vb um ub:Value) (w:World) (h1:Rd (·<w.heap.size) w (prsD me) [vm]) (h2:Rd (·<w.heap.size) w (prsD me) [um]) (h3:Rd (·<w.heap.size) w (q0x l) [vb]) (h4:Rd (·<w.heap.size) w (q0x l) [ub]) :
  Calls Tryz.prog 12 #[.agg #[vm,vb],.agg #[um,ub]] w fun e w'=>e=.returned (.bool true)/\Below w.heap.size w w':=
 (same_any me me l l vm vb um ub w h1 h2 h3 h4).mono fun e w' ⟨b,h,i,hb⟩=>⟨by rw [h,i.2 ⟨rfl,rfl⟩],hb⟩
end Go.Proofs.YtlbioncagkkkoaaGreatDoor
