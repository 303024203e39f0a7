/- publisherref04.texts, Pairs, attrs, SameLine, SameBlocks, Same: they answer whether the data are equal. publisherref04.SameBlocks, Same: they answer whether the data are equal. -/
import Derived.Test.YtkfnkeflalcphaaGreatDoorKAvd
set_option maxHeartbeats 8000000
set_option maxRecDepth 100000
open Go.Lib (hid)
namespace Go.Proofs.YtkfnkeflalcphaaGreatDoor
open List renaming getElem?_eq_getElem->jlz
open Go.RowKit.Below renaming refl->jm0
open Nat renaming le_refl->jm1
open Go renaming World->jp3
open Go.RowKit
set_option linter.unusedVariables false
set_option linter.unusedSimpArgs false
theorem FX {y z:ByteArray} (h:y≠z):(y.toList != z.toList)=true:=by rw [Lib.toList_data,Lib.toList_data];simp only [bne_iff_ne,ne_eq];intro e;exact h (ByteArray.ext (Array.ext' e))
theorem FY {y z:ByteArray} (h:y≠z):(y.toList==z.toList)=false:=by have:=FX h;simpa [bne] using this
theorem take_same {α:Type} {l m:List α} {k:Nat} {y:α} (h:l.take k=m.take k) (h1:l[k]?=some y) (h2:m[k]?=some y):l.take (k+1)=m.take (k+1):=by rw [List.take_add_one,List.take_add_one,h,h1,h2]
theorem rY {α:Type} {l m:List α} {k:Nat} {y z:α} (h1:l[k]?=some y) (h2:m[k]?=some z) (h:y≠z):l≠m:=by rintro rfl;rw [h1] at h2;exact h (Option.some.inj h2)
theorem jE {α:Type} {l m:List α} (h:l.take l.length=m.take l.length) (hl:l.length=m.length):l=m:=by rw [List.take_length,hl,List.take_length] at h;exact h
def Aj {α:Type} (l m:List α) (w:jp3) (vi:Value) (wr:jp3):Prop:=∃ k q:Nat,k<=l.length/\vi=.int .i64 k/\l.take k=m.take k/\wr=w.drewN q
def Cr {α:Type} (l m:List α) (w:jp3) (e:Ending) (w':jp3):Prop:=∃ b,e=.returned (.bool b)/\(b=true↔l=m)/\Below w.heap.size w w'
def jc0 {α:Type} (l m:List α) (w:jp3) (e:Ending) (w':jp3):Prop:=∃ b,e=.returned (.bool b)/\(b=true↔l=m)/\∃ q,w'=w.drewN q
theorem fB {P:Prop} (h:¬ P):false=true↔P:=⟨fun e=>(by cases e),fun e=>absurd e h⟩
theorem uF {P:Prop} (h:P):true=true↔P:=⟨fun _=>h,fun _=>rfl⟩
theorem Ak (l m:List ByteArray) (v1 v2:Value) (w:jp3) (h1:Rd (·<w.heap.size) w (dW l) [v1]) (h2:Rd (·<w.heap.size) w (dW m) [v2]) : Calls Tryz.prog 99 #[v1,v2] w (jc0 l m w):=by
 obtain ⟨a1,c1,hv1,hs1⟩:=Rd.aB h1;obtain ⟨a2,c2,hv2,hs2⟩:=Rd.aB h2;obtain rfl:v1=.slice a1 l.length c1:=by simpa using hv1
 obtain rfl:v2=.slice a2 m.length c2:=by simpa using hv2
 have hc1:l.length<=c1:=by simpa using hs1.le
 have hc2:m.length<=c2:=by simpa using hs2.le
 have hm1:=hs1.max;have hm2:=hs2.max;unfold maxLen at hm1 hm2;have H1:=hid hs1;have H2:=hid hs2;clear h1 h2 hv1 hv2 hs1 hs2;by_cases hL:l.length=m.length;case neg=>
  have hll:((l.length:Int) != m.length)=true:=by simp;omega
  have hno:l≠m:=fun h=>hL (by rw [h])
  have yg:=hid hno;clear hno H1 H2 hL;go_enter Tryz.func99,Tryz.ntmps99;go_wp2;go_ret;exact ⟨false,rfl,fB yg.out,0,rfl⟩
 have hll:((l.length:Int) != m.length)=false:=by simp;omega
 have HL:=hid hL;have hme:m.length=l.length:=hL.symm;clear hL;have R0:Hid (Aj l m w (.int .i64 0) w):=⟨0,0,Nat.zero_le _,rfl,by simp,rfl⟩;go_enter Tryz.func99,Tryz.ntmps99;go_wp2
 go_loopw [5] (fun i wr=>Aj l m w i wr) (fun i _=>l.length-(intOf i).toNat)
 case atStart=>exact R0.out
 case round=>
  clear R0;obtain ⟨k,q,hk,rfl,htk,rfl⟩:=hrel;have zn:=hid htk;clear htk;by_cases hlt:k<l.length
  ·obtain ⟨y,hy⟩:∃ y,l[k]?=some y:=⟨_,jlz hlt⟩;obtain ⟨z,hz⟩:∃ z,m[k]?=some z:=⟨_,jlz (by omega)⟩;obtain ⟨b1,o1,rfl,-,-,k1⟩:=lq H1.out hy;obtain ⟨b2,o2,rfl,-,-,k2⟩:=lq H2.out hz;by_cases hyz:y=z
   ·subst hyz;have Md:=hid (take_same zn.out hy hz);clear H1 H2 hy hz;have hne:(y.toList != y.toList)=false:=by simp
    go_wp2_with fail
    go_quiet (fail)
    go_wp2;go_roundw;case rel=>exact ⟨k+1,_,by omega,by go_num,Md.out,rfl⟩
    case measure=>simp [intOf];omega
   ·have Qb:=hid (rY hy hz hyz);clear H1 H2 hy hz;have hne:=FX hyz;have hne2:=FY hyz;clear hyz;go_wp2_with fail
    go_quiet (fail)
    go_wp2;go_ret;exact ⟨false,rfl,fB Qb.out,_,World.drewN_drewN _ _ _⟩
  ·obtain rfl:k=l.length:=by omega
   clear H1 H2;go_wp2;go_ret;exact ⟨true,rfl,uF (jE zn.out HL.out),q,rfl⟩
theorem LH (l m:List Pr) (v1 v2:Value) (w:jp3) (h1:Rd (·<w.heap.size) w (bP l) [v1]) (h2:Rd (·<w.heap.size) w (bP m) [v2]) : Calls Tryz.prog 106 #[v1,v2] w (jc0 l m w):=by
 obtain ⟨a1,c1,hv1,hs1⟩:=Rd.aB h1;obtain ⟨a2,c2,hv2,hs2⟩:=Rd.aB h2;obtain rfl:v1=.slice a1 l.length c1:=by simpa using hv1
 obtain rfl:v2=.slice a2 m.length c2:=by simpa using hv2
 have hc1:l.length<=c1:=by simpa using hs1.le
 have hc2:m.length<=c2:=by simpa using hs2.le
 have hm1:=hs1.max;have hm2:=hs2.max;unfold maxLen at hm1 hm2;have H1:=hid hs1;have H2:=hid hs2;clear h1 h2 hv1 hv2 hs1 hs2;by_cases hL:l.length=m.length;case neg=>
  have hll:((l.length:Int) != m.length)=true:=by simp;omega
  have hno:l≠m:=fun h=>hL (by rw [h])
  have yg:=hid hno;clear hno H1 H2 hL;go_enter Tryz.func106,Tryz.ntmps106;go_wp2;go_ret;exact ⟨false,rfl,fB yg.out,0,rfl⟩
 have hll:((l.length:Int) != m.length)=false:=by simp;omega
 have HL:=hid hL;have hme:m.length=l.length:=hL.symm;clear hL;have R0:Hid (Aj l m w (.int .i64 0) w):=⟨0,0,Nat.zero_le _,rfl,by simp,rfl⟩;go_enter Tryz.func106,Tryz.ntmps106;go_wp2
 go_loopw [5] (fun i wr=>Aj l m w i wr) (fun i _=>l.length-(intOf i).toNat)
 case atStart=>exact R0.out
 case round=>
  clear R0;obtain ⟨k,q,hk,rfl,htk,rfl⟩:=hrel;have zn:=hid htk;clear htk;by_cases hlt:k<l.length
  ·obtain ⟨y,hy⟩:∃ y,l[k]?=some y:=⟨_,jlz hlt⟩;obtain ⟨z,hz⟩:∃ z,m[k]?=some z:=⟨_,jlz (by omega)⟩;obtain ⟨b1,o1,rfl,-,-,k1,k2⟩:=oJ H1.out hy;obtain ⟨b2,o2,rfl,-,-,k3,k4⟩:=oJ H2.out hz;by_cases hyz:y=z
   ·subst hyz;have Md:=hid (take_same zn.out hy hz);clear H1 H2 hy hz;obtain ⟨yk,yv⟩:=y;dsimp only at k1 k2 k3 k4;have hne1:(yk.toList != yk.toList)=false:=by simp
    have hne2:(yv.toList != yv.toList)=false:=by simp
    have jc1:(yk.toList==yk.toList)=true:=by simp
    have ji5:(yv.toList==yv.toList)=true:=by simp
    go_wp2_with fail
    go_quiet (fail)
    go_wp2;go_roundw;case rel=>exact ⟨k+1,_,by omega,by go_num,Md.out,rfl⟩
    case measure=>simp [intOf];omega
   ·have Qb:=hid (rY hy hz hyz);clear H1 H2 hy hz;obtain ⟨yk,yv⟩:=y;obtain ⟨zk,zv⟩:=z;dsimp only at k1 k2 k3 k4;by_cases e1:yk=zk
    ·subst e1;have e2:yv≠zv:=fun e=>hyz (by rw [e])
     have hne1:(yk.toList != yk.toList)=false:=by simp
     have jc1:(yk.toList==yk.toList)=true:=by simp
     have hne2:=FX e2;have ji5:=FY e2;clear hyz e2;go_wp2_with fail
     go_quiet (fail)
     go_wp2;go_ret;exact ⟨false,rfl,fB Qb.out,_,World.drewN_drewN _ _ _⟩
    ·have hne1:=FX e1;have jc1:=FY e1;clear hyz e1;go_wp2_with fail
     go_quiet (fail)
     go_wp2;go_ret;exact ⟨false,rfl,fB Qb.out,_,World.drewN_drewN _ _ _⟩
  ·obtain rfl:k=l.length:=by omega
   clear H1 H2;go_wp2;go_ret;exact ⟨true,rfl,uF (jE zn.out HL.out),q,rfl⟩
theorem Al (a b:At) (vc vp uc up:Value) (w:jp3) (h1:AtR (·<w.heap.size) w a vc vp) (h2:AtR (·<w.heap.size) w b uc up) : Calls Tryz.prog 63 #[.agg #[.string a.id,vc,vp],.agg #[.string b.id,uc,up]] w fun e w'=>∃ r,e=.returned (.bool r)/\(r=true↔a=b)/\Below w.heap.size w w':=by
 obtain ⟨ac,nc,cc,rfl⟩:=Rd.om h1.cls;obtain ⟨ap,np,cp,rfl⟩:=Rd.om h1.aJ;obtain ⟨bc,mc,dc,rfl⟩:=Rd.om h2.cls;obtain ⟨bp,mp,dp,rfl⟩:=Rd.om h2.aJ;obtain ⟨w0,hw0⟩:∃ w0,w0=(w.alloc (.cells #[.string a.id,.slice ac nc cc,.slice ap np cp] 45)).alloc (.cells #[.string b.id,.slice bc mc dc,.slice bp mp dp] 45):=⟨_,rfl⟩;have hb0:Below w.heap.size w w0:=by rw [hw0];exact ((jm0 _ _).alloc (jm1 _) _).alloc (by simp) _
 have k1:CB 45 w.heap.size [.string a.id,.slice ac nc cc,.slice ap np cp] w0:=by rw [hw0];exact (CB.new _ _ _).below ((jm0 _ _).alloc (jm1 _) _)
 have k2:CB 45 (w.heap.size+1) [.string b.id,.slice bc mc dc,.slice bp mp dp] w0:=by
  rw [hw0];have:=CB.new 45 [.string b.id,.slice bc mc dc,.slice bp mp dp] (w.alloc (.cells #[.string a.id,.slice ac nc cc,.slice ap np cp] 45))
  rwa [World.size_alloc] at this
 have T1:=hid (Ak a.cls b.cls _ _ w0 (h1.cls.up hb0) (h2.cls.up hb0));have T2:=hid (fun q=>LH a.aJ b.aJ _ _ (w0.drewN q) ((h1.aJ.up hb0).up (dO (jm0 _ _) q)) ((h2.aJ.up hb0).up (dO (jm0 _ _) q)));have x0:=k1.cell 0 _ rfl;have x1:=k1.cell 1 _ rfl;have x2:=k1.cell 2 _ rfl;have y0:=k2.cell 0 _ rfl;have y1:=k2.cell 1 _ rfl;have y2:=k2.cell 2 _ rfl;obtain ⟨ia,ca,pa⟩:=a;obtain ⟨ib,cb,pb⟩:=b;dsimp only at x0 y0 T1 T2 hw0 ⊢;have HB0:=hid hb0;clear h1 h2 k1 k2 hb0;by_cases c0:ia=ib;case neg=>
  have hee:=FY c0;have hno:¬ (At.mk ia ca pa=At.mk ib cb pb):=fun h=>c0 (by injection h)
  have yg:=hid hno;clear c0 hno;go_enter Tryz.func63,Tryz.ntmps63;go_upto_region 1 with (fail)
  rw [<- hw0];clear hw0;go_wp2;go_ret;exact ⟨false,rfl,fB yg.out,HB0.out⟩
 subst c0;have hee:(ia.toList==ia.toList)=true:=by simp
 go_enter Tryz.func63,Tryz.ntmps63;go_upto_region 1 with (fail)
 rw [<- hw0];clear hw0;go_wp2_with fail
 refine T1.out.mono ?_;rintro e w1 ⟨r1,rfl,i1,q,rfl⟩;have I1:=hid i1;clear i1;cases r1 with
 | false=>
  go_wp2;go_ret;exact ⟨false,rfl,fB (fun h=>by injection h with _ h _;exact absurd (I1.out.2 h) (by simp)),dO HB0.out q⟩
 | true=>
  go_wp2_with fail
  refine (T2.out q).mono ?_;rintro e w1 ⟨r2,rfl,i2,q2,rfl⟩;have I2:=hid i2;clear i2;go_wp2;go_ret;refine ⟨r2,rfl,?_,dO HB0.out _⟩;rw [I2.out];have:=I1.out.1 (by simp);simp [this]
def SH {α:Type} (l m:List α) (w:jp3) (vi:Value) (wr:jp3):Prop:=∃ k,k<=l.length/\vi=.int .i64 k/\l.take k=m.take k/\Below w.heap.size w wr
def Two (T:TypeId) (w:jp3) (cs ds:List Value) (v6 v7:Value) (wx:jp3):Prop:=∃ p q:Nat,v6=.pointer (some ⟨p,0,none⟩)/\v7=.pointer (some ⟨q,0,none⟩)/\CB T p cs wx/\CB T q ds wx/\Below w.heap.size w wx
theorem Ih (T:TypeId) (w:jp3) (cs ds:List Value):Two T w cs ds (.pointer (some ⟨w.heap.size,0,none⟩)) (.pointer (some ⟨w.heap.size+1,0,none⟩)) ((w.alloc (.cells cs.toArray T)).alloc (.cells ds.toArray T)).drew:=
 ⟨_,_,rfl,rfl,((CB.new T cs w).below ((jm0 _ _).alloc (jm1 _) (.cells ds.toArray T)):CB T _ cs _),by have:=CB.new T ds (w.alloc (.cells cs.toArray T));rwa [World.size_alloc] at this,dO (((jm0 _ _).alloc (jm1 _) _).alloc (by simp) _) 1⟩
theorem Ph (T:TypeId) (w:jp3) (cs ds:List Value):Two T w cs ds (.pointer (some ⟨w.heap.size+1,0,none⟩)) (.pointer (some ⟨w.heap.size,0,none⟩)) ((w.alloc (.cells ds.toArray T)).alloc (.cells cs.toArray T)).drew:=by obtain ⟨p,q,h1,h2,h3,h4,h5⟩:=Ih T w ds cs;exact ⟨q,p,h2,h1,h4,h3,h5⟩
def jc2 (FE:Prop) (T:TypeId) (p q:Nat) (cs ds:List Value) (w:jp3) (v:Value) (wx:jp3):Prop:=∃ b,v=.bool b/\(b=false↔FE)/\CB T p cs wx/\CB T q ds wx/\Below w.heap.size w wx
theorem ne_iff {P:Prop} (h:¬ P):true=false↔P:=⟨fun e=>(by cases e),fun e=>absurd e h⟩
theorem qJ (n:Nat):∀ (l m:List aj) (v1 v2:Value) (w:jp3),aj.aR l<=n->Rd (·<w.heap.size) w (aX l) [v1]->Rd (·<w.heap.size) w (aX m) [v2] -> Calls Tryz.prog 57 #[v1,v2] w (Cr l m w):=by
 induction n using Nat.strongRecOn with
 | _ n ih=>
  intro l m v1 v2 w hn h1 h2;obtain ⟨a1,c1,hv1,hs1⟩:=Rd.aB h1;obtain ⟨a2,c2,hv2,hs2⟩:=Rd.aB h2;obtain rfl:v1=.slice a1 l.length c1:=by simpa using hv1
  obtain rfl:v2=.slice a2 m.length c2:=by simpa using hv2
  have hc1:l.length<=c1:=by simpa using hs1.le
  have hc2:m.length<=c2:=by simpa using hs2.le
  have hm1:=hs1.max;have hm2:=hs2.max;unfold maxLen at hm1 hm2;have H1:=hid hs1;have H2:=hid hs2;have IH:=hid ih;clear h1 h2 hv1 hv2 hs1 hs2 ih;by_cases hL:l.length=m.length;case neg=>
   have hll:((l.length:Int) != m.length)=true:=by simp;omega
   have yg:=hid (fun h:l=m=>hL (by rw [h]));clear H1 H2 hL IH;go_enter Tryz.func57,Tryz.ntmps57;go_wp2;go_ret;exact ⟨false,rfl,fB yg.out,jm0 _ _⟩
  have hll:((l.length:Int) != m.length)=false:=by simp;omega
  have HL:=hid hL;have hme:m.length=l.length:=hL.symm;clear hL;have R0:Hid (SH l m w (.int .i64 0) w):=⟨0,Nat.zero_le _,rfl,by simp,jm0 _ _⟩;go_enter Tryz.func57,Tryz.ntmps57;go_wp2
  go_loopw [5] (fun i wr=>SH l m w i wr) (fun i _=>l.length-(intOf i).toNat)
  case atStart=>exact R0.out
  case round=>
   clear R0;obtain ⟨k,hk,rfl,htk,hbel⟩:=hrel;have dD:=hid hbel;have zn:=hid htk;clear hbel htk;by_cases hlt:k<l.length
   ·obtain ⟨x,hx⟩:∃ x,l[k]?=some x:=⟨_,jlz hlt⟩;obtain ⟨y,hy⟩:∃ y,m[k]?=some y:=⟨_,jlz (by omega)⟩;obtain ⟨kd,t,d,ti,at_,ar,ci,ks⟩:=x;obtain ⟨kd',t',d',Ld,at_',ar',j5,ks'⟩:=y;obtain ⟨g,off,vc,vp,va,vi,vk,rfl,hok,hbl,hc,hR⟩:=fJ H1.out hx;obtain ⟨g',off',Ez,EA,va',vi',Uj,rfl,hok',ji6,hc',hR'⟩:=fJ H2.out hy;have hsz:=aj.bg l k _ hx;rw [aj.sz] at hsz;obtain ⟨aa,na,ca,rfl⟩:=Rd.om hR.args;obtain ⟨ai,oK,YL,hsi⟩:=Rd.aB hR.dG;obtain ⟨ac,nc,cc,rfl⟩:=Rd.om hR.at_.cls
    obtain ⟨ap,np,cp,rfl⟩:=Rd.om hR.at_.aJ
    obtain ⟨ak,nk,ck,rfl⟩:=Rd.om hR.kids;obtain ⟨aa',na',ca',rfl⟩:=Rd.om hR'.args;obtain ⟨ai',OQ,jc3,jc4⟩:=Rd.aB hR'.dG;obtain ⟨Xb,nc',cc',rfl⟩:=Rd.om hR'.at_.cls
    obtain ⟨Xc,np',cp',rfl⟩:=Rd.om hR'.at_.aJ
    obtain ⟨Xd,nk',Xe,rfl⟩:=Rd.om hR'.kids;obtain rfl:vi=.slice ai ci.length oK:=by simpa using YL
    obtain rfl:vi'=.slice ai' j5.length OQ:=by simpa using jc3
    obtain ⟨p0,p1,p2,p3,p4,p5,p6,p7,p8,p9⟩:=hc.at2 (w':=wr) (dD.out.block g hok);obtain ⟨q0,q1,q2,q3,q4,q5,q6,q7,q8,q9⟩:=hc'.at2 (w':=wr) (dD.out.block g' hok');have HR:=hid hR;have HR':=hid hR';have XV:=hid hsi;have SI:=hid jc4;have HX:=hid hx;have HY:=hid hy;clear hc hc' hR hR' hsi jc4 YL jc3 hx hy;have hlg:=ze p0;have Xo:=ze q0;go_upto_region 6 with (fail)
    go_cut [6,7] (fun v6 v7 wx=>Two 66 wr [.int .i64 kd,.string t,.string d,.string ti,.string at_.id,.slice ac nc cc,.slice ap np cp,.slice aa na ca,.slice ai ci.length oK,.slice ak nk ck] [.int .i64 kd',.string t',.string d',.string Ld,.string at_'.id,.slice Xb nc' cc',.slice Xc np' cp',.slice aa' na' ca',.slice ai' j5.length OQ,.slice Xd nk' Xe] v6 v7 wx)
    case first=>
     go_region
     all_goals
      go_wp2_with fail
      go_meet
      first
      | exact Ih _ _ _ _
      | exact Ph _ _ _ _
    case rest=>
     obtain ⟨p,q,rfl,rfl,k1,k2,hb⟩:=hcut;have hbw:=aP dD.out hb;have K1:=hid k1;have K2:=hid k2;have C9:=hid hbw;clear p0 p1 p2 p3 p4 p5 p6 p7 p8 p9 q0 q1 q2 q3 q4 q5 q6 q7 q8 q9 hb hlg Xo dD;go_upto_region 7 with (fail)
     go_cut [86] (fun v wx=>jc2 (kd=kd'/\t=t'/\d=d'/\ti=Ld/\at_=at_'/\ar=ar'/\ci.length=j5.length/\ks=ks') 66 p q [.int .i64 kd,.string t,.string d,.string ti,.string at_.id,.slice ac nc cc,.slice ap np cp,.slice aa na ca,.slice ai ci.length oK,.slice ak nk ck] [.int .i64 kd',.string t',.string d',.string Ld,.string at_'.id,.slice Xb nc' cc',.slice Xc np' cp',.slice aa' na' ca',.slice ai' j5.length OQ,.slice Xd nk' Xe] wc v wx)
     case first=>
      have z0:=k1.cell 0 _ rfl;have y0:=k2.cell 0 _ rfl;by_cases f0:kd=kd';case neg=>
       have n0:(kd != kd')=true:=by simp [f0]
       clear k1 k2 hbw;go_wp2_with fail
       go_meet
       exact ⟨true,rfl,ne_iff (fun h=>f0 h.1),K1.out,K2.out,jm0 _ _⟩
      subst f0;have n0:(kd != kd)=false:=by simp
      have z1:=k1.cell 1 _ rfl;have y1:=k2.cell 1 _ rfl;by_cases f1:t=t';case neg=>
       have n1:=FX f1;have n1':=FY f1;clear k1 k2 hbw;go_wp2_with fail
       go_meet
       exact ⟨true,rfl,ne_iff (fun h=>f1 h.2.1),K1.out,K2.out,jm0 _ _⟩
      subst f1;have n1:(t.toList != t.toList)=false:=by simp
      have n1':(t.toList==t.toList)=true:=by simp
      have z2:=k1.cell 2 _ rfl;have y2:=k2.cell 2 _ rfl;by_cases f2:d=d';case neg=>
       have n2:=FX f2;have n2':=FY f2;clear k1 k2 hbw;go_wp2_with fail
       go_meet
       exact ⟨true,rfl,ne_iff (fun h=>f2 h.2.2.1),K1.out,K2.out,jm0 _ _⟩
      subst f2;have n2:(d.toList != d.toList)=false:=by simp
      have n2':(d.toList==d.toList)=true:=by simp
      have z3:=k1.cell 3 _ rfl;have y3:=k2.cell 3 _ rfl;by_cases f3:ti=Ld;case neg=>
       have n3:=FX f3;have n3':=FY f3;clear k1 k2 hbw;go_wp2_with fail
       go_meet
       exact ⟨true,rfl,ne_iff (fun h=>f3 h.2.2.2.1),K1.out,K2.out,jm0 _ _⟩
      subst f3;have n3:(ti.toList != ti.toList)=false:=by simp
      have n3':(ti.toList==ti.toList)=true:=by simp
      have z4:=k1.cell 4 _ rfl;have z5:=k1.cell 5 _ rfl;have z6:=k1.cell 6 _ rfl;have y4:=k2.cell 4 _ rfl;have y5:=k2.cell 5 _ rfl;have y6:=k2.cell 6 _ rfl;have A1:=hid (Al at_ at_' _ _ _ _ wc (HR.out.at_.up hbw) (HR'.out.at_.up hbw));clear k1 k2 hbw;go_wp2_with fail
      refine A1.out.mono ?_;rintro e w1 ⟨r1,rfl,i1,b1⟩;have I1:=hid i1;have B1:=hid b1;have k1:=K1.out.below b1;have k2:=K2.out.below b1;have hbw:=aP C9.out b1;have K3:=hid k1;have K4:=hid k2;have HBV:=hid hbw;clear i1 b1 A1 z0 z1 z2 z3 z4 z5 z6 y0 y1 y2 y3 y4 y5 y6;cases r1 with
      | false=>
       clear k1 k2 hbw;go_wp2_with fail
       go_meet
       exact ⟨true,rfl,ne_iff (fun h=>absurd (I1.out.2 h.2.2.2.2.1) (by simp)),K3.out,K4.out,B1.out⟩
      | true=>
       have z7:=k1.cell 7 _ rfl;have y7:=k2.cell 7 _ rfl;have T1:=hid (Ak ar ar' _ _ w1 (HR.out.args.up hbw) (HR'.out.args.up hbw));have hat:=I1.out.1 (by simp);have HAT:=hid hat;clear hat k1 k2 hbw;go_wp2_with fail
       refine T1.out.mono ?_;rintro e w2 ⟨r2,rfl,i2,qq,rfl⟩;have I2:=hid i2;have k1:=K3.out.cell 8 _ rfl;have k2:=K4.out.cell 8 _ rfl;have k3:=K3.out.cell 9 _ rfl;have k4:=K4.out.cell 9 _ rfl;clear i2 T1 z7 y7;cases r2 with
       | false=>
        go_wp2_with fail
        go_meet
        exact ⟨true,rfl,ne_iff (fun h=>absurd (I2.out.2 h.2.2.2.2.2.1) (by simp)),K3.out,K4.out,dO B1.out qq⟩
       | true=>
        have har:=I2.out.1 (by simp);have Te:=hid har;clear har;by_cases c4:ci.length=j5.length;case neg=>
         have n4:((ci.length:Int) != j5.length)=true:=by simp;omega
         go_wp2_with fail
         go_meet
         exact ⟨true,rfl,ne_iff (fun h=>c4 h.2.2.2.2.2.2.1),K3.out,K4.out,dO B1.out qq⟩
        have n4:((ci.length:Int) != j5.length)=false:=by simp;omega
        have C4:=hid c4;have S1:=hid (IH.out (aj.aR ks) (by omega) ks ks' _ _ (w1.drewN qq) (jm1 _) (HR.out.kids.up (dO HBV.out qq)) (HR'.out.kids.up (dO HBV.out qq)));clear c4;go_wp2_with fail
        refine S1.out.mono ?_;rintro e w3 ⟨r3,rfl,i3,b3⟩;have I3:=hid i3;have B3:=hid b3;clear i3 b3 S1 k1 k2 k3 k4;have B13:=hid (aP (dO B1.out qq) B3.out);have K5:Hid (CB 66 p _ w3):=K3.out.below (aP (dO (jm0 _ _) qq) B3.out);have K6:Hid (CB 66 q _ w3):=K4.out.below (aP (dO (jm0 _ _) qq) B3.out);go_wp2_with fail
        go_meet
        refine ⟨!r3,rfl,?_,K5.out,K6.out,B13.out⟩;have i3:=I3.out;constructor
        ·intro h;have h:r3=true:=by simpa using h
         exact ⟨by simp,by simp,by simp,by simp,HAT.out,Te.out,C4.out,i3.1 h⟩
        ·intro h;have:=i3.2 h.2.2.2.2.2.2.2;simp [this]
     case rest=>
      obtain ⟨b,rfl,hfe,k1,k2,hb⟩:=hcut;have HFE:=hid hfe;have hbw:=aP C9.out hb;have HB3:=hid hbw;cases b with
      | true=>
       have yg:Hid (l≠m):=rY HX.out HY.out (fun h=>by injection h with h0 h1 h2 h3 h4 h5 h6 h7;exact absurd (HFE.out.2 ⟨h0,h1,h2,h3,h4,h5,by rw [h6],h7⟩) (by simp));clear hfe k1 k2 hb hbw;go_wp2;go_ret;exact ⟨false,rfl,fB yg.out,HB3.out⟩
      | false=>
       obtain ⟨h0,h1,h2,h3,h4,h5,h6,h7⟩:=HFE.out.1 (by simp);subst h0 h1 h2 h3 h4 h5 h7;have z8:=k1.cell 8 _ rfl;have y8:=k2.cell 8 _ rfl;have hci:ci.length<=oK:=by simpa using XV.out.le
       have ji7:j5.length<=OQ:=by simpa using SI.out.le
       have hcm:=XV.out.max;have hcm':=SI.out.max;unfold maxLen at hcm hcm';rw [<- h6] at ji7;have CI:Hid (∀ j y,ci[j]?=some y->∃ b off,ai=some ⟨b,off,none⟩/\wc.cell? ⟨b,off+j*4,none⟩=some (.string y.key)/\wc.cell? ⟨b,off+j*4+1,none⟩=some (.string y.pre)/\wc.cell? ⟨b,off+j*4+2,none⟩=some (.string y.suf)/\wc.cell? ⟨b,off+j*4+3,none⟩=some (.bool y.bare)):=by intro j y hy;obtain ⟨b,off,i1,i2,i3,j0,j1,j2,j3⟩:=AL XV.out hy;have hs:=iA (hbw.block b i2);exact ⟨b,off,i1,(hs _).trans j0,(hs _).trans j1,(hs _).trans j2,(hs _).trans j3⟩
       have CI':Hid (∀ j y,j5[j]?=some y->∃ b off,ai'=some ⟨b,off,none⟩/\wc.cell? ⟨b,off+j*4,none⟩=some (.string y.key)/\wc.cell? ⟨b,off+j*4+1,none⟩=some (.string y.pre)/\wc.cell? ⟨b,off+j*4+2,none⟩=some (.string y.suf)/\wc.cell? ⟨b,off+j*4+3,none⟩=some (.bool y.bare)):=by intro j y hy;obtain ⟨b,off,i1,i2,i3,j0,j1,j2,j3⟩:=AL SI.out hy;have hs:=iA (hbw.block b i2);exact ⟨b,off,i1,(hs _).trans j0,(hs _).trans j1,(hs _).trans j2,(hs _).trans j3⟩
       have H6:=hid h6;have CX:Hid (∀ cj,ci=cj->j5=cj->l.take (k+1)=m.take (k+1)):=fun cj e1 e2=>take_same zn.out HX.out (by rw [HY.out,e1,e2])
       have CN:Hid (ci≠j5->l≠m):=fun h=>rY HX.out HY.out (fun e=>h (by injection e))
       have R1:Hid (Aj ci j5 wc (.int .i64 0) wc):=⟨0,0,Nat.zero_le _,rfl,by simp,rfl⟩;have hcl:j5.length=ci.length:=h6.symm;clear hfe hb hbw k1 k2 XV SI HR HR' h6 HX HY C9 K1 K2;go_wp2
       go_loopw [8] (fun i wz=>Aj ci j5 wc i wz) (fun i _=>ci.length-(intOf i).toNat)
       case atStart=>exact R1.out
       case round=>
        clear R1;obtain ⟨j,q2,hj,rfl,htj,rfl⟩:=hrel;have HTJ:=hid htj;clear htj;by_cases hjl:j<ci.length
        ·obtain ⟨y,hy⟩:∃ y,ci[j]?=some y:=⟨_,jlz hjl⟩;obtain ⟨z,hz⟩:∃ z,j5[j]?=some z:=⟨_,jlz (by omega)⟩;obtain ⟨b,o1,rfl,j0,j1,j2,j3⟩:=CI.out j y hy;obtain ⟨b',o2,rfl,j0',j1',j2',j3'⟩:=CI'.out j z hz;by_cases hyz:y=z
         ·subst hyz;have Md:=hid (take_same HTJ.out hy hz);obtain ⟨yk,yp,ys,yb⟩:=y;dsimp only at j0 j1 j2 j3 j0' j1' j2' j3';have m1:(yk.toList != yk.toList)=false:=by simp
          have m2:(yp.toList != yp.toList)=false:=by simp
          have m3:(ys.toList != ys.toList)=false:=by simp
          have m4:(yb != yb)=false:=by simp
          clear CI CI' hy hz;go_wp2_with fail
          go_quiet (fail)
          go_wp2;go_roundw;case rel=>exact ⟨j+1,_,by omega,by go_num,Md.out,rfl⟩
          case measure=>simp [intOf];omega
         ·have Qb:=hid (CN.out (rY hy hz hyz));obtain ⟨yk,yp,ys,yb⟩:=y;obtain ⟨zk,zp,zs,zb⟩:=z;dsimp only at j0 j1 j2 j3 j0' j1' j2' j3';clear CI CI' hy hz;by_cases e1:yk=zk;case neg=>
           have m1:=FX e1;have m1':=FY e1;clear hyz;go_wp2_with fail
           go_quiet (fail)
           go_wp2;go_ret;exact ⟨false,rfl,fB Qb.out,dO (dO HB3.out _) _⟩
          subst e1;have m1:(yk.toList != yk.toList)=false:=by simp
          have m1':(yk.toList==yk.toList)=true:=by simp
          by_cases e2:yp=zp;case neg=>
           have m2:=FX e2;have m2':=FY e2;clear hyz;go_wp2_with fail
           go_quiet (fail)
           go_wp2;go_ret;exact ⟨false,rfl,fB Qb.out,dO (dO HB3.out _) _⟩
          subst e2;have m2:(yp.toList != yp.toList)=false:=by simp
          have m2':(yp.toList==yp.toList)=true:=by simp
          by_cases e3:ys=zs;case neg=>
           have m3:=FX e3;have m3':=FY e3;clear hyz;go_wp2_with fail
           go_quiet (fail)
           go_wp2;go_ret;exact ⟨false,rfl,fB Qb.out,dO (dO HB3.out _) _⟩
          subst e3;have m3:(ys.toList != ys.toList)=false:=by simp
          have m3':(ys.toList==ys.toList)=true:=by simp
          have e4:yb≠zb:=fun e=>hyz (by rw [e])
          have m4:(yb != zb)=true:=by simp [e4]
          have m4':(yb==zb)=false:=by simp [e4]
          clear hyz e4;go_wp2_with fail
          go_quiet (fail)
          go_wp2;go_ret;exact ⟨false,rfl,fB Qb.out,dO (dO HB3.out _) _⟩
        ·have hcc:ci=j5:=jE (by rw [<- (show j=ci.length from by omega)];exact HTJ.out) H6.out;have Md:=hid (CX.out ci rfl hcc.symm);clear CI CI' hcc;go_wp2;go_roundw;case rel=>exact ⟨k+1,by omega,by go_num,Md.out,dO HB3.out q2⟩
         case measure=>simp [intOf];omega
   ·obtain rfl:k=l.length:=by omega
    clear IH H1 H2;go_wp2;go_ret;exact ⟨true,rfl,uF (jE zn.out HL.out),dD.out⟩
open Go.RowKit
theorem cu.at3 {w w':jp3} {b o:Nat} {k lv:Int} {i t d ti id:ByteArray} {vc vp vl vk:Value} (h:cu w b o k lv i t d ti id vc vp vl vk) (hb:w'.heap[b]?=w.heap[b]?):cu w' b o k lv i t d ti id vc vp vl vk:=by obtain ⟨c0,c1,c2,c3,c4,c5,c6,c7,c8,c9,c10⟩:=h;exact ⟨(iA hb _).trans c0,(iA hb _).trans c1,(iA hb _).trans c2,(iA hb _).trans c3,(iA hb _).trans c4,(iA hb _).trans c5,(iA hb _).trans c6,(iA hb _).trans c7,(iA hb _).trans c8,(iA hb _).trans c9,(iA hb _).trans c10⟩
theorem xK (n:Nat):∀ (l m:List ah) (v1 v2:Value) (w:jp3),ah.aR l<=n->Rd (·<w.heap.size) w (fC l) [v1]->Rd (·<w.heap.size) w (fC m) [v2] -> Calls Tryz.prog 25 #[v1,v2] w (Cr l m w):=by
 induction n using Nat.strongRecOn with
 | _ n ih=>
  intro l m v1 v2 w hn h1 h2;obtain ⟨a1,c1,hv1,hs1⟩:=Rd.aB h1;obtain ⟨a2,c2,hv2,hs2⟩:=Rd.aB h2;obtain rfl:v1=.slice a1 l.length c1:=by simpa using hv1
  obtain rfl:v2=.slice a2 m.length c2:=by simpa using hv2
  have hc1:l.length<=c1:=by simpa using hs1.le
  have hc2:m.length<=c2:=by simpa using hs2.le
  have hm1:=hs1.max;have hm2:=hs2.max;unfold maxLen at hm1 hm2;have H1:=hid hs1;have H2:=hid hs2;have IH:=hid ih;clear h1 h2 hv1 hv2 hs1 hs2 ih;by_cases hL:l.length=m.length;case neg=>
   have hll:((l.length:Int) != m.length)=true:=by simp;omega
   have yg:=hid (fun h:l=m=>hL (by rw [h]));clear H1 H2 hL IH;go_enter Tryz.func25,Tryz.ntmps25;go_wp2;go_ret;exact ⟨false,rfl,fB yg.out,jm0 _ _⟩
  have hll:((l.length:Int) != m.length)=false:=by simp;omega
  have HL:=hid hL;have hme:m.length=l.length:=hL.symm;clear hL;have R0:Hid (SH l m w (.int .i64 0) w):=⟨0,Nat.zero_le _,rfl,by simp,jm0 _ _⟩;go_enter Tryz.func25,Tryz.ntmps25;go_wp2
  go_loopw [5] (fun i wr=>SH l m w i wr) (fun i _=>l.length-(intOf i).toNat)
  case atStart=>exact R0.out
  case round=>
   clear R0;obtain ⟨k,hk,rfl,htk,hbel⟩:=hrel;have dD:=hid hbel;have zn:=hid htk;clear hbel htk;by_cases hlt:k<l.length
   ·obtain ⟨x,hx⟩:∃ x,l[k]?=some x:=⟨_,jlz hlt⟩;obtain ⟨y,hy⟩:∃ y,m[k]?=some y:=⟨_,jlz (by omega)⟩;obtain ⟨kd,lv,inf,t,d,ti,at_,li,ks⟩:=x;obtain ⟨kd',Uy,inf',t',d',Ld,at_',li',ks'⟩:=y;obtain ⟨g,off,vc,vp,vl,vk,rfl,hok,hbl,hc,hR⟩:=I7 H1.out hx;obtain ⟨g',off',Ez,EA,vl',Uj,rfl,hok',ji6,hc',hR'⟩:=I7 H2.out hy;have hsz:=ah.bg l k _ hx;rw [ah.sz] at hsz;obtain ⟨ac,nc,cc,rfl⟩:=Rd.om hR.at_.cls
    obtain ⟨ap,np,cp,rfl⟩:=Rd.om hR.at_.aJ
    obtain ⟨al,nl,cl,rfl⟩:=Rd.om hR.line;obtain ⟨ak,nk,ck,rfl⟩:=Rd.om hR.kids;obtain ⟨Xb,nc',cc',rfl⟩:=Rd.om hR'.at_.cls
    obtain ⟨Xc,np',cp',rfl⟩:=Rd.om hR'.at_.aJ
    obtain ⟨al',nl',cl',rfl⟩:=Rd.om hR'.line;obtain ⟨Xd,nk',Xe,rfl⟩:=Rd.om hR'.kids;obtain ⟨p0,p1,p2,p3,p4,p5,p6,p7,p8,p9,Kg⟩:=hc.at3 (w':=wr) (dD.out.block g hok);obtain ⟨q0,q1,q2,q3,q4,q5,q6,q7,q8,q9,q10⟩:=hc'.at3 (w':=wr) (dD.out.block g' hok');have HR:=hid hR;have HR':=hid hR';have HX:=hid hx;have HY:=hid hy;have hlg:=ze p0;have Xo:=ze q0;clear hc hc' hR hR' hx hy;go_upto_region 6 with (fail)
    go_cut [6,7] (fun v6 v7 wx=>Two 48 wr [.int .i64 kd,.int .i64 lv,.string inf,.string t,.string d,.string ti,.string at_.id,.slice ac nc cc,.slice ap np cp,.slice al nl cl,.slice ak nk ck] [.int .i64 kd',.int .i64 Uy,.string inf',.string t',.string d',.string Ld,.string at_'.id,.slice Xb nc' cc',.slice Xc np' cp',.slice al' nl' cl',.slice Xd nk' Xe] v6 v7 wx)
    case first=>
     go_region
     all_goals
      go_wp2_with fail
      go_meet
      first
      | exact Ih _ _ _ _
      | exact Ph _ _ _ _
    case rest=>
     obtain ⟨p,q,rfl,rfl,k1,k2,hb⟩:=hcut;have hbw:=aP dD.out hb;have K1:=hid k1;have K2:=hid k2;have C9:=hid hbw;clear p0 p1 p2 p3 p4 p5 p6 p7 p8 p9 Kg q0 q1 q2 q3 q4 q5 q6 q7 q8 q9 q10 hb hlg Xo dD;go_upto_region 7 with (fail)
     go_cut [90] (fun v wx=>jc2 (kd=kd'/\lv=Uy/\inf=inf'/\t=t'/\d=d'/\ti=Ld/\at_=at_'/\li=li'/\ks=ks') 48 p q [.int .i64 kd,.int .i64 lv,.string inf,.string t,.string d,.string ti,.string at_.id,.slice ac nc cc,.slice ap np cp,.slice al nl cl,.slice ak nk ck] [.int .i64 kd',.int .i64 Uy,.string inf',.string t',.string d',.string Ld,.string at_'.id,.slice Xb nc' cc',.slice Xc np' cp',.slice al' nl' cl',.slice Xd nk' Xe] wc v wx)
     case first=>
      have z0:=k1.cell 0 _ rfl;have y0:=k2.cell 0 _ rfl;by_cases f0:kd=kd';case neg=>
       have n0:(kd != kd')=true:=by simp [f0]
       clear k1 k2 hbw;go_wp2_with fail
       go_meet
       exact ⟨true,rfl,ne_iff (fun h=>f0 h.1),K1.out,K2.out,jm0 _ _⟩
      subst f0;have n0:(kd != kd)=false:=by simp
      have z1:=k1.cell 1 _ rfl;have y1:=k2.cell 1 _ rfl;by_cases f1:lv=Uy;case neg=>
       have n1:(lv != Uy)=true:=by simp [f1]
       clear k1 k2 hbw;go_wp2_with fail
       go_meet
       exact ⟨true,rfl,ne_iff (fun h=>f1 h.2.1),K1.out,K2.out,jm0 _ _⟩
      subst f1;have n1:(lv != lv)=false:=by simp
      have z2:=k1.cell 2 _ rfl;have y2:=k2.cell 2 _ rfl;by_cases f2:inf=inf';case neg=>
       have n2:=FX f2;have n2':=FY f2;clear k1 k2 hbw;go_wp2_with fail
       go_meet
       exact ⟨true,rfl,ne_iff (fun h=>f2 h.2.2.1),K1.out,K2.out,jm0 _ _⟩
      subst f2;have n2:(inf.toList != inf.toList)=false:=by simp
      have n2':(inf.toList==inf.toList)=true:=by simp
      have z3:=k1.cell 3 _ rfl;have y3:=k2.cell 3 _ rfl;by_cases f3:t=t';case neg=>
       have n3:=FX f3;have n3':=FY f3;clear k1 k2 hbw;go_wp2_with fail
       go_meet
       exact ⟨true,rfl,ne_iff (fun h=>f3 h.2.2.2.1),K1.out,K2.out,jm0 _ _⟩
      subst f3;have n3:(t.toList != t.toList)=false:=by simp
      have n3':(t.toList==t.toList)=true:=by simp
      have z4:=k1.cell 4 _ rfl;have y4:=k2.cell 4 _ rfl;by_cases f4:d=d';case neg=>
       have n4:=FX f4;have n4':=FY f4;clear k1 k2 hbw;go_wp2_with fail
       go_meet
       exact ⟨true,rfl,ne_iff (fun h=>f4 h.2.2.2.2.1),K1.out,K2.out,jm0 _ _⟩
      subst f4;have n4:(d.toList != d.toList)=false:=by simp
      have n4':(d.toList==d.toList)=true:=by simp
      have z5:=k1.cell 5 _ rfl;have y5:=k2.cell 5 _ rfl;by_cases f5:ti=Ld;case neg=>
       have n5:=FX f5;have n5':=FY f5;clear k1 k2 hbw;go_wp2_with fail
       go_meet
       exact ⟨true,rfl,ne_iff (fun h=>f5 h.2.2.2.2.2.1),K1.out,K2.out,jm0 _ _⟩
      subst f5;have n5:(ti.toList != ti.toList)=false:=by simp
      have n5':(ti.toList==ti.toList)=true:=by simp
      have z6:=k1.cell 6 _ rfl;have z7:=k1.cell 7 _ rfl;have z8:=k1.cell 8 _ rfl;have y6:=k2.cell 6 _ rfl;have y7:=k2.cell 7 _ rfl;have y8:=k2.cell 8 _ rfl;have A1:=hid (Al at_ at_' _ _ _ _ wc (HR.out.at_.up hbw) (HR'.out.at_.up hbw));clear k1 k2 hbw;go_wp2_with fail
      refine A1.out.mono ?_;rintro e w1 ⟨r1,rfl,i1,b1⟩;have I1:=hid i1;have B1:=hid b1;have k1:=K1.out.below b1;have k2:=K2.out.below b1;have hbw:=aP C9.out b1;have K3:=hid k1;have K4:=hid k2;have HBV:=hid hbw;clear i1 b1 A1 z0 z1 z2 z3 z4 z5 z6 z7 z8 y0 y1 y2 y3 y4 y5 y6 y7 y8;cases r1 with
      | false=>
       clear k1 k2 hbw;go_wp2_with fail
       go_meet
       exact ⟨true,rfl,ne_iff (fun h=>absurd (I1.out.2 h.2.2.2.2.2.2.1) (by simp)),K3.out,K4.out,B1.out⟩
      | true=>
       have z9:=k1.cell 9 _ rfl;have y9:=k2.cell 9 _ rfl;have T1:=hid (qJ (aj.aR li) li li' _ _ w1 (jm1 _) (HR.out.line.up hbw) (HR'.out.line.up hbw));have hat:=I1.out.1 (by simp);have HAT:=hid hat;clear hat k1 k2 hbw;go_wp2_with fail
       refine T1.out.mono ?_;rintro e w2 ⟨r2,rfl,i2,b2⟩;have I2:=hid i2;have B2:=hid (aP B1.out b2);have K5:=hid (K3.out.below b2);have K6:=hid (K4.out.below b2);have HBU:=hid (aP HBV.out b2);clear i2 b2 T1 z9 y9;cases r2 with
       | false=>
        go_wp2_with fail
        go_meet
        exact ⟨true,rfl,ne_iff (fun h=>absurd (I2.out.2 h.2.2.2.2.2.2.2.1) (by simp)),K5.out,K6.out,B2.out⟩
       | true=>
        have har:=I2.out.1 (by simp);have Te:=hid har;have z10:=K5.out.cell 10 _ rfl;have y10:=K6.out.cell 10 _ rfl;have S1:=hid (IH.out (ah.aR ks) (by omega) ks ks' _ _ w2 (jm1 _) (HR.out.kids.up HBU.out) (HR'.out.kids.up HBU.out));clear har;go_wp2_with fail
        refine S1.out.mono ?_;rintro e w3 ⟨r3,rfl,i3,b3⟩;have I3:=hid i3;have B3:=hid (aP B2.out b3);have K7:=hid (K5.out.below b3);have K8:=hid (K6.out.below b3);clear i3 b3 S1 z10 y10;go_wp2_with fail
        go_meet
        refine ⟨!r3,rfl,?_,K7.out,K8.out,B3.out⟩;have i3:=I3.out;constructor
        ·intro h;have h:r3=true:=by simpa using h
         exact ⟨by simp,by simp,by simp,by simp,by simp,by simp,HAT.out,Te.out,i3.1 h⟩
        ·intro h;have:=i3.2 h.2.2.2.2.2.2.2.2;simp [this]
     case rest=>
      obtain ⟨b,rfl,hfe,k1,k2,hb⟩:=hcut;have HFE:=hid hfe;have HB3:=hid (aP C9.out hb);cases b with
      | true=>
       have yg:Hid (l≠m):=rY HX.out HY.out (fun h=>by injection h with h0 h1 h2 h3 h4 h5 h6 h7 h8;exact absurd (HFE.out.2 ⟨h0,h1,h2,h3,h4,h5,h6,h7,h8⟩) (by simp));clear hfe k1 k2 hb;go_wp2;go_ret;exact ⟨false,rfl,fB yg.out,HB3.out⟩
      | false=>
       obtain ⟨h0,h1,h2,h3,h4,h5,h6,h7,h8⟩:=HFE.out.1 (by simp);subst h0 h1 h2 h3 h4 h5 h6 h7 h8;have Md:=hid (take_same zn.out HX.out HY.out);clear hfe k1 k2 hb;go_wp2;go_roundw;case rel=>exact ⟨k+1,by omega,by go_num,Md.out,HB3.out⟩
       case measure=>simp [intOf];omega
   ·obtain rfl:k=l.length:=by omega
    clear IH H1 H2;go_wp2;go_ret;exact ⟨true,rfl,uF (jE zn.out HL.out),dD.out⟩
end Go.Proofs.YtkfnkeflalcphaaGreatDoor

