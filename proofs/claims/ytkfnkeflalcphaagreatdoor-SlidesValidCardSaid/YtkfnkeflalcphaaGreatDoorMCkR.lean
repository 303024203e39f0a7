/- Contract of publisherref34.one, given that of nodes at the Kids. Contract of publisherref34.nodes: the nodes of inlines; plain part: the classes of well-formed inlines are not empty. Contracts of html.unresolved and publisherref34.unresolved. Contract of (*html.builder).block, kind by kind: the node of a block. Contracts of (*html.builder).block and (*html.builder).blocks: the nodes of blocks. Plain part: a well-formed, small document without unresolved inlines is one that the walk of html.Blocks asks. Contract of publisherref34.row. A literal of one node, whose data are newer than a world, is a row of one's own since that world. Contract of publisherref34.block, kind by kind: the nodes of a block. Contracts of publisherref33.Plain and publisherref33.Values. Contracts of publisherref33.part, Name, Empty, attrs, Check: at valid markup. -/
import Derived.Test.YtkfnkeflalcphaaGreatDoorMNdL
set_option maxHeartbeats 8000000
set_option maxRecDepth 100000
open Go.Lib (hid)
namespace Go.Proofs.YtkfnkeflalcphaaGreatDoor
open Tryz
open List renaming getElem?_eq_getElem->jK6,length_append->jKq,length_map->jKx,mem_of_getElem?->jL4,map_append->jL8,take_length->jLx
open Go.RowKit.Below renaming refl->jK7
open Nat renaming le_refl->jK8,le_trans->jK9,zero_le->jL3
open Bool renaming eq_iff_iff->jKk
open Go renaming World->jN9,Value->jNk
open Go.RowKit renaming Below->jNj
open Go.RowKit
set_option linter.unusedVariables false
set_option linter.unusedSimpArgs false
open Go.RowKit
open Go.RowKit
def OQ (w:jN9) (l:List aj) (vi:jNk) (wr:jN9):Prop:=∃ k:Nat,k<=l.length/\vi=.int .i64 k/\(l.take k).any dG=false/\jNj w.heap.size w wr
def Mv (w:jN9) (b:Bool) (e:Ending) (w':jN9):Prop:=e=.returned (.bool b)/\jNj w.heap.size w w'
theorem qI {l:List aj} {k:Nat} {x:aj} (hx:l[k]?=some x) (h:dG x=true):l.any dG=true:=List.any_eq_true.2 ⟨x,jL4 hx,h⟩
theorem tH {l:List aj} {k:Nat} {x:aj} (hx:l[k]?=some x) (h:dG x=false) (hk:(l.take k).any dG=false):(l.take (k+1)).any dG=false:=by rw [List.take_add_one,hx,List.any_append,hk];simp [h]
theorem jez{P:Prop}(h:P:=by
 have Tt:(kd==15)=false:=by rw [beq_eq_false_iff_ne];exact qF
 have q13:(kd==13)=false:=by rw [beq_eq_false_iff_ne];exact h13
 have q14:(kd==14)=false:=by rw [beq_eq_false_iff_ne];exact Tz
 have q9:(kd==9)=false:=by rw [beq_eq_false_iff_ne];exact h9
 have q10:(kd==10)=false:=by rw [beq_eq_false_iff_ne];exact h10
 have HT:=hid (tH HX.out (show dG (aj.mk kd t d ti at_ ar ci ks)=false by unfold dG;simp [qF,h13,Tz,h9,h10]) HK.out);clear HX HK qF h13 Tz h9 h10 qe;go_wp2;go_roundw;case rel=>exact ⟨k+1,by omega,by go_num,HT.out,I8.out⟩
 case measure=>simp [intOf];omega):P:=h
theorem OT{P:Prop}(h:P:=by
 go_wp2;go_roundw;case rel=>exact ⟨k+1,by omega,by go_num,HT.out,I8.out⟩
 case measure=>simp [intOf];omega):P:=h
theorem OU{P Q:Prop}(q:Q)(h:Nonempty Q->P:=by
 intro qQ;have q1:t.toList.isEmpty=true:=by rw [qe];exact ht
 have q2:t.toList=[]:=by rw [List.isEmpty_iff] at q1;exact q1
 revert q1 q2;exact qQ.elim fun x=>x):P:=h ⟨q⟩
theorem I9{P:Prop}(h:P:=by
 go_wp2;go_ret;exact ⟨by rw [HT.out];rfl,I8.out⟩):P:=h
theorem Mw (l:List aj) (ok:Nat->Prop) (v:jNk) (w:jN9) (hrd:Rd ok w (aZ l) [v]):Calls prog 36 #[v] w (Mv w (l.any dG)):=by
 obtain ⟨a,cap,hv,hs⟩:=Rd.aB hrd;obtain rfl:v=.slice a l.length cap:=by simpa using hv
 refine qJ ?_;intro hcap hmx HS;have R0:Hid (OQ w l (.int .i64 0) w):=⟨0,jL3 _,rfl,by simp,jK7 _ _⟩;clear hs hv hrd;go_enter func36,ntmps36;go_wp2
 go_loopw [7] (fun vi wr=>OQ w l vi wr) (fun i _=>l.length-(intOf i).toNat)
 case atStart=>exact R0.out
 case round=>
  clear R0;obtain ⟨k,hk,rfl,hany,hbel⟩:=hrel;have HK:=hid hany;clear hany;by_cases hlt:k<l.length
  ·refine kK ?_;intro x hx;obtain ⟨kd,t,d,ti,at_,ar,ci,ks⟩:=x;obtain ⟨g,off,vc,vp,va,vi,vk,rfl,hok,hbl,hc,hR⟩:=fE HS.out hx;obtain ⟨c0,c1,c2,c3,c4,c5,c6,c7,c8,c9⟩:=hc.below hbel;obtain ⟨ac,nc,cc,rfl⟩:=Rd.au hR.at_.cls
   obtain ⟨ap,np,cp,rfl⟩:=Rd.au hR.at_.aD
   obtain ⟨aa,na,ca,rfl⟩:=Rd.au hR.args;obtain ⟨ai,ni,yx,rfl⟩:=Rd.au hR.dH;obtain ⟨ak,nk,ck,rfl⟩:=Rd.au hR.kids;have HX:=hid hx;have qe:=tJ t;refine Uv ?_;intro p hp wA iD PA;have I8:Hid (jNj w.heap.size w wA):=by rw [iD];exact hbel.alloc hbel.size _
   clear hc hok hbl hR hx hbel;go_upto_region 4 with (fail)
   rw [<- iD,<- hp];obtain ⟨e0,e1,-,-,-,-,-,-,-,-⟩:=Mx PA;clear iD hp PA c0 c1 c2 c3 c4 c5 c6 c7 c8 c9;by_cases qF:kd=15
   ·subst qF;have HT:=hid (qI HX.out (show dG (aj.mk 15 t d ti at_ ar ci ks)=true by unfold dG;simp));clear HX;exact I9
   by_cases h13:kd=13
   ·subst h13;have HT:=hid (qI HX.out (show dG (aj.mk 13 t d ti at_ ar ci ks)=true by unfold dG;simp));clear HX;exact I9
   by_cases Tz:kd=14
   ·subst Tz;have HT:=hid (qI HX.out (show dG (aj.mk 14 t d ti at_ ar ci ks)=true by unfold dG;simp));clear HX;exact I9
   by_cases h9:kd=9
   ·subst h9;cases ht:aV t
    ·have q1:t.toList.isEmpty=false:=by rw [qe];exact ht
     have HT:=hid (qI HX.out (show dG (aj.mk 9 t d ti at_ ar ci ks)=true by unfold dG;simp [ht]));clear HX ht qe;exact I9
    ·refine OU ?_;intro q1 q2;have HT:=hid (tH HX.out (show dG (aj.mk 9 t d ti at_ ar ci ks)=false by unfold dG;simp [ht]) HK.out);clear HX HK ht qe;exact OT
   by_cases h10:kd=10
   ·subst h10;cases ht:aV t
    ·have q1:t.toList.isEmpty=false:=by rw [qe];exact ht
     have HT:=hid (qI HX.out (show dG (aj.mk 10 t d ti at_ ar ci ks)=true by unfold dG;simp [ht]));clear HX ht qe;exact I9
    ·refine OU ?_;intro q1 q2;have HT:=hid (tH HX.out (show dG (aj.mk 10 t d ti at_ ar ci ks)=false by unfold dG;simp [ht]) HK.out);clear HX HK ht qe;exact OT
   exact jez
  ·have hkl:k=l.length:=by omega
   have HT:Hid (l.any dG=false):=by
    have h:=HK.out
    rwa [hkl,jLx] at h
   clear hkl;go_wp2;go_ret;exact ⟨by rw [HT.out];rfl,hbel⟩
theorem Ja{P:Prop}(h:P:=by
 go_wp2;go_ret;exact ⟨by rw [HT.out];rfl,q01 HB0.out I8.out⟩):P:=h
theorem MB (l0:List aj) (v0:jNk) (w0:jN9) (jr0:Rd (·<w0.heap.size) w0 (aZ l0) [v0]) (hsz:aj.aU l0<=1000000):Calls prog 44 #[v0] w0 (Mv w0 (qW l0)):=by
 obtain ⟨a0,n0,c0,rfl⟩:=Rd.au jr0;have DC:=hid (Jb _ l0 w0.heap.size _ w0 (jK8 _) hsz jr0 (jK8 _));have hue:qW l0=(aj.aT l0).any dG:=rfl;rw [hue];obtain ⟨l,hl⟩:∃ l,l=aj.aT l0:=⟨_,rfl⟩;rw [<- hl] at DC ⊢;clear hue hl jr0;go_enter func44,ntmps44;go_wp2_with fail
 (with_reducible refine DC.out.mono ?_)
 rintro e w ⟨v,rows,rfl,hrow⟩;have hrd:Rd (fun _=>True) w (aZ l) [v]:=Rd.jl hrow.own (aO.keep (fun b _ _=>⟨trivial,rfl⟩) _ _ hrow.red) hrow.len (fun _ _=>trivial);have HB0:=hid hrow.aY;obtain ⟨a,cap,hv,hs⟩:=Rd.aB hrd;obtain rfl:v=.slice a l.length cap:=by simpa using hv
 refine qJ ?_;intro hcap hmx HS;have R0:Hid (OQ w l (.int .i64 0) w):=⟨0,jL3 _,rfl,by simp,jK7 _ _⟩;clear hs hv hrd hrow DC;go_wp2
 go_loopw [4] (fun vi wr=>OQ w l vi wr) (fun i _=>l.length-(intOf i).toNat)
 case atStart=>exact R0.out
 case round=>
  clear R0;obtain ⟨k,hk,rfl,hany,hbel⟩:=hrel;have HK:=hid hany;clear hany;by_cases hlt:k<l.length
  ·refine kK ?_;intro x hx;obtain ⟨kd,t,d,ti,at_,ar,ci,ks⟩:=x;obtain ⟨g,off,vc,vp,va,vi,vk,rfl,hok,hbl,hc,hR⟩:=fE HS.out hx;obtain ⟨c0,c1,c2,c3,c4,c5,c6,c7,c8,c9⟩:=hc.below hbel;obtain ⟨ac,nc,cc,rfl⟩:=Rd.au hR.at_.cls
   obtain ⟨ap,np,cp,rfl⟩:=Rd.au hR.at_.aD
   obtain ⟨aa,na,ca,rfl⟩:=Rd.au hR.args;obtain ⟨ai,ni,yx,rfl⟩:=Rd.au hR.dH;obtain ⟨ak,nk,ck,rfl⟩:=Rd.au hR.kids;have HX:=hid hx;have qe:=tJ t;refine Uv ?_;intro p hp wA iD PA;have I8:Hid (jNj w.heap.size w wA):=by rw [iD];exact hbel.alloc hbel.size _
   clear hc hok hbl hR hx hbel;go_upto_region 6 with (fail)
   rw [<- iD,<- hp];obtain ⟨e0,e1,-,-,-,-,-,-,-,-⟩:=Mx PA;clear iD hp PA c0 c1 c2 c3 c4 c5 c6 c7 c8 c9;by_cases qF:kd=15
   ·subst qF;have HT:=hid (qI HX.out (show dG (aj.mk 15 t d ti at_ ar ci ks)=true by unfold dG;simp));clear HX;exact Ja
   by_cases h13:kd=13
   ·subst h13;have HT:=hid (qI HX.out (show dG (aj.mk 13 t d ti at_ ar ci ks)=true by unfold dG;simp));clear HX;exact Ja
   by_cases Tz:kd=14
   ·subst Tz;have HT:=hid (qI HX.out (show dG (aj.mk 14 t d ti at_ ar ci ks)=true by unfold dG;simp));clear HX;exact Ja
   by_cases h9:kd=9
   ·subst h9;cases ht:aV t
    ·have q1:t.toList.isEmpty=false:=by rw [qe];exact ht
     have HT:=hid (qI HX.out (show dG (aj.mk 9 t d ti at_ ar ci ks)=true by unfold dG;simp [ht]));clear HX ht qe;exact Ja
    ·refine OU ?_;intro q1 q2;have HT:=hid (tH HX.out (show dG (aj.mk 9 t d ti at_ ar ci ks)=false by unfold dG;simp [ht]) HK.out);clear HX HK ht qe;exact OT
   by_cases h10:kd=10
   ·subst h10;cases ht:aV t
    ·have q1:t.toList.isEmpty=false:=by rw [qe];exact ht
     have HT:=hid (qI HX.out (show dG (aj.mk 10 t d ti at_ ar ci ks)=true by unfold dG;simp [ht]));clear HX ht qe;exact Ja
    ·refine OU ?_;intro q1 q2;have HT:=hid (tH HX.out (show dG (aj.mk 10 t d ti at_ ar ci ks)=false by unfold dG;simp [ht]) HK.out);clear HX HK ht qe;exact OT
   exact jez
  ·have hkl:k=l.length:=by omega
   have HT:Hid (l.any dG=false):=by
    have h:=HK.out
    rwa [hkl,jLx] at h
   clear hkl;go_wp2;go_ret;exact ⟨by rw [HT.out];rfl,q01 HB0.out hbel⟩
open Go.RowKit
theorem Uw (n:Nat) (w:jN9) (hn:n<=999999999) (ht:PT w) : Calls prog 136 #[.int .i64 (n:Int)] w fun e w'=>e=.returned (.string (dU n))/\jNj w.heap.size w w':=by
 refine (Tryz.strconv_Itoa (n:Int) (by omega) (by omega) w ht.2).mono ?_;rintro e w' ⟨rfl,k,os,rfl⟩;refine ⟨?_,Lib.below_grow _ w (jK8 _) k os⟩;have:Lib.itoa (n:Int)=Lib.decDigits n:=by unfold Lib.itoa;rw [if_neg (by omega)];simp
 rw [this];rfl
theorem El (n:Nat) (hn:n<=999999999):(dU n).size<=1000000:=by have h:=zT n 8 (by omega);show (Lib.decDigits n).toArray.size<=1000000;simp;omega
theorem Ux {a:At} (h:a.short):([]++a.cls).length<=100/\∀ c∈[]++a.cls,c.size<=1000:=by unfold At.short at h;rw [List.nil_append];exact ⟨by omega,fun c hc=>by have:=h.2.2.2.1 c hc;omega⟩
theorem yO {a:At} (h:a.short) (s:ByteArray) (hs:s.size<=1000):([s]++a.cls).length<=100/\∀ c∈[s]++a.cls,c.size<=1000:=by
 unfold At.short at h;refine ⟨by simp;omega,fun c hc=>?_⟩;rcases List.mem_cons.1 hc with rfl | hc
 ·exact hs
 ·have:=h.2.2.2.1 c hc;omega
def eD (pv:jNk) (w:jN9) (ks:List ah) (vk:jNk):Prop:=∀ W:jN9,jNj w.heap.size w W->Calls prog 38 #[pv,vk] W (dP W (ah.bG ks))
structure MC (i t:ByteArray) (at_:At) (li:List aj):Prop where
 i:i.size<=300
 t:t.size<=300
 at_:at_.short
 li:LnW li
theorem ptH {S:Nat} {w W0:jN9} (hS:S=w.heap.size) (ht:PT w) (b0:jNj S w W0):Hid (∀ W:jN9,jNj W0.heap.size W0 W->PT W):=
 fun W hW=>ht.below (by rw [<- hS];exact b0.trans (hW.mono (by have:=b0.size;omega)))
theorem jx3 {S nl cl:Nat} {al:Option Addr} {W0:jN9} {i t:ByteArray} {at_:At} {li:List aj} {ks:List ah} {vc vp vk:jNk} (hs:MC i t at_ li) (HR:Hid (kG (·<S) W0 at_ li ks vc vp (.slice al nl cl) vk)) : Hid (∀ W:jN9,jNj W0.heap.size W0 W->Calls prog 78 #[.slice al nl cl] W (dP W (kP li))):=fun W hW=>
 Em 900000 li _ W hs.li.sz (by decide) (Rd.keep (w:=W0) (w':=W) (ok:=(·<S)) (fun b (hb:b<S) hlt=>⟨by show b<W.heap.size;have:=hW.size;omega,hW.block b hlt⟩) _ _ HR.out.line) hs.li.sm hs.li.tf
theorem ng{P Q:Prop}(q:Q)(h:Nonempty Q->P:=by
 intro qQ;have vL:=Uy HS.out hl B0.out;have ou:=ptH HS.out ht B0.out;have nu:=jx3 hs HR;have jK:=hid hs;have hst:t.size<=300:=hs.t;have hsi:i.size<=300:=hs.i;revert vL ou nu jK hst hsi;exact qQ.elim fun x=>x):P:=h ⟨q⟩
theorem jr1 (pv:Value) (lv:Int) (i t d ti:ByteArray) (at_:At) (li:List aj) (ks:List ah) (vc vp vl vk:Value) (w:World) (hR:kG (·<w.heap.size) w at_ li ks vc vp vl vk) (hs:MC i t at_ li) (hl:eD pv w ks vk) (ht:PT w) : Calls prog 86 #[pv,.agg #[.int .i64 1,.int .i64 lv,.string i,.string t,.string d,.string ti,.string at_.id,vc,vp,vl,vk]] w (q1z w (aW nP [] (kP li))):=by
 obtain ⟨ac,nc,cc,ap,np,cp,al,nl,cl,ak,nk,ck,S,W0,rfl,rfl,rfl,rfl,HS,HW0,e0,SX,HR,Z0,B0,K1⟩:=lM (.int .i64 1) lv i t d ti hR;refine ng ?_;intro vL ou nu jK hst hsi;clear hR hs hl ht;go_enter func86,ntmps86;go_upto_region 3 with (fail)
 refine dK ?_;have LC:=hid (nu.out W0 (Below.refl _ _));have g9:=(SX.out W0 (Below.refl _ _)).2.2.2.2.2.2.2.2.1;go_wp2_with fail
 (with_reducible refine LC.out.mono ?_)
 rintro e w4 ⟨eH,v4,rfl,hrow4⟩;obtain ⟨a4,n4,c4,rfl⟩:=hrow4.slice3;have b4:=hrow4.aY;have B4:=hid b4;have gN:=hid (show Rd (W0.heap.size<=·) w4 (dR (kP li)) [.slice a4 n4 c4] from hrow4.iZ);have EC:=hid (ny ⟨#[112]⟩ none a4 0 n4 0 c4 w4);clear b4 hrow4 LC g9;go_wp2_with fail
 (with_reducible refine EC.out.mono ?_)
 rintro e w5 ⟨rfl,b5⟩;have BL:=hid (q01 B4.out b5);have HN:=hid (show nC (W0.heap.size<=·) w5 [] (kP li) (.slice none 0 0) (.slice a4 n4 c4) from ⟨Rd.aI _ _ _,gN.out.bP b5⟩);clear b5 gN EC;obtain ⟨w9,hw8,r0,r1,r2,r3,HP,x0,x1,x2,x3,xf⟩:=jc ⟨#[112]⟩ ⟨#[]⟩ [] (kP li) HS Z0 B0 K1 BL HN.out;go_wp2;rw [<- hw8];exact bodyPost_ret (v:=.agg #[.string ⟨#[112]⟩,.string ⟨#[]⟩,(.slice none 0 0),(.slice a4 n4 c4)]) (by simp [results,results86,go_sem,r0,r1,r2,r3]) rfl HP.out
theorem Uz{P Q:Prop}(q:Q)(h:Nonempty Q->P:=by
 intro qQ;have BL:=hid (q01 B4.out b5);have HN:=hid (show nC (W0.heap.size<=·) w5 [] (ah.bG ks) (.slice none 0 0) (.slice a4 n4 c4) from ⟨Rd.aI _ _ _,gN.out.bP b5⟩);revert BL HN;exact qQ.elim fun x=>x):P:=h ⟨q⟩
theorem UF{P Q:Prop}(q:Q)(h:Nonempty Q->P:=by
 intro qQ;have b4:=hrow4.aY;have B4:=hid b4;have gN:=hid (show Rd (W0.heap.size<=·) w4 (dR (ah.bG ks)) [.slice a4 n4 c4] from hrow4.iZ);revert b4 B4 gN;exact qQ.elim fun x=>x):P:=h ⟨q⟩
theorem UG{P Q:Prop}(q:Q)(h:Nonempty Q->P:=by
 intro qQ;have LC:=hid (vL.out W0 (Below.refl _ _));have g9:=(SX.out W0 (Below.refl _ _)).2.2.2.2.2.2.2.2.2;revert LC g9;exact qQ.elim fun x=>x):P:=h ⟨q⟩
theorem jr2 (pv:Value) (lv:Int) (i t d ti:ByteArray) (at_:At) (li:List aj) (ks:List ah) (vc vp vl vk:Value) (w:World) (hR:kG (·<w.heap.size) w at_ li ks vc vp vl vk) (hs:MC i t at_ li) (hl:eD pv w ks vk) (ht:PT w) : Calls prog 86 #[pv,.agg #[.int .i64 6,.int .i64 lv,.string i,.string t,.string d,.string ti,.string at_.id,vc,vp,vl,vk]] w (q1z w (aW UH [] (ah.bG ks))):=by
 obtain ⟨ac,nc,cc,ap,np,cp,al,nl,cl,ak,nk,ck,S,W0,rfl,rfl,rfl,rfl,HS,HW0,e0,SX,HR,Z0,B0,K1⟩:=lM (.int .i64 6) lv i t d ti hR;refine ng ?_;intro vL ou nu jK hst hsi;clear hR hs hl ht;go_enter func86,ntmps86;go_upto_region 16 with (fail)
 refine dK ?_;refine UG ?_;intro LC g9;go_wp2_with fail
 (with_reducible refine LC.out.mono ?_)
 rintro e w4 ⟨eH,v4,rfl,hrow4⟩;obtain ⟨a4,n4,c4,rfl⟩:=hrow4.slice3;refine UF ?_;intro b4 B4 gN;have EC:=hid (ny ⟨#[98,108,111,99,107,113,117,111,116,101]⟩ none a4 0 n4 0 c4 w4);clear b4 hrow4 LC g9;go_wp2_with fail
 (with_reducible refine EC.out.mono ?_)
 rintro e w5 ⟨rfl,b5⟩;refine Uz ?_;intro BL HN;clear b5 gN EC;obtain ⟨w9,hw8,r0,r1,r2,r3,HP,x0,x1,x2,x3,xf⟩:=jc ⟨#[98,108,111,99,107,113,117,111,116,101]⟩ ⟨#[]⟩ [] (ah.bG ks) HS Z0 B0 K1 BL HN.out;go_wp2;rw [<- hw8];exact bodyPost_ret (v:=.agg #[.string ⟨#[98,108,111,99,107,113,117,111,116,101]⟩,.string ⟨#[]⟩,(.slice none 0 0),(.slice a4 n4 c4)]) (by simp [results,results86,go_sem,r0,r1,r2,r3]) rfl HP.out
theorem jr3 (pv:Value) (lv:Int) (i t d ti:ByteArray) (at_:At) (li:List aj) (ks:List ah) (vc vp vl vk:Value) (w:World) (hR:kG (·<w.heap.size) w at_ li ks vc vp vl vk) (hs:MC i t at_ li) (hl:eD pv w ks vk) (ht:PT w) : Calls prog 86 #[pv,.agg #[.int .i64 7,.int .i64 lv,.string i,.string t,.string d,.string ti,.string at_.id,vc,vp,vl,vk]] w (q1z w (aW nUl [] (ah.bG ks))):=by
 obtain ⟨ac,nc,cc,ap,np,cp,al,nl,cl,ak,nk,ck,S,W0,rfl,rfl,rfl,rfl,HS,HW0,e0,SX,HR,Z0,B0,K1⟩:=lM (.int .i64 7) lv i t d ti hR;refine ng ?_;intro vL ou nu jK hst hsi;clear hR hs hl ht;go_enter func86,ntmps86;go_upto_region 18 with (fail)
 refine dK ?_;refine UG ?_;intro LC g9;go_wp2_with fail
 (with_reducible refine LC.out.mono ?_)
 rintro e w4 ⟨eH,v4,rfl,hrow4⟩;obtain ⟨a4,n4,c4,rfl⟩:=hrow4.slice3;refine UF ?_;intro b4 B4 gN;have EC:=hid (ny ⟨#[117,108]⟩ none a4 0 n4 0 c4 w4);clear b4 hrow4 LC g9;go_wp2_with fail
 (with_reducible refine EC.out.mono ?_)
 rintro e w5 ⟨rfl,b5⟩;refine Uz ?_;intro BL HN;clear b5 gN EC;obtain ⟨w9,hw8,r0,r1,r2,r3,HP,x0,x1,x2,x3,xf⟩:=jc ⟨#[117,108]⟩ ⟨#[]⟩ [] (ah.bG ks) HS Z0 B0 K1 BL HN.out;go_wp2;rw [<- hw8];exact bodyPost_ret (v:=.agg #[.string ⟨#[117,108]⟩,.string ⟨#[]⟩,(.slice none 0 0),(.slice a4 n4 c4)]) (by simp [results,results86,go_sem,r0,r1,r2,r3]) rfl HP.out
theorem jr4 (pv:Value) (lv:Int) (i t d ti:ByteArray) (at_:At) (li:List aj) (ks:List ah) (vc vp vl vk:Value) (w:World) (hR:kG (·<w.heap.size) w at_ li ks vc vp vl vk) (hs:MC i t at_ li) (hl:eD pv w ks vk) (ht:PT w) : Calls prog 86 #[pv,.agg #[.int .i64 9,.int .i64 lv,.string i,.string t,.string d,.string ti,.string at_.id,vc,vp,vl,vk]] w (q1z w (aW nLi [] (ah.bG ks))):=by
 obtain ⟨ac,nc,cc,ap,np,cp,al,nl,cl,ak,nk,ck,S,W0,rfl,rfl,rfl,rfl,HS,HW0,e0,SX,HR,Z0,B0,K1⟩:=lM (.int .i64 9) lv i t d ti hR;refine ng ?_;intro vL ou nu jK hst hsi;clear hR hs hl ht;go_enter func86,ntmps86;go_upto_region 25 with (fail)
 refine dK ?_;refine UG ?_;intro LC g9;go_wp2_with fail
 (with_reducible refine LC.out.mono ?_)
 rintro e w4 ⟨eH,v4,rfl,hrow4⟩;obtain ⟨a4,n4,c4,rfl⟩:=hrow4.slice3;refine UF ?_;intro b4 B4 gN;have EC:=hid (ny ⟨#[108,105]⟩ none a4 0 n4 0 c4 w4);clear b4 hrow4 LC g9;go_wp2_with fail
 (with_reducible refine EC.out.mono ?_)
 rintro e w5 ⟨rfl,b5⟩;refine Uz ?_;intro BL HN;clear b5 gN EC;obtain ⟨w9,hw8,r0,r1,r2,r3,HP,x0,x1,x2,x3,xf⟩:=jc ⟨#[108,105]⟩ ⟨#[]⟩ [] (ah.bG ks) HS Z0 B0 K1 BL HN.out;go_wp2;rw [<- hw8];exact bodyPost_ret (v:=.agg #[.string ⟨#[108,105]⟩,.string ⟨#[]⟩,(.slice none 0 0),(.slice a4 n4 c4)]) (by simp [results,results86,go_sem,r0,r1,r2,r3]) rfl HP.out
theorem jr5 (pv:Value) (lv:Int) (i t d ti:ByteArray) (at_:At) (li:List aj) (ks:List ah) (vc vp vl vk:Value) (w:World) (hR:kG (·<w.heap.size) w at_ li ks vc vp vl vk) (hs:MC i t at_ li) (hl:eD pv w ks vk) (ht:PT w) : Calls prog 86 #[pv,.agg #[.int .i64 5,.int .i64 lv,.string i,.string t,.string d,.string ti,.string at_.id,vc,vp,vl,vk]] w (q1z w (aW nHr [] [])):=by
 obtain ⟨ac,nc,cc,ap,np,cp,al,nl,cl,ak,nk,ck,S,W0,rfl,rfl,rfl,rfl,HS,HW0,e0,SX,HR,Z0,B0,K1⟩:=lM (.int .i64 5) lv i t d ti hR;refine ng ?_;intro vL ou nu jK hst hsi;clear hR hs hl ht;go_enter func86,ntmps86;go_upto_region 14 with (fail)
 refine dK ?_;have EC:=hid (ny ⟨#[104,114]⟩ none none 0 0 0 0 W0);have B4:Hid (Below W0.heap.size W0 W0):=Below.refl _ _;go_wp2_with fail
 (with_reducible refine EC.out.mono ?_)
 rintro e w5 ⟨rfl,b5⟩;have BL:=hid (q01 B4.out b5);clear b5;obtain ⟨w9,hw8,r0,r1,r2,r3,HP,x0,x1,x2,x3,xf⟩:=jc ⟨#[104,114]⟩ ⟨#[]⟩ [] [] HS Z0 B0 K1 BL ⟨Rd.aI _ _ _,Rd.aI _ _ _⟩;go_wp2;rw [<- hw8];exact bodyPost_ret (v:=.agg #[.string ⟨#[104,114]⟩,.string ⟨#[]⟩,(.slice none 0 0),(.slice none 0 0)]) (by simp [results,results86,go_sem,r0,r1,r2,r3]) rfl HP.out
theorem Zj (pv:Value) (lv:Int) (i t d ti:ByteArray) (at_:At) (li:List aj) (ks:List ah) (vc vp vl vk:Value) (w:World) (hR:kG (·<w.heap.size) w at_ li ks vc vp vl vk) (hs:MC i t at_ li) (ht:PT w) (hT:TbW i ks) : Calls prog 86 #[pv,.agg #[.int .i64 10,.int .i64 lv,.string i,.string t,.string d,.string ti,.string at_.id,vc,vp,vl,vk]] w (q1z w (En i ks)):=by
 obtain ⟨ac,nc,cc,ap,np,cp,al,nl,cl,ak,nk,ck,S,W0,rfl,rfl,rfl,rfl,HS,HW0,e0,SX,HR,Z0,B0,K1⟩:=lM (.int .i64 10) lv i t d ti hR;have ou:=ptH HS.out ht B0.out;have nu:=jx3 hs HR;have jK:=hid hs;have hst:t.size<=300:=hs.t;have hsi:i.size<=300:=hs.i;have HT:=hid hT;clear hT;clear hR hs ht;go_enter func86,ntmps86;go_upto_region 27 with (fail)
 refine dK ?_;have TC:=hid (ME 10 lv i t d ti at_ li ks (.slice ac nc cc) (.slice ap np cp) (.slice al nl cl) (.slice ak nk ck) W0 (kG.Jc HR.out (fun b (hb:b<S) hlt=>⟨hlt,rfl⟩)) HT.out);obtain ⟨g1,g2,g3,g4,g5,g6,g7,g8,g9,g10⟩:=SX.out W0 (Below.refl _ _);have htb:(En i ks).nm=⟨#[116,97,98,108,101]⟩/\(En i ks).tx=⟨#[]⟩/\(En i ks).at_=[]:=by cases ks<;>exact ⟨rfl,rfl,rfl⟩
 have HTB:=hid htb;clear htb;go_wp2_with fail
 (with_reducible refine TC.out.mono ?_)
 rintro e w5 ⟨va,vk,he,hN,hb5⟩;obtain ⟨aA,nA,cA,rfl⟩:=Rd.au hN.at_
 obtain ⟨aK,nK,cK,rfl⟩:=Rd.au hN.ks;rw [HTB.out.1,HTB.out.2.1] at he;subst he;have BL:=hid hb5;have HN:=hid hN;have HE:Hid (En i ks=.mk ⟨#[116,97,98,108,101]⟩ ⟨#[]⟩ (En i ks).at_ (En i ks).ks):=by show _=_;rw [<- HTB.out.1,<- HTB.out.2.1];cases En i ks;rfl
 rw [HE.out];clear hN hb5 g1 g2 g3 g4 g5 g6 g7 g8 g9 g10 TC;obtain ⟨w9,hw8,r0,r1,r2,r3,HP,x0,x1,x2,x3,xf⟩:=jc ⟨#[116,97,98,108,101]⟩ ⟨#[]⟩ (En i ks).at_ (En i ks).ks HS Z0 B0 K1 BL HN.out
 go_wp2;rw [<- hw8];exact bodyPost_ret (v:=.agg #[.string ⟨#[116,97,98,108,101]⟩,.string ⟨#[]⟩,(.slice aA nA cA),(.slice aK nK cK)]) (by simp [results,results86,go_sem,r0,r1,r2,r3]) rfl (by rw [HE.out];exact HP.out)
theorem jf0{P:Prop}(h:P:=by
 go_wp2;rw [<- hw8];exact bodyPost_ret (v:=.agg #[.string ⟨#[112,114,101]⟩,.string ⟨#[]⟩,(.slice none 0 0),(.slice (some ⟨w5.heap.size,0,none⟩) 1 1)]) (by simp [results,results86,go_sem,r0,r1,r2,r3]) rfl HP.out):P:=h
theorem jf1{P:Prop}(h:P:=by
 have h:i.toList.isEmpty=aV i:=by rw [Lib.toList_data,Bool.eq_iff_iff,List.isEmpty_iff,aV,decide_eq_true_iff]
 rw [h];exact hi):P:=h
theorem Zk (pv:jNk) (lv:Int) (i t d ti:ByteArray) (at_:At) (li:List aj) (ks:List ah) (vc vp vl vk:jNk) (w:jN9) (hR:kG (·<w.heap.size) w at_ li ks vc vp vl vk) (hs:MC i t at_ li) (hl:eD pv w ks vk) (ht:PT w) (hi:aV i=true) : Calls prog 86 #[pv,.agg #[.int .i64 3,.int .i64 lv,.string i,.string t,.string d,.string ti,.string at_.id,vc,vp,vl,vk]] w (q1z w (aW QV [] [aW jA [] (bY t)])):=by
 obtain ⟨ac,nc,cc,ap,np,cp,al,nl,cl,ak,nk,ck,S,W0,rfl,rfl,rfl,rfl,HS,HW0,e0,SX,HR,Z0,B0,K1⟩:=lM (.int .i64 3) lv i t d ti hR;refine ng ?_;intro vL ou nu jK hst hsi;have UJ:i.toList.isEmpty=true:=by exact jf1
 clear hi;clear hR hs hl ht;go_enter func86,ntmps86;go_upto_region 7 with (fail)
 refine dK ?_;have BW0:jNj W0.heap.size W0 W0:=jK7 _ _;have zU:Hid (Rd (W0.heap.size<=·) W0 (dx []) [.slice none 0 0]):=Rd.aI _ _ _;have e2:=(SX.out W0 (jK7 _ _)).2.1;have DC:=hid (jd t W0);have g3:=(SX.out W0 BW0).2.2.1;go_wp2_with fail
 (with_reducible refine DC.out.mono ?_)
 rintro e w4 ⟨eH,v4,rfl,hrow4⟩;obtain ⟨a4,n4,c4,rfl⟩:=hrow4.slice3;have b4:=hrow4.aY;have B4:=hid (q01 BW0 b4);have gN:=hid (show Rd (W0.heap.size<=·) w4 (dR (bY t)) [.slice a4 n4 c4] from hrow4.iZ.weaken (fun b hb=>jK9 (BW0).size hb));have qX:=hid (zU.out.bP b4);have EC:=hid (ny ⟨#[99,111,100,101]⟩ none a4 0 n4 0 c4 w4);clear b4 hrow4 DC g3;go_wp2_with fail
 (with_reducible refine EC.out.mono ?_)
 rintro e w5 ⟨rfl,b5⟩;have XD:Eo W0 none w5 (aW jA [] (bY t)).d [.string ⟨#[99,111,100,101]⟩,.string ⟨#[]⟩,.slice none 0 0,.slice a4 n4 c4]:=⟨q01 B4.out b5,fun p hp=>by simp at hp,(Nd.fC jA ⟨#[]⟩ (nC.keep ⟨qX.out,gN.out⟩ (fun b hb hlt=>⟨⟨hb,by simp⟩,b5.block b hlt⟩)))⟩;have XL:=hid XD.lit;have EC2:=hid (ny ⟨#[112,114,101]⟩ none (some ⟨w5.heap.size,0,none⟩) 0 1 0 1 (w5.alloc (.cells #[.string ⟨#[99,111,100,101]⟩,.string ⟨#[]⟩,.slice none 0 0,.slice a4 n4 c4] 35)));clear XD b5 EC;go_wp2_with fail
 (with_reducible refine EC2.out.mono ?_)
 rintro e w6 ⟨rfl,b6⟩;have BL:=hid (q01 XL.out.aY b6);have HN:=hid (show nC (W0.heap.size<=·) w6 [] [aW jA [] (bY t)] (.slice none 0 0) (.slice (some ⟨w5.heap.size,0,none⟩) 1 1) from ⟨Rd.aI _ _ _,(XL.out.rd.bP b6).weaken (fun b hb=>hb.1)⟩);clear b6 XL EC2;obtain ⟨w9,hw8,r0,r1,r2,r3,HP,x0,x1,x2,x3,xf⟩:=jc ⟨#[112,114,101]⟩ ⟨#[]⟩ [] [aW jA [] (bY t)] HS Z0 B0 K1 BL HN.out;exact jf0
theorem Zl (pv:jNk) (lv:Int) (i t d ti:ByteArray) (at_:At) (li:List aj) (ks:List ah) (vc vp vl vk:jNk) (w:jN9) (hR:kG (·<w.heap.size) w at_ li ks vc vp vl vk) (hs:MC i t at_ li) (hl:eD pv w ks vk) (ht:PT w) (hi:aV i=false) : Calls prog 86 #[pv,.agg #[.int .i64 3,.int .i64 lv,.string i,.string t,.string d,.string ti,.string at_.id,vc,vp,vl,vk]] w (q1z w (aW QV [] [aW jA [⟨gV,⟨#[108,97,110,103,117,97,103,101,45]⟩++i⟩] (bY t)])):=by
 obtain ⟨ac,nc,cc,ap,np,cp,al,nl,cl,ak,nk,ck,S,W0,rfl,rfl,rfl,rfl,HS,HW0,e0,SX,HR,Z0,B0,K1⟩:=lM (.int .i64 3) lv i t d ti hR;refine ng ?_;intro vL ou nu jK hst hsi;have UJ:i.toList.isEmpty=false:=by exact jf1
 clear hi;clear hR hs hl ht;go_enter func86,ntmps86;go_upto_region 7 with (fail)
 refine dK ?_;have e2:=(SX.out W0 (jK7 _ _)).2.1;have q5:(⟨#[108,97,110,103,117,97,103,101,45]⟩:ByteArray).size+i.size<=9223372036854775807:=by have:(⟨#[108,97,110,103,117,97,103,101,45]⟩:ByteArray).size=9:=rfl;omega
 have q6:9+i.size<=9223372036854775807:=by omega
 have PC:Hid (Calls prog 41 #[.slice (some ⟨W0.heap.size,0,none⟩) 2 2] (W0.alloc (.cells #[.string ⟨#[99,108,97,115,115]⟩,.string (⟨#[108,97,110,103,117,97,103,101,45]⟩++i)] 9)) (bV (W0.alloc (.cells #[.string ⟨#[99,108,97,115,115]⟩,.string (⟨#[108,97,110,103,117,97,103,101,45]⟩++i)] 9)) [⟨gV,⟨#[108,97,110,103,117,97,103,101,45]⟩++i⟩])):=Zm gV (xE++i) W0;go_wp2_with fail
 (with_reducible refine PC.out.mono ?_)
 rintro e w2 ⟨bI,v2,rfl,hrow2⟩;obtain ⟨a2,c2,rfl,-,-⟩:=hrow2.cap (n:=1) rfl;have bl:jNj W0.heap.size W0 (W0.alloc (.cells #[.string ⟨#[99,108,97,115,115]⟩,.string (⟨#[108,97,110,103,117,97,103,101,45]⟩++i)] 9)):=(jK7 _ _).alloc (jK8 _) _;have B2:=hid (bl.trans (hrow2.aY.mono bl.size));have zU:=hid (show Rd (W0.heap.size<=·) w2 (dx [⟨gV,⟨#[108,97,110,103,117,97,103,101,45]⟩++i⟩]) [.slice a2 1 c2] from hrow2.iZ.weaken (fun b hb=>jK9 bl.size hb));clear hrow2 bl PC q5 q6 e2;have DC:=hid (jd t w2);have g3:=(SX.out w2 B2.out).2.2.1;go_wp2_with fail
 (with_reducible refine DC.out.mono ?_)
 rintro e w4 ⟨eH,v4,rfl,hrow4⟩;obtain ⟨a4,n4,c4,rfl⟩:=hrow4.slice3;have b4:=hrow4.aY;have B4:=hid (q01 B2.out b4);have gN:=hid (show Rd (W0.heap.size<=·) w4 (dR (bY t)) [.slice a4 n4 c4] from hrow4.iZ.weaken (fun b hb=>jK9 (B2.out).size hb));have qX:=hid (zU.out.bP b4);have EC:=hid (ny ⟨#[99,111,100,101]⟩ a2 a4 1 n4 c2 c4 w4);clear b4 hrow4 DC g3;go_wp2_with fail
 (with_reducible refine EC.out.mono ?_)
 rintro e w5 ⟨rfl,b5⟩;have XD:Eo W0 none w5 (aW jA [⟨gV,⟨#[108,97,110,103,117,97,103,101,45]⟩++i⟩] (bY t)).d [.string ⟨#[99,111,100,101]⟩,.string ⟨#[]⟩,.slice a2 1 c2,.slice a4 n4 c4]:=⟨q01 B4.out b5,fun p hp=>by simp at hp,(Nd.fC jA ⟨#[]⟩ (nC.keep ⟨qX.out,gN.out⟩ (fun b hb hlt=>⟨⟨hb,by simp⟩,b5.block b hlt⟩)))⟩;have XL:=hid XD.lit;have EC2:=hid (ny ⟨#[112,114,101]⟩ none (some ⟨w5.heap.size,0,none⟩) 0 1 0 1 (w5.alloc (.cells #[.string ⟨#[99,111,100,101]⟩,.string ⟨#[]⟩,.slice a2 1 c2,.slice a4 n4 c4] 35)));clear XD b5 EC;go_wp2_with fail
 (with_reducible refine EC2.out.mono ?_)
 rintro e w6 ⟨rfl,b6⟩;have BL:=hid (q01 XL.out.aY b6);have HN:=hid (show nC (W0.heap.size<=·) w6 [] [aW jA [⟨gV,⟨#[108,97,110,103,117,97,103,101,45]⟩++i⟩] (bY t)] (.slice none 0 0) (.slice (some ⟨w5.heap.size,0,none⟩) 1 1) from ⟨Rd.aI _ _ _,(XL.out.rd.bP b6).weaken (fun b hb=>hb.1)⟩);clear b6 XL EC2;obtain ⟨w9,hw8,r0,r1,r2,r3,HP,x0,x1,x2,x3,xf⟩:=jc ⟨#[112,114,101]⟩ ⟨#[]⟩ [] [aW jA [⟨gV,⟨#[108,97,110,103,117,97,103,101,45]⟩++i⟩] (bY t)] HS Z0 B0 K1 BL HN.out;exact jf0
theorem Zn (pv:jNk) (lv:Int) (i t d ti:ByteArray) (at_:At) (li:List aj) (ks:List ah) (vc vp vl vk:jNk) (w:jN9) (hR:kG (·<w.heap.size) w at_ li ks vc vp vl vk) (hs:MC i t at_ li) (hl:eD pv w ks vk) (ht:PT w) (hv:lv=1) : Calls prog 86 #[pv,.agg #[.int .i64 8,.int .i64 lv,.string i,.string t,.string d,.string ti,.string at_.id,vc,vp,vl,vk]] w (q1z w (aW nOl [] (ah.bG ks))):=by
 obtain ⟨ac,nc,cc,ap,np,cp,al,nl,cl,ak,nk,ck,S,W0,rfl,rfl,rfl,rfl,HS,HW0,e0,SX,HR,Z0,B0,K1⟩:=lM (.int .i64 8) lv i t d ti hR;refine ng ?_;intro vL ou nu jK hst hsi;have qv:(lv==1)=true:=by rw [hv];rfl
 clear hv;clear hR hs hl ht;go_enter func86,ntmps86;go_upto_region 20 with (fail)
 refine dK ?_;have BW0:jNj W0.heap.size W0 W0:=jK7 _ _;have zU:Hid (Rd (W0.heap.size<=·) W0 (dx []) [.slice none 0 0]):=Rd.aI _ _ _;have e1:=(SX.out W0 (jK7 _ _)).1;have LC:=hid (vL.out W0 BW0);have g10:=(SX.out W0 BW0).2.2.2.2.2.2.2.2.2;go_wp2_with fail
 (with_reducible refine LC.out.mono ?_)
 rintro e w4 ⟨eH,v4,rfl,hrow4⟩;obtain ⟨a4,n4,c4,rfl⟩:=hrow4.slice3;have b4:=hrow4.aY;have B4:=hid (q01 BW0 b4);have gN:=hid (show Rd (W0.heap.size<=·) w4 (dR (ah.bG ks)) [.slice a4 n4 c4] from hrow4.iZ.weaken (fun b hb=>jK9 (BW0).size hb));have qX:=hid (zU.out.bP b4);have EC:=hid (ny ⟨#[111,108]⟩ none a4 0 n4 0 c4 w4);clear b4 hrow4 LC g10;go_wp2_with fail
 (with_reducible refine EC.out.mono ?_)
 rintro e w5 ⟨rfl,b5⟩;have BL:=hid (q01 B4.out b5);have HN:=hid (show nC (W0.heap.size<=·) w5 [] (ah.bG ks) (.slice none 0 0) (.slice a4 n4 c4) from ⟨qX.out.bP b5,gN.out.bP b5⟩);clear b5 gN EC;obtain ⟨w9,hw8,r0,r1,r2,r3,HP,x0,x1,x2,x3,xf⟩:=jc ⟨#[111,108]⟩ ⟨#[]⟩ [] (ah.bG ks) HS Z0 B0 K1 BL HN.out;go_wp2;rw [<- hw8];exact bodyPost_ret (v:=.agg #[.string ⟨#[111,108]⟩,.string ⟨#[]⟩,(.slice none 0 0),(.slice a4 n4 c4)]) (by simp [results,results86,go_sem,r0,r1,r2,r3]) rfl HP.out
theorem jf2{P Q:Prop}(q:Q)(h:Nonempty Q->P:=by
 intro qQ;have IC:Hid (∀ W:World,Below W0.heap.size W0 W->Calls prog 136 #[.int .i64 lv] W (fun e w'=>e=.returned (.string (dU n))/\Below W.heap.size W w')):=fun W hW=>by rw [hv];exact Uw n W hn (ou.out W hW)
 revert IC;exact qQ.elim fun x=>x):P:=h ⟨q⟩
theorem Zo (pv:Value) (lv:Int) (i t d ti:ByteArray) (at_:At) (li:List aj) (ks:List ah) (vc vp vl vk:Value) (w:World) (hR:kG (·<w.heap.size) w at_ li ks vc vp vl vk) (hs:MC i t at_ li) (hl:eD pv w ks vk) (ht:PT w) (n:Nat) (hv:lv=(n:Int)) (hn:n<=999999999) (h1:lv≠1) : Calls prog 86 #[pv,.agg #[.int .i64 8,.int .i64 lv,.string i,.string t,.string d,.string ti,.string at_.id,vc,vp,vl,vk]] w (q1z w (aW nOl [⟨sStart,dU n⟩] (ah.bG ks))):=by
 obtain ⟨ac,nc,cc,ap,np,cp,al,nl,cl,ak,nk,ck,S,W0,rfl,rfl,rfl,rfl,HS,HW0,e0,SX,HR,Z0,B0,K1⟩:=lM (.int .i64 8) lv i t d ti hR;refine ng ?_;intro vL ou nu jK hst hsi;have qv:(lv==1)=false:=by rw [beq_eq_false_iff_ne];exact h1
 refine jf2 ?_;intro IC;clear hv hn h1;clear hR hs hl ht;go_enter func86,ntmps86;go_upto_region 20 with (fail)
 refine dK ?_;have e1:=(SX.out W0 (Below.refl _ _)).1;have IT:=hid (IC.out W0 (Below.refl _ _));go_wp2_with fail
 (with_reducible refine IT.out.mono ?_)
 rintro e w1 ⟨rfl,b1⟩;have PC:Hid (Calls prog 41 #[.slice (some ⟨w1.heap.size,0,none⟩) 2 2] (w1.alloc (.cells #[.string ⟨#[115,116,97,114,116]⟩,.string (dU n)] 9)) (bV (w1.alloc (.cells #[.string ⟨#[115,116,97,114,116]⟩,.string (dU n)] 9)) [⟨sStart,dU n⟩])):=Zm sStart (dU n) w1;have bl:Below W0.heap.size W0 (w1.alloc (.cells #[.string ⟨#[115,116,97,114,116]⟩,.string (dU n)] 9)):=b1.alloc b1.size _;clear IT e1;go_wp2_with fail
 (with_reducible refine PC.out.mono ?_)
 rintro e w2 ⟨bI,v2,rfl,hrow2⟩;obtain ⟨a2,c2,rfl,-,-⟩:=hrow2.cap (n:=1) rfl;have B2:=hid (bl.trans (hrow2.aY.mono bl.size));have zU:=hid (show Rd (W0.heap.size<=·) w2 (dx [⟨sStart,dU n⟩]) [.slice a2 1 c2] from hrow2.iZ.weaken (fun b hb=>Nat.le_trans bl.size hb));clear hrow2 bl PC b1;have LC:=hid (vL.out w2 B2.out);have g10:=(SX.out w2 B2.out).2.2.2.2.2.2.2.2.2;go_wp2_with fail
 (with_reducible refine LC.out.mono ?_)
 rintro e w4 ⟨eH,v4,rfl,hrow4⟩;obtain ⟨a4,n4,c4,rfl⟩:=hrow4.slice3;have b4:=hrow4.aY;have B4:=hid (q01 B2.out b4);have gN:=hid (show Rd (W0.heap.size<=·) w4 (dR (ah.bG ks)) [.slice a4 n4 c4] from hrow4.iZ.weaken (fun b hb=>Nat.le_trans (B2.out).size hb));have qX:=hid (zU.out.bP b4);have EC:=hid (ny ⟨#[111,108]⟩ a2 a4 1 n4 c2 c4 w4);clear b4 hrow4 LC g10;go_wp2_with fail
 (with_reducible refine EC.out.mono ?_)
 rintro e w5 ⟨rfl,b5⟩;have BL:=hid (q01 B4.out b5);have HN:=hid (show nC (W0.heap.size<=·) w5 [⟨sStart,dU n⟩] (ah.bG ks) (.slice a2 1 c2) (.slice a4 n4 c4) from ⟨qX.out.bP b5,gN.out.bP b5⟩);clear b5 gN EC;obtain ⟨w9,hw8,r0,r1,r2,r3,HP,x0,x1,x2,x3,xf⟩:=jc ⟨#[111,108]⟩ ⟨#[]⟩ [⟨sStart,dU n⟩] (ah.bG ks) HS Z0 B0 K1 BL HN.out;go_wp2;rw [<- hw8];exact bodyPost_ret (v:=.agg #[.string ⟨#[111,108]⟩,.string ⟨#[]⟩,(.slice a2 1 c2),(.slice a4 n4 c4)]) (by simp [results,results86,go_sem,r0,r1,r2,r3]) rfl HP.out
theorem UK{P Q:Prop}(q:Q)(h:Nonempty Q->P:=by
 intro qQ;have HC:=hid hf.1;have HP:=hid hf.2;have hw8:=dB;simp only [four] at hw8;obtain ⟨x0,x1,x2,x3,xf⟩:=Ep (K1.out.below BL.out);revert HC HP hw8 x0 x1 x2 x3 xf;exact qQ.elim fun x=>x):P:=h ⟨q⟩
theorem jr6 (pv:Value) (lv:Int) (i t d ti:ByteArray) (at_:At) (li:List aj) (ks:List ah) (vc vp vl vk:Value) (w:World) (hR:kG (·<w.heap.size) w at_ li ks vc vp vl vk) (hs:MC i t at_ li) (hl:eD pv w ks vk) (ht:PT w) (n:Nat) (hv:lv=(n:Int)) (hn:n<=999999999) : Calls prog 86 #[pv,.agg #[.int .i64 2,.int .i64 lv,.string i,.string t,.string d,.string ti,.string at_.id,vc,vp,vl,vk]] w (q1z w (aW (⟨#[104]⟩++dU n) (ko at_ []) (kP li))):=by
 obtain ⟨ac,nc,cc,ap,np,cp,al,nl,cl,ak,nk,ck,S,W0,rfl,rfl,rfl,rfl,HS,HW0,e0,SX,HR,Z0,B0,K1⟩:=lM (.int .i64 2) lv i t d ti hR;refine ng ?_;intro vL ou nu jK hst hsi;refine jf2 ?_;intro IC;have q5:(⟨#[104]⟩:ByteArray).size+(dU n).size<=9223372036854775807:=by have:(⟨#[104]⟩:ByteArray).size=1:=rfl;have:=El n hn;omega
 have q6:1+(dU n).size<=9223372036854775807:=by have:=El n hn;omega
 clear hv hn;clear hR hs hl ht;go_enter func86,ntmps86;go_upto_region 5 with (fail)
 refine dK ?_;have IT:=hid (IC.out W0.drew ((Below.refl W0.heap.size W0).drew));have hadd:∀ w:World,(Op.stringOp .add (⟨#[104]⟩:ByteArray) (dU n)).run prog w=.ok (.string (⟨#[104]⟩++dU n)) w:=fun w=>run_string_add_sum w _ _ q5
 clear q5;have SF:=hid (fun (w':World) (hb:Below W0.heap.size W0 w')=>(⟨(SX.out w' hb).1,(SX.out w' hb).2.2.2.2.2.1,(SX.out w' hb).2.2.2.2.2.2.1,(SX.out w' hb).2.2.2.2.2.2.2.1,(SX.out w' hb).2.2.2.2.2.2.2.2.1⟩:w'.cell? ⟨S,1,none⟩=some (.int .i64 lv)/\w'.cell? ⟨S,6,none⟩=some (.string at_.id)/\w'.cell? ⟨S,7,none⟩=some (.slice ac nc cc)/\w'.cell? ⟨S,8,none⟩=some (.slice ap np cp)/\w'.cell? ⟨S,9,none⟩=some (.slice al nl cl)));have S0:=SF.out _ ((Below.refl W0.heap.size W0).drew);go_wp2_with fail
 go_region_held3 (fun w'=>w'.cell? ⟨S,1,none⟩=some (.int .i64 lv)/\w'.cell? ⟨S,6,none⟩=some (.string at_.id)/\w'.cell? ⟨S,7,none⟩=some (.slice ac nc cc)/\w'.cell? ⟨S,8,none⟩=some (.slice ap np cp)/\w'.cell? ⟨S,9,none⟩=some (.slice al nl cl))
  (with_reducible assumption)
  (first
   | (go_simp;go_at_call 136;(with_reducible refine IT.out.mono ?_);rintro e w1 ⟨rfl,b1⟩;have B1:Hid (Below W0.heap.size W0 w1):=((Below.refl W0.heap.size W0).drew).trans b1;have S1:=SF.out (w1) B1.out;have AC:=hid (q2m at_ [] (.slice ac nc cc) (.slice ap np cp) (.slice none 0 0) w1 w1 qK.nil (Gf HR.out.at_ B1.out (by have:=Z0.out;omega)) (Ux jK.out.at_).1 (Ux jK.out.at_).2))
   | (go_simp;go_at_call 137;(with_reducible refine AC.out.mono ?_);rintro e w3 ⟨gW,v3,rfl,hrow3⟩;obtain ⟨a3,n3,c3,rfl⟩:=hrow3.slice3;have B3:Hid (Below W0.heap.size W0 w3):=(B1.out).trans (hrow3.aY.mono (B1.out).size);have Gg:Hid (Rd (W0.heap.size<=·) w3 (dx (ko at_ [])) [.slice a3 n3 c3]):=hrow3.iZ.weaken (fun b hb=>Nat.le_trans (B1.out).size hb);have S3:=SF.out (w3) B3.out;have LC:=hid (nu.out w3 B3.out))
   | (go_simp;go_at_call 78;(with_reducible refine LC.out.mono ?_);rintro e w4 ⟨eH,v4,rfl,hrow4⟩;obtain ⟨a4,n4,c4,rfl⟩:=hrow4.slice3;have b4:=hrow4.aY;have B4:=hid (q01 B3.out b4);have gN:=hid (show Rd (W0.heap.size<=·) w4 (dR (kP li)) [.slice a4 n4 c4] from hrow4.iZ.weaken (fun b hb=>Nat.le_trans B3.out.size hb));have qX:=hid (Gg.out.bP b4);have S4:=SF.out (w4) B4.out;have EC:=hid (ny ((⟨#[104]⟩:ByteArray)++dU n) a3 a4 n3 n4 c3 c4 w4))
   | (go_simp;go_at_call 40;(with_reducible refine EC.out.mono ?_);rintro e w5 ⟨rfl,b5⟩;have BL:=hid (q01 B4.out b5);obtain ⟨x0,x1,x2,x3,xf⟩:=Ep (K1.out.below BL.out);have S5:=SF.out (w5) BL.out;have K6:=xG S w5 (.string ((⟨#[104]⟩:ByteArray)++dU n)) (.string ⟨#[]⟩) (.slice a3 n3 c3) (.slice a4 n4 c4);have S6:=And.imp (K6 _ _) (And.imp (K6 _ _) (And.imp (K6 _ _) (And.imp (K6 _ _) (K6 _ _)))) (SF.out w5 BL.out);clear K6))
 all_goals
  have HN:=hid (show nC (W0.heap.size<=·) w5 (ko at_ []) (kP li) (.slice a3 n3 c3) (.slice a4 n4 c4) from ⟨qX.out.bP b5,gN.out.bP b5⟩);clear b5 gN EC qX hrow3 hrow4 b4 S0 S3 S4 S5 S6 Gg S1 b1;obtain ⟨w9,dB⟩:∃ w9,w9=four w5 (S+1) (.string ((⟨#[104]⟩:ByteArray)++dU n)) (.string ⟨#[]⟩) (.slice a3 n3 c3) (.slice a4 n4 c4):=⟨_,rfl⟩;have hf:=gX ((⟨#[104]⟩:ByteArray)++dU n) ⟨#[]⟩ (ko at_ []) (kP li) HS.out Z0.out B0.out K1.out BL.out HN.out;rw [<- dB] at hf;refine UK ?_;clear hf dB;intro HC HP hw8 x0 x1 x2 x3 xf;go_wp2;refine tK ?_;intro r0 r1 r2 r3;exact bodyPost_ret (v:=.agg #[.string ((⟨#[104]⟩:ByteArray)++dU n),.string ⟨#[]⟩,(.slice a3 n3 c3),(.slice a4 n4 c4)]) (by simp [results,results86,go_sem,r0,r1,r2,r3]) rfl HP.out
theorem jf3{P:Prop}(h:P:=by
 exact bodyPost_ret (v:=.agg #[.string ⟨#[100,105,118]⟩,.string ⟨#[]⟩,(.slice a3 n3 c3),(.slice a4 n4 c4)]) (by simp [results,results86,go_sem,r0,r1,r2,r3]) rfl HP.out):P:=h
theorem jr7 (pv:jNk) (lv:Int) (i t d ti:ByteArray) (at_:At) (li:List aj) (ks:List ah) (vc vp vl vk:jNk) (w:jN9) (hR:kG (·<w.heap.size) w at_ li ks vc vp vl vk) (hs:MC i t at_ li) (hl:eD pv w ks vk) (ht:PT w) : Calls prog 86 #[pv,.agg #[.int .i64 4,.int .i64 lv,.string i,.string t,.string d,.string ti,.string at_.id,vc,vp,vl,vk]] w (q1z w (aW vM (ko at_ [⟨#[109,97,116,104]⟩]) (bY t))):=by
 obtain ⟨ac,nc,cc,ap,np,cp,al,nl,cl,ak,nk,ck,S,W0,rfl,rfl,rfl,rfl,HS,HW0,e0,SX,HR,Z0,B0,K1⟩:=lM (.int .i64 4) lv i t d ti hR;refine ng ?_;intro vL ou nu jK hst hsi;clear hR hs hl ht;go_enter func86,ntmps86;go_upto_region 12 with (fail)
 refine dK ?_;have nQ:Hid (jNj W0.heap.size W0 (W0.alloc (.cells #[.string ⟨#[109,97,116,104]⟩] 9)).drew):=pK W0 (.cells #[.string ⟨#[109,97,116,104]⟩] 9);have AC:Hid (Calls prog 137 #[.agg #[.string at_.id,.slice ac nc cc,.slice ap np cp],.slice (some ⟨W0.heap.size,0,none⟩) 1 1] (W0.alloc (.cells #[.string ⟨#[109,97,116,104]⟩] 9)).drew (bV W0.drew (ko at_ [⟨#[109,97,116,104]⟩]))):=q2m at_ [⟨#[109,97,116,104]⟩] (.slice ac nc cc) (.slice ap np cp) (.slice (some ⟨W0.heap.size,0,none⟩) 1 1) W0.drew (W0.alloc (.cells #[.string ⟨#[109,97,116,104]⟩] 9)).drew (qK.one W0.drew ⟨#[109,97,116,104]⟩) (Gf HR.out.at_ nQ.out (by have:=Z0.out;omega)) (yO jK.out.at_ ⟨#[109,97,116,104]⟩ (by have:=jK.out.i;decide)).1 (yO jK.out.at_ ⟨#[109,97,116,104]⟩ (by have:=jK.out.i;decide)).2
 have SF:=hid (fun (w':jN9) (hb:jNj W0.heap.size W0 w')=>(⟨(SX.out w' hb).2.2.1,(SX.out w' hb).2.2.2.2.2.1,(SX.out w' hb).2.2.2.2.2.2.1,(SX.out w' hb).2.2.2.2.2.2.2.1⟩:w'.cell? ⟨S,3,none⟩=some (.string t)/\w'.cell? ⟨S,6,none⟩=some (.string at_.id)/\w'.cell? ⟨S,7,none⟩=some (.slice ac nc cc)/\w'.cell? ⟨S,8,none⟩=some (.slice ap np cp)));have S1:=SF.out _ nQ.out;have Zp:Hid (∀ W:jN9,Calls prog 53 #[.string t] W (dP W (bY t))):=fun W=>jd t W
 have S0:=SF.out _ ((jK7 W0.heap.size W0).drew);go_wp2_with fail
 go_region_held3 (fun w'=>w'.cell? ⟨S,3,none⟩=some (.string t)/\w'.cell? ⟨S,6,none⟩=some (.string at_.id)/\w'.cell? ⟨S,7,none⟩=some (.slice ac nc cc)/\w'.cell? ⟨S,8,none⟩=some (.slice ap np cp))
  (with_reducible assumption)
  (first
   | (go_simp;go_at_call 137;(with_reducible refine AC.out.mono ?_);rintro e w3 ⟨gW,v3,rfl,hrow3⟩;obtain ⟨a3,n3,c3,rfl⟩:=hrow3.slice3;have B3:Hid (jNj W0.heap.size W0 w3):=(((jK7 W0.heap.size W0).drew)).trans (hrow3.aY.mono (((jK7 W0.heap.size W0).drew)).size);have Gg:Hid (Rd (W0.heap.size<=·) w3 (dx (ko at_ [⟨#[109,97,116,104]⟩])) [.slice a3 n3 c3]):=hrow3.iZ.weaken (fun b hb=>jK9 (((jK7 W0.heap.size W0).drew)).size hb);have S3:=SF.out (w3) B3.out;have LC:=hid (Zp.out w3))
   | (go_simp;go_at_call 53;(with_reducible refine LC.out.mono ?_);rintro e w4 ⟨eH,v4,rfl,hrow4⟩;obtain ⟨a4,n4,c4,rfl⟩:=hrow4.slice3;have b4:=hrow4.aY;have B4:=hid (q01 B3.out b4);have gN:=hid (show Rd (W0.heap.size<=·) w4 (dR (bY t)) [.slice a4 n4 c4] from hrow4.iZ.weaken (fun b hb=>jK9 B3.out.size hb));have qX:=hid (Gg.out.bP b4);have S4:=SF.out (w4) B4.out;have EC:=hid (ny ⟨#[100,105,118]⟩ a3 a4 n3 n4 c3 c4 w4))
   | (go_simp;go_at_call 40;(with_reducible refine EC.out.mono ?_);rintro e w5 ⟨rfl,b5⟩;have BL:=hid (q01 B4.out b5);obtain ⟨x0,x1,x2,x3,xf⟩:=Ep (K1.out.below BL.out);have S5:=SF.out (w5) BL.out;have K6:=xG S w5 (.string ⟨#[100,105,118]⟩) (.string ⟨#[]⟩) (.slice a3 n3 c3) (.slice a4 n4 c4);have S6:=And.imp (K6 _ _) (And.imp (K6 _ _) (And.imp (K6 _ _) (K6 _ _))) (SF.out w5 BL.out);clear K6))
 all_goals
  have HN:=hid (show nC (W0.heap.size<=·) w5 (ko at_ [⟨#[109,97,116,104]⟩]) (bY t) (.slice a3 n3 c3) (.slice a4 n4 c4) from ⟨qX.out.bP b5,gN.out.bP b5⟩);clear b5 gN EC qX hrow3 hrow4 b4 S0 S3 S4 S5 S6 Gg S1;obtain ⟨w9,dB⟩:∃ w9,w9=four w5 (S+1) (.string ⟨#[100,105,118]⟩) (.string ⟨#[]⟩) (.slice a3 n3 c3) (.slice a4 n4 c4):=⟨_,rfl⟩;have hf:=gX ⟨#[100,105,118]⟩ ⟨#[]⟩ (ko at_ [⟨#[109,97,116,104]⟩]) (bY t) HS.out Z0.out B0.out K1.out BL.out HN.out;rw [<- dB] at hf;refine UK ?_;clear hf dB;intro HC HP hw8 x0 x1 x2 x3 xf;go_wp2;refine tK ?_;intro r0 r1 r2 r3;exact jf3
theorem Zq (pv:jNk) (lv:Int) (i t d ti:ByteArray) (at_:At) (li:List aj) (ks:List ah) (vc vp vl vk:jNk) (w:jN9) (hR:kG (·<w.heap.size) w at_ li ks vc vp vl vk) (hs:MC i t at_ li) (hl:eD pv w ks vk) (ht:PT w) : Calls prog 86 #[pv,.agg #[.int .i64 13,.int .i64 lv,.string i,.string t,.string d,.string ti,.string at_.id,vc,vp,vl,vk]] w (q1z w (aW vM (ko at_ [i]) (ah.bG ks))):=by
 obtain ⟨ac,nc,cc,ap,np,cp,al,nl,cl,ak,nk,ck,S,W0,rfl,rfl,rfl,rfl,HS,HW0,e0,SX,HR,Z0,B0,K1⟩:=lM (.int .i64 13) lv i t d ti hR;refine ng ?_;intro vL ou nu jK hst hsi;clear hR hs hl ht;go_enter func86,ntmps86;go_upto_region 28 with (fail)
 refine dK ?_;have nQ:Hid (jNj W0.heap.size W0 (W0.alloc (.cells #[.string i] 9)).drew):=pK W0 (.cells #[.string i] 9);have AC:Hid (Calls prog 137 #[.agg #[.string at_.id,.slice ac nc cc,.slice ap np cp],.slice (some ⟨W0.heap.size,0,none⟩) 1 1] (W0.alloc (.cells #[.string i] 9)).drew (bV W0.drew (ko at_ [i]))):=q2m at_ [i] (.slice ac nc cc) (.slice ap np cp) (.slice (some ⟨W0.heap.size,0,none⟩) 1 1) W0.drew (W0.alloc (.cells #[.string i] 9)).drew (qK.one W0.drew i) (Gf HR.out.at_ nQ.out (by have:=Z0.out;omega)) (yO jK.out.at_ i (by have:=jK.out.i;omega)).1 (yO jK.out.at_ i (by have:=jK.out.i;omega)).2
 have SF:=hid (fun (w':jN9) (hb:jNj W0.heap.size W0 w')=>(⟨(SX.out w' hb).2.1,(SX.out w' hb).2.2.2.2.2.1,(SX.out w' hb).2.2.2.2.2.2.1,(SX.out w' hb).2.2.2.2.2.2.2.1,(SX.out w' hb).2.2.2.2.2.2.2.2.2⟩:w'.cell? ⟨S,2,none⟩=some (.string i)/\w'.cell? ⟨S,6,none⟩=some (.string at_.id)/\w'.cell? ⟨S,7,none⟩=some (.slice ac nc cc)/\w'.cell? ⟨S,8,none⟩=some (.slice ap np cp)/\w'.cell? ⟨S,10,none⟩=some (.slice ak nk ck)));have S1:=SF.out _ nQ.out;have S0:=SF.out _ ((jK7 W0.heap.size W0).drew);go_wp2_with fail
 go_region_held3 (fun w'=>w'.cell? ⟨S,2,none⟩=some (.string i)/\w'.cell? ⟨S,6,none⟩=some (.string at_.id)/\w'.cell? ⟨S,7,none⟩=some (.slice ac nc cc)/\w'.cell? ⟨S,8,none⟩=some (.slice ap np cp)/\w'.cell? ⟨S,10,none⟩=some (.slice ak nk ck))
  (with_reducible assumption)
  (first
   | (go_simp;go_at_call 137;(with_reducible refine AC.out.mono ?_);rintro e w3 ⟨gW,v3,rfl,hrow3⟩;obtain ⟨a3,n3,c3,rfl⟩:=hrow3.slice3;have B3:Hid (jNj W0.heap.size W0 w3):=(((jK7 W0.heap.size W0).drew)).trans (hrow3.aY.mono (((jK7 W0.heap.size W0).drew)).size);have Gg:Hid (Rd (W0.heap.size<=·) w3 (dx (ko at_ [i])) [.slice a3 n3 c3]):=hrow3.iZ.weaken (fun b hb=>jK9 (((jK7 W0.heap.size W0).drew)).size hb);have S3:=SF.out (w3) B3.out;have LC:=hid (vL.out w3 B3.out))
   | (go_simp;go_at_call 38;(with_reducible refine LC.out.mono ?_);rintro e w4 ⟨eH,v4,rfl,hrow4⟩;obtain ⟨a4,n4,c4,rfl⟩:=hrow4.slice3;have b4:=hrow4.aY;have B4:=hid (q01 B3.out b4);have gN:=hid (show Rd (W0.heap.size<=·) w4 (dR (ah.bG ks)) [.slice a4 n4 c4] from hrow4.iZ.weaken (fun b hb=>jK9 B3.out.size hb));have qX:=hid (Gg.out.bP b4);have S4:=SF.out (w4) B4.out;have EC:=hid (ny ⟨#[100,105,118]⟩ a3 a4 n3 n4 c3 c4 w4))
   | (go_simp;go_at_call 40;(with_reducible refine EC.out.mono ?_);rintro e w5 ⟨rfl,b5⟩;have BL:=hid (q01 B4.out b5);obtain ⟨x0,x1,x2,x3,xf⟩:=Ep (K1.out.below BL.out);have S5:=SF.out (w5) BL.out;have K6:=xG S w5 (.string ⟨#[100,105,118]⟩) (.string ⟨#[]⟩) (.slice a3 n3 c3) (.slice a4 n4 c4);have S6:=And.imp (K6 _ _) (And.imp (K6 _ _) (And.imp (K6 _ _) (And.imp (K6 _ _) (K6 _ _)))) (SF.out w5 BL.out);clear K6))
 all_goals
  have HN:=hid (show nC (W0.heap.size<=·) w5 (ko at_ [i]) (ah.bG ks) (.slice a3 n3 c3) (.slice a4 n4 c4) from ⟨qX.out.bP b5,gN.out.bP b5⟩);clear b5 gN EC qX hrow3 hrow4 b4 S0 S3 S4 S5 S6 Gg S1;obtain ⟨w9,dB⟩:∃ w9,w9=four w5 (S+1) (.string ⟨#[100,105,118]⟩) (.string ⟨#[]⟩) (.slice a3 n3 c3) (.slice a4 n4 c4):=⟨_,rfl⟩;have hf:=gX ⟨#[100,105,118]⟩ ⟨#[]⟩ (ko at_ [i]) (ah.bG ks) HS.out Z0.out B0.out K1.out BL.out HN.out;rw [<- dB] at hf;refine UK ?_;clear hf dB;intro HC HP hw8 x0 x1 x2 x3 xf;go_wp2;refine tK ?_;intro r0 r1 r2 r3;exact jf3
open Go.RowKit
mutual
def ah.walk:ah->Prop
 | .mk k lv i t d ti a li ks=>(1<=k/\k<=15/\k≠11/\k≠12)/\MC i t a li/\(k=2\/k=8->0<=lv/\lv<=999999999)/\(k=10->TbW i ks)/\(k≠10->ah.lN ks)
def ah.lN:List ah->Prop
 | []=>True
 | x::l=>x.walk/\ah.lN l
end
theorem ah.Er:∀ (l:List ah),ah.lN l->∀ x∈l,x.walk
 | [],_,x,hx=>by cases hx
 | y::l,h,x,hx=>by
  rw [ah.lN] at h;rcases List.mem_cons.1 hx with rfl | hx
  ·exact h.1
  ·exact ah.Er l h.2 x hx
theorem MF (pv:jNk) (k lv:Int) (i t d ti:ByteArray) (at_:At) (li:List aj) (ks:List ah) (vc vp vl vk:jNk) (w:jN9) (hR:kG (·<w.heap.size) w at_ li ks vc vp vl vk) (hw:(ah.mk k lv i t d ti at_ li ks).walk) (Tz:k≠14) (qF:k≠15) (hl:k≠10->eD pv w ks vk) (ht:PT w) : ∃ x,(ah.mk k lv i t d ti at_ li ks).yQ=[x]/\Calls prog 86 #[pv,.agg #[.int .i64 k,.int .i64 lv,.string i,.string t,.string d,.string ti,.string at_.id,vc,vp,vl,vk]] w (q1z w x):=by
 rw [ah.walk] at hw;obtain ⟨⟨g1,g2,g3,g4⟩,hs,hv,hT,-⟩:=hw;rcases (by omega:k=1\/k=2\/k=3\/k=4\/k=5\/k=6\/k=7\/k=8\/k=9\/k=10\/k=13) with rfl | rfl | rfl | rfl | rfl | rfl | rfl | rfl | rfl | rfl | rfl
 ·exact ⟨_,by rw [ah.yQ];rfl,jr1 pv lv i t d ti at_ li ks vc vp vl vk w hR hs (hl (by decide)) ht⟩
 ·obtain ⟨n,rfl⟩:∃ n:Nat,lv=(n:Int):=⟨lv.toNat,by have:=hv (by decide);omega⟩;exact ⟨aW (nH++dU n) (ko at_ []) (kP li),by rw [ah.yQ];rfl,jr6 pv n i t d ti at_ li ks vc vp vl vk w hR hs (hl (by decide)) ht n rfl (by have:=hv (by decide);omega)⟩
 ·by_cases hi:aV i=true
  ·exact ⟨aW QV [] [aW jA [] (bY t)],by rw [ah.yQ,hi];rfl,Zk pv lv i t d ti at_ li ks vc vp vl vk w hR hs (hl (by decide)) ht hi⟩
  ·have hi:aV i=false:=by simpa using hi
   refine ⟨aW QV [] [aW jA [⟨gV,xE++i⟩] (bY t)],?_,Zl pv lv i t d ti at_ li ks vc vp vl vk w hR hs (hl (by decide)) ht hi⟩;rw [ah.yQ,hi];show [aW QV [] [aW jA (jm gV (xE++i)) (bY t)]]=_;unfold jm;rw [show aV (xE++i)=false by rw [Gh,hi,Bool.and_false]];rfl
 ·exact ⟨_,by rw [ah.yQ];rfl,jr7 pv lv i t d ti at_ li ks vc vp vl vk w hR hs (hl (by decide)) ht⟩
 ·exact ⟨_,by rw [ah.yQ];rfl,jr5 pv lv i t d ti at_ li ks vc vp vl vk w hR hs (hl (by decide)) ht⟩
 ·exact ⟨_,by rw [ah.yQ];rfl,jr2 pv lv i t d ti at_ li ks vc vp vl vk w hR hs (hl (by decide)) ht⟩
 ·exact ⟨_,by rw [ah.yQ];rfl,jr3 pv lv i t d ti at_ li ks vc vp vl vk w hR hs (hl (by decide)) ht⟩
 ·by_cases h1:lv=1
  ·exact ⟨aW nOl [] (ah.bG ks),by rw [ah.yQ,h1];rfl,Zn pv lv i t d ti at_ li ks vc vp vl vk w hR hs (hl (by decide)) ht h1⟩
  ·obtain ⟨n,rfl⟩:∃ n:Nat,lv=(n:Int):=⟨lv.toNat,by have:=hv (by decide);omega⟩;refine ⟨aW nOl [⟨sStart,dU n⟩] (ah.bG ks),?_,Zo pv n i t d ti at_ li ks vc vp vl vk w hR hs (hl (by decide)) ht n rfl (by have:=hv (by decide);omega) h1⟩;rw [ah.yQ];show [aW nOl (if (n:Int)=1 then [] else [⟨sStart,dU n⟩]) (ah.bG ks)]=_;rw [if_neg h1]
 ·exact ⟨_,by rw [ah.yQ];rfl,jr4 pv lv i t d ti at_ li ks vc vp vl vk w hR hs (hl (by decide)) ht⟩
 ·exact ⟨En i ks,by rw [ah.yQ];rfl,Zj pv lv i t d ti at_ li ks vc vp vl vk w hR hs ht (hT rfl)⟩
 ·exact ⟨_,by rw [ah.yQ];rfl,Zq pv lv i t d ti at_ li ks vc vp vl vk w hR hs (hl (by decide)) ht⟩
theorem zV:∀ (l:List ah),(ah.bG l).length<=l.length
 | []=>by simp [ah.bG]
 | x::l=>by
  have h:=zV l;rw [ah.bG,jKq,List.length_cons];have h2:x.yQ.length<=1:=by
   obtain ⟨k,lv,i,t,d,ti,a,li,ks⟩:=x;rw [ah.yQ]
   (repeat' split)<;>simp
  omega
def OV (w:jN9) (l:List ah) (v vi:jNk) (wr:jN9):Prop:=
 ∃ (k:Nat) (rows:List (List jNk)),k<=l.length/\vi=.int .i64 k/\aC 35 4 (fun _=>False) wr.heap.size w ((ah.bG (l.take k)).map Nd.d) rows v wr
theorem jf4{P Q:Prop}(q:Q)(h:Nonempty Q->P:=by
 intro qQ;have kg:Hid ((ah.bG (l.take (j+1))).map Nd.d=ds):=by show _=_;rw [hsn,List.map_append,Dp.out];show ds++(ah.yQ _).map Nd.d=ds;rw [ah.yQ];exact List.append_nil _
 have HF:Hid (OV w l (.slice av m cv) (.int .i64 ((j+1:Nat):Int)) wA):=⟨j+1,_,by have:=QW.out;omega,rfl,by rw [kg.out];exact (bR.out.below BA.out).top⟩;revert kg HF;exact qQ.elim fun x=>x):P:=h ⟨q⟩
theorem xH (pv:Value) (n:Nat):∀ (l:List ah) (v:Value) (w:World),ah.aU l<=n->n<=900000->Rd (·<w.heap.size) w (iC l) [v]->ah.lN l->PT w -> Calls prog 38 #[pv,v] w (dP w (ah.bG l)):=by
 induction n using Nat.strongRecOn with
 | _ n ih=>
  intro l v w hn hnm hrd hwk ht;obtain ⟨iN,LJ,qx,qz,qA⟩:=info_parts oC;obtain ⟨ak,ck,hvk,hs⟩:=Rd.aB hrd;obtain ⟨nk,hnk⟩:∃ nk,nk=l.length:=⟨_,rfl⟩;obtain rfl:v=.slice ak nk ck:=by rw [hnk];simpa using hvk
  refine UM ?_;intro hcap hmx;have jx4:nk<=900000:=by have:=ah.dI l;omega
  have HS2:=hid hs;have QW:=hid hnk;have HWK:=hid (ah.Er l hwk);have ou:=hid ht;have IH:=hid ih;have jx5:=hid (And.intro hn hnm);have R0:Hid (OV w l (.slice none 0 0) (.int .i64 0) w):=⟨0,[],Nat.zero_le _,rfl,aC.nil _ _ _ _⟩;clear hrd hvk hs hnk hwk ht ih hn hnm;go_enter func38,ntmps38;go_wp2
  go_loopw [5,10] (fun v vi wr=>OV w l v vi wr) (fun _ vi _=>nk-(intOf vi).toNat)
  case atStart=>exact R0.out
  case round=>
   clear R0;obtain ⟨j,rows,hj,rfl,hrow⟩:=hrel;obtain ⟨ds,hds⟩:∃ ds,ds=(ah.bG (l.take j)).map Nd.d:=⟨_,rfl⟩;rw [<- hds] at hrow;obtain ⟨m,hm⟩:∃ m,m=ds.length:=⟨_,rfl⟩;have hmj:m<=1000000:=by have h:=zV (l.take j);have h2:(l.take j).length<=l.length:=List.length_take_le' _ _;rw [hm,hds,List.length_map];have:=QW.out;omega
   obtain ⟨av,cv,rfl,-,-⟩:=hrow.cap hm.symm;have HM:=hid hm.symm;have Dp:=hid hds.symm;have bR:=hid hrow;clear hrow hm hds;by_cases hlt:j<nk
   ·obtain ⟨y,hy⟩:∃ y,l[j]?=some y:=⟨_,List.getElem?_eq_getElem (by have:=QW.out;omega)⟩;have hsn:=Es l j y hy;have hwy:=HWK.out y (List.mem_of_getElem? hy);have hsz:=ah.bK l j y hy;obtain ⟨yk,YW,yi,yt,yd,YX,UO,QX,OX⟩:=y;obtain ⟨ga,off,vc,vp,vl,vk,rfl,hok,hbl,hc,hR⟩:=Mr HS2.out hy;obtain ⟨c0,c1,c2,c3,c4,c5,c6,c7,c8,c9,c10⟩:=hc.at2 (w':=wr) (bR.out.aY.block ga hok);obtain ⟨yac,ync,ycc,rfl⟩:=Rd.au hR.at_.cls
    obtain ⟨yap,ynp,ycp,rfl⟩:=Rd.au hR.at_.aD
    obtain ⟨OY,OZ,O4,rfl⟩:=Rd.au hR.line;obtain ⟨yak,ynk,yck,rfl⟩:=Rd.au hR.kids;have HR:=hid hR;have HWY:=hid hwy;have O5:=hid hsz;clear hok hbl hc hR hwy hy hsz;go_upto_region 5 with (fail)
    refine UQ ?_;intro p hp wA iD PA bA;rw [<- iD,<- hp];have BA:=hid bA;have b0A:Below w.heap.size w wA:=bR.out.aY.trans (bA.mono bR.out.aY.size);refine jf5 ?_;intro d0 d1 d2 d3 d4 d5 d6 d7 d8 d9 d10;have B0A:=hid b0A;have hpw:wr.heap.size<=wA.heap.size:=bA.size;clear iD hp c0 c1 c2 c3 c4 c5 c6 c7 c8 c9 c10 PA bA b0A;by_cases Tz:yk=14
    ·have q14:(yk==14)=true:=by rw [Tz];rfl
     subst Tz;refine jf4 ?_;intro kg HF;clear hsn;exact tL
    by_cases qF:yk=15
    ·have q14:(yk==14)=false:=by rw [qF];rfl
     have Tt:(yk==15)=true:=by rw [qF];rfl
     subst qF;refine jf4 ?_;intro kg HF;clear hsn;exact tL
    have q14:(yk==14)=false:=by rw [beq_eq_false_iff_ne];exact Tz
    have Tt:(yk==15)=false:=by rw [beq_eq_false_iff_ne];exact qF
    have hRA:kG (·<wA.heap.size) wA UO QX OX (.slice yac ync ycc) (.slice yap ynp ycp) (.slice OY OZ O4) (.slice yak ynk yck):=kG.Jc HR.out (fun b (hb:b<w.heap.size) hlt=>⟨by show b<wA.heap.size;have:=B0A.out.size;omega,B0A.out.block b hb⟩);have hw2:=HWY.out;rw [ah.walk] at hw2;obtain ⟨x,hx,hcall⟩:=MF pv yk YW yi yt yd YX UO QX OX _ _ _ _ wA hRA HWY.out Tz qF (fun h10 W hW=>IH.out (ah.aU OX) (by have:=O5.out;rw [ah.sz] at this;have:=jx5.out;omega) OX _ W (Nat.le_refl _) (by have:=O5.out;rw [ah.sz] at this;have:=jx5.out;omega) (Rd.keep (w:=wA) (w':=W) (ok:=(·<wA.heap.size)) (fun b (hb:b<wA.heap.size) hlt=>⟨by show b<W.heap.size;have:=hW.size;omega,hW.block b hb⟩) _ _ hRA.kids) (hw2.2.2.2.2 h10) ((ou.out.below B0A.out).below hW)) (ou.out.below B0A.out);obtain ⟨xn,xt,xa,Ic⟩:=x;have kg:=hid (show (ah.bG (l.take (j+1))).map Nd.d=ds++[(Nd.mk xn xt xa Ic).d] by rw [hsn,hx,List.map_append,Dp.out];rfl);have RC3:=hid hcall;clear hsn hx hcall hRA hw2;go_wp2_with fail
    (with_reducible refine RC3.out.mono ?_)
    rintro e w2 ⟨va,vk,he,hR2,hb2⟩;obtain ⟨aA,nA,cA,rfl⟩:=Rd.au hR2.at_
    obtain ⟨aK,nK,cK,rfl⟩:=Rd.au hR2.ks;have he:e=.returned (.agg #[.string xn,.string xt,.slice aA nA cA,.slice aK nK cK]):=he;subst he;have U2:=hid ((bR.out.below BA.out).below hb2);have XD:=hid ((Nd.fC xn xt hR2).weaken (ok':=fun b=>False\/wr.heap.size<=b) (fun b hb=>.inr (Nat.le_trans hpw hb)));clear RC3 hR2 hb2 d0 d1 d2 d3 d4 d5 d6 d7 d8 d9 d10;go_wp2_with (at_builtin;refine fF rfl _ _ 28 rfl iN _ 80 underlying28 LJ qx qz qA rfl (by decide) U2.out (fun _=>False.elim) (Nd.mk xn xt xa Ic).d [.string xn,.string xt,.slice aA nA cA,.slice aK nK cK] XD.out rfl kR HM.out (by omega) (by decide) rfl rfl ?_)
    intro a' c' w5 hrow hg5;have HF:Hid (OV w l (.slice a' (m+1) c') (.int .i64 ((j+1:Nat):Int)) w5):=⟨j+1,_,by have:=QW.out;omega,rfl,by rw [kg.out];exact hrow⟩;clear hrow hg5 XD U2 bR;exact tL
   ·have hjl:j=l.length:=by have:=QW.out;omega
    have HP:Hid (dP w (ah.bG l) (.returned (.slice av m cv)) wr):=by refine ⟨rows,_,rfl,?_⟩;have h:=bR.out;rw [<- Dp.out,hjl,List.take_length] at h;exact h
    clear hjl;go_wp2;go_ret;exact HP.out
theorem vO:∀ (l:List ah),ah.ay l->∀ x∈l,x.small
 | [],_,x,hx=>by cases hx
 | y::l,h,x,hx=>by
  rw [ah.ay] at h;rcases List.mem_cons.1 hx with rfl | hx
  ·exact h.1
  ·exact vO l h.2 x hx
theorem qY {x:ah} (h:x.small):ah.ay x.kids/\aj.ay x.mG/\aj.aU x.mG<=120:=by obtain ⟨k,lv,i,t,d,ti,a,li,ks⟩:=x;rw [ah.small] at h;exact ⟨h.2.2.2.2.2.2.2,h.2.2.2.2.2.1,h.2.2.2.2.2.2.1⟩
theorem jx6 (l:List ah) (x:ah) (hx:x∈l):x.sz<=ah.aU l:=by obtain ⟨j,hj⟩:=List.mem_iff_getElem?.1 hx;exact ah.bK l j x hj
theorem UR (x:ah):x.kids.length<=x.sz:=by obtain ⟨k,lv,i,t,d,ti,a,li,ks⟩:=x;have:=ah.dI ks;rw [ah.sz];show ks.length<=_;omega
mutual
theorem ah.Zr (cl:ByteArray->Bool):∀ (b:ah) (par:Int) (dp:Nat),b.err cl par dp=0->b.MG->b.small->b.sz<=900000->b.walk
 | .mk k lv i t d ti a li ks,par,dp,he,hh,hs,hz=>by
  obtain ⟨h2,hbf,h3⟩:=iE cl he;rw [ah.MG] at hh;obtain ⟨g1,g2,g3,g4,g5,g6,g7,g8⟩:=hh;rw [ah.small] at hs;obtain ⟨s1,s2,s3,s4,s5,s6,s7,s8⟩:=hs;rw [ah.sz] at hz;have hk:1<=k/\k<=15:=by unfold zP at hbf;simp only [Bool.and_eq_true,decide_eq_true_iff] at hbf;obtain ⟨⟨⟨⟨⟨⟨⟨⟨h1,h2⟩,-⟩,-⟩,-⟩,-⟩,-⟩,-⟩,-⟩:=hbf;exact ⟨h1,h2⟩
  rw [ah.walk];refine ⟨⟨hk.1,hk.2,g6,g7⟩,⟨s1,s2,s5,⟨by omega,s6,g1⟩⟩,g2,fun h10=>⟨(g3 h10).1,by have:=ah.dI ks;omega,fun r hr=>?_⟩,fun h10=>ah.tN cl ks k (dp+1) h3 (g8 h10) s8 (by omega)⟩;have hr2:=qY (vO ks s8 r hr);have hr3:=jx6 ks r hr;have hr4:=UR r;refine ⟨((g3 h10).2 r hr).1,by omega,fun c hc=>?_⟩;have hc2:=qY (vO r.kids hr2.1 c hc);exact ⟨by omega,hc2.2.1,((g3 h10).2 r hr).2 c hc⟩
theorem ah.tN (cl:ByteArray->Bool):∀ (l:List ah) (par:Int) (dp:Nat),ah.aQ cl par dp l=0->ah.lQ l->ah.ay l->ah.aU l<=900000->ah.lN l
 | [],_,_,_,_,_,_=>by rw [ah.lN];trivial
 | x::l,par,dp,he,hh,hs,hz=>by
  rw [ah.aQ] at he;rw [ah.lQ] at hh;rw [ah.ay] at hs;rw [ah.aU] at hz;rw [ah.lN];by_cases h1:x.err cl par dp≠0
  ·rw [if_pos h1] at he;exact absurd he h1
  ·rw [if_neg h1] at he;exact ⟨ah.Zr cl x par dp (Classical.not_not.1 h1) hh.1 hs.1 (by omega),ah.tN cl l par dp he hh.2 hs.2 (by omega)⟩
end
open Go.RowKit
open Go.RowKit
open Go.RowKit
open Go.RowKit
def zW (W1:World) (f:Nat->List ByteArray) (n:Nat) (v vi:Value) (wr:World):Prop:=∃ k:Nat,k<=n/\vi=.int .i64 k/\wr.ownsRow W1.heap.size 9 1 v (f k).length ((f k).map Value.string)/\Below W1.heap.size W1 wr
theorem jf6{P Q:Prop}(q:Q)(h:Nonempty Q->P:=by
 intro qQ;have hks:=Nd.bK ks;obtain ⟨S,hS⟩:∃ S,S=w.heap.size:=⟨_,rfl⟩;obtain ⟨W1,hW1⟩:∃ W,W=w.alloc (.cells #[.string nm,.string tx,.slice a1 n1 c1,.slice a2 n2 c2] 35):=⟨_,rfl⟩;have k0:CB 35 S [.string nm,.string tx,.slice a1 n1 c1,.slice a2 n2 c2] W1:=by rw [hW1,hS];exact CB.new _ _ w
 have bW:Below w.heap.size w W1:=by rw [hW1];exact (Below.refl _ _).alloc (Nat.le_refl _) _
 revert hks S hS W1 hW1 k0 bW;exact qQ.elim fun x=>x):P:=h ⟨q⟩
theorem UU{P:Prop}(h:P:=by
 go_wp2;go_roundw;case rel=>exact HF3.out
 case measure=>simp [intOf];omega):P:=h
theorem Dq (key:ByteArray) (N:Nat):∀ (x:Nd) (va vk:jNk) (w:jN9),x.sz<=N->(x.vals key).length<=1000000->nC (·<w.heap.size) w x.at_ x.ks va vk -> Calls prog 56 #[.agg #[.string x.nm,.string x.tx,va,vk],.string key] w (tO w (x.vals key)):=by
 induction N using Nat.strongRecOn with
 | _ N ih=>
  intro x va vk w hN hpl hA;obtain ⟨i0,hi0,hz0,hz1,hz2⟩:=info_parts Jd;obtain ⟨nm,tx,at_,ks⟩:=x;dsimp only [Nd.nm,Nd.tx,Nd.at_,Nd.ks] at hA ⊢;obtain ⟨a1,c1,h1,s1⟩:=Rd.aB hA.at_
  obtain ⟨a2,c2,h2,s2⟩:=Rd.aB hA.ks;obtain ⟨n1,hn1⟩:∃ n,n=at_.length:=⟨_,rfl⟩
  obtain ⟨n2,hn2⟩:∃ n,n=ks.length:=⟨_,rfl⟩;obtain rfl:va=.slice a1 n1 c1:=by rw [hn1];simpa using h1
  obtain rfl:vk=.slice a2 n2 c2:=by rw [hn2];simpa using h2
  have l1:=s1.le;have l2:=s2.le;rw [jKx,<- hn1] at l1;rw [jKx,<- hn2] at l2;have m1:=s1.max;have m2:=s2.max;unfold maxLen at m1 m2;rw [Nd.sz] at hN;refine jf6 ?_;intro hks S hS W1 hW1 k0 bW;have CL:Hid (∀ w':jN9,jNj W1.heap.size W1 w'->w'.cell? ⟨S,2,none⟩=some (.slice a1 n1 c1)/\w'.cell? ⟨S,3,none⟩=some (.slice a2 n2 c2)):=fun w' hb=>⟨(k0.below hb).cell 2 _ rfl,(k0.below hb).cell 3 _ rfl⟩
  have e0:=k0.cell 0 _ rfl;have UJ:nm.toList.isEmpty=aV nm:=by rw [Lib.toList_data,jKk,List.isEmpty_iff,aV,decide_eq_true_iff]
  have H1:=hid s1;have H2:=hid s2;have IH:=hid ih;have Je:=hid hks;have BW:=hid bW;have Zt:=hid hn1;have Ej:=hid hn2;have HN:=hid hN;have hv0:(Nd.mk nm tx at_ ks).vals key=if aV nm=true then [] else fv key at_++Nd.dn key ks:=by rw [Nd.vals];rfl
  clear hA h1 h2 s1 s2 ih hks k0 bW hn1 hn2 hN;by_cases hne:aV nm=true
  ·rw [hne] at UJ;have HF:Hid ((Nd.mk nm tx at_ ks).vals key=[]):=by show _=_;rw [hv0,if_pos hne]
   clear hne hv0 hpl;go_enter func56,ntmps56;go_upto_region 2 with (fail)
   rw [<- hW1,<- hS];clear hW1 hS;go_wp2;go_ret;exact ⟨.slice none 0 0,rfl,by rw [HF.out];exact World.ownsRow_nil _ _ _ _,BW.out⟩
  ·have hne:aV nm=false:=by simpa using hne
   rw [hne] at UJ;have HF:Hid ((Nd.mk nm tx at_ ks).vals key=fv key at_++Nd.dn key ks):=by show _=_;rw [hv0,if_neg (by rw [hne];decide)]
   rw [HF.out,jKq] at hpl;have LM:=hid hpl;have R0:Hid (zW W1 (fun k=>fv key (at_.take k)) n1 (.slice none 0 0) (.int .i64 0) W1):=⟨0,jL3 _,rfl,World.ownsRow_nil _ _ _ _,jK7 _ _⟩;clear hne hv0 hpl;go_enter func56,ntmps56;go_upto_region 2 with (fail)
   rw [<- hW1,<- hS];clear hW1 hS;go_wp2
   go_loopw [5,6] (fun v vi wr=>zW W1 (fun k=>fv key (at_.take k)) n1 v vi wr) (fun _ i _=>n1-(intOf i).toNat)
   case atStart=>exact R0.out
   case round=>
    clear R0 e0 UJ;obtain ⟨j,hj,rfl,hown,hbel⟩:=hrel;obtain ⟨e2,e3⟩:=CL.out _ hbel;have hfl:=jr8 key at_ j
    obtain ⟨m,hm⟩:∃ m,m=(fv key (at_.take j)).length:=⟨_,rfl⟩;have hm1:m<=1000000:=by have:=LM.out;omega
    dsimp only at hown;rw [<- hm] at hown;obtain ⟨av,cv,rfl⟩:=lD hown;have HOW:=hid hown;have HB:=hid hbel;have HM:=hid hm;have hsz:=hbel.size;clear hown hbel hm hfl;by_cases hlt:j<n1
    ·obtain ⟨y,hy⟩:∃ y,at_[j]?=some y:=⟨_,jK6 (by have:=Zt.out;omega)⟩
     have hsn:=Zu key at_ j y hy
     obtain ⟨g1,o1,rfl,-,hg1,k1,k2⟩:=jU H1.out hy;have Et:=BW.out.trans (HB.out.mono BW.out.size);have r1:wr.cell? ⟨g1,o1+j*2,none⟩=some (.string y.key):=(Et.cell (p:=⟨g1,_,none⟩) hg1).trans k1;have r2:wr.cell? ⟨g1,o1+j*2+1,none⟩=some (.string y.val):=(Et.cell (p:=⟨g1,_,none⟩) hg1).trans k2;clear hy k1 k2 Et;obtain ⟨yk,yv⟩:=y;dsimp only at r1 r2 hsn;by_cases hkey:yk=key
     ·subst hkey;have hq:(yk.toList==yk.toList)=true:=by simp
      have kg:=hid (show fv yk (at_.take (j+1))=fv yk (at_.take j)++[yv] by rw [hsn,if_pos rfl]);clear hsn;go_wp2_with (at_builtin;refine wpList_append_own_at _ rfl _ _ 43 rfl W1.heap.size 9 i0 _ 1 16 underlying43 hi0 hz0 hz1 hz2 rfl (by decide) _ _ _ rfl (HOW.out.alloc _) ⟨wr.heap.size,0,none⟩ 1 1 [.string yv] rfl rfl (Gi wr (.string yv) 9) (by intro u hu;simp at hu;subst hu;rfl) (by unfold maxLen;omega) (by omega) (by simp;omega) ?_)
      intro v2 w3 hown3 hg3 _ zX;obtain ⟨a3,c3,rfl⟩:=lD hown3;have HF3:Hid (zW W1 (fun k=>fv yk (at_.take k)) n1 (.slice a3 (m+1) c3) (.int .i64 ((j+1:Nat):Int)) w3):=⟨j+1,by omega,rfl,by
       show w3.ownsRow _ _ _ _ (fv yk (at_.take (j+1))).length ((fv yk (at_.take (j+1))).map Value.string);rw [kg.out,jKq,List.length_singleton,<- HM.out,jL8];exact hown3,(HB.out.alloc hsz _).grown hg3 (by simp;omega) (fun b hb=>(HOW.out.lt b hb).1)⟩
      clear hown3 hg3 zX r1 r2;exact UU
     ·have hq:(yk.toList==key.toList)=false:=by
       rw [beq_eq_false_iff_ne];intro e;rw [Lib.toList_data,Lib.toList_data] at e;exact hkey (ByteArray.ext (Array.toList_inj.1 e))
      have kg:=hid (show fv key (at_.take (j+1))=fv key (at_.take j) by rw [hsn,if_neg hkey,List.append_nil]);have HF3:Hid (zW W1 (fun k=>fv key (at_.take k)) n1 (.slice av m cv) (.int .i64 ((j+1:Nat):Int)) wr):=⟨j+1,by omega,rfl,by
       show wr.ownsRow _ _ _ _ (fv key (at_.take (j+1))).length ((fv key (at_.take (j+1))).map Value.string);rw [kg.out,<- HM.out];exact HOW.out,HB.out⟩
      clear hsn hkey;exact UU
    ·have hjl:j=at_.length:=by have:=Zt.out;omega
     have R2:Hid (zW W1 (fun k=>fv key at_++Nd.dn key (ks.take k)) n2 (.slice av m cv) (.int .i64 0) wr):=⟨0,jL3 _,rfl,by
      have h:=HOW.out;rw [HM.out,hjl,jLx] at h;show wr.ownsRow _ _ _ _ (fv key at_++Nd.dn key []).length ((fv key at_++Nd.dn key []).map Value.string);rw [Nd.dn,List.append_nil];rw [HM.out,hjl,jLx];exact h,HB.out⟩
     obtain ⟨wq,hwq⟩:∃ wq:jN9,wq=wr:=⟨_,rfl⟩;subst hwq;clear hjl HM HOW HB;go_wp2
     go_loopw [5,7] (fun v vi wr=>zW W1 (fun k=>fv key at_++Nd.dn key (ks.take k)) n2 v vi wr) (fun _ i _=>n2-(intOf i).toNat)
     case atStart=>exact R2.out
     case round=>
      clear R2 e2 e3;obtain ⟨q,hq,rfl,hown,hbel⟩:=hrel;obtain ⟨e2,e3⟩:=CL.out _ hbel;have hvl:=Eu key ks q;obtain ⟨m,hm⟩:∃ m,m=(fv key at_++Nd.dn key (ks.take q)).length:=⟨_,rfl⟩;have hm1:m<=1000000:=by have:=LM.out;rw [hm,jKq];omega
      dsimp only at hown;rw [<- hm] at hown;obtain ⟨av,cv,rfl⟩:=lD hown;have HOW:=hid hown;have HB:=hid hbel;have HM:=hid hm;have hsz:=hbel.size;clear hown hbel hm hvl;by_cases hlt:q<n2
      ·obtain ⟨y,hy⟩:∃ y,ks[q]?=some y:=⟨_,jK6 (by have:=Ej.out;omega)⟩;have jr9:=Je.out q y hy;have hsn:=MH key ks q y hy;have hle:=Eu key ks (q+1);rw [hsn,jKq] at hle;obtain ⟨yn,yt,ya,yk⟩:=y;obtain ⟨g1,o1,u1,u2,rfl,-,hg1,x0,x1,x2,x3,Zv⟩:=vP H2.out hy;obtain ⟨i1,i2,i3,rfl⟩:=Rd.au Zv.at_
       obtain ⟨i4,i5,i6,rfl⟩:=Rd.au Zv.ks;have Et:=BW.out.trans (HB.out.mono BW.out.size);have y0:wr.cell? ⟨g1,o1+q*4,none⟩=some (.string yn):=(Et.cell (p:=⟨_,_,none⟩) hg1).trans x0;have y1:wr.cell? ⟨g1,o1+q*4+1,none⟩=some (.string yt):=(Et.cell (p:=⟨_,_,none⟩) hg1).trans x1;have y2:wr.cell? ⟨g1,o1+q*4+2,none⟩=some (.slice i1 i2 i3):=(Et.cell (p:=⟨_,_,none⟩) hg1).trans x2;have y3:wr.cell? ⟨g1,o1+q*4+3,none⟩=some (.slice i4 i5 i6):=(Et.cell (p:=⟨_,_,none⟩) hg1).trans x3;have IC:Hid (Calls prog 56 #[.agg #[.string yn,.string yt,.slice i1 i2 i3,.slice i4 i5 i6],.string key] wr (tO wr ((Nd.mk yn yt ya yk).vals key))):=
        IH.out (Nd.mk yn yt ya yk).sz (by have:=HN.out;omega) (Nd.mk yn yt ya yk) _ _ wr (jK8 _) (by have:=LM.out;omega) (Zv.keep (fun b (hb:b<w.heap.size) _=>⟨Nat.lt_of_lt_of_le hb Et.size,Et.block b hb⟩))
       obtain ⟨Y,hY⟩:∃ Y,Y=(Nd.mk yn yt ya yk).vals key:=⟨_,rfl⟩;have HAY:=hid (show fv key at_++Nd.dn key (ks.take (q+1))=(fv key at_++Nd.dn key (ks.take q))++Y by rw [hsn,List.append_assoc,hY]);have hYl:Y.length<=1000000:=by rw [hY];have:=LM.out;omega
       rw [<- hY] at IC;clear hy jr9 hsn hle x0 x1 x2 x3 Zv Et hY;go_wp2_with fail
       (with_reducible refine IC.out.mono ?_)
       rintro e w2 ⟨v2,rfl,hown2,b2⟩;obtain ⟨M,hM⟩:∃ M,M=Y.length:=⟨_,rfl⟩;rw [<- hM] at hown2 hYl;obtain ⟨a2',c2',rfl⟩:=lD hown2;have LP:=hid (UW HOW.out b2);have B2:=hid (q01 HB.out b2);have jIk:=b2.size;have QY:=hid (Reads.mE hown2);have UY:Hid (∀ u∈Y.map Value.string,u.oneCell'=true):=fun u hu=>by
        obtain ⟨s,-,rfl⟩:=List.mem_map.1 hu;rfl
       have HMY:=hid hM;clear IC hown2 b2 y0 y1 y2 y3 hM;go_wp2_with (at_builtin;refine Iu _ rfl (.tmp 43) (.tmp 50) 43 rfl W1.heap.size 9 i0 _ 1 16 underlying43 hi0 hz0 hz1 hz2 rfl (by decide) (.slice av m cv) m _ rfl LP.out w2.heap.size a2' M c2' (Y.map Value.string) rfl QY.out UY.out ?k3 ?k4 ?k5 ?_)
       case k3=>unfold maxLen;omega
       case k4=>omega
       case k5=>omega
       intro v3 w3 hown3 hg3 _;obtain ⟨a3,c3,rfl⟩:=lD hown3;have HF3:Hid (zW W1 (fun k=>fv key at_++Nd.dn key (ks.take k)) n2 (.slice a3 (m+M) c3) (.int .i64 ((q+1:Nat):Int)) w3):=⟨q+1,by omega,rfl,by
        show w3.ownsRow _ _ _ _ (fv key at_++Nd.dn key (ks.take (q+1))).length ((fv key at_++Nd.dn key (ks.take (q+1))).map Value.string);rw [HAY.out,jKq,<- HM.out,<- HMY.out,jL8,jL8,List.append_assoc];exact hown3,B2.out.grown hg3 (by omega) (fun b hb=>(LP.out.lt b hb).1)⟩
       clear hown3 hg3 QY UY;exact UU
      ·have hql:q=ks.length:=by have:=Ej.out;omega
       have HFN:Hid (tO w ((Nd.mk nm tx at_ ks).vals key) (.returned (.slice av m cv)) wr):=by refine ⟨_,rfl,?_,BW.out.trans (HB.out.mono BW.out.size)⟩;have h:=HOW.out;rw [HM.out,hql,jLx,<- HF.out] at h;rw [HM.out,hql,jLx,<- HF.out];exact Jf h BW.out.size
       clear hql;go_wp2;go_ret;exact HFN.out
open Go.RowKit
theorem MI (c:UInt8) (w:jN9) : Calls prog 109 #[.int .u8 (c.toNat:Int)] w fun e w'=>e=.returned (.bool (tQ c))/\w=w':=by
 have h45:c=45↔c.toNat=45:=⟨fun h=>by rw [h];rfl,fun h=>UInt8.toNat_inj.1 (by rw [h];rfl)⟩;have h58:c=58↔c.toNat=58:=⟨fun h=>by rw [h];rfl,fun h=>UInt8.toNat_inj.1 (by rw [h];rfl)⟩;have HV:Hid (tQ c=true↔(97<=c.toNat/\c.toNat<=122)\/(48<=c.toNat/\c.toNat<=57)\/c.toNat=45\/c.toNat=58):=by show _↔_;unfold tQ UZ;simp only [Bool.or_eq_true,Bool.and_eq_true,decide_eq_true_eq,h45,h58];omega
 have hc:=UInt8.toNat_lt c;generalize tQ c=V at *;generalize c.toNat=n at *;clear h45 h58;go_enter func109,ntmps109;go_wp2;all_goals
  go_ret;refine ⟨vB ?_,rfl⟩;rw [jKk,HV.out]
  (try simp only [beq_iff_eq,beq_eq_false_iff_ne,ne_eq] at *)
  (try simp)
  (try omega)
theorem zY (s:ByteArray) (w:jN9) (h:kI s=true) : Calls prog 65 #[.string s] w fun e w'=>e=.returned (.bool true)/\w=w':=by
 unfold kI at h;simp only [Bool.and_eq_true,decide_eq_true_eq] at h;obtain ⟨⟨⟨hall,h1⟩,h60⟩,hlow⟩:=h;have hg:=CY s 0 h1;obtain ⟨c,hc⟩:∃ c,s[0]=c:=⟨_,rfl⟩;rw [hc] at hg;have hl:UZ c=true:=by
  cases h:s.data.toList with
  | nil=>rw [h] at hg;simp at hg
  | cons a l=>rw [h] at hg hlow;simp at hg;rw [<- hg];exact hlow
 unfold UZ at hl;simp only [Bool.and_eq_true,decide_eq_true_eq] at hl;obtain ⟨l1,l2⟩:=hl;have HA:Hid (∀ (k:Nat) (hk:k<s.size),tQ s[k]=true):=fun k hk=>by
  have h:=CY s k hk;exact List.all_eq_true.1 hall _ (jL4 h)
 clear hall hlow hg;go_enter func65,ntmps65;go_wp2
 go_loop [3] (fun vi=>∃ k:Nat,k<=s.size/\vi=.int .i64 k) (fun i=>s.size-(intOf i).toNat)
 case atStart=>exact ⟨0,jL3 _,rfl⟩
 case round=>
  obtain ⟨k,hk,rfl⟩:=hrel;by_cases hlt:k<s.size
  ·have IN:=hid (fun w=>MI s[k] w);have hp:=HA.out k hlt;rw [hp] at IN;have hgl:=UInt8.toNat_lt s[k];clear hp;go_wp2_with fail
   refine (IN.out _).mono ?_;rintro e w1 ⟨rfl,rfl⟩;go_wp2
   go_round
   case rel=>exact ⟨k+1,by omega,by go_num⟩
   case measure=>simp [intOf];omega
  ·have q1:decide ((97:Int)<=(c.toNat:Int))=true:=by simp;omega
   have q2:decide ((c.toNat:Int)<=(122:Int))=true:=by simp;omega
   have q3:decide ((s.size:Int)<=(60:Int))=true:=by simp;omega
   have q4:decide ((1:Int)<=(s.size:Int))=true:=by simp;omega
   go_wp2;all_goals
    go_ret;refine ⟨vB ?_,rfl⟩;simp
    (try omega)
theorem Jg (s:ByteArray) (w:jN9) : Calls prog 66 #[.string s] w fun e w'=>e=.returned (.bool (kS s))/\w=w':=by
 have hs:s.toList=s.data.toList:=Lib.toList_data s;have HV:Hid (kS s=(s.toList==[98,114]||s.toList==[104,114]||s.toList==[105,109,103]||s.toList==[108,105,110,107]||s.toList==[109,101,116,97])):=by
  have e:∀ l:List UInt8,(s.toList==l)=decide (s=⟨l.toArray⟩):=fun l=>by
   rw [jKk,beq_iff_eq,decide_eq_true_iff,hs];constructor
   ·intro h;cases s with
    | mk d=>cases d;simp at h;simp [h]
   ·intro h;rw [h]
  show _=_;rw [e,e,e,e,e];rfl
 clear hs;generalize kS s=V at *;go_enter func66,ntmps66;go_wp2;all_goals
  go_ret;refine ⟨vB ?_,rfl⟩;rw [HV.out]
  simp_all
theorem Jh:∀ (a:List Pr) (seen:List ByteArray),zZ seen a=0->(∀ p∈a,kI p.key=true/\je p.val=true)/\(∀ p∈a,p.key ∉ seen)/\∀ (i j:Nat) (x y:Pr),j<i->a[i]?=some x->a[j]?=some y->y.key≠x.key
 | [],_,_=>⟨fun _ h=>(by cases h),fun _ h=>(by cases h),fun i j x y _ h=>by simp at h⟩
 | p::a,seen,h=>by
  rw [zZ] at h;split at h
  ·cases h
  rename_i h1
  split at h
  ·cases h
  rename_i h2
  split at h
  ·cases h
  rename_i h3
  obtain ⟨g1,g2,g3⟩:=Jh a _ h;refine ⟨fun x hx=>?_,fun x hx=>?_,fun i j x y hji hi hj=>?_⟩
  ·rcases List.mem_cons.1 hx with rfl | hx
   ·exact ⟨by simpa using h1,by simpa using h2⟩
   ·exact g1 x hx
  ·rcases List.mem_cons.1 hx with rfl | hx
   ·exact fun e=>h3 ((tT _ _).2 e)
   ·exact fun e=>g2 x hx (List.mem_append_left _ e)
  ·cases i with
   | zero=>omega
   | succ i=>
    cases j with
    | zero=>
     simp at hi hj;subst hj;exact fun e=>g2 x (jL4 hi) (by rw [<- e];simp)
    | succ j=>exact g3 i j x y (by omega) (by simpa using hi) (by simpa using hj)
def AtRel (n:Nat) (w:jN9) (vi:jNk) (wr:jN9):Prop:=∃ k:Nat,k<=n/\vi=.int .i64 k/\jNj w.heap.size w wr
def jf7 (n:Nat) (w:jN9) (vi:jNk) (wr:jN9):Prop:=∃ k q:Nat,k<=n/\vi=.int .i64 k/\wr=w.drewN q
theorem Ji (a:List Pr) (v:jNk) (w:jN9) (hr:Rd (·<w.heap.size) w (dx a) [v]) (h:zZ [] a=0) (hl:a.length<=1000000000) (hv:∀ p∈a,p.val.size<=1000000000) : Calls prog 67 #[v] w (dF (.int .i64 0) w):=by
 obtain ⟨aa,c,hvv,hs⟩:=Rd.aB hr;obtain ⟨n,hn⟩:∃ n,n=a.length:=⟨_,rfl⟩;obtain rfl:v=.slice aa n c:=by rw [hn];simpa using hvv
 have hc:n<=c:=by rw [hn];simpa using hs.le
 have hm:=hs.max;unfold maxLen at hm;have hn1:n<=1000000000:=by omega
 obtain ⟨h1,-,h3⟩:=Jh a [] h;have H1:=hid h1;have H3:=hid h3;have HV:=hid hv;have HS:=hid hs;have HN:=hid hn;have R0:Hid (AtRel n w (.int .i64 0) w):=⟨0,jL3 _,rfl,jK7 _ _⟩;clear hr h hl hv hvv hs hn h1 h3;go_enter func67,ntmps67;go_wp2
 go_loopw [3] (fun vi wr=>AtRel n w vi wr) (fun i _=>n-(intOf i).toNat)
 case atStart=>exact R0.out
 case round=>
  clear R0;obtain ⟨k,hk,rfl,hbel⟩:=hrel;have HB:=hid hbel;by_cases hlt:k<n
  ·obtain ⟨x,hx⟩:∃ x,a[k]?=some x:=⟨_,jK6 (by have:=HN.out;omega)⟩;have hxm:x∈a:=jL4 hx;obtain ⟨b,off,rfl,-,hb,hc0,hc1⟩:=jU (HS.out.bP hbel) hx;have HX:=hid hx;have XF:Hid (∀ y,jNj wr.heap.size wr y->y.cell? ⟨b,off+k*2,none⟩=some (.string x.key)/\y.cell? ⟨b,off+k*2+1,none⟩=some (.string x.val)):=fun y hy=>⟨(hy.cell (p:=⟨_,_,none⟩) hb).trans hc0,(hy.cell (p:=⟨_,_,none⟩) hb).trans hc1⟩
   have NC:=hid (zY x.key wr (H1.out x hxm).1);have VC:=hid (iF x.val wr (HV.out x hxm));rw [(H1.out x hxm).2] at VC;clear hx hxm hb hbel;go_wp2_with fail
   (with_reducible refine NC.out.mono ?_)
   rintro e w1 ⟨rfl,hw1⟩;rw [<- hw1];clear hw1 w1 NC;go_wp2_with fail
   (with_reducible refine VC.out.mono ?_)
   rintro e w2 ⟨rfl,b2⟩;have HB2:=hid (q01 HB.out b2);obtain ⟨d0,d1⟩:=XF.out w2 b2;have R1:Hid (jf7 k w2 (.int .i64 0) w2):=⟨0,0,jL3 _,rfl,rfl⟩;clear hc0 hc1 b2 VC;go_wp2
   go_loopw [4] (fun i wr=>jf7 k w2 i wr) (fun i _=>k-(intOf i).toNat)
   case atStart=>exact R1.out
   case round=>
    clear R1;obtain ⟨j,q,hj,rfl,rfl⟩:=hrel;by_cases hlj:j<k
    ·obtain ⟨y,hy⟩:∃ y,a[j]?=some y:=⟨_,jK6 (by have:=HN.out;omega)⟩;obtain ⟨b',off',e',-,-,f0,-⟩:=jU (HS.out.bP HB2.out) hy;obtain ⟨rfl,rfl⟩:b=b'/\off=off':=by simpa using e'
     have hne:=vQ (H3.out k j x y hlj HX.out hy);clear hy e';go_wp2_with fail
     go_quiet (fail)
     go_wp2;go_roundw;case rel=>exact ⟨j+1,_,by omega,by go_num,rfl⟩
     case measure=>simp [intOf];omega
    ·have HR:Hid (AtRel n w (.int .i64 ((k+1:Nat):Int)) (w2.drewN q)):=⟨k+1,by omega,rfl,gQ HB2.out q⟩;clear hj;go_wp2;go_roundw;case rel=>exact HR.out
     case measure=>simp [intOf];omega
  ·clear hbel;go_wp2;go_ret;exact ⟨rfl,HB.out⟩
theorem O6:∀ (l:List Nd) (p:Bool),Nd.jo p l=0->(∀ x∈l,x.vR=0)/\(∀ x,l[0]?=some x->¬ (p=true/\aV x.nm=true))/\∀ (i:Nat) (x y:Nd),l[i]?=some x->l[i+1]?=some y->¬ (aV x.nm=true/\aV y.nm=true)
 | [],_,_=>⟨fun _ h=>(by cases h),fun x h=>by simp at h,fun i x y h=>by simp at h⟩
 | z::l,p,h=>by
  rw [jL] at h;obtain ⟨h1,h2,h3⟩:=h;obtain ⟨g1,g2,g3⟩:=O6 l _ h3;refine ⟨fun x hx=>?_,fun x hx=>?_,fun i x y hx hy=>?_⟩
  ·rcases List.mem_cons.1 hx with rfl | hx
   ·exact h2
   ·exact g1 x hx
  ·simp at hx;subst hx;exact h1
  ·cases i with
   | zero=>simp at hx;subst hx;exact g2 y (by simpa using hy)
   | succ i=>exact g3 i x y (by simpa using hx) (by simpa using hy)
mutual
def Nd.tz:Nd->Prop
 | .mk _ t a ks=>t.size<=1000000000/\(∀ p∈a,p.val.size<=1000000000)/\a.length<=1000000000/\Nd.tzL ks
def Nd.tzL:List Nd->Prop
 | []=>True
 | x::l=>x.tz/\Nd.tzL l
end
theorem Nd.O7:∀ (l:List Nd),Nd.tzL l↔∀ x∈l,x.tz
 | []=>by rw [Nd.tzL];simp
 | x::l=>by rw [Nd.tzL,Nd.O7 l];simp
theorem Jj (N:Nat):∀ (x:Nd) (va vk:jNk) (w:jN9),x.sz<=N->x.vR=0->x.tz->nC (·<w.heap.size) w x.at_ x.ks va vk -> Calls prog 26 #[.agg #[.string x.nm,.string x.tx,va,vk]] w (dF (.int .i64 0) w):=by
 induction N using Nat.strongRecOn with
 | _ N ih=>
  intro x va vk w hN hck htz hA;obtain ⟨nm,tx,at_,ks⟩:=x;dsimp only [Nd.nm,Nd.tx,Nd.at_,Nd.ks] at hA ⊢;obtain ⟨a1,c1,h1,s1⟩:=Rd.aB hA.at_
  obtain ⟨a2,c2,h2,s2⟩:=Rd.aB hA.ks;obtain ⟨n1,hn1⟩:∃ n,n=at_.length:=⟨_,rfl⟩
  obtain ⟨n2,hn2⟩:∃ n,n=ks.length:=⟨_,rfl⟩;obtain rfl:va=.slice a1 n1 c1:=by rw [hn1];simpa using h1
  obtain rfl:vk=.slice a2 n2 c2:=by rw [hn2];simpa using h2
  have l2:=s2.le;rw [jKx,<- hn2] at l2;have m2:=s2.max;unfold maxLen at m2;rw [Nd.sz] at hN;rw [Nd.tz] at htz;obtain ⟨tz1,tz2,tz3,tz4⟩:=htz;rw [Nd.vR] at hck;refine jf6 ?_;intro hks S hS W1 hW1 k0 bW;have CL:Hid (∀ w':jN9,jNj W1.heap.size W1 w'->w'.cell? ⟨S,0,none⟩=some (.string nm)/\w'.cell? ⟨S,1,none⟩=some (.string tx)/\w'.cell? ⟨S,2,none⟩=some (.slice a1 n1 c1)/\w'.cell? ⟨S,3,none⟩=some (.slice a2 n2 c2)):=fun w' hb=>⟨(k0.below hb).cell 0 _ rfl,(k0.below hb).cell 1 _ rfl,(k0.below hb).cell 2 _ rfl,(k0.below hb).cell 3 _ rfl⟩
  obtain ⟨e0,e1,e2,e3⟩:=CL.out W1 (jK7 _ _);have UJ:nm.toList.isEmpty=aV nm:=by rw [Lib.toList_data,jKk,List.isEmpty_iff,aV,decide_eq_true_iff]
  have qtx:tx.toList.isEmpty=aV tx:=by rw [Lib.toList_data,jKk,List.isEmpty_iff,aV,decide_eq_true_iff]
  have HA:=hid hA;have H2:=hid s2;have IH:=hid ih;have Je:=hid hks;have BW:=hid bW;have Ej:=hid hn2;have HN:=hid hN;have VC:=hid (iF tx W1 tz1);by_cases hne:aV nm=true
  ·rw [hne] at UJ;rw [if_pos hne] at hck;split at hck
   ·cases hck
   rename_i g1
   split at hck
   ·cases hck
   rename_i g2
   have ha:n1=0:=by
    rw [hn1];cases at_ with
    | nil=>rfl
    | cons _ _=>exact absurd (.inl rfl) g1
   have hk:n2=0:=by
    rw [hn2];cases ks with
    | nil=>rfl
    | cons _ _=>exact absurd (.inr rfl) g1
   have ht:aV tx=false:=by
    cases h3:aV tx
    ·rfl
    ·exact absurd (.inl h3) g2
   have hvt:je tx=true:=by
    cases h3:je tx
    ·exact absurd (.inr h3) g2
    ·rfl
   rw [ht] at qtx;rw [hvt] at VC;clear hne hck g1 g2 hA h1 h2 s1 s2 ih hks k0 bW hn1 hn2 hN tz1 tz2 tz3 tz4 ht hvt Ej;subst ha hk;go_enter func26,ntmps26;go_upto_region 1 with (fail)
   rw [<- hW1,<- hS];clear hW1 hS;go_wp2_with fail
   (with_reducible refine VC.out.mono ?_)
   rintro e w2 ⟨rfl,b2⟩;have HF:=hid (BW.out.trans (b2.mono BW.out.size));clear b2;go_wp2;go_ret;exact ⟨rfl,HF.out⟩
  ·have hne:aV nm=false:=by simpa using hne
   rw [hne] at UJ;rw [if_neg (by rw [hne];simp)] at hck;split at hck
   ·cases hck
   rename_i g1
   split at hck
   ·cases hck
   rename_i g2
   split at hck
   ·rename_i g3;exact absurd hck g3
   rename_i g3
   have hnm:kI nm=true:=by simpa using g1
   have ht:aV tx=true:=by
    cases h3:aV tx
    ·exact absurd (.inl h3) g2
    ·rfl
   have hat:zZ [] at_=0:=by simpa using g3
   have hem:kS nm=true->n2=0:=fun h=>by
    rw [hn2];cases ks with
    | nil=>rfl
    | cons _ _=>exact absurd (.inr ⟨h,rfl⟩) g2
   obtain ⟨k1,-,k3⟩:=O6 ks _ hck;have htk:=(Nd.O7 ks).1 tz4;rw [ht] at qtx;have NC:=hid (zY nm W1 hnm);have EC:=hid (Jg nm W1);have AC:=hid (Ji at_ (.slice a1 n1 c1) W1 (hA.at_.up bW) hat tz3 tz2);have K1:=hid k1;have K3:=hid k3;have TK:=hid htk;clear hne hck g1 g2 g3 hA h1 h2 s1 s2 ih hks k0 bW hn1 hn2 hN tz1 tz2 tz3 tz4 ht hnm hat k1 k3 htk VC;go_enter func26,ntmps26;go_upto_region 1 with (fail)
   rw [<- hW1,<- hS];clear hW1 hS;go_wp2_with fail
   (with_reducible refine NC.out.mono ?_)
   rintro e w2 ⟨rfl,hw2⟩;rw [<- hw2];clear hw2 w2 NC;go_wp2_with fail
   (with_reducible refine EC.out.mono ?_)
   rintro e w2 ⟨rfl,hw2⟩;rw [<- hw2];clear hw2 w2 EC;have hgt:(kS nm=true/\decide (0<n2)=false)\/kS nm=false:=by
    cases h:kS nm
    ·exact .inr rfl
    ·exact .inl ⟨rfl,by have:=hem h;simp;omega⟩
   clear hem;rcases hgt with ⟨q1,q2⟩ | q1
   all_goals
    go_wp2_with fail
    (with_reducible refine AC.out.mono ?_)
    rintro e w3 ⟨rfl,b3⟩;have B3:=hid (BW.out.trans (b3.mono BW.out.size));have R0:Hid (AtRel n2 W1 (.int .i64 0) w3):=⟨0,jL3 _,rfl,b3⟩;clear b3 AC e0 e1 e2 e3 q1;go_wp2
    go_loopw [4] (fun vi wr=>AtRel n2 W1 vi wr) (fun i _=>n2-(intOf i).toNat)
    case atStart=>exact R0.out
    case round=>
     clear R0;obtain ⟨k,hk,rfl,hbel⟩:=hrel;obtain ⟨e0,e1,e2,e3⟩:=CL.out _ hbel;have HB:=hid hbel;by_cases hlt:k<n2
     ·obtain ⟨y,hy⟩:∃ y,ks[k]?=some y:=⟨_,jK6 (by have:=Ej.out;omega)⟩;have hym:y∈ks:=jL4 hy;have jr9:=Je.out k y hy;have hyc:=K1.out y hym;have hyt:=TK.out y hym;obtain ⟨yn,yt,ya,yk⟩:=y;obtain ⟨g1,o1,u1,u2,rfl,-,hg1,x0,x1,x2,x3,Zv⟩:=vP H2.out hy;obtain ⟨i1,i2,i3,rfl⟩:=Rd.au Zv.at_
      obtain ⟨i4,i5,i6,rfl⟩:=Rd.au Zv.ks;have Et:=BW.out.trans (HB.out.mono BW.out.size);have y0:wr.cell? ⟨g1,o1+k*4,none⟩=some (.string yn):=(Et.cell (p:=⟨_,_,none⟩) hg1).trans x0;have y1:wr.cell? ⟨g1,o1+k*4+1,none⟩=some (.string yt):=(Et.cell (p:=⟨_,_,none⟩) hg1).trans x1;have y2:wr.cell? ⟨g1,o1+k*4+2,none⟩=some (.slice i1 i2 i3):=(Et.cell (p:=⟨_,_,none⟩) hg1).trans x2;have y3:wr.cell? ⟨g1,o1+k*4+3,none⟩=some (.slice i4 i5 i6):=(Et.cell (p:=⟨_,_,none⟩) hg1).trans x3;have IC:Hid (Calls prog 26 #[.agg #[.string yn,.string yt,.slice i1 i2 i3,.slice i4 i5 i6]] wr (dF (.int .i64 0) wr)):=
       IH.out (Nd.mk yn yt ya yk).sz (by have:=HN.out;omega) (Nd.mk yn yt ya yk) _ _ wr (jK8 _) hyc hyt (Zv.keep (fun b (hb:b<w.heap.size) _=>⟨Nat.lt_of_lt_of_le hb Et.size,Et.block b hb⟩))
      have qy:yn.toList.isEmpty=aV yn:=by rw [Lib.toList_data,jKk,List.isEmpty_iff,aV,decide_eq_true_iff]
      have hgo:(k=0)\/(k≠0/\aV yn=false)\/(k≠0/\aV yn=true/\∃ zn,wr.cell? ⟨g1,o1+(k-1)*4,none⟩=some (.string zn)/\zn.toList.isEmpty=false):=by
       by_cases hk0:k=0
       ·exact .inl hk0
       cases hye:aV yn
       ·exact .inr (.inl ⟨hk0,rfl⟩)
       ·refine .inr (.inr ⟨hk0,rfl,?_⟩);obtain ⟨z,hz⟩:∃ z,ks[k-1]?=some z:=⟨_,jK6 (by have:=Ej.out;omega)⟩;have h3:=K3.out (k-1) z (.mk yn yt ya yk) hz (by rw [Nat.sub_add_cancel (by omega)];exact hy);obtain ⟨zn,zt,za,zk⟩:=z;obtain ⟨g1',o1',v1,v2,e',-,hg1',z0,-⟩:=vP H2.out hz;obtain ⟨rfl,rfl⟩:g1=g1'/\o1=o1':=by simpa using e'
        refine ⟨zn,(Et.cell (p:=⟨_,_,none⟩) hg1').trans z0,?_⟩;rw [Lib.toList_data];have h4:aV zn=false:=by
         cases h:aV zn
         ·rfl
         ·exact absurd ⟨h,hye⟩ h3
        unfold aV at h4;simpa using h4
      clear hy hym jr9 hyc hyt x0 x1 x2 x3 Zv Et hbel;have HR:Hid (∀ w5,jNj W1.heap.size W1 w5->AtRel n2 W1 (.int .i64 ((k+1:Nat):Int)) w5):=fun w5 h=>⟨k+1,by omega,rfl,h⟩
      rcases hgo with h0 | ⟨h0,hye⟩ | ⟨h0,hye,zn,zc,zq⟩
      case' inl=>
       have h1:decide (0<k)=false:=by simp [h0]
       clear h0;go_wp2_with fail
      case' inr.inl=>
       have h1:0<k:=by omega
       rw [hye] at qy;clear hye h0;go_wp2_with fail
      case' inr.inr=>
       obtain ⟨k',rfl⟩:∃ k',k=k'+1:=⟨k-1,by omega⟩;rw [Nat.add_sub_cancel] at zc;rw [hye] at qy;clear hye h0;go_wp2_with fail
      all_goals
       (with_reducible refine IC.out.mono ?_)
       rintro e w5 ⟨rfl,b5⟩;have B5:=hid (q01 HB.out b5);clear b5;go_wp2;go_roundw;case rel=>exact HR.out _ B5.out
       case measure=>simp [intOf];omega
     ·clear hbel;have HF:=hid (BW.out.trans (HB.out.mono BW.out.size));go_wp2;go_ret;exact ⟨rfl,HF.out⟩
end Go.Proofs.YtkfnkeflalcphaaGreatDoor

