/- Contract of publisherref34.nodes: the nodes of inlines; plain part: the classes of well-formed inlines are not empty. Contracts of html.unresolved and publisherref34.unresolved. Contract of html.table: the node of a table. A literal of two nodes; what Page leaves. Contract of publisherref34.row. A literal of one node, whose data are newer than a world, is a row of one's own since that world. -/
import Derived.Test.YtkfnkeflalcphaaGreatDoorKHrO
import Derived.Test.YtkfnkeflalcphaaGreatDoorKHtR
set_option maxHeartbeats 8000000
set_option maxRecDepth 100000
open Go.Lib (hid)
namespace Go.Proofs.YtkfnkeflalcphaaGreatDoor
open List renaming setIfInBounds_toArray->jD3,set_cons_zero->jD4,set_cons_succ->jD5,getElem?_eq_getElem->jD6,length_map->jDx,mem_of_getElem?->jE4,take_of_length_le->jEj
open Go.RowKit.Below renaming refl->jD7,heap_alloc->jE2
open Nat renaming le_refl->jD8,le_trans->jD9
open Option.some renaming inj->jE0
open Go renaming World->jG9,Value->jGk
open Go.RowKit renaming Below->jGj
open Go.RowKit
set_option linter.unusedVariables false
set_option linter.unusedSimpArgs false
mutual
def aj.cf:aj->Prop
  | .mk k t d ti a ar ci ks=>(∀ c∈a.cls,aW c=false)/\aj.VU ks
def aj.VU:List aj->Prop
  | []=>True
  | x::l=>x.cf/\aj.VU l
end
theorem aj.MS:∀ (l:List aj),aj.VU l->∀ x∈l,x.cf
  | [],_,x,hx=>by cases hx
  | y::l,h,x,hx=>by
    rw [aj.VU] at h;rcases List.mem_cons.1 hx with rfl | hx
    ·exact h.1
    ·exact aj.MS l h.2 x hx
theorem aF.elder {T:TypeId} {k U:Nat} {ok:Nat->Prop} {w0 wb w:jG9} {ds:List D} {rows:List (List jGk)} {v:jGk} (h:aF T k ok U w0 ds rows v w) (hok:∀ b,ok b->wb.heap.size<=b) (hs:wb.heap.size<=w0.heap.size) (hb:jGj wb.heap.size wb w):aF T k (fun _=>False) U wb ds rows v w:=
  ⟨ze h.own hs,aR.keep (fun b hb _=>⟨⟨.inr (by rcases hb.1 with h1 | h1;exact hok b h1;omega),hb.2.1,hb.2.2⟩,rfl⟩) _ _ h.red,h.len,hb,h.oU,jD9 hs h.Gg,h.JJ⟩
def Sd (w:jG9) (N:List Nd) (v vi:jGk) (wr:jG9):Prop:=
  ∃ (k:Nat) (rows:List (List jGk)),k<=N.length/\vi=.int .i64 k/\aF 35 4 (fun _=>False) wr.heap.size w ((N.take k).map Nd.d) rows v wr
theorem q2z (n:Nat):∀ (l:List aj) (v:jGk) (w:jG9),aj.aY l<=n->n<=1000000->Rd (·<w.heap.size) w (bG l) [v]->aj.aB l->aj.VU l -> Calls Tryz.prog 142 #[v] w (aO w (dQ l)):=by
  induction n using Nat.strongRecOn with
  | _ n ih=>
    intro l v w hn hnm hrd hsm hcf;obtain ⟨iN,qB,fC,fD,fE⟩:=info_parts gY;obtain ⟨a,cap,hv,hs⟩:=Rd.ay hrd;obtain rfl:v=.slice a l.length cap:=by simpa using hv
    refine ZM ?_;intro hcap hll hmx N hN hNl;have hNt:∀ x∈N,x.tx.size<=300:=by exact ZO
    have R0:Hid (Sd w N (.slice none 0 0) (.int .i64 0) w):=⟨0,[],Nat.zero_le _,rfl,aF.nil _ _ _ _⟩;have HS:=hid hs;have IH:=hid ih;have cO:=hid hsm;have FH:=hid hcf;have HN:=hid hN;have Gz:=hid hNl;have HNT:=hid hNt;have HJN:Hid (dQ l=Bu N):=by show _=_;rw [hN];rfl
    clear hs hv hrd ih hsm hcf hN hNl hNt;go_enter Tryz.func142,Tryz.ntmps142;go_wp2
    go_loopw [3,4] (fun v vi wr=>Sd w N v vi wr) (fun _ i _=>l.length-(intOf i).toNat)
    case atStart=>exact R0.out
    case round=>
      clear R0;obtain ⟨k,rows,hk,rfl,hrow⟩:=hrel;rw [Gz.out] at hk;obtain ⟨ds,hds⟩:∃ ds,ds=(N.take k).map Nd.d:=⟨_,rfl⟩;rw [<- hds] at hrow;have hdn:ds.length=k:=by rw [hds,jDx,List.length_take,Gz.out];omega
      have mZ:=hid hds;have HDN:=hid hdn;obtain ⟨av,cv,rfl,-,-⟩:=hrow.cap hdn;have bg:=hid hrow;have hbel:=hrow.aM;clear hrow hdn hds;by_cases hlt:k<l.length
      ·refine iX ?_;intro x hx;have hNk:N[k]?=some x.nd:=by rw [HN.out,pF,List.getElem?_map,hx];rfl
       have HX:=hid (jg Nd.d N k x.nd hNk);rw [<- mZ.out] at HX;have hxs:=aj.lZ l cO.out x (jE4 hx);have hxc:=aj.MS l FH.out x (jE4 hx);have hsz:=aj.bE l k _ hx;obtain ⟨X,hX⟩:∃ X,X=x.nd:=⟨_,rfl⟩;rw [<- hX] at HX;obtain ⟨kd,t,d,ti,at_,ar,ci,ks⟩:=x;obtain ⟨g,off,vc,vp,va,vi,vk,rfl,hok,hbl,hc,hR⟩:=L9 HS.out hx;obtain ⟨c0,c1,c2,c3,c4,c5,c6,c7,c8,c9⟩:=hc.below hbel;rw [aj.sz] at hsz;obtain ⟨ac,nc,cc,rfl⟩:=Rd.au hR.at_.cls
       obtain ⟨ap,np,cp,rfl⟩:=Rd.au hR.at_.aD
       obtain ⟨aa,na,ca,rfl⟩:=Rd.au hR.args;obtain ⟨ai,ni,mM,rfl⟩:=Rd.au hR.fu;obtain ⟨ak,nk,ck,rfl⟩:=Rd.au hR.kids;have Ru:=hR.ZK hbel hbel.size;have jl1:=hxs;rw [aj.small] at jl1;rw [aj.cf] at hxc;have LC:zh wr ks (.slice ak nk ck):=fun W hW=>IH.out (aj.aY ks) (by omega) ks _ W (jD8 _) (by omega) (Ru.kids.up hW) jl1.2.2.2.2.2.2.2.2 hxc.2
       have OC:=Xb kd t d ti at_ ar ci ks _ _ _ _ _ wr Ru hxs LC hxc.1 (by omega)
       rw [<- hX] at OC;have OL:=hid OC;have hkk:k<=10000000:=by omega
       have hwz:=hbel.size;clear hc hok hbl hR hX hxs jl1 hxc hNk hx Ru LC OC;go_wp2_with fail
       (with_reducible refine OL.out.mono ?_)
       rintro e w1 ⟨vA,vK,rfl,VW,b1⟩;obtain ⟨aA,nA,cA,rfl⟩:=Rd.au VW.at_
       obtain ⟨aK,nK,cK,rfl⟩:=Rd.au VW.ks;obtain ⟨nm,tx,XA,XK⟩:=X;dsimp only [Nd.nm,Nd.tx,Nd.at_,Nd.ks] at VW;dsimp only [Nd.nm,Nd.tx];have U1:=hid (bg.out.below b1);have XD:=hid (show Rd (fun b=>False\/wr.heap.size<=b) w1 (Nd.mk nm tx XA XK).d [.string nm,.string tx,.slice aA nA cA,.slice aK nK cK] from (Nd.dJ nm tx VW).weaken (fun b hb=>.inr hb));clear VW b1 OL hbel c0 c1 c2 c3 c4 c5 c6 c7 c8 c9;go_wp2_with (at_builtin;refine Oh (n:=k) rfl _ _ 28 rfl iN _ 80 Tryz.underlying28 qB fC fD fE rfl (by decide) U1.out (fun _=>False.elim) (Nd.mk nm tx XA XK).d [.string nm,.string tx,.slice aA nA cA,.slice aK nK cK] XD.out rfl Fz HDN.out hkk (by decide) rfl rfl ?_)
       intro a' c' w5 aX hg5;have HF:Hid (Sd w N (.slice a' (k+1) c') (.int .i64 ((k+1:Nat):Int)) w5):=by rw [<- HX.out] at aX;exact ⟨k+1,_,by rw [Gz.out];omega,rfl,aX⟩
       clear aX hg5;exact gF
      ·have hkl:k=l.length:=by omega
       subst hkl;have hrd:Rd (w.heap.size<=·) wr (gD N) [.slice av l.length cv]:=by have h:=bg.out.bZ;rw [mZ.out,jEj (by rw [Gz.out];exact jD8 _)] at h;exact h
       have JC:=hid (GJ w.heap.size N (.slice av l.length cv) wr hrd (by rw [Gz.out];omega) HNT.out);have HB:=hid hbel;clear hrd hbel;go_wp2_with fail
       (with_reducible refine JC.out.mono ?_)
       rintro e w3 ⟨dD,v3,rfl,hrow3⟩;have HF:Hid (aO w (dQ l) (.returned v3) w3):=by rw [HJN.out];exact ⟨dD,v3,rfl,hrow3.elder (fun b hb=>hb.1) HB.out.size (HB.out.trans (hrow3.aM.mono HB.out.size))⟩
       clear hrow3 JC;go_wp2;go_ret;exact HF.out
open Go.RowKit
def MU (w:jG9) (l:List aj) (vi:jGk) (wr:jG9):Prop:=∃ k:Nat,k<=l.length/\vi=.int .i64 k/\(l.take k).any eH=false/\jGj w.heap.size w wr
def Sg (w:jG9) (b:Bool) (e:Ending) (w':jG9):Prop:=e=.returned (.bool b)/\jGj w.heap.size w w'
theorem qE {l:List aj} {k:Nat} {x:aj} (hx:l[k]?=some x) (h:eH x=true):l.any eH=true:=List.any_eq_true.2 ⟨x,jE4 hx,h⟩
theorem sP {l:List aj} {k:Nat} {x:aj} (hx:l[k]?=some x) (h:eH x=false) (hk:(l.take k).any eH=false):(l.take (k+1)).any eH=false:=by rw [List.take_add_one,hx,List.any_append,hk];simp [h]
theorem ja1{P:Prop}(h:P:=by
 have Qb:(kd==15)=false:=by rw [beq_eq_false_iff_ne];exact qy
 have q13:(kd==13)=false:=by rw [beq_eq_false_iff_ne];exact h13
 have q14:(kd==14)=false:=by rw [beq_eq_false_iff_ne];exact Jg
 have q9:(kd==9)=false:=by rw [beq_eq_false_iff_ne];exact h9
 have q10:(kd==10)=false:=by rw [beq_eq_false_iff_ne];exact h10
 have HT:=hid (sP HX.out (show eH (aj.mk kd t d ti at_ ar ci ks)=false by unfold eH;simp [qy,h13,Jg,h9,h10]) HK.out);clear HX HK qy h13 Jg h9 h10 qe;go_wp2;go_roundw;case rel=>exact ⟨k+1,by omega,by go_num,HT.out,Ew.out⟩
 case measure=>simp [intOf];omega):P:=h
theorem MV{P:Prop}(h:P:=by
 go_wp2;go_roundw;case rel=>exact ⟨k+1,by omega,by go_num,HT.out,Ew.out⟩
 case measure=>simp [intOf];omega):P:=h
theorem MW{P Q:Prop}(q:Q)(h:Nonempty Q->P:=by
 intro qQ;have q1:t.toList.isEmpty=true:=by rw [qe];exact ht
 have q2:t.toList=[]:=by rw [List.isEmpty_iff] at q1;exact q1
 revert q1 q2;exact qQ.elim fun x=>x):P:=h ⟨q⟩
theorem GR{P:Prop}(h:P:=by
 go_wp2;go_ret;exact ⟨by rw [HT.out];rfl,Ew.out⟩):P:=h
theorem yw (l:List aj) (ok:Nat->Prop) (v:jGk) (w:jG9) (hrd:Rd ok w (bG l) [v]):Calls Tryz.prog 36 #[v] w (Sg w (l.any eH)):=by
  obtain ⟨a,cap,hv,hs⟩:=Rd.ay hrd;obtain rfl:v=.slice a l.length cap:=by simpa using hv
  refine vP ?_;intro hcap hmx HS;have R0:Hid (MU w l (.int .i64 0) w):=⟨0,Nat.zero_le _,rfl,by simp,jD7 _ _⟩;clear hs hv hrd;go_enter Tryz.func36,Tryz.ntmps36;go_wp2
  go_loopw [7] (fun vi wr=>MU w l vi wr) (fun i _=>l.length-(intOf i).toNat)
  case atStart=>exact R0.out
  case round=>
    clear R0;obtain ⟨k,hk,rfl,hany,hbel⟩:=hrel;have HK:=hid hany;clear hany;by_cases hlt:k<l.length
    ·refine iX ?_;intro x hx;obtain ⟨kd,t,d,ti,at_,ar,ci,ks⟩:=x;obtain ⟨g,off,vc,vp,va,vi,vk,rfl,hok,hbl,hc,hR⟩:=L9 HS.out hx;obtain ⟨c0,c1,c2,c3,c4,c5,c6,c7,c8,c9⟩:=hc.below hbel;obtain ⟨ac,nc,cc,rfl⟩:=Rd.au hR.at_.cls
     obtain ⟨ap,np,cp,rfl⟩:=Rd.au hR.at_.aD
     obtain ⟨aa,na,ca,rfl⟩:=Rd.au hR.args;obtain ⟨ai,ni,mM,rfl⟩:=Rd.au hR.fu;obtain ⟨ak,nk,ck,rfl⟩:=Rd.au hR.kids;have HX:=hid hx;have qe:=Qj t;refine Ry ?_;intro p hp wA iw PA;have Ew:Hid (jGj w.heap.size w wA):=by rw [iw];exact hbel.alloc hbel.size _
     clear hc hok hbl hR hx hbel;go_upto_region 4 with (fail)
     rw [<- iw,<- hp];obtain ⟨e0,e1,-,-,-,-,-,-,-,-⟩:=J9 PA;clear iw hp PA c0 c1 c2 c3 c4 c5 c6 c7 c8 c9;by_cases qy:kd=15
     ·subst qy;have HT:=hid (qE HX.out (show eH (aj.mk 15 t d ti at_ ar ci ks)=true by unfold eH;simp));clear HX;exact GR
     by_cases h13:kd=13
     ·subst h13;have HT:=hid (qE HX.out (show eH (aj.mk 13 t d ti at_ ar ci ks)=true by unfold eH;simp));clear HX;exact GR
     by_cases Jg:kd=14
     ·subst Jg;have HT:=hid (qE HX.out (show eH (aj.mk 14 t d ti at_ ar ci ks)=true by unfold eH;simp));clear HX;exact GR
     by_cases h9:kd=9
     ·subst h9;cases ht:aW t
      ·have q1:t.toList.isEmpty=false:=by rw [qe];exact ht
       have HT:=hid (qE HX.out (show eH (aj.mk 9 t d ti at_ ar ci ks)=true by unfold eH;simp [ht]));clear HX ht qe;exact GR
      ·refine MW ?_;intro q1 q2;have HT:=hid (sP HX.out (show eH (aj.mk 9 t d ti at_ ar ci ks)=false by unfold eH;simp [ht]) HK.out);clear HX HK ht qe;exact MV
     by_cases h10:kd=10
     ·subst h10;cases ht:aW t
      ·have q1:t.toList.isEmpty=false:=by rw [qe];exact ht
       have HT:=hid (qE HX.out (show eH (aj.mk 10 t d ti at_ ar ci ks)=true by unfold eH;simp [ht]));clear HX ht qe;exact GR
      ·refine MW ?_;intro q1 q2;have HT:=hid (sP HX.out (show eH (aj.mk 10 t d ti at_ ar ci ks)=false by unfold eH;simp [ht]) HK.out);clear HX HK ht qe;exact MV
     exact ja1
    ·have hkl:k=l.length:=by omega
     have HT:Hid (l.any eH=false):=by
       have h:=HK.out
       rwa [hkl,List.take_length] at h
     clear hkl;go_wp2;go_ret;exact ⟨by rw [HT.out];rfl,hbel⟩
theorem GU{P:Prop}(h:P:=by
 go_wp2;go_ret;exact ⟨by rw [HT.out];rfl,q01 HB0.out Ew.out⟩):P:=h
theorem Kh (l0:List aj) (v0:jGk) (w0:jG9) (jl2:Rd (·<w0.heap.size) w0 (bG l0) [v0]) (hsz:aj.aY l0<=1000000):Calls Tryz.prog 44 #[v0] w0 (Sg w0 (jA l0)):=by
  obtain ⟨a0,n0,c0,rfl⟩:=Rd.au jl2;have DC:=hid (GV _ l0 w0.heap.size _ w0 (jD8 _) hsz jl2 (jD8 _));have hue:jA l0=(aj.aP l0).any eH:=rfl;rw [hue];obtain ⟨l,hl⟩:∃ l,l=aj.aP l0:=⟨_,rfl⟩;rw [<- hl] at DC ⊢;clear hue hl jl2;go_enter Tryz.func44,Tryz.ntmps44;go_wp2_with fail
  (with_reducible refine DC.out.mono ?_)
  rintro e w ⟨v,rows,rfl,hrow⟩;have hrd:Rd (fun _=>True) w (bG l) [v]:=Rd.fG hrow.own (aR.keep (fun b _ _=>⟨trivial,rfl⟩) _ _ hrow.red) hrow.len (fun _ _=>trivial);have HB0:=hid hrow.aM;obtain ⟨a,cap,hv,hs⟩:=Rd.ay hrd;obtain rfl:v=.slice a l.length cap:=by simpa using hv
  refine vP ?_;intro hcap hmx HS;have R0:Hid (MU w l (.int .i64 0) w):=⟨0,Nat.zero_le _,rfl,by simp,jD7 _ _⟩;clear hs hv hrd hrow DC;go_wp2
  go_loopw [4] (fun vi wr=>MU w l vi wr) (fun i _=>l.length-(intOf i).toNat)
  case atStart=>exact R0.out
  case round=>
    clear R0;obtain ⟨k,hk,rfl,hany,hbel⟩:=hrel;have HK:=hid hany;clear hany;by_cases hlt:k<l.length
    ·refine iX ?_;intro x hx;obtain ⟨kd,t,d,ti,at_,ar,ci,ks⟩:=x;obtain ⟨g,off,vc,vp,va,vi,vk,rfl,hok,hbl,hc,hR⟩:=L9 HS.out hx;obtain ⟨c0,c1,c2,c3,c4,c5,c6,c7,c8,c9⟩:=hc.below hbel;obtain ⟨ac,nc,cc,rfl⟩:=Rd.au hR.at_.cls
     obtain ⟨ap,np,cp,rfl⟩:=Rd.au hR.at_.aD
     obtain ⟨aa,na,ca,rfl⟩:=Rd.au hR.args;obtain ⟨ai,ni,mM,rfl⟩:=Rd.au hR.fu;obtain ⟨ak,nk,ck,rfl⟩:=Rd.au hR.kids;have HX:=hid hx;have qe:=Qj t;refine Ry ?_;intro p hp wA iw PA;have Ew:Hid (jGj w.heap.size w wA):=by rw [iw];exact hbel.alloc hbel.size _
     clear hc hok hbl hR hx hbel;go_upto_region 6 with (fail)
     rw [<- iw,<- hp];obtain ⟨e0,e1,-,-,-,-,-,-,-,-⟩:=J9 PA;clear iw hp PA c0 c1 c2 c3 c4 c5 c6 c7 c8 c9;by_cases qy:kd=15
     ·subst qy;have HT:=hid (qE HX.out (show eH (aj.mk 15 t d ti at_ ar ci ks)=true by unfold eH;simp));clear HX;exact GU
     by_cases h13:kd=13
     ·subst h13;have HT:=hid (qE HX.out (show eH (aj.mk 13 t d ti at_ ar ci ks)=true by unfold eH;simp));clear HX;exact GU
     by_cases Jg:kd=14
     ·subst Jg;have HT:=hid (qE HX.out (show eH (aj.mk 14 t d ti at_ ar ci ks)=true by unfold eH;simp));clear HX;exact GU
     by_cases h9:kd=9
     ·subst h9;cases ht:aW t
      ·have q1:t.toList.isEmpty=false:=by rw [qe];exact ht
       have HT:=hid (qE HX.out (show eH (aj.mk 9 t d ti at_ ar ci ks)=true by unfold eH;simp [ht]));clear HX ht qe;exact GU
      ·refine MW ?_;intro q1 q2;have HT:=hid (sP HX.out (show eH (aj.mk 9 t d ti at_ ar ci ks)=false by unfold eH;simp [ht]) HK.out);clear HX HK ht qe;exact MV
     by_cases h10:kd=10
     ·subst h10;cases ht:aW t
      ·have q1:t.toList.isEmpty=false:=by rw [qe];exact ht
       have HT:=hid (qE HX.out (show eH (aj.mk 10 t d ti at_ ar ci ks)=true by unfold eH;simp [ht]));clear HX ht qe;exact GU
      ·refine MW ?_;intro q1 q2;have HT:=hid (sP HX.out (show eH (aj.mk 10 t d ti at_ ar ci ks)=false by unfold eH;simp [ht]) HK.out);clear HX HK ht qe;exact MV
     exact ja1
    ·have hkl:k=l.length:=by omega
     have HT:Hid (l.any eH=false):=by
       have h:=HK.out
       rwa [hkl,List.take_length] at h
     clear hkl;go_wp2;go_ret;exact ⟨by rw [HT.out];rfl,q01 HB0.out hbel⟩
open Go.RowKit
structure TbW (i:ByteArray) (ks:List ah):Prop where
  ne:ks≠[]
  len:ks.length<=900000
  row:∀ r∈ks,r.kids.length=i.size/\r.kids.length<=1000000/\∀ c∈r.kids,LnW c.kT
theorem eP.sM {ok ok':Nat->Prop} {w w':jG9} {a:At} {li:List aj} {ks:List ah} {vc vp vl vk:jGk} (h:eP ok w a li ks vc vp vl vk) (hs:vM ok ok' w w'):eP ok' w' a li ks vc vp vl vk:=
  ⟨⟨Rd.keep hs _ _ h.at_.cls,Rd.keep hs _ _ h.at_.aD⟩,Rd.keep hs _ _ h.line,Rd.keep hs _ _ h.kids⟩
structure CO (W0:jG9) (q:Option Nat) (w:jG9) (d:D) (vs:List jGk):Prop where
  aM:jGj W0.heap.size W0 w
  cb:∀ p,q=some p->W0.heap.size<=p/\CB 35 p Jh w
  rd:Rd (fun b=>W0.heap.size<=b/\some b≠q) w d vs
theorem CO.far {W0 w w':jG9} {q:Option Nat} {d:D} {vs:List jGk} (h:CO W0 q w d vs) (hb:jGj w.heap.size w w'):CO W0 q w' d vs:=
  ⟨h.aM.trans (hb.mono h.aM.size),fun p hp=>⟨(h.cb p hp).1,(h.cb p hp).2.below hb⟩,h.rd.bC hb⟩
theorem CO.nd {W0 w w':jG9} {q:Option Nat} {d d':D} {vs vs':List jGk} (h:CO W0 q w d vs) (hb:jGj w.heap.size w w') (hr:Rd (w.heap.size<=·) w' d' vs'):CO W0 q w' d' vs':=
  ⟨(h.far hb).aM,(h.far hb).cb,hr.weaken (fun b hk=>⟨jD9 h.aM.size hk,fun e=>by have:=(h.cb b e.symm).2.lt;omega⟩)⟩
theorem CO.zero {W0 w:jG9} {d:D} {vs:List jGk} (h:CO W0 none w d vs):CO W0 (some w.heap.size) (w.alloc (.cells #[.string ⟨#[]⟩,.string ⟨#[]⟩,.slice none 0 0,.slice none 0 0] 35)) d vs:=by refine ⟨h.aM.alloc h.aM.size _,fun p hp=>?_,Rd.keep (fun b hb hlt=>⟨⟨hb.1,fun e=>by have:=jE0 e;omega⟩,jE2 w _ b hlt⟩) _ _ h.rd⟩;obtain rfl:=jE0 hp;exact ⟨h.aM.size,CB.new _ Jh w⟩
theorem MX {w:jG9} {g:Nat} {cs:List jGk} (h:CB 35 g cs w) (hl:cs.length=4):w.ownsRow g 35 4 (.slice (some ⟨g,0,none⟩) 1 1) 1 ([cs]:List (List jGk)).flatten:=by
  refine ⟨by simp [hl],.inr ⟨g,1,cs.toArray,rfl,jD8 _,h,by simp,by unfold maxLen;omega,?_,?_⟩⟩
  ·simp [hl]
  ·rw [<- hl];simp
theorem CO.lit {W0 w:jG9} {q:Option Nat} {x:Nd} {c0 c1 c2 c3:jGk} (h:CO W0 q w x.d [c0,c1,c2,c3]):CO W0 q (w.alloc (.cells #[c0,c1,c2,c3] 35)) (gD [x]) [.slice (some ⟨w.heap.size,0,none⟩) 1 1]:=by
  have hb:jGj w.heap.size w (w.alloc (.cells #[c0,c1,c2,c3] 35)):=(jD7 _ _).alloc (jD8 _) _;have h2:=h.far hb;refine ⟨h2.aM,h2.cb,Rd.fG (l:=[x.d]) (rows:=[[c0,c1,c2,c3]]) (MX (CB.new _ [c0,c1,c2,c3] w) rfl) (aR.one h2.rd) (by simp) (fun g hg=>?_)⟩;have e1:w.heap.size=g:=by simpa [Value.ownBlock] using hg
  exact ⟨by rw [<- e1];exact h.aM.size,fun e=>by have:=(h.cb g e.symm).2.lt;omega⟩
theorem CO.el {W0 w w':jG9} {q:Option Nat} {ks:List Nd} {v:jGk} (h:CO W0 q w (gD ks) [v]) (hb:jGj w.heap.size w w') (n:ByteArray):CO W0 q w' (aJ n [] ks).d [.string n,.string ⟨#[]⟩,.slice none 0 0,v]:=
  ⟨(h.far hb).aM,(h.far hb).cb,Nd.dJ n ⟨#[]⟩ ⟨Rd.aC _ _ _,(h.far hb).rd⟩⟩
structure Xc (W0:jG9) (q:Option Nat) (g:Nat) (w:jG9) (d:D) (cs:List jGk):Prop where
  aM:jGj W0.heap.size W0 w
  cb:∀ p,q=some p->W0.heap.size<=p/\CB 35 p Jh w
  hg:W0.heap.size<=g/\some g≠q
  cg:CB 35 g cs w
  rd:Rd (fun b=>(W0.heap.size<=b/\some b≠q)/\b≠g) w d cs
theorem Xc.far {W0 w w':jG9} {q:Option Nat} {g:Nat} {d:D} {vs:List jGk} (h:Xc W0 q g w d vs) (hb:jGj w.heap.size w w'):Xc W0 q g w' d vs:=
  ⟨h.aM.trans (hb.mono h.aM.size),fun p hp=>⟨(h.cb p hp).1,(h.cb p hp).2.below hb⟩,h.hg,h.cg.below hb,h.rd.bC hb⟩
theorem Xc.zero {W0 w:jG9} {g:Nat} {d:D} {vs:List jGk} (h:Xc W0 none g w d vs):Xc W0 (some w.heap.size) g (w.alloc (.cells #[.string ⟨#[]⟩,.string ⟨#[]⟩,.slice none 0 0,.slice none 0 0] 35)) d vs:=by refine ⟨h.aM.alloc h.aM.size _,fun p hp=>?_,⟨h.hg.1,fun e=>by have:=jE0 e;have:=h.cg.lt;omega⟩,h.cg.below ((jD7 _ _).alloc (jD8 _) _),Rd.keep (fun b hb hlt=>⟨⟨⟨hb.1.1,fun e=>by have:=jE0 e;omega⟩,hb.2⟩,jE2 w _ b hlt⟩) _ _ h.rd⟩;obtain rfl:=jE0 hp;exact ⟨h.aM.size,CB.new _ Jh w⟩
theorem CO.jx9 {W0 w:jG9} {q:Option Nat} {x:Nd} {c0 c1 c2 c3:jGk} (h:CO W0 q w x.d [c0,c1,c2,c3]):Xc W0 q w.heap.size (w.alloc (.cells #[c0,c1,c2,c3] 35)) x.d [c0,c1,c2,c3]:=by have hb:jGj w.heap.size w (w.alloc (.cells #[c0,c1,c2,c3] 35)):=(jD7 _ _).alloc (jD8 _) _;have h2:=h.far hb;exact ⟨h2.aM,h2.cb,⟨h.aM.size,fun e=>by have:=(h.cb _ e.symm).2.lt;omega⟩,CB.new _ [c0,c1,c2,c3] w,Rd.keep (fun b hk hlt=>⟨⟨hk,by omega⟩,hb.block b hlt⟩) _ _ h.rd⟩
structure TbJ (W0:jG9) (q g:Nat) (w:jG9) (d:D) (cs:List jGk) (cq:List jGk):Prop where
  aM:jGj W0.heap.size W0 w
  hq:W0.heap.size<=q
  cq:CB 35 q cq w
  hg:W0.heap.size<=g/\g≠q
  cg:CB 35 g cs w
  rd:Rd (fun b=>W0.heap.size<=b/\b≠q/\b≠g) w d cs
theorem Xc.put {W0 w:jG9} {g q:Nat} {d:D} {cs:List jGk} (h:Xc W0 (some q) g w d cs) (c0 c1 c2 c3:jGk):TbJ W0 q g (kX w q c0 c1 c2 c3) d cs [c0,c1,c2,c3]:=by
  have h1:=(h.cb q rfl);have hgq:g≠q:=fun e=>h.hg.2 (by rw [e])
  exact ⟨zi h.aM h1.1 _ _ _ _,h1.1,MZ h1.2 _ _ _ _,⟨h.hg.1,hgq⟩,(iy w q c0 c1 c2 c3 g hgq).trans h.cg,Rd.keep (fun b hb hlt=>⟨⟨hb.1.1,fun e=>hb.1.2 (by rw [e]),hb.2⟩,iy w q c0 c1 c2 c3 b (fun e=>hb.1.2 (by rw [e]))⟩) _ _ h.rd⟩
theorem TbJ.far {W0 w w':jG9} {q g:Nat} {d:D} {cs cq:List jGk} (h:TbJ W0 q g w d cs cq) (hb:jGj w.heap.size w w'):TbJ W0 q g w' d cs cq:=
  ⟨h.aM.trans (hb.mono h.aM.size),h.hq,h.cq.below hb,h.hg,h.cg.below hb,h.rd.bC hb⟩
section
variable {T:TypeId} {k:Nat} {ds:List D} {rows:List (List jGk)} {v:jGk} {w:jG9}
theorem OD {n:Nat} {ops:Array Oper} {o:Oper} {a:Act} {K:Act->jG9->Prop} {Q:Exit->Act->jG9->Prop} {E:Prop} (hgd:o.guard=none) (s x:Operand) (t:TypeId) (ho:o.op=.call { callee:=.builtin .append,args:=#[s,x],argTypes:=#[t,t] }) (i:TypeInfo) (z:jGk) (bytes:Nat) (ht:Tryz.prog.underlying t=some (.slice T)) (hi:Tryz.prog.info? T=some i) (hz:i.zero=some z) (hsize:i.size=k) (hby:i.bytes=bytes) (hzs:z.cells.size=k) (hsz:0<k) {B:Nat} {P:Nat->Prop} (hown:w.ownsRow B T k v ds.length rows.flatten) (hB:B<=w.heap.size) (hrd:aR P w ds rows) (hlen:∀ r∈rows,r.length=k) (hP:∀ b,P b->v.ownBlock≠some b) (d:D) (r:List jGk) (hx:Rd P w d r) (hr:r.length=k) (h1:∀ u∈r,u.oneCell'=true) (hdn:ds.length=n) (hn:n<=10000000) (nQ:bytes<=1000) (hs:a.eval s=v) (hxe:a.eval x=.slice (some ⟨w.heap.size,0,none⟩) 1 1) (hK:∀ a' c' w',Rd (fun b=>P b\/v.ownBlock=some b\/w.heap.size<=b) w' (.sl k (ds++[d])) [.slice a' (n+1) c']->(w.alloc (.cells r.toArray T)).grownBy w' v.ownBlock->K (a.put o.dst (.slice a' (n+1) c')) w') : if Region.wanted o (yielded ops a.tmps)=true then Oper.wp Tryz.prog o a (w.alloc (.cells r.toArray T)) K Q else E:=by
  subst hdn;have hmul:(ds.length+1)*bytes<=140737488355328:=jD9 (Nat.mul_le_mul (show ds.length+1<=10000001 by omega) nQ) (by omega);refine step_append_lies _ hgd s x t ho B T i z k bytes ht hi hz hsize hby hzs hsz v ds.length rows.flatten hs (hown.alloc _) ⟨w.heap.size,0,none⟩ 1 1 r hxe (by omega) (Gh w r T) h1 (by omega) (by unfold maxLen;omega) hmul (by simp;omega) (w.heap.size+1) (by simp) ?_;intro g cap w' hown hg hat _;have hh:∀ b,P b->b<w.heap.size->w'.heap[b]?=w.heap[b]?:=fun b hb hlt=>(hg.block b (by simp;omega) (fun e=>hP b hb e.symm)).trans (jE2 w _ b hlt)
  have wK:aR (fun b=>P b\/v.ownBlock=some b\/w.heap.size<=b) w' (ds++[d]) (rows++[r]):=aR.app (aR.keep (fun b hb hlt=>⟨.inl hb,hh b hb hlt⟩) _ _ hrd) (aR.one (Rd.keep (fun b hb hlt=>⟨.inl hb,hh b hb hlt⟩) _ _ hx));have sH:∀ q∈rows++[r],q.length=k:=fun q hq=>(List.mem_append.1 hq).elim (hlen q) (fun h=>by rw [List.mem_singleton.1 h];exact hr)
  have hown2:w'.ownsRow B T k (.slice (some ⟨g,0,none⟩) (ds.length+1) cap) (ds++[d]).length (rows++[r]).flatten:=by rw [List.length_append,List.length_singleton,List.flatten_append];simpa using hown
  refine hK _ _ w' (Rd.fG hown2 wK sH (fun g' hg'=>?_)) hg;have e1:g=g':=by simpa [Value.ownBlock] using hg'
  subst e1;exact hat.elim (fun e=>.inr (.inl e)) (fun e=>.inr (.inr (by omega)))
end
theorem jl3 {g b n c:Nat} (h:(Value.slice (some ⟨g,0,none⟩) n c).ownBlock=some b):b=g:=by
  have e:g=b:=by simpa [Value.ownBlock] using h
  exact e.symm
def EA (w1:jG9) (i:ByteArray) (rs:List ah) (v vi:jGk) (wr:jG9):Prop:=
  ∃ (k:Nat) (rows:List (List jGk)),k<=rs.length/\vi=.int .i64 k/\aF 35 4 (fun _=>False) wr.heap.size w1 (((rs.take k).map (fB mI i)).map Nd.d) rows v wr
theorem ZC{P Q:Prop}(q:Q)(h:Nonempty Q->P:=by
 intro qQ;refine eY 0 rfl (by kernel_rfl) hH (by rfl) (by intro wv hSw;obtain ⟨e2,e10,c0,c1,c2,c3,c4,c5,c6,c7,c8,c9,c10⟩:=CX.out wv hSw;go_simp;try with_reducible rfl) ?_;refine eY 1 rfl (by kernel_rfl) hH (by rfl) (by intro wv hSw;obtain ⟨e2,e10,c0,c1,c2,c3,c4,c5,c6,c7,c8,c9,c10⟩:=CX.out wv hSw;go_simp;try with_reducible rfl) ?_;refine eY 2 rfl (by kernel_rfl) hH (by rfl) (by intro wv hSw;obtain ⟨e2,e10,c0,c1,c2,c3,c4,c5,c6,c7,c8,c9,c10⟩:=CX.out wv hSw;go_simp;try with_reducible rfl) ?_;refine eY 3 rfl (by kernel_rfl) hH (by rfl) (by intro wv hSw;obtain ⟨e2,e10,c0,c1,c2,c3,c4,c5,c6,c7,c8,c9,c10⟩:=CX.out wv hSw;go_simp;try with_reducible rfl) ?_;refine eY 4 rfl (by kernel_rfl) hH (by rfl) (by intro wv hSw;obtain ⟨e2,e10,c0,c1,c2,c3,c4,c5,c6,c7,c8,c9,c10⟩:=CX.out wv hSw;go_simp;try with_reducible rfl) ?_;refine eY 5 rfl (by kernel_rfl) hH (by rfl) (by intro wv hSw;obtain ⟨e2,e10,c0,c1,c2,c3,c4,c5,c6,c7,c8,c9,c10⟩:=CX.out wv hSw;go_simp;try with_reducible rfl) ?_;exact qQ.elim fun x=>x):P:=h ⟨q⟩
theorem CQ{P Q:Prop}(q:Q)(h:Nonempty Q->P:=by
 intro qQ;go_simp;obtain ⟨q,hf⟩:∃ q,q=y.heap.size:=⟨_,rfl⟩;have jP:=hid HY.out.zero;obtain ⟨y,hN⟩:∃ y2,y2=y.alloc (.cells #[.string ⟨#[]⟩,.string ⟨#[]⟩,.slice none 0 0,.slice none 0 0] 35):=⟨_,rfl⟩;revert q hf jP y hN;exact qQ.elim fun x=>x):P:=h ⟨q⟩
theorem Zy{P Q:Prop}(q:Q)(h:Nonempty Q->P:=by
 intro qQ;have hcap:nk<=ck:=by have:=hs.le;rw [List.length_map] at this;omega
 have hmx:=hs.max;unfold maxLen at hmx;have JV:nk=rs.length+1:=by rw [hnk,List.length_cons]
 have JW:nk<=900000:=by have:=hT.len;omega
 obtain ⟨S,W0,hS,hW0,z0,k0,k1,b0⟩:=zk 48 w [.int .i64 k,.int .i64 lv,.string i,.string t,.string d,.string ti,.string at_.id,.slice ac nc cc,.slice ap np cp,.slice al nl cl,.slice ak nk ck];have hs2:qI (·<S) W0 11 ((x0::rs).map ah.d) ak ck:=by subst hS;exact hs.below b0
 have hT0:=hT.row x0 (List.mem_cons_self ..);have hTR:=fun r hr=>hT.row r (List.mem_cons_of_mem _ hr)
 revert hcap hmx JV JW S W0 hS hW0 z0 k0 k1 b0 hs2 hT0 hTR;exact qQ.elim fun x=>x):P:=h ⟨q⟩
theorem vQ{P Q:Prop}(q:Q)(h:Nonempty Q->P:=by
 intro qQ;rw [<- hN,<- hf];refine hK.out _ _ (fun _ _=>jP.out.aM) (fun hH2=>?_);revert hH2;exact qQ.elim fun x=>x):P:=h ⟨q⟩
theorem MF{P Q:Prop}(q:Q)(h:Nonempty Q->P:=by
 intro qQ;have he:e=.returned (.agg #[.string jU,.string ⟨#[]⟩,.slice aA nA cA,.slice aK nK cK]):=he;revert he;exact qQ.elim fun x=>x):P:=h ⟨q⟩
theorem ja2{P Q:Prop}(q:Q)(h:Nonempty Q->P:=by
 intro qQ;have d0:=PA.cell 0 _ rfl;have d1:=PA.cell 1 _ rfl;have d2:=PA.cell 2 _ rfl;have d3:=PA.cell 3 _ rfl;have d4:=PA.cell 4 _ rfl;have d5:=PA.cell 5 _ rfl;have d6:=PA.cell 6 _ rfl;have d7:=PA.cell 7 _ rfl;have d8:=PA.cell 8 _ rfl;have d9:=PA.cell 9 _ rfl;have d10:=PA.cell 10 _ rfl;revert d0 d1 d2 d3 d4 d5 d6 d7 d8 d9 d10;exact qQ.elim fun x=>x):P:=h ⟨q⟩
theorem ja3{P:Prop}(h:P:=by
 have h2:(rs.take j).length<=rs.length:=List.length_take_le' _ _;rw [hm,hds,List.length_map,List.length_map];have:=OE.out;omega):P:=h
theorem Zz{P Q:Prop}(q:Q)(h:Nonempty Q->P:=by
 intro qQ;have hc:=show dh W0 ga off xk MB xi xt xd MC ME.id (.slice xac xnc xcc) (.slice xap xnp xcp) (.slice xal xnl xcl) (.slice xak xnk xck) by simpa using hc
 revert hc;exact qQ.elim fun x=>x):P:=h ⟨q⟩
theorem Ki (k lv:Int) (i t d ti:ByteArray) (at_:At) (li:List aj) (ks:List ah) (vc vp vl vk:Value) (w:World) (hR:eP (·<w.heap.size) w at_ li ks vc vp vl vk) (hT:TbW i ks) : Calls Tryz.prog 138 #[.agg #[.int .i64 k,.int .i64 lv,.string i,.string t,.string d,.string ti,.string at_.id,vc,vp,vl,vk]] w (qc w (Bq i ks)):=by
  obtain ⟨ac,nc,cc,rfl⟩:=Rd.au hR.at_.cls
  obtain ⟨ap,np,cp,rfl⟩:=Rd.au hR.at_.aD
  obtain ⟨al,nl,cl,rfl⟩:=Rd.au hR.line;obtain ⟨ak,ck,hvk,hs⟩:=Rd.ay hR.kids;obtain ⟨nk,hnk⟩:∃ nk,nk=ks.length:=⟨_,rfl⟩;obtain rfl:vk=.slice ak nk ck:=by rw [hnk];simpa using hvk
  obtain ⟨x0,rs,rfl⟩:∃ x0 rs,ks=x0::rs:=by
    cases ks with
    | nil=>exact absurd rfl hT.ne
    | cons a b=>exact ⟨a,b,rfl⟩
  refine Zy ?_;intro hcap hmx JV JW S W0 hS hW0 z0 k0 k1 b0 hs2 hT0 hTR;obtain ⟨xk,MB,xi,xt,xd,MC,ME,Ww,mY⟩:=x0;obtain ⟨ga,off,xvc,xvp,xvl,xvk,rfl,hok,hbl,hc,hR0⟩:=Gr (k:=0) hs2 rfl;obtain ⟨xac,xnc,xcc,rfl⟩:=Rd.au hR0.at_.cls
  obtain ⟨xap,xnp,xcp,rfl⟩:=Rd.au hR0.at_.aD
  obtain ⟨xal,xnl,xcl,rfl⟩:=Rd.au hR0.line;obtain ⟨xak,xnk,xck,rfl⟩:=Rd.au hR0.kids;refine Zz ?_;intro hc;have CX:Hid (∀ w':World,Below W0.heap.size W0 w'->w'.cell? ⟨S,2,none⟩=some (.string i)/\w'.cell? ⟨S,10,none⟩=some (.slice (some ⟨ga,off,none⟩) nk ck)/\dh w' ga off xk MB xi xt xd MC ME.id (.slice xac xnc xcc) (.slice xap xnp xcp) (.slice xal xnl xcl) (.slice xak xnk xck)):=fun w' hb=>
    ⟨(k0.below hb).cell 2 _ rfl,(k0.below hb).cell 10 _ rfl,hc.at2 (hb.block ga hbl)⟩
  have RC:Hid (∀ w':World,Below W0.heap.size W0 w'->Calls Tryz.prog 174 #[.agg #[.int .i64 xk,.int .i64 MB,.string xi,.string xt,.string xd,.string MC,.string ME.id,.slice xac xnc xcc,.slice xap xnp xcp,.slice xal xnl xcl,.slice xak xnk xck],.string ⟨#[116,104]⟩,.string i] w' (qc w' (aJ jU [] (gN rT i.data.toList mY)))):=fun w' hb=>
    GX xk MB xi xt xd MC ME Ww mY _ _ _ _ rT i w' (eP.sM hR0 (fun b (hb':b<S) hlt=>⟨by show b<w'.heap.size;have:=hb.size;omega,hb.block b (by omega)⟩)) hT0.1 hT0.2.1 hT0.2.2
  have HS2:=hid hs2;refine Gt ?_;intro AO HW0 Z0 B0 K1;have ZB:=hid hTR;have uy:=hid JV;have jwz:0<nk:=by omega
  have jx0:(0:Int)<(nk:Int):=by omega
  clear hR hvk hs hs2 hS hW0 z0 k0 k1 b0 hc hT0 hTR hT hnk JV hR0;go_enter Tryz.func138,Tryz.ntmps138;go_upto_region 1 with (fail)
  rw [<- AO.out];refine Gu ?_
  go_cut [3] (fun s3 wx=>∃ q g f,s3=.pointer (some ⟨q,0,none⟩)/\TbJ W0 q g wx (aJ AJ [] [aJ jU [] (gN rT i.data.toList mY)]).d [.string ⟨#[116,104,101,97,100]⟩,.string ⟨#[]⟩,.slice none 0 0,.slice (some ⟨f,0,none⟩) 1 1] [.string ⟨#[116,97,98,108,101]⟩,.string ⟨#[]⟩,.slice none 0 0,.slice (some ⟨g,0,none⟩) 1 1])
  case first=>
    refine Je 12 (fun w'=>Below W0.heap.size W0 w') (by kernel_rfl) (Below.refl _ _).drew ?_;intro hH;refine ZC ?_;obtain ⟨y,hy0⟩:∃ y,y=W0.drew:=⟨_,rfl⟩;rw [<- hy0] at hH;rw [<- hy0];clear hy0;have HY:Hid (CO W0 none y (gD []) [.slice none 0 0]):=⟨hH,fun p hp=>by simp at hp,Rd.aC _ _ _⟩;refine ML (i:=6) (j:=11) rfl rfl (by decide +kernel) (fun KQ hK=>?_) (fun KQ hK=>?_);rotate_left;refine CQ ?_;intro q hf jP y hN;rw [<- hN,<- hf] at jP;refine vQ ?_;clear hN hf;intro hH2;clear hK KQ hH;refine aL ?_;clear hH2;intro hH;clear HY;have HY:=jP;clear jP;refine fH (i:=6) rfl (by kernel_rfl) (fun KQ hK=>?_);all_goals
      go_simp;go_at_call 174
      (with_reducible refine (RC.out _ HY.out.aM).mono ?_)
      rintro e y ⟨va,vk,he,hR,hb⟩;obtain ⟨aA,nA,cA,rfl⟩:=Rd.au hR.at_
      obtain ⟨aK,nK,cK,rfl⟩:=Rd.au hR.ks;refine MF ?_;intro he;subst he;have jP:=hid (HY.out.nd hb (Nd.dJ jU ⟨#[]⟩ hR));clear hb hR;refine hK.out _ _ (fun _ _=>jP.out.aM) (fun hH2=>?_);clear hK KQ hH;refine aL ?_;clear hH2;intro hH;clear HY;have HY:=jP;clear jP
    all_goals
      first
        | (refine ML (i:=7) (j:=11) rfl rfl (by decide +kernel) (fun KQ hK=>?_) (fun KQ hK=>?_)
           rotate_left;refine CQ ?_;intro q hf jP y hN;rw [<- hN,<- hf] at jP;refine vQ ?_;clear hN hf;intro hH2;clear hK KQ hH;refine aL ?_;clear hH2;intro hH;clear HY;have HY:=jP;clear jP;refine fH (i:=7) rfl (by kernel_rfl) (fun KQ hK=>?_))
        | refine fH (i:=7) rfl (by kernel_rfl) (fun KQ hK=>?_)
    all_goals
      go_simp;obtain ⟨f,hf⟩:∃ f,f=y.heap.size:=⟨_,rfl⟩;have jP:=hid HY.out.lit;obtain ⟨y,hN⟩:∃ y2,y2=y.alloc (.cells #[.string jU,.string ⟨#[]⟩,.slice aA nA cA,.slice aK nK cK] 35):=⟨_,rfl⟩;rw [<- hN,<- hf] at jP;refine vQ ?_;clear hN hf;intro hH2;clear hK KQ hH;refine aL ?_;clear hH2;intro hH;clear HY;have HY:=jP;clear jP
    all_goals
      first
        | (refine ML (i:=8) (j:=11) rfl rfl (by decide +kernel) (fun KQ hK=>?_) (fun KQ hK=>?_)
           rotate_left;refine CQ ?_;intro q hf jP y hN;rw [<- hN,<- hf] at jP;refine vQ ?_;clear hN hf;intro hH2;clear hK KQ hH;refine aL ?_;clear hH2;intro hH;clear HY;have HY:=jP;clear jP;refine fH (i:=8) rfl (by kernel_rfl) (fun KQ hK=>?_))
        | refine fH (i:=8) rfl (by kernel_rfl) (fun KQ hK=>?_)
    all_goals
      go_simp;go_at_call 40
      (with_reducible refine (l7 ⟨#[116,104,101,97,100]⟩ none (some ⟨f,0,none⟩) 0 1 0 1 _).mono ?_)
      rintro e y ⟨rfl,hb⟩;have jP:=hid (HY.out.el hb ⟨#[116,104,101,97,100]⟩);clear hb;refine hK.out _ _ (fun _ _=>jP.out.aM) (fun hH2=>?_);clear hK KQ hH;refine aL ?_;clear hH2;intro hH;clear HY;have HY:=jP;clear jP
    all_goals
      first
        | (refine ML (i:=9) (j:=11) rfl rfl (by decide +kernel) (fun KQ hK=>?_) (fun KQ hK=>?_)
           rotate_left;refine CQ ?_;intro q hf jP y hN;rw [<- hN,<- hf] at jP;refine vQ ?_;clear hN hf;intro hH2;clear hK KQ hH;refine aL ?_;clear hH2;intro hH;clear HY;have HY:=jP;clear jP;refine fH (i:=9) rfl (by kernel_rfl) (fun KQ hK=>?_))
        | refine fH (i:=9) rfl (by kernel_rfl) (fun KQ hK=>?_)
    all_goals
      go_simp;obtain ⟨g,hf⟩:∃ f,f=y.heap.size:=⟨_,rfl⟩;have jP:=hid HY.out.jx9;obtain ⟨y,hN⟩:∃ y2,y2=y.alloc (.cells #[.string ⟨#[116,104,101,97,100]⟩,.string ⟨#[]⟩,.slice none 0 0,.slice (some ⟨f,0,none⟩) 1 1] 35):=⟨_,rfl⟩;rw [<- hN,<- hf] at jP;refine vQ ?_;clear hN hf;intro hH2;clear hK KQ hH;refine aL ?_;clear hH2;intro hH;clear HY;have HY:=jP;clear jP
    all_goals
      first
        | (refine ML (i:=10) (j:=11) rfl rfl (by decide +kernel) (fun KQ hK=>?_) (fun KQ hK=>?_)
           rotate_left;refine CQ ?_;intro q hf jP y hN;rw [<- hN,<- hf] at jP;refine vQ ?_;clear hN hf;intro hH2;clear hK KQ hH;refine aL ?_;clear hH2;intro hH;clear HY;have HY:=jP;clear jP;refine fH (i:=10) rfl (by kernel_rfl) (fun KQ hK=>?_))
        | refine fH (i:=10) rfl (by kernel_rfl) (fun KQ hK=>?_)
    all_goals
      go_simp;go_at_call 40
      (with_reducible refine (l7 ⟨#[116,97,98,108,101]⟩ none (some ⟨g,0,none⟩) 0 1 0 1 _).mono ?_)
      rintro e y ⟨rfl,hb⟩;have jP:=hid (HY.out.far hb);clear hb;refine hK.out _ _ (fun _ _=>jP.out.aM) (fun hH2=>?_);clear hK KQ hH;refine aL ?_;clear hH2;intro hH;clear HY;have HY:=jP;clear jP
    all_goals
      first
        | (refine fH (i:=11) rfl (by decide +kernel) (fun KQ hK=>?_)
           refine CQ ?_;intro q hf jP y hN;rw [<- hN,<- hf] at jP;refine vQ ?_;clear hN hf;intro hH2;clear hK KQ hH;refine aL ?_;clear hH2;intro hH;clear HY;have HY:=jP;clear jP)
        | skip
    all_goals
      refine fH (i:=12) rfl (by kernel_rfl) (fun KQ hK=>?_);obtain ⟨x0,x1,x2,x3,xf⟩:=qC (HY.out.cb q rfl).2;go_simp;have HJ:=hid (HY.out.put (.string ⟨#[116,97,98,108,101]⟩) (.string ⟨#[]⟩) (.slice none 0 0) (.slice (some ⟨g,0,none⟩) 1 1));clear x0 x1 x2 x3 xf;refine hK.out _ _ (fun h=>absurd rfl h) (fun _=>?_);clear hK KQ hH;refine Om (by kernel_rfl) ?_ _;go_wp2
      go_meet
      exact ⟨q,g,f,rfl,HJ.out⟩
  case rest=>
    obtain ⟨q,g,f,rfl,hJ⟩:=hcut;obtain ⟨w1,hw1⟩:∃ w1:World,w1=wc:=⟨_,rfl⟩;subst hw1;have HJ:=hid hJ;obtain ⟨-,e10,-⟩:=CX.out w1 hJ.aM;obtain ⟨iN,qB,fC,fD,fE⟩:=info_parts gY;obtain ⟨nr,hnr⟩:∃ nr,nr=nk-1:=⟨_,rfl⟩;have OE:Hid (nr=rs.length):=by have:=uy.out;show _=_;omega
    have jBk:nr<=900000:=by omega
    have R0:Hid (EA w1 i rs (.slice none 0 0) (.int .i64 0) w1):=⟨0,[],Nat.zero_le _,rfl,aF.nil _ _ _ _⟩;have hZ0:W0.heap.size=S+2:=Z0.out;clear hJ;by_cases hck:ck=1
    case' pos=>
      have hnz:nr=0:=by omega
      subst hck;go_upto_region 4 with (fail)
      subst hnz;clear hnr e10
      go_loopw [4,22] (fun v vi wr=>EA w1 i rs v vi wr) (fun _ vi _=>0-(intOf vi).toNat)
      case atStart=>exact R0.out
      case' round=>
        clear R0;obtain ⟨j,rows,hj,rfl,hrow⟩:=hrel;obtain ⟨ds,hds⟩:∃ ds,ds=((rs.take j).map (fB mI i)).map Nd.d:=⟨_,rfl⟩;rw [<- hds] at hrow;obtain ⟨m,hm⟩:∃ m,m=ds.length:=⟨_,rfl⟩;have Wz:m<=1000000:=by exact ja3
        obtain ⟨av,cv,rfl,-,-⟩:=hrow.cap hm.symm;have HM:=hid hm.symm;have mZ:=hid hds;have bg:=hid hrow;clear hrow hm hds;by_cases hlt:j<0
        ·exact absurd hlt (by omega)
        have hkl:j=0:=by have:=OE.out;omega
    case' neg=>
      obtain ⟨ck2,jr8⟩:∃ ck2,ck2=ck-1:=⟨_,rfl⟩;go_upto_region 4 with (fail)
      rw [<- hnr,<- jr8];have hcc:nr<=ck2:=by omega
      clear hnr e10 jr8 hck
      go_loopw [4,22] (fun v vi wr=>EA w1 i rs v vi wr) (fun _ vi _=>nr-(intOf vi).toNat)
      case atStart=>exact R0.out
      case' round=>
        clear R0;obtain ⟨j,rows,hj,rfl,hrow⟩:=hrel;obtain ⟨ds,hds⟩:∃ ds,ds=((rs.take j).map (fB mI i)).map Nd.d:=⟨_,rfl⟩;rw [<- hds] at hrow;obtain ⟨m,hm⟩:∃ m,m=ds.length:=⟨_,rfl⟩;have Wz:m<=1000000:=by exact ja3
        obtain ⟨av,cv,rfl,-,-⟩:=hrow.cap hm.symm;have HM:=hid hm.symm;have mZ:=hid hds;have bg:=hid hrow;clear hrow hm hds;by_cases hlt:j<nr
        ·obtain ⟨y,hy⟩:∃ y,rs[j]?=some y:=⟨_,List.getElem?_eq_getElem (by have:=OE.out;omega)⟩;have hsn:=jg (fB mI i) rs j y hy;have hw:=ZB.out y (List.mem_of_getElem? hy);obtain ⟨yk,Cq,yi,yt,yd,Cr,AQ,sN,lY⟩:=y;have hw:lY.length=i.size/\lY.length<=1000000/\∀ c∈lY,LnW c.kT:=hw;obtain ⟨g2,off2,vc,vp,vl,vk,hge,hok2,jl4,hc2,hR2⟩:=Gr (k:=j+1) HS2.out (show (ah.mk xk MB xi xt xd MC ME Ww mY::rs)[j+1]?=some (.mk yk Cq yi yt yd Cr AQ sN lY) by simpa using hy);obtain ⟨rfl,rfl⟩:ga=g2/\off=off2:=by simpa using hge
         have hbr:Below W0.heap.size W0 wr:=HJ.out.aM.trans (bg.out.aM.mono HJ.out.aM.size);have hc2:dh W0 ga (off+11+j*11) yk Cq yi yt yd Cr AQ.id vc vp vl vk:=by rw [show off+11+j*11=off+(j+1)*11 by omega];exact hc2
         obtain ⟨c0,c1,c2,c3,c4,c5,c6,c7,c8,c9,c10⟩:=hc2.at2 (w':=wr) (hbr.block ga hbl);obtain ⟨Oo,Oq,Ot,rfl⟩:=Rd.au hR2.at_.cls
         obtain ⟨Ou,Ov,Ow,rfl⟩:=Rd.au hR2.at_.aD
         obtain ⟨yM,yN,yO,rfl⟩:=Rd.au hR2.line;obtain ⟨JY,JZ,J3,rfl⟩:=Rd.au hR2.kids;have RC2:Hid (∀ w':World,Below W0.heap.size W0 w'->Calls Tryz.prog 174 #[.agg #[.int .i64 yk,.int .i64 Cq,.string yi,.string yt,.string yd,.string Cr,.string AQ.id,.slice Oo Oq Ot,.slice Ou Ov Ow,.slice yM yN yO,.slice JY JZ J3],.string ⟨#[116,100]⟩,.string i] w' (qc w' (aJ jU [] (gN mI i.data.toList lY)))):=fun w' hb=>
           GX yk Cq yi yt yd Cr AQ sN lY _ _ _ _ mI i w' (eP.sM hR2 (fun b (hb':b<S) hlt=>⟨by show b<w'.heap.size;have:=hb.size;omega,hb.block b (by omega)⟩)) hw.1 hw.2.1 hw.2.2
         have gV:=hid (show ((rs.take (j+1)).map (fB mI i)).map Nd.d=ds++[(aJ jU [] (gN mI i.data.toList lY)).d] by rw [hsn,List.map_append,mZ.out];rfl);have HBR:=hid hbr;clear hy hsn hw hge hok2 jl4 hc2 hR2 hbr;go_upto_region 6 with (fail)
         refine Si ?_;intro p hp wA iw PA bA;rw [<- iw,<- hp];have BA:=hid bA;have b0A:Below W0.heap.size W0 wA:=HBR.out.trans (bA.mono HBR.out.size);obtain ⟨e2,-,-⟩:=CX.out wA b0A;refine ja2 ?_;intro d0 d1 d2 d3 d4 d5 d6 d7 d8 d9 d10;have ZG:=hid (RC2.out wA b0A);have hpw:wr.heap.size<=wA.heap.size:=bA.size;clear iw hp c0 c1 c2 c3 c4 c5 c6 c7 c8 c9 c10 PA bA b0A RC2;go_wp2_with fail
         (with_reducible refine ZG.out.mono ?_)
         rintro e w2 ⟨va,vk,he,hR2,hb2⟩;obtain ⟨aA,nA,cA,rfl⟩:=Rd.au hR2.at_
         obtain ⟨aK,nK,cK,rfl⟩:=Rd.au hR2.ks;refine MF ?_;intro he;subst he;have U2:=hid ((bg.out.below BA.out).below hb2);have XD:=hid ((Nd.dJ jU ⟨#[]⟩ hR2).weaken (ok':=fun b=>False\/wr.heap.size<=b) (fun b hb=>.inr (Nat.le_trans hpw hb)));clear ZG hR2 hb2 d0 d1 d2 d3 d4 d5 d6 d7 d8 d9 d10 e2;go_wp2_with (at_builtin;refine Oh rfl _ _ 28 rfl iN _ 80 Tryz.underlying28 qB fC fD fE rfl (by decide) U2.out (fun _=>False.elim) (aJ jU [] (gN mI i.data.toList lY)).d [.string jU,.string ⟨#[]⟩,.slice aA nA cA,.slice aK nK cK] XD.out rfl Fz HM.out (by omega) (by decide) rfl rfl ?_)
         intro a' c' w5 hrow hg5;have HF:Hid (EA w1 i rs (.slice a' (m+1) c') (.int .i64 ((j+1:Nat):Int)) w5):=⟨j+1,_,by have:=OE.out;omega,rfl,by rw [gV.out];exact hrow⟩;clear hrow hg5 XD U2 bg;exact gF
        have hkl:j=nr:=by have:=OE.out;omega
    all_goals
      have hjr:j=rs.length:=by have:=OE.out;omega
      have HNV:Hid (Rd (w1.heap.size<=·) wr (gD (rs.map (fB mI i))) [.slice av m cv]):=by have h:=bg.out.bZ;rw [mZ.out,hjr,List.take_length] at h;exact h
      have VZ:=hid (HJ.out.far bg.out.aM);have HBJ:Hid (W0.heap.size<=w1.heap.size):=HJ.out.aM.size;have HQ1:Hid (q<w1.heap.size):=HJ.out.cq.lt;have HG1:Hid (g<w1.heap.size):=HJ.out.cg.lt;by_cases hm0:m=0
      ·have HE:Hid (rs=[]):=by
         have:=HM.out;rw [mZ.out,hjr] at this;simp at this;exact List.length_eq_zero_iff.1 (by omega)
       subst hm0;have BL:=VZ.out.aM;have HQ:=hid VZ.out.cq;have HNR:Hid (gZ (W0.heap.size<=·) wr [] [aJ AJ [] [aJ jU [] (gN rT i.data.toList mY)]] (.slice none 0 0) (.slice (some ⟨g,0,none⟩) 1 1)):=⟨Rd.aC _ _ _,Rd.fG (l:=[(aJ AJ [] [aJ jU [] (gN rT i.data.toList mY)]).d]) (rows:=[[.string ⟨#[116,104,101,97,100]⟩,.string ⟨#[]⟩,.slice none 0 0,.slice (some ⟨f,0,none⟩) 1 1]]) (MX VZ.out.cg rfl) (aR.one (VZ.out.rd.weaken (fun b hb=>hb.1))) (by simp) (fun b hb=>by
         have e1:g=b:=by simpa [Value.ownBlock] using hb
         rw [<- e1];exact VZ.out.hg.1)⟩
       have HTE:Hid (Bq i (ah.mk xk MB xi xt xd MC ME Ww mY::rs)=aJ nT [] [aJ AJ [] [aJ jU [] (gN rT i.data.toList mY)]]):=by show _=_;rw [HE.out];rfl
       obtain ⟨x0,x1,x2,x3,xf⟩:=qC (K1.out.below BL);obtain ⟨y0,y1,y2,y3,-⟩:=cb4 HQ.out;go_upto_region 10 with (fail)
       obtain ⟨w9,dn⟩:∃ w9,w9=kX wr (S+1) (.string ⟨#[116,97,98,108,101]⟩) (.string ⟨#[]⟩) (.slice none 0 0) (.slice (some ⟨g,0,none⟩) 1 1):=⟨_,rfl⟩;have hf:=vL ⟨#[116,97,98,108,101]⟩ ⟨#[]⟩ [] ([aJ AJ [] [aJ jU [] (gN rT i.data.toList mY)]]) AO.out Z0.out B0.out K1.out BL HNR.out;rw [<- dn] at hf;refine vR ?_;clear hf dn;intro yQ yR hw8;go_wp2;refine qD ?_;intro r0 r1 r2 r3;exact bodyPost_ret (v:=.agg #[.string ⟨#[116,97,98,108,101]⟩,.string ⟨#[]⟩,.slice none 0 0,.slice (some ⟨g,0,none⟩) 1 1]) (by simp [results,Tryz.results138,go_sem,r0,r1,r2,r3]) rfl (by rw [HTE.out];exact yR.out)
      ·have hm1:0<m:=by omega
       have HE:Hid (rs.isEmpty=false):=by
         show _=_;cases hrs:rs with
         | nil=>
           have:=HM.out;rw [mZ.out,hrs] at this;simp at this;omega
         | cons _ _=>rfl
       have S0:wr.drew.cell? ⟨q,3,none⟩=some (.slice (some ⟨g,0,none⟩) 1 1):=VZ.out.cq.cell 3 _ rfl;have HTE:Hid (Bq i (ah.mk xk MB xi xt xd MC ME Ww mY::rs)=aJ nT [] [aJ AJ [] [aJ jU [] (gN rT i.data.toList mY)],aJ iV [] (rs.map (fB mI i))]):=by show aJ nT [] (aJ AJ [] [aJ jU [] (gN rT i.data.toList mY)]::if rs.isEmpty=true then [] else [aJ iV [] (rs.map (fB mI i))])=_;rw [HE.out];rfl
       clear hkl hjr hm0;go_upto_region 9 with (fail)
       refine kg 7 (fun w'=>w'.cell? ⟨q,3,none⟩=some (.slice (some ⟨g,0,none⟩) 1 1)) (by kernel_rfl) S0 ?_;intro hH;refine Br 0 rfl (by kernel_rfl) hH (by rfl) (by intro wv hSw;(try dsimp only at hSw);go_simp;try with_reducible rfl) ?_;refine Br 1 rfl (by kernel_rfl) hH (by rfl) (by intro wv hSw;(try dsimp only at hSw);go_simp;try with_reducible rfl) ?_;refine Br 2 rfl (by kernel_rfl) hH (by rfl) (by intro wv hSw;(try dsimp only at hSw);go_simp;try with_reducible rfl) ?_;refine Jf (i:=3) rfl (by kernel_rfl) (fun KQ hK=>?_);go_simp;go_at_call 40
       (with_reducible refine (l7 ⟨#[116,98,111,100,121]⟩ none av 0 m 0 cv _).mono ?_)
       rintro e w3 ⟨rfl,b3⟩;have B3:Below wr.heap.size wr w3:=((Below.refl _ _).drew).trans b3;have M4:=hid (VZ.out.far B3);have S3:w3.cell? ⟨q,3,none⟩=some (.slice (some ⟨g,0,none⟩) 1 1):=M4.out.cq.cell 3 _ rfl;have XD:=hid (show Rd (fun b=>w1.heap.size<=b) w3 (aJ ⟨#[116,98,111,100,121]⟩ [] (rs.map (fB mI i))).d [.string ⟨#[116,98,111,100,121]⟩,.string ⟨#[]⟩,.slice none 0 0,.slice av m cv] from Nd.dJ ⟨#[116,98,111,100,121]⟩ ⟨#[]⟩ ⟨Rd.aC _ _ _,HNV.out.bC B3⟩);have HB3:=hid B3;clear b3 B3 S0;refine hK.out _ _ (fun _=>S3) (fun hH2=>?_);clear hK KQ hH;have hH:=hH2 (by decide);clear hH2;refine Jf (i:=4) rfl (by kernel_rfl) (fun KQ hK=>?_);go_simp;refine hK.out _ _ (fun _=>past S3 _) (fun hH2=>?_);clear hK KQ hH;have hH:=hH2 (by decide);clear hH2;refine Jf (i:=5) rfl (by kernel_rfl) (fun KQ hK=>?_);refine OD (n:=1) rfl (.tmp 38) (.tmp 41) 28 rfl iN _ 80 Tryz.underlying28 qB fC fD fE rfl (by decide) (ds:=[(aJ AJ [] [aJ jU [] (gN rT i.data.toList mY)]).d]) (rows:=[[.string ⟨#[116,104,101,97,100]⟩,.string ⟨#[]⟩,.slice none 0 0,.slice (some ⟨f,0,none⟩) 1 1]]) (v:=.slice (some ⟨g,0,none⟩) 1 1) (P:=fun b=>W0.heap.size<=b/\b≠q/\b≠g) (MX M4.out.cg rfl) (Nat.le_of_lt M4.out.cg.lt) (aR.one M4.out.rd) (by simp) (fun b hb e=>hb.2.2 (jl3 e)) (aJ ⟨#[116,98,111,100,121]⟩ [] (rs.map (fB mI i))).d [.string ⟨#[116,98,111,100,121]⟩,.string ⟨#[]⟩,.slice none 0 0,.slice av m cv] (XD.out.weaken (fun b hb=>⟨Nat.le_trans HBJ.out hb,by have:=HQ1.out;omega,by have:=HG1.out;omega⟩)) rfl Fz rfl (by decide) (by decide) rfl rfl ?_;intro a5 c5 w5 jl5 hg5;have hgb:(Value.slice (some ⟨g,0,none⟩) 1 1).ownBlock=some g:=rfl;rw [hgb] at hg5 jl5;have q5:CB 35 q [.string ⟨#[116,97,98,108,101]⟩,.string ⟨#[]⟩,.slice none 0 0,.slice (some ⟨g,0,none⟩) 1 1] w5:=(hg5.block q (by simp;have:=M4.out.cq.lt;omega) (fun e=>M4.out.hg.2 (Option.some.inj e).symm)).trans ((Below.heap_alloc w3 _ q M4.out.cq.lt).trans M4.out.cq);have S5:w5.cell? ⟨q,3,none⟩=some (.slice (some ⟨g,0,none⟩) 1 1):=q5.cell 3 _ rfl;have fz:=ED q5;have b35:Below W0.heap.size w3 w5:=((Below.refl _ w3).alloc M4.out.aM.size _).grown hg5 (by simp;have:=M4.out.aM.size;omega) (fun x hx=>by have:=Option.some.inj hx;have:=M4.out.hg.1;omega);have wY:=hid (M4.out.aM.trans b35);have jr9:=hid jl5;have HQ5:=hid q5;have hq3:q<w3.heap.size:=M4.out.cq.lt;clear jl5 hg5 hgb b35 XD q5;refine M6 ?_;clear hK KQ hH;intro hH;refine Jf (i:=6) rfl (by kernel_rfl) (fun KQ hK=>?_);go_simp;refine M6 ?_;clear hK KQ hH;intro hH;refine Jf (i:=7) rfl (by kernel_rfl) (fun KQ hK=>?_);refine nV ?_;clear hK KQ;refine ko (by kernel_rfl) ?_ _;obtain ⟨w6,pG⟩:∃ w6,w6=w5.setCell ⟨q,3,none⟩ (.slice a5 (1+1) c5):=⟨_,rfl⟩;try simp only [Nat.reduceAdd] at pG
       rw [<- pG];have HQ:Hid (CB 35 q [.string ⟨#[116,97,98,108,101]⟩,.string ⟨#[]⟩,.slice none 0 0,.slice a5 2 c5] w6):=by rw [pG];exact CU HQ5.out 3 _
       have BL:Below W0.heap.size W0 w6:=by rw [pG];exact wY.out.setCell VZ.out.hq _
       have HNR:Hid (gZ (W0.heap.size<=·) w6 [] [aJ AJ [] [aJ jU [] (gN rT i.data.toList mY)],aJ iV [] (rs.map (fB mI i))] (.slice none 0 0) (.slice a5 2 c5)):=⟨Rd.aC _ _ _,by
         rw [pG];refine Rd.keep (fun b hb hlt=>⟨?_,Below.heap_setCell w5 ⟨q,3,none⟩ _ b ?_⟩) _ _ jr9.out
         ·rcases hb with hb | hb | hb
          ·exact hb.1
          ·have:=Option.some.inj hb;have:=VZ.out.hg.1;omega
          ·have:=M4.out.aM.size;omega
         ·show b≠q;rcases hb with hb | hb | hb
          ·exact hb.2.1
          ·have:=Option.some.inj hb;have:=VZ.out.hg.2;omega
          ·omega⟩
       clear pG jr9 S3 S5 fz hH;obtain ⟨x0,x1,x2,x3,xf⟩:=qC (K1.out.below BL);obtain ⟨y0,y1,y2,y3,-⟩:=cb4 HQ.out;go_upto_region 10 with (fail)
       obtain ⟨w9,dn⟩:∃ w9,w9=kX w6 (S+1) (.string ⟨#[116,97,98,108,101]⟩) (.string ⟨#[]⟩) (.slice none 0 0) (.slice a5 2 c5):=⟨_,rfl⟩;have hf:=vL ⟨#[116,97,98,108,101]⟩ ⟨#[]⟩ [] ([aJ AJ [] [aJ jU [] (gN rT i.data.toList mY)],aJ iV [] (rs.map (fB mI i))]) AO.out Z0.out B0.out K1.out BL HNR.out;rw [<- dn] at hf;refine vR ?_;clear hf dn;intro yQ yR hw8;go_wp2;refine qD ?_;intro r0 r1 r2 r3;exact bodyPost_ret (v:=.agg #[.string ⟨#[116,97,98,108,101]⟩,.string ⟨#[]⟩,.slice none 0 0,.slice a5 2 c5]) (by simp [results,Tryz.results138,go_sem,r0,r1,r2,r3]) rfl (by rw [HTE.out];exact yR.out)
open Go.RowKit
theorem M7 {ok:Nat->Prop} {w:World} {x y:Nd} {c0 c1 c2 c3 d0 d1 d2 d3:Value} (hm:ok w.heap.size) (hx:Rd ok w x.d [c0,c1,c2,c3]) (hy:Rd ok w y.d [d0,d1,d2,d3]) : Rd ok (w.alloc (.cells #[c0,c1,c2,c3,d0,d1,d2,d3] 35)) (gD [x,y]) [.slice (some ⟨w.heap.size,0,none⟩) 2 2]:=by
  have hb:Below w.heap.size w (w.alloc (.cells #[c0,c1,c2,c3,d0,d1,d2,d3] 35)):=(Below.refl _ _).alloc (Nat.le_refl _) _;have k:CB 35 w.heap.size [c0,c1,c2,c3,d0,d1,d2,d3] (w.alloc (.cells #[c0,c1,c2,c3,d0,d1,d2,d3] 35)):=CB.new _ _ w;have kp:∀ {d:D} {cs:List Value},Rd ok w d cs->Rd ok (w.alloc (.cells #[c0,c1,c2,c3,d0,d1,d2,d3] 35)) d cs:=fun h=>Rd.keep (fun b hb' hlt=>⟨hb',hb.block b hlt⟩) _ _ h
  exact Rd.slB (l:=[x,y].map Nd.d) (rows:=[[c0,c1,c2,c3],[d0,d1,d2,d3]]) (by simp) (by unfold maxLen;decide) (aR.cons (kp hx) (aR.one (kp hy))) (by simp) hm k.lt (fun j u hu=>k.cell j u (by simpa using hu))
def jl6 (w:World) (E:Nat) (x:Nd) (e:Ending) (w':World):Prop:=
  ∃ va vk,e=.returned (.tuple #[.agg #[.string x.nm,.string x.tx,va,vk],.int .i64 (E:Int)])/\gZ (w.heap.size<=·) w' x.at_ x.ks va vk/\Below w.heap.size w w'
open Go.RowKit
structure LnR (li:List aj):Prop where
  sz:aj.aY li<=900000
  sm:aj.aB li
  cf:aj.VU li
def Sj (w1:World) (name:ByteArray) (cs:List UInt8) (ks:List ah) (v vi:Value) (wr:World):Prop:=
  ∃ (k:Nat) (rows:List (List Value)),k<=ks.length/\vi=.int .i64 k/\aF 35 4 (fun _=>False) wr.heap.size w1 ((gN name (cs.take k) (ks.take k)).map Nd.d) rows v wr
theorem M8{P:Prop}(h:P:=by
 go_upto_region 13 with (fail)
 refine Kj [9,19,20,21,22,23,24,25] (fun f hf=>?_);have h9:f 9=.string AL:=(hf 9).trans (by rw [<- hA];rfl);clear hf;simp only [List.foldl_cons,List.foldl_nil,List.set_cons_succ,List.set_cons_zero];exact REST f h9):P:=h
theorem Gs (k lv:Int) (i t d ti:ByteArray) (at_:At) (li:List aj) (ks:List ah) (vc vp vl vk:jGk) (name letters:ByteArray) (w:jG9) (hR:eP (·<w.heap.size) w at_ li ks vc vp vl vk) (hlen:ks.length=letters.size) (hk1:ks.length<=1000000) (hc:∀ c∈ks,LnR c.kT) : Calls Tryz.prog 185 #[.agg #[.int .i64 k,.int .i64 lv,.string i,.string t,.string d,.string ti,.string at_.id,vc,vp,vl,vk],.string letters,.string name] w (qc w (aJ jU [] (gN name letters.data.toList ks))):=by
  obtain ⟨iN,qB,fC,fD,fE⟩:=info_parts gY;obtain ⟨ac,nc,cc,rfl⟩:=Rd.au hR.at_.cls
  obtain ⟨ap,np,cp,rfl⟩:=Rd.au hR.at_.aD
  obtain ⟨al,nl,cl,rfl⟩:=Rd.au hR.line;obtain ⟨ak,ck,hvk,hs⟩:=Rd.ay hR.kids;obtain ⟨nk,hnk⟩:∃ nk,nk=ks.length:=⟨_,rfl⟩;obtain rfl:vk=.slice ak nk ck:=by rw [hnk];simpa using hvk
  have hcap:nk<=ck:=by have:=hs.le;rw [jDx] at this;omega
  have hmx:=hs.max;unfold maxLen at hmx;have hnl:nk=letters.size:=by rw [hnk,hlen]
  obtain ⟨S,W0,hS,hW0,z0,k0,k1,b0⟩:=zk 48 w [.int .i64 k,.int .i64 lv,.string i,.string t,.string d,.string ti,.string at_.id,.slice ac nc cc,.slice ap np cp,.slice al nl cl,.slice ak nk ck];have CX:Hid (∀ w':jG9,jGj W0.heap.size W0 w'->w'.cell? ⟨S,10,none⟩=some (.slice ak nk ck)):=fun w' hb=>(k0.below hb).cell 10 _ rfl
  have HS2:Hid (qI (·<S) W0 11 (ks.map ah.d) ak ck):=by subst hS;exact hs.below b0
  have AO:=hid hS;have HW0:=hid hW0;have Z0:=hid z0;have B0:=hid b0;have K1:=hid k1;have HC:=hid hc;have uy:=hid hnk;have Gz:=hid hnl;have JW:nk<=1000000:=by omega
  have hls:letters.size<=1000000:=by omega
  have R0:Hid (Sj W0 name letters.data.toList ks (.slice none 0 0) (.int .i64 0) W0):=⟨0,[],Nat.zero_le _,rfl,aF.nil _ _ _ _⟩;clear hR hvk hs hnk hnl hlen hS hW0 z0 k0 k1 b0 hc hk1;go_enter Tryz.func185,Tryz.ntmps185;go_upto_region 1 with (fail)
  rw [<- AO.out];have hk0:=HW0.out;simp only [Jh] at hk0;rw [<- hk0];clear hk0;go_wp2
  go_loopw [7,8] (fun v vi wr=>Sj W0 name letters.data.toList ks v vi wr) (fun _ vi _=>nk-(intOf vi).toNat)
  case atStart=>exact R0.out
  case round=>
    clear R0;obtain ⟨j,rows,hj,rfl,hrow⟩:=hrel;obtain ⟨ds,hds⟩:∃ ds,ds=(gN name (letters.data.toList.take j) (ks.take j)).map Nd.d:=⟨_,rfl⟩;rw [<- hds] at hrow;obtain ⟨m,hm⟩:∃ m,m=ds.length:=⟨_,rfl⟩;have Wz:m<=1000000:=by have h:=zy name (letters.data.toList.take j) (ks.take j);have h2:(ks.take j).length<=ks.length:=List.length_take_le' _ _;rw [hm,hds,jDx];have:=uy.out;omega
    obtain ⟨av,cv,rfl,-,-⟩:=hrow.cap hm.symm;have HM:=hid hm.symm;have mZ:=hid hds;have bg:=hid hrow;have HB:=hid hrow.aM;have e10:=CX.out wr hrow.aM;clear hrow hm hds;by_cases hlt:j<nk
    · obtain ⟨y,hy⟩:∃ y,ks[j]?=some y:=⟨_,jD6 (by have:=uy.out;omega)⟩
      have hjs:j<letters.size:=by have:=Gz.out;omega
      obtain ⟨c,hcx⟩:∃ c,letters.data.toList[j]?=some c:=⟨_,jD6 (by simpa using hjs)⟩;have hsn:=vU name _ _ _ _ _ hcx hy;have Fy:=HC.out y (jE4 hy);obtain ⟨yk,Cq,yi,yt,yd,Cr,AQ,sN,lY⟩:=y;have Fy:LnR sN:=Fy;obtain ⟨g,off,vc,vp,vl,vk,rfl,hok,hbl,hc,hR⟩:=Gr HS2.out hy;obtain ⟨yM,yN,yO,rfl⟩:=Rd.au hR.line;have CY:Hid (∀ w':jG9,jGj W0.heap.size W0 w'->w'.cell? ⟨g,off+j*11+9,none⟩=some (.slice yM yN yO)):=fun w' hb=>by
        obtain ⟨c0,c1,c2,c3,c4,c5,c6,c7,c8,c9,c10⟩:=hc.at2 (w':=w') (hb.block g hbl);exact c9
      have NC:Hid (∀ w':jG9,jGj W0.heap.size W0 w'->Calls Tryz.prog 142 #[.slice yM yN yO] w' (aO w' (dQ sN))):=fun w' hb=>
        q2z 900000 sN _ w' Fy.sz (by decide) (Rd.keep (w:=W0) (w':=w') (ok:=(·<S)) (fun b (hb':b<S) hlt=>⟨by show b<w'.heap.size;have:=hb.size;omega,hb.block b hlt⟩) _ _ hR.line) Fy.sm Fy.cf
      obtain ⟨AL,hAL⟩:∃ AL,AL=gG c:=⟨_,rfl⟩;have gV:=hid (show (gN name (letters.data.toList.take (j+1)) (ks.take (j+1))).map Nd.d=ds++[(aJ name (bU zl AL) (dQ sN)).d] by rw [hsn,List.map_append,mZ.out,hAL];rfl);have hlet:(letters[j]'hjs)=c:=by have h:=hcx;rw [jD6 (by simpa using hjs)] at h;exact jE0 h
      have t7:(j:Int)<(letters.size:Int):=by omega
      have q7:letters[j]?=some c:=by rw [<- hlet];exact getElem?_pos letters j hjs
      have Fw:=hid hAL;clear hc hok hbl hR hsn Fy hy hcx hAL;go_upto_region 7 with (fail)
      apply jrj (α1:=Nat->jGk) (R:=fun f=>f 9=.string AL);case hm=>
        intro REST;by_cases Bv:c=108
        · have Xd:((c.toNat:Int)==108)=true:=by rw [Bv];rfl
          have hA:(⟨#[108,101,102,116]⟩:ByteArray)=AL:=by rw [Fw.out,Bv];rfl
          go_upto_region 13 with (fail)
          refine Kj [9,19,20,21,22,23,24,25] (fun f hf=>?_);have h9:f 9=.string AL:=(hf 9).trans (by rw [<- hA];rfl);clear hf;simp only [List.foldl_cons,List.foldl_nil,jD5,jD4];exact REST f h9
        by_cases Qo:c=99
        · have Xd:((c.toNat:Int)==108)=false:=by rw [Qo];rfl
          have q99:((c.toNat:Int)==99)=true:=by rw [Qo];rfl
          have hA:(⟨#[99,101,110,116,101,114]⟩:ByteArray)=AL:=by rw [Fw.out,Qo];rfl
          go_upto_region 13 with (fail)
          refine Kj [9,19,20,21,22,23,24,25] (fun f hf=>?_);have h9:f 9=.string AL:=(hf 9).trans (by rw [<- hA];rfl);clear hf;simp only [List.foldl_cons,List.foldl_nil,jD5,jD4];exact REST f h9
        by_cases sQ:c=114
        · have q99:((c.toNat:Int)==99)=false:=by rw [sQ];rfl
          have Xd:((c.toNat:Int)==108)=false:=by rw [sQ];rfl
          have jBq:((c.toNat:Int)==114)=true:=by rw [sQ];rfl
          have hA:(⟨#[114,105,103,104,116]⟩:ByteArray)=AL:=by rw [Fw.out,sQ];rfl
          go_upto_region 13 with (fail)
          refine Kj [9,19,20,21,22,23,24,25] (fun f hf=>?_);have h9:f 9=.string AL:=(hf 9).trans (by rw [<- hA];rfl);clear hf;simp only [List.foldl_cons,List.foldl_nil,jD5,jD4];exact REST f h9
        have q1:((c.toNat:Int)==108)=false:=by rw [beq_eq_false_iff_ne];intro h;exact Bv (UInt8.toNat_inj.1 (show c.toNat=108 by omega))
        have q2:((c.toNat:Int)==99)=false:=by rw [beq_eq_false_iff_ne];intro h;exact Qo (UInt8.toNat_inj.1 (show c.toNat=99 by omega))
        have q3:((c.toNat:Int)==114)=false:=by rw [beq_eq_false_iff_ne];intro h;exact sQ (UInt8.toNat_inj.1 (show c.toNat=114 by omega))
        have hA:(⟨#[]⟩:ByteArray)=AL:=by rw [Fw.out];unfold gG;rw [if_neg Bv,if_neg Qo,if_neg sQ]
        clear Bv Qo sQ;go_upto_region 13 with (fail)
        refine Kj [9,19,20,21,22,23,24,25] (fun f hf=>?_);have h9:f 9=.string AL:=(hf 9).trans (by rw [<- hA];rfl);clear hf;simp only [List.foldl_cons,List.foldl_nil,jD5,jD4];exact REST f h9
      case hr=>
        intro f h9;rw [h9];clear h9;clear hlet q7 t7;refine Je 14 (fun w'=>jGj W0.heap.size W0 w') (by kernel_rfl) HB.out.drew ?_;intro hH;refine eY 0 rfl (by kernel_rfl) hH (by rfl) (by intro wv hSw;have e10:=CX.out wv hSw;have c9:=CY.out wv hSw;go_simp;try with_reducible rfl) ?_;refine eY 1 rfl (by kernel_rfl) hH (by rfl) (by intro wv hSw;have e10:=CX.out wv hSw;have c9:=CY.out wv hSw;go_simp;try with_reducible rfl) ?_;refine eY 2 rfl (by kernel_rfl) hH (by rfl) (by intro wv hSw;have e10:=CX.out wv hSw;have c9:=CY.out wv hSw;go_simp;try with_reducible rfl) ?_;refine eY 4 rfl (by kernel_rfl) hH (by rfl) (by intro wv hSw;have e10:=CX.out wv hSw;have c9:=CY.out wv hSw;go_simp;try with_reducible rfl) ?_;refine eY 5 rfl (by kernel_rfl) hH (by rfl) (by intro wv hSw;have e10:=CX.out wv hSw;have c9:=CY.out wv hSw;go_simp;try with_reducible rfl) ?_;refine eY 6 rfl (by kernel_rfl) hH (by rfl) (by intro wv hSw;have e10:=CX.out wv hSw;have c9:=CY.out wv hSw;go_simp;try with_reducible rfl) ?_;refine eY 7 rfl (by kernel_rfl) hH (by rfl) (by intro wv hSw;have e10:=CX.out wv hSw;have c9:=CY.out wv hSw;go_simp;try with_reducible rfl) ?_;refine eY 8 rfl (by kernel_rfl) hH (by rfl) (by intro wv hSw;have e10:=CX.out wv hSw;have c9:=CY.out wv hSw;go_simp;try with_reducible rfl) ?_;refine eY 9 rfl (by kernel_rfl) hH (by rfl) (by intro wv hSw;have e10:=CX.out wv hSw;have c9:=CY.out wv hSw;go_simp;try with_reducible rfl) ?_;try simp only [Act.put,jD3,jD4,jD5]
        obtain ⟨y0,hy0⟩:∃ y0,y0=wr.drew:=⟨_,rfl⟩;have MG:jGj wr.heap.size wr y0:=by rw [hy0];exact (jD7 _ _).drew
        rw [<- hy0] at hH;rw [<- hy0];clear hy0;refine fH (i:=3) rfl (by kernel_rfl) (fun KQ hK=>?_);go_simp;go_at_call 49
        (with_reducible refine (Qm ⟨#[97,108,105,103,110]⟩ AL y0).mono ?_)
        rintro e y1 ⟨aZ,v2,rfl,hrow2⟩;obtain ⟨a2,m2,c2,rfl⟩:=hrow2.slice3;have Gw:=MG.trans (hrow2.aM.mono MG.size);have Qn:=hid (show Rd (wr.heap.size<=·) y1 (q32 (bU zl AL)) [.slice a2 m2 c2] from hrow2.bZ.weaken (fun b hb=>jD9 MG.size hb));have B1:jGj W0.heap.size W0 y1:=HB.out.trans (Gw.mono HB.out.size);clear hrow2;refine hK.out _ _ (fun _ _=>B1) (fun hH2=>?_);clear hK KQ hH;have hH:=hH2 (by decide) (by kernel_rfl);clear hH2;try simp only [Act.put,jD3,jD4,jD5]
        refine fH (i:=10) rfl (by kernel_rfl) (fun KQ hK=>?_);go_simp;go_at_call 142
        (with_reducible refine (NC.out y1 B1).mono ?_)
        rintro e y2 ⟨dD,v3,rfl,hrow3⟩;obtain ⟨a3,n3,c3,rfl⟩:=hrow3.slice3;have Xe:=Gw.trans (hrow3.aM.mono Gw.size);have PR2:=hid (Qn.out.bC hrow3.aM);have KS2:=hid (show Rd (wr.heap.size<=·) y2 (gD (dQ sN)) [.slice a3 n3 c3] from hrow3.bZ.weaken (fun b hb=>jD9 Gw.size hb));have B2:jGj W0.heap.size W0 y2:=HB.out.trans (Xe.mono HB.out.size);clear hrow3;refine hK.out _ _ (fun _ _=>B2) (fun hH2=>?_);clear hK KQ hH;have hH:=hH2 (by decide) (by kernel_rfl);clear hH2;try simp only [Act.put,jD3,jD4,jD5]
        refine fH (i:=11) rfl (by kernel_rfl) (fun KQ hK=>?_);go_simp;go_at_call 48
        (with_reducible refine (nU name a2 a3 m2 n3 c2 c3 y2).mono ?_)
        rintro e y3 ⟨rfl,b3⟩;have B3r:=Xe.trans (b3.mono Xe.size);have B3:jGj W0.heap.size W0 y3:=HB.out.trans (B3r.mono HB.out.size);have XD:=hid (show Rd (fun b=>False\/wr.heap.size<=b) y3 (aJ name (bU zl AL) (dQ sN)).d [.string name,.string ⟨#[]⟩,.slice a2 m2 c2,.slice a3 n3 c3] from (Nd.dJ name ⟨#[]⟩ ⟨PR2.out.bC b3,KS2.out.bC b3⟩).weaken (fun b hb=>.inr hb));have U3:=hid (bg.out.below B3r);clear b3;refine hK.out _ _ (fun _ _=>B3) (fun hH2=>?_);clear hK KQ hH;have hH:=hH2 (by decide) (by kernel_rfl);clear hH2;try simp only [Act.put,jD3,jD4,jD5]
        refine fH (i:=12) rfl (by kernel_rfl) (fun KQ hK=>?_);go_simp;refine hK.out _ _ (fun _ _=>B3.alloc B3.size _) (fun hH2=>?_);clear hK KQ hH;have hH:=hH2 (by decide) (by kernel_rfl);clear hH2;try simp only [Act.put,jD3,jD4,jD5]
        refine fH (i:=13) rfl (by kernel_rfl) (fun KQ hK=>?_);refine lq rfl (.tmp 26) (.tmp 38) 28 rfl iN _ 80 Tryz.underlying28 qB fC fD fE rfl (by decide) U3.out (fun _=>False.elim) (aJ name (bU zl AL) (dQ sN)).d [.string name,.string ⟨#[]⟩,.slice a2 m2 c2,.slice a3 n3 c3] XD.out rfl Fz HM.out (by omega) (by decide) rfl rfl ?_;intro a5 c5 w5 aX hg5;have B5:jGj W0.heap.size W0 w5:=aX.aM;have HF:Hid (Sj W0 name letters.data.toList ks (.slice a5 (m+1) c5) (.int .i64 ((j+1:Nat):Int)) w5):=⟨j+1,_,by have:=uy.out;omega,rfl,by rw [gV.out];exact aX⟩;clear aX hg5;refine hK.out _ _ (fun _ _=>B5) (fun hH2=>?_);clear hK KQ hH;have hH:=hH2 (by decide) (by kernel_rfl);clear hH2;try simp only [Act.put,jD3,jD4,jD5]
        refine fH (i:=14) rfl (by kernel_rfl) (fun KQ hK=>?_);go_simp;refine hK.out _ _ (fun h=>absurd rfl h) (fun _=>?_);clear hK KQ hH;try simp only [Act.put,jD3,jD4,jD5]
        refine Om (by kernel_rfl) ?_ _;clear XD U3 PR2 Qn KS2;go_wp2;go_roundw;case rel=>exact HF.out
        case measure=>simp [intOf];omega
    · have hkl:j=nk:=by have:=uy.out;omega
      have hjk:j=ks.length:=by have:=uy.out;omega
      have hll:letters.data.toList.length=letters.size:=by simp
      have HNR:Hid (gZ (W0.heap.size<=·) wr [] (gN name letters.data.toList ks) (.slice none 0 0) (.slice av m cv)):=by have h:=bg.out.bZ;rw [mZ.out,jEj (by rw [hll];have:=Gz.out;omega),jEj (by omega)] at h;exact ⟨Rd.aC _ _ _,h⟩
      have EC:=hid (nU ⟨#[116,114]⟩ none av 0 m 0 cv wr);clear hll hjk;go_wp2_with fail
      (with_reducible refine EC.out.mono ?_)
      rintro e w3 ⟨rfl,b3⟩;have BL:=hid (q01 HB.out b3);have HN3:=hid (show gZ (W0.heap.size<=·) w3 [] (gN name letters.data.toList ks) (.slice none 0 0) (.slice av m cv) from ⟨Rd.aC _ _ _,HNR.out.ks.bC b3⟩);obtain ⟨x0,x1,x2,x3,xf⟩:=qC (K1.out.below BL.out);obtain ⟨w9,dn⟩:∃ w9,w9=kX w3 (S+1) (.string ⟨#[116,114]⟩) (.string ⟨#[]⟩) (.slice none 0 0) (.slice av m cv):=⟨_,rfl⟩;have hf:=vL ⟨#[116,114]⟩ ⟨#[]⟩ [] (gN name letters.data.toList ks) AO.out Z0.out B0.out K1.out BL.out HN3.out;rw [<- dn] at hf;have yQ:=hid hf.1;have yR:=hid hf.2;clear hf b3;have hw8:=dn;simp only [kX] at hw8;clear dn;go_wp2;rw [<- hw8];have r0:=yQ.out.cell 0 _ rfl;have r1:=yQ.out.cell 1 _ rfl;have r2:=yQ.out.cell 2 _ rfl;have r3:=yQ.out.cell 3 _ rfl;exact bodyPost_ret (v:=.agg #[.string ⟨#[116,114]⟩,.string ⟨#[]⟩,.slice none 0 0,.slice av m cv]) (by simp [results,Tryz.results185,go_sem,r0,r1,r2,r3]) rfl yR.out
open Go.RowKit
theorem aF.JX {w w5:jG9} {x:Nd} {c0 c1 c2 c3:jGk} (hb:jGj w.heap.size w w5) (hx:Rd (w.heap.size<=·) w5 x.d [c0,c1,c2,c3]) : aF 35 4 (fun _=>False) (w5.alloc (.cells #[c0,c1,c2,c3] 35)).heap.size w [x.d] [[c0,c1,c2,c3]] (.slice (some ⟨w5.heap.size,0,none⟩) 1 1) (w5.alloc (.cells #[c0,c1,c2,c3] 35)):=by have hz:(w5.alloc (.cells #[c0,c1,c2,c3] 35)).heap.size=w5.heap.size+1:=World.size_alloc _ _;have hs:=hb.size;have hc:CB 35 w5.heap.size [c0,c1,c2,c3] (w5.alloc (.cells #[c0,c1,c2,c3] 35)):=CB.new _ _ w5;refine ⟨ze (MX hc rfl) hs,aR.one (Rd.keep (fun b hk hlt=>⟨⟨.inr hk,fun e=>by have:=jl3 e;omega,by omega⟩,jE2 w5 _ b hlt⟩) _ _ hx),by simp,hb.alloc hs _,fun g hg=>by have:=jl3 hg;omega,by omega,jD8 _⟩
end Go.Proofs.YtkfnkeflalcphaaGreatDoor

