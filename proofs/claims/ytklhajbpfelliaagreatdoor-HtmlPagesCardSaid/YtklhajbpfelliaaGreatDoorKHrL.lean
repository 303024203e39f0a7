/- Contract of publisherref34.nodes: the nodes of inlines; plain part: the classes of well-formed inlines are not empty. Contracts of html.unresolved and publisherref34.unresolved. Contract of html.table: the node of a table. A literal of two nodes; what Page leaves. Contract of publisherref34.row. A literal of one node, whose data are newer than a world, is a row of one's own since that world. -/
import Derived.Test.YtklhajbpfelliaaGreatDoorKHrO
import Derived.Test.YtklhajbpfelliaaGreatDoorKHtR
set_option maxHeartbeats 8000000
set_option maxRecDepth 100000
open Go.Lib (hid)
namespace Go.Proofs.YtklhajbpfelliaaGreatDoor
open Go.Proofs.Tryz
open List renaming setIfInBounds_toArray->jF6,set_cons_zero->jF7,set_cons_succ->jF8,getElem?_eq_getElem->jF9,length_map->jG1,mem_of_getElem?->jG7,take_of_length_le->jGx
open Go.RowKit.Below renaming refl->jFj,heap_alloc->jG5
open Nat renaming le_refl->jFk,le_trans->jFq
open Option.some renaming inj->jG3
open Go renaming World->jIq,Value->jIz
open Go.RowKit renaming Below->jIx
open Go.RowKit
set_option linter.unusedVariables false
set_option linter.unusedSimpArgs false
mutual
def aj.cf:aj->Prop
  | .mk k t d ti a ar ci ks=>(∀ c∈a.cls,bq c=false)/\aj.WK ks
def aj.WK:List aj->Prop
  | []=>True
  | x::l=>x.cf/\aj.WK l
end
theorem aj.Nh:∀ (l:List aj),aj.WK l->∀ x∈l,x.cf
  | [],_,x,hx=>by cases hx
  | y::l,h,x,hx=>by
    rw [aj.WK] at h;rcases List.mem_cons.1 hx with rfl | hx
    ·exact h.1
    ·exact aj.Nh l h.2 x hx
theorem aG.elder {T:TypeId} {k U:Nat} {ok:Nat->Prop} {w0 wb w:jIq} {ds:List D} {rows:List (List jIz)} {v:jIz} (h:aG T k ok U w0 ds rows v w) (hok:∀ b,ok b->wb.heap.size<=b) (hs:wb.heap.size<=w0.heap.size) (hb:jIx wb.heap.size wb w):aG T k (fun _=>False) U wb ds rows v w:=
  ⟨zo h.own hs,aU.keep (fun b hb _=>⟨⟨.inr (by rcases hb.1 with h1 | h1;exact hok b h1;omega),hb.2.1,hb.2.2⟩,rfl⟩) _ _ h.red,h.len,hb,h.oU,jFq hs h.GK,h.J6⟩
def SL (w:jIq) (N:List Nd) (v vi:jIz) (wr:jIq):Prop:=
  ∃ (k:Nat) (rows:List (List jIz)),k<=N.length/\vi=.int .i64 k/\aG 30 4 (fun _=>False) wr.heap.size w ((N.take k).map Nd.d) rows v wr
theorem q35 (n:Nat):∀ (l:List aj) (v:jIz) (w:jIq),aj.aY l<=n->n<=1000000->Rd (·<w.heap.size) w (bJ l) [v]->aj.aC l->aj.WK l -> Calls prog 105 #[v] w (aQ w (dV l)):=by
  induction n using Nat.strongRecOn with
  | _ n ih=>
    intro l v w hn hnm hrd hsm hcf;obtain ⟨iN,qG,fF,fG,fH⟩:=info_parts iE;obtain ⟨a,cap,hv,hs⟩:=Rd.ay hrd;obtain rfl:v=.slice a l.length cap:=by simpa using hv
    refine ja8 ?_;intro hcap hll hmx N hN hNl;have hNt:∀ x∈N,x.tx.size<=300:=by exact ja9
    have R0:Hid (SL w N (.slice none 0 0) (.int .i64 0) w):=⟨0,[],Nat.zero_le _,rfl,aG.nil _ _ _ _⟩;have HS:=hid hs;have IH:=hid ih;have dw:=hid hsm;have Gb:=hid hcf;have HN:=hid hN;have G7:=hid hNl;have HNT:=hid hNt;have HJN:Hid (dV l=BS N):=by show _=_;rw [hN];rfl
    clear hs hv hrd ih hsm hcf hN hNl hNt;go_enter func105,ntmps105;go_wp2
    go_loopw [3,4] (fun v vi wr=>SL w N v vi wr) (fun _ i _=>l.length-(intOf i).toNat)
    case atStart=>exact R0.out
    case round=>
      clear R0;obtain ⟨k,rows,hk,rfl,hrow⟩:=hrel;rw [G7.out] at hk;obtain ⟨ds,hds⟩:∃ ds,ds=(N.take k).map Nd.d:=⟨_,rfl⟩;rw [<- hds] at hrow;have hdn:ds.length=k:=by rw [hds,jG1,List.length_take,G7.out];omega
      have nC:=hid hds;have HDN:=hid hdn;obtain ⟨av,cv,rfl,-,-⟩:=hrow.cap hdn;have bE:=hid hrow;have hbel:=hrow.aO;clear hrow hdn hds;by_cases hlt:k<l.length
      ·refine jc ?_;intro x hx;have hNk:N[k]?=some x.nd:=by rw [HN.out,pF,List.getElem?_map,hx];rfl
       have HX:=hid (jl Nd.d N k x.nd hNk);rw [<- nC.out] at HX;have hxs:=aj.l8 l dw.out x (jG7 hx);have hxc:=aj.Nh l Gb.out x (jG7 hx);have hsz:=aj.bI l k _ hx;obtain ⟨X,hX⟩:∃ X,X=x.nd:=⟨_,rfl⟩;rw [<- hX] at HX;obtain ⟨kd,t,d,ti,at_,ar,ci,ks⟩:=x;obtain ⟨g,off,vc,vp,va,vi,vk,rfl,hok,hbl,hc,hR⟩:=MC HS.out hx;obtain ⟨c0,c1,c2,c3,c4,c5,c6,c7,c8,c9⟩:=hc.below hbel;rw [aj.sz] at hsz;obtain ⟨ac,nc,cc,rfl⟩:=Rd.au hR.at_.cls
       obtain ⟨ap,np,cp,rfl⟩:=Rd.au hR.at_.aF
       obtain ⟨aa,na,ca,rfl⟩:=Rd.au hR.args;obtain ⟨ai,ni,mR,rfl⟩:=Rd.au hR.fC;obtain ⟨ak,nk,ck,rfl⟩:=Rd.au hR.kids;have RZ:=hR.ja6 hbel hbel.size;have jm8:=hxs;rw [aj.small] at jm8;rw [aj.cf] at hxc;have LC:zq wr ks (.slice ak nk ck):=fun W hW=>IH.out (aj.aY ks) (by omega) ks _ W (jFk _) (by omega) (RZ.kids.up hW) jm8.2.2.2.2.2.2.2.2 hxc.2
       have OC:=XH kd t d ti at_ ar ci ks _ _ _ _ _ wr RZ hxs LC hxc.1 (by omega)
       rw [<- hX] at OC;have OL:=hid OC;have hkk:k<=10000000:=by omega
       have hwz:=hbel.size;clear hc hok hbl hR hX hxs jm8 hxc hNk hx RZ LC OC;go_wp2_with fail
       (with_reducible refine OL.out.mono ?_)
       rintro e w1 ⟨vA,vK,rfl,WG,b1⟩;obtain ⟨aA,nA,cA,rfl⟩:=Rd.au WG.at_
       obtain ⟨aK,nK,cK,rfl⟩:=Rd.au WG.ks;obtain ⟨nm,tx,XA,XK⟩:=X;dsimp only [Nd.nm,Nd.tx,Nd.at_,Nd.ks] at WG;dsimp only [Nd.nm,Nd.tx];have U1:=hid (bE.out.below b1);have XD:=hid (show Rd (fun b=>False\/wr.heap.size<=b) w1 (Nd.mk nm tx XA XK).d [.string nm,.string tx,.slice aA nA cA,.slice aK nK cK] from (Nd.dJ nm tx WG).weaken (fun b hb=>.inr hb));clear WG b1 OL hbel c0 c1 c2 c3 c4 c5 c6 c7 c8 c9;go_wp2_with (at_builtin;refine OP (n:=k) rfl _ _ 28 rfl iN _ 80 underlying28 qG fF fG fH rfl (by decide) U1.out (fun _=>False.elim) (Nd.mk nm tx XA XK).d [.string nm,.string tx,.slice aA nA cA,.slice aK nK cK] XD.out rfl F9 HDN.out hkk (by decide) rfl rfl ?_)
       intro a' c' w5 bC hg5;have HF:Hid (SL w N (.slice a' (k+1) c') (.int .i64 ((k+1:Nat):Int)) w5):=by rw [<- HX.out] at bC;exact ⟨k+1,_,by rw [G7.out];omega,rfl,bC⟩
       clear bC hg5;exact gN
      ·have hkl:k=l.length:=by omega
       subst hkl;have hrd:Rd (w.heap.size<=·) wr (gH N) [.slice av l.length cv]:=by have h:=bE.out.cu;rw [nC.out,jGx (by rw [G7.out];exact jFk _)] at h;exact h
       have JC:=hid (Hg w.heap.size N (.slice av l.length cv) wr hrd (by rw [G7.out];omega) HNT.out);have HB:=hid hbel;clear hrd hbel;go_wp2_with fail
       (with_reducible refine JC.out.mono ?_)
       rintro e w3 ⟨dH,v3,rfl,hrow3⟩;have HF:Hid (aQ w (dV l) (.returned v3) w3):=by rw [HJN.out];exact ⟨dH,v3,rfl,hrow3.elder (fun b hb=>hb.1) HB.out.size (HB.out.trans (hrow3.aO.mono HB.out.size))⟩
       clear hrow3 JC;go_wp2;go_ret;exact HF.out
open Go.RowKit
def Ni (w:jIq) (l:List aj) (vi:jIz) (wr:jIq):Prop:=∃ k:Nat,k<=l.length/\vi=.int .i64 k/\(l.take k).any eB=false/\jIx w.heap.size w wr
def Kv (w:jIq) (b:Bool) (e:Ending) (w':jIq):Prop:=e=.returned (.bool b)/\jIx w.heap.size w w'
theorem qI {l:List aj} {k:Nat} {x:aj} (hx:l[k]?=some x) (h:eB x=true):l.any eB=true:=List.any_eq_true.2 ⟨x,jG7 hx,h⟩
theorem sQ {l:List aj} {k:Nat} {x:aj} (hx:l[k]?=some x) (h:eB x=false) (hk:(l.take k).any eB=false):(l.take (k+1)).any eB=false:=by rw [List.take_add_one,hx,List.any_append,hk];simp [h]
theorem jb7{P:Prop}(h:P:=by
 have QC:(kd==15)=false:=by rw [beq_eq_false_iff_ne];exact qE
 have q13:(kd==13)=false:=by rw [beq_eq_false_iff_ne];exact h13
 have q14:(kd==14)=false:=by rw [beq_eq_false_iff_ne];exact Jz
 have q9:(kd==9)=false:=by rw [beq_eq_false_iff_ne];exact h9
 have q10:(kd==10)=false:=by rw [beq_eq_false_iff_ne];exact h10
 have HT:=hid (sQ HX.out (show eB (aj.mk kd t d ti at_ ar ci ks)=false by unfold eB;simp [qE,h13,Jz,h9,h10]) HK.out);clear HX HK qE h13 Jz h9 h10 qe;go_wp2;go_roundw;case rel=>exact ⟨k+1,by omega,by go_num,HT.out,EK.out⟩
 case measure=>simp [intOf];omega):P:=h
theorem Nj{P:Prop}(h:P:=by
 go_wp2;go_roundw;case rel=>exact ⟨k+1,by omega,by go_num,HT.out,EK.out⟩
 case measure=>simp [intOf];omega):P:=h
theorem Nk{P Q:Prop}(q:Q)(h:Nonempty Q->P:=by
 intro qQ;have q1:t.toList.isEmpty=true:=by rw [qe];exact ht
 have q2:t.toList=[]:=by rw [List.isEmpty_iff] at q1;exact q1
 revert q1 q2;exact qQ.elim fun x=>x):P:=h ⟨q⟩
theorem Ht{P:Prop}(h:P:=by
 go_wp2;go_ret;exact ⟨by rw [HT.out];rfl,EK.out⟩):P:=h
theorem zu (l:List aj) (ok:Nat->Prop) (v:jIz) (w:jIq) (hrd:Rd ok w (bJ l) [v]):Calls prog 26 #[v] w (Kv w (l.any eB)):=by
  obtain ⟨a,cap,hv,hs⟩:=Rd.ay hrd;obtain rfl:v=.slice a l.length cap:=by simpa using hv
  refine qJ ?_;intro hcap hmx HS;have R0:Hid (Ni w l (.int .i64 0) w):=⟨0,Nat.zero_le _,rfl,by simp,jFj _ _⟩;clear hs hv hrd;go_enter func26,ntmps26;go_wp2
  go_loopw [7] (fun vi wr=>Ni w l vi wr) (fun i _=>l.length-(intOf i).toNat)
  case atStart=>exact R0.out
  case round=>
    clear R0;obtain ⟨k,hk,rfl,hany,hbel⟩:=hrel;have HK:=hid hany;clear hany;by_cases hlt:k<l.length
    ·refine jc ?_;intro x hx;obtain ⟨kd,t,d,ti,at_,ar,ci,ks⟩:=x;obtain ⟨g,off,vc,vp,va,vi,vk,rfl,hok,hbl,hc,hR⟩:=MC HS.out hx;obtain ⟨c0,c1,c2,c3,c4,c5,c6,c7,c8,c9⟩:=hc.below hbel;obtain ⟨ac,nc,cc,rfl⟩:=Rd.au hR.at_.cls
     obtain ⟨ap,np,cp,rfl⟩:=Rd.au hR.at_.aF
     obtain ⟨aa,na,ca,rfl⟩:=Rd.au hR.args;obtain ⟨ai,ni,mR,rfl⟩:=Rd.au hR.fC;obtain ⟨ak,nk,ck,rfl⟩:=Rd.au hR.kids;have HX:=hid hx;have qe:=QM t;refine Sg ?_;intro p hp wA iH PA;have EK:Hid (jIx w.heap.size w wA):=by rw [iH];exact hbel.alloc hbel.size _
     clear hc hok hbl hR hx hbel;go_upto_region 4 with (fail)
     rw [<- iH,<- hp];obtain ⟨e0,e1,-,-,-,-,-,-,-,-⟩:=Kn PA;clear iH hp PA c0 c1 c2 c3 c4 c5 c6 c7 c8 c9;by_cases qE:kd=15
     ·subst qE;have HT:=hid (qI HX.out (show eB (aj.mk 15 t d ti at_ ar ci ks)=true by unfold eB;simp));clear HX;exact Ht
     by_cases h13:kd=13
     ·subst h13;have HT:=hid (qI HX.out (show eB (aj.mk 13 t d ti at_ ar ci ks)=true by unfold eB;simp));clear HX;exact Ht
     by_cases Jz:kd=14
     ·subst Jz;have HT:=hid (qI HX.out (show eB (aj.mk 14 t d ti at_ ar ci ks)=true by unfold eB;simp));clear HX;exact Ht
     by_cases h9:kd=9
     ·subst h9;cases ht:bq t
      ·have q1:t.toList.isEmpty=false:=by rw [qe];exact ht
       have HT:=hid (qI HX.out (show eB (aj.mk 9 t d ti at_ ar ci ks)=true by unfold eB;simp [ht]));clear HX ht qe;exact Ht
      ·refine Nk ?_;intro q1 q2;have HT:=hid (sQ HX.out (show eB (aj.mk 9 t d ti at_ ar ci ks)=false by unfold eB;simp [ht]) HK.out);clear HX HK ht qe;exact Nj
     by_cases h10:kd=10
     ·subst h10;cases ht:bq t
      ·have q1:t.toList.isEmpty=false:=by rw [qe];exact ht
       have HT:=hid (qI HX.out (show eB (aj.mk 10 t d ti at_ ar ci ks)=true by unfold eB;simp [ht]));clear HX ht qe;exact Ht
      ·refine Nk ?_;intro q1 q2;have HT:=hid (sQ HX.out (show eB (aj.mk 10 t d ti at_ ar ci ks)=false by unfold eB;simp [ht]) HK.out);clear HX HK ht qe;exact Nj
     exact jb7
    ·have hkl:k=l.length:=by omega
     have HT:Hid (l.any eB=false):=by
       have h:=HK.out
       rwa [hkl,List.take_length] at h
     clear hkl;go_wp2;go_ret;exact ⟨by rw [HT.out];rfl,hbel⟩
theorem Hu{P:Prop}(h:P:=by
 go_wp2;go_ret;exact ⟨by rw [HT.out];rfl,q01 HB0.out EK.out⟩):P:=h
theorem y9 (l0:List aj) (v0:jIz) (w0:jIq) (jm9:Rd (·<w0.heap.size) w0 (bJ l0) [v0]) (hsz:aj.aY l0<=1000000):Calls prog 43 #[v0] w0 (Kv w0 (jH l0)):=by
  obtain ⟨a0,n0,c0,rfl⟩:=Rd.au jm9;have DC:=hid (Hw _ l0 w0.heap.size _ w0 (jFk _) hsz jm9 (jFk _));have hue:jH l0=(aj.aS l0).any eB:=rfl;rw [hue];obtain ⟨l,hl⟩:∃ l,l=aj.aS l0:=⟨_,rfl⟩;rw [<- hl] at DC ⊢;clear hue hl jm9;go_enter func43,ntmps43;go_wp2_with fail
  (with_reducible refine DC.out.mono ?_)
  rintro e w ⟨v,rows,rfl,hrow⟩;have hrd:Rd (fun _=>True) w (bJ l) [v]:=Rd.fM hrow.own (aU.keep (fun b _ _=>⟨trivial,rfl⟩) _ _ hrow.red) hrow.len (fun _ _=>trivial);have HB0:=hid hrow.aO;obtain ⟨a,cap,hv,hs⟩:=Rd.ay hrd;obtain rfl:v=.slice a l.length cap:=by simpa using hv
  refine qJ ?_;intro hcap hmx HS;have R0:Hid (Ni w l (.int .i64 0) w):=⟨0,Nat.zero_le _,rfl,by simp,jFj _ _⟩;clear hs hv hrd hrow DC;go_wp2
  go_loopw [4] (fun vi wr=>Ni w l vi wr) (fun i _=>l.length-(intOf i).toNat)
  case atStart=>exact R0.out
  case round=>
    clear R0;obtain ⟨k,hk,rfl,hany,hbel⟩:=hrel;have HK:=hid hany;clear hany;by_cases hlt:k<l.length
    ·refine jc ?_;intro x hx;obtain ⟨kd,t,d,ti,at_,ar,ci,ks⟩:=x;obtain ⟨g,off,vc,vp,va,vi,vk,rfl,hok,hbl,hc,hR⟩:=MC HS.out hx;obtain ⟨c0,c1,c2,c3,c4,c5,c6,c7,c8,c9⟩:=hc.below hbel;obtain ⟨ac,nc,cc,rfl⟩:=Rd.au hR.at_.cls
     obtain ⟨ap,np,cp,rfl⟩:=Rd.au hR.at_.aF
     obtain ⟨aa,na,ca,rfl⟩:=Rd.au hR.args;obtain ⟨ai,ni,mR,rfl⟩:=Rd.au hR.fC;obtain ⟨ak,nk,ck,rfl⟩:=Rd.au hR.kids;have HX:=hid hx;have qe:=QM t;refine Sg ?_;intro p hp wA iH PA;have EK:Hid (jIx w.heap.size w wA):=by rw [iH];exact hbel.alloc hbel.size _
     clear hc hok hbl hR hx hbel;go_upto_region 6 with (fail)
     rw [<- iH,<- hp];obtain ⟨e0,e1,-,-,-,-,-,-,-,-⟩:=Kn PA;clear iH hp PA c0 c1 c2 c3 c4 c5 c6 c7 c8 c9;by_cases qE:kd=15
     ·subst qE;have HT:=hid (qI HX.out (show eB (aj.mk 15 t d ti at_ ar ci ks)=true by unfold eB;simp));clear HX;exact Hu
     by_cases h13:kd=13
     ·subst h13;have HT:=hid (qI HX.out (show eB (aj.mk 13 t d ti at_ ar ci ks)=true by unfold eB;simp));clear HX;exact Hu
     by_cases Jz:kd=14
     ·subst Jz;have HT:=hid (qI HX.out (show eB (aj.mk 14 t d ti at_ ar ci ks)=true by unfold eB;simp));clear HX;exact Hu
     by_cases h9:kd=9
     ·subst h9;cases ht:bq t
      ·have q1:t.toList.isEmpty=false:=by rw [qe];exact ht
       have HT:=hid (qI HX.out (show eB (aj.mk 9 t d ti at_ ar ci ks)=true by unfold eB;simp [ht]));clear HX ht qe;exact Hu
      ·refine Nk ?_;intro q1 q2;have HT:=hid (sQ HX.out (show eB (aj.mk 9 t d ti at_ ar ci ks)=false by unfold eB;simp [ht]) HK.out);clear HX HK ht qe;exact Nj
     by_cases h10:kd=10
     ·subst h10;cases ht:bq t
      ·have q1:t.toList.isEmpty=false:=by rw [qe];exact ht
       have HT:=hid (qI HX.out (show eB (aj.mk 10 t d ti at_ ar ci ks)=true by unfold eB;simp [ht]));clear HX ht qe;exact Hu
      ·refine Nk ?_;intro q1 q2;have HT:=hid (sQ HX.out (show eB (aj.mk 10 t d ti at_ ar ci ks)=false by unfold eB;simp [ht]) HK.out);clear HX HK ht qe;exact Nj
     exact jb7
    ·have hkl:k=l.length:=by omega
     have HT:Hid (l.any eB=false):=by
       have h:=HK.out
       rwa [hkl,List.take_length] at h
     clear hkl;go_wp2;go_ret;exact ⟨by rw [HT.out];rfl,q01 HB0.out hbel⟩
open Go.RowKit
structure TbW (i:ByteArray) (ks:List ah):Prop where
  ne:ks≠[]
  len:ks.length<=900000
  row:∀ r∈ks,r.kids.length=i.size/\r.kids.length<=1000000/\∀ c∈r.kids,LnW c.kV
theorem eT.sK {ok ok':Nat->Prop} {w w':jIq} {a:At} {li:List aj} {ks:List ah} {vc vp vl vk:jIz} (h:eT ok w a li ks vc vp vl vk) (hs:sP ok ok' w w'):eT ok' w' a li ks vc vp vl vk:=
  ⟨⟨Rd.keep hs _ _ h.at_.cls,Rd.keep hs _ _ h.at_.aF⟩,Rd.keep hs _ _ h.line,Rd.keep hs _ _ h.kids⟩
structure Dl (W0:jIq) (q:Option Nat) (w:jIq) (d:D) (vs:List jIz):Prop where
  aO:jIx W0.heap.size W0 w
  cb:∀ p,q=some p->W0.heap.size<=p/\CB 30 p Gc w
  rd:Rd (fun b=>W0.heap.size<=b/\some b≠q) w d vs
theorem Dl.far {W0 w w':jIq} {q:Option Nat} {d:D} {vs:List jIz} (h:Dl W0 q w d vs) (hb:jIx w.heap.size w w'):Dl W0 q w' d vs:=
  ⟨h.aO.trans (hb.mono h.aO.size),fun p hp=>⟨(h.cb p hp).1,(h.cb p hp).2.below hb⟩,h.rd.aX hb⟩
theorem Dl.nd {W0 w w':jIq} {q:Option Nat} {d d':D} {vs vs':List jIz} (h:Dl W0 q w d vs) (hb:jIx w.heap.size w w') (hr:Rd (w.heap.size<=·) w' d' vs'):Dl W0 q w' d' vs':=
  ⟨(h.far hb).aO,(h.far hb).cb,hr.weaken (fun b hk=>⟨jFq h.aO.size hk,fun e=>by have:=(h.cb b e.symm).2.lt;omega⟩)⟩
theorem Dl.zero {W0 w:jIq} {d:D} {vs:List jIz} (h:Dl W0 none w d vs):Dl W0 (some w.heap.size) (w.alloc (.cells #[.string ⟨#[]⟩,.string ⟨#[]⟩,.slice none 0 0,.slice none 0 0] 30)) d vs:=by refine ⟨h.aO.alloc h.aO.size _,fun p hp=>?_,Rd.keep (fun b hb hlt=>⟨⟨hb.1,fun e=>by have:=jG3 e;omega⟩,jG5 w _ b hlt⟩) _ _ h.rd⟩;obtain rfl:=jG3 hp;exact ⟨h.aO.size,CB.new _ Gc w⟩
theorem Nl {w:jIq} {g:Nat} {cs:List jIz} (h:CB 30 g cs w) (hl:cs.length=4):w.ownsRow g 30 4 (.slice (some ⟨g,0,none⟩) 1 1) 1 ([cs]:List (List jIz)).flatten:=by
  refine ⟨by simp [hl],.inr ⟨g,1,cs.toArray,rfl,jFk _,h,by simp,by unfold maxLen;omega,?_,?_⟩⟩
  ·simp [hl]
  ·rw [<- hl];simp
theorem Dl.lit {W0 w:jIq} {q:Option Nat} {x:Nd} {c0 c1 c2 c3:jIz} (h:Dl W0 q w x.d [c0,c1,c2,c3]):Dl W0 q (w.alloc (.cells #[c0,c1,c2,c3] 30)) (gH [x]) [.slice (some ⟨w.heap.size,0,none⟩) 1 1]:=by
  have hb:jIx w.heap.size w (w.alloc (.cells #[c0,c1,c2,c3] 30)):=(jFj _ _).alloc (jFk _) _;have h2:=h.far hb;refine ⟨h2.aO,h2.cb,Rd.fM (l:=[x.d]) (rows:=[[c0,c1,c2,c3]]) (Nl (CB.new _ [c0,c1,c2,c3] w) rfl) (aU.one h2.rd) (by simp) (fun g hg=>?_)⟩;have e1:w.heap.size=g:=by simpa [Value.ownBlock] using hg
  exact ⟨by rw [<- e1];exact h.aO.size,fun e=>by have:=(h.cb g e.symm).2.lt;omega⟩
theorem Dl.el {W0 w w':jIq} {q:Option Nat} {ks:List Nd} {v:jIz} (h:Dl W0 q w (gH ks) [v]) (hb:jIx w.heap.size w w') (n:ByteArray):Dl W0 q w' (aH n [] ks).d [.string n,.string ⟨#[]⟩,.slice none 0 0,v]:=
  ⟨(h.far hb).aO,(h.far hb).cb,Nd.dJ n ⟨#[]⟩ ⟨Rd.aD _ _ _,(h.far hb).rd⟩⟩
structure XI (W0:jIq) (q:Option Nat) (g:Nat) (w:jIq) (d:D) (cs:List jIz):Prop where
  aO:jIx W0.heap.size W0 w
  cb:∀ p,q=some p->W0.heap.size<=p/\CB 30 p Gc w
  hg:W0.heap.size<=g/\some g≠q
  cg:CB 30 g cs w
  rd:Rd (fun b=>(W0.heap.size<=b/\some b≠q)/\b≠g) w d cs
theorem XI.far {W0 w w':jIq} {q:Option Nat} {g:Nat} {d:D} {vs:List jIz} (h:XI W0 q g w d vs) (hb:jIx w.heap.size w w'):XI W0 q g w' d vs:=
  ⟨h.aO.trans (hb.mono h.aO.size),fun p hp=>⟨(h.cb p hp).1,(h.cb p hp).2.below hb⟩,h.hg,h.cg.below hb,h.rd.aX hb⟩
theorem XI.zero {W0 w:jIq} {g:Nat} {d:D} {vs:List jIz} (h:XI W0 none g w d vs):XI W0 (some w.heap.size) g (w.alloc (.cells #[.string ⟨#[]⟩,.string ⟨#[]⟩,.slice none 0 0,.slice none 0 0] 30)) d vs:=by refine ⟨h.aO.alloc h.aO.size _,fun p hp=>?_,⟨h.hg.1,fun e=>by have:=jG3 e;have:=h.cg.lt;omega⟩,h.cg.below ((jFj _ _).alloc (jFk _) _),Rd.keep (fun b hb hlt=>⟨⟨⟨hb.1.1,fun e=>by have:=jG3 e;omega⟩,hb.2⟩,jG5 w _ b hlt⟩) _ _ h.rd⟩;obtain rfl:=jG3 hp;exact ⟨h.aO.size,CB.new _ Gc w⟩
theorem Dl.jz4 {W0 w:jIq} {q:Option Nat} {x:Nd} {c0 c1 c2 c3:jIz} (h:Dl W0 q w x.d [c0,c1,c2,c3]):XI W0 q w.heap.size (w.alloc (.cells #[c0,c1,c2,c3] 30)) x.d [c0,c1,c2,c3]:=by have hb:jIx w.heap.size w (w.alloc (.cells #[c0,c1,c2,c3] 30)):=(jFj _ _).alloc (jFk _) _;have h2:=h.far hb;exact ⟨h2.aO,h2.cb,⟨h.aO.size,fun e=>by have:=(h.cb _ e.symm).2.lt;omega⟩,CB.new _ [c0,c1,c2,c3] w,Rd.keep (fun b hk hlt=>⟨⟨hk,by omega⟩,hb.block b hlt⟩) _ _ h.rd⟩
structure TbJ (W0:jIq) (q g:Nat) (w:jIq) (d:D) (cs:List jIz) (cq:List jIz):Prop where
  aO:jIx W0.heap.size W0 w
  hq:W0.heap.size<=q
  cq:CB 30 q cq w
  hg:W0.heap.size<=g/\g≠q
  cg:CB 30 g cs w
  rd:Rd (fun b=>W0.heap.size<=b/\b≠q/\b≠g) w d cs
theorem XI.put {W0 w:jIq} {g q:Nat} {d:D} {cs:List jIz} (h:XI W0 (some q) g w d cs) (c0 c1 c2 c3:jIz):TbJ W0 q g (jV w q c0 c1 c2 c3) d cs [c0,c1,c2,c3]:=by
  have h1:=(h.cb q rfl);have hgq:g≠q:=fun e=>h.hg.2 (by rw [e])
  exact ⟨rD h.aO h1.1 _ _ _ _,h1.1,EO h1.2 _ _ _ _,⟨h.hg.1,hgq⟩,(gq w q c0 c1 c2 c3 g hgq).trans h.cg,Rd.keep (fun b hb hlt=>⟨⟨hb.1.1,fun e=>hb.1.2 (by rw [e]),hb.2⟩,gq w q c0 c1 c2 c3 b (fun e=>hb.1.2 (by rw [e]))⟩) _ _ h.rd⟩
theorem TbJ.far {W0 w w':jIq} {q g:Nat} {d:D} {cs cq:List jIz} (h:TbJ W0 q g w d cs cq) (hb:jIx w.heap.size w w'):TbJ W0 q g w' d cs cq:=
  ⟨h.aO.trans (hb.mono h.aO.size),h.hq,h.cq.below hb,h.hg,h.cg.below hb,h.rd.aX hb⟩
section
variable {T:TypeId} {k:Nat} {ds:List D} {rows:List (List jIz)} {v:jIz} {w:jIq}
theorem Pg {n:Nat} {ops:Array Oper} {o:Oper} {a:Act} {K:Act->jIq->Prop} {Q:Exit->Act->jIq->Prop} {E:Prop} (hgd:o.guard=none) (s x:Operand) (t:TypeId) (ho:o.op=.call { callee:=.builtin .append,args:=#[s,x],argTypes:=#[t,t] }) (i:TypeInfo) (z:jIz) (bytes:Nat) (ht:prog.underlying t=some (.slice T)) (hi:prog.info? T=some i) (hz:i.zero=some z) (hsize:i.size=k) (hby:i.bytes=bytes) (hzs:z.cells.size=k) (hsz:0<k) {B:Nat} {P:Nat->Prop} (hown:w.ownsRow B T k v ds.length rows.flatten) (hB:B<=w.heap.size) (hrd:aU P w ds rows) (hlen:∀ r∈rows,r.length=k) (hP:∀ b,P b->v.ownBlock≠some b) (d:D) (r:List jIz) (hx:Rd P w d r) (hr:r.length=k) (h1:∀ u∈r,u.oneCell'=true) (hdn:ds.length=n) (hn:n<=10000000) (nV:bytes<=1000) (hs:a.eval s=v) (hxe:a.eval x=.slice (some ⟨w.heap.size,0,none⟩) 1 1) (hK:∀ a' c' w',Rd (fun b=>P b\/v.ownBlock=some b\/w.heap.size<=b) w' (.sl k (ds++[d])) [.slice a' (n+1) c']->(w.alloc (.cells r.toArray T)).grownBy w' v.ownBlock->K (a.put o.dst (.slice a' (n+1) c')) w') : if Region.wanted o (yielded ops a.tmps)=true then Oper.wp prog o a (w.alloc (.cells r.toArray T)) K Q else E:=by
  subst hdn;have hmul:(ds.length+1)*bytes<=140737488355328:=jFq (Nat.mul_le_mul (show ds.length+1<=10000001 by omega) nV) (by omega);refine step_append_lies _ hgd s x t ho B T i z k bytes ht hi hz hsize hby hzs hsz v ds.length rows.flatten hs (hown.alloc _) ⟨w.heap.size,0,none⟩ 1 1 r hxe (by omega) (GL w r T) h1 (by omega) (by unfold maxLen;omega) hmul (by simp;omega) (w.heap.size+1) (by simp) ?_;intro g cap w' hown hg hat _;have hh:∀ b,P b->b<w.heap.size->w'.heap[b]?=w.heap[b]?:=fun b hb hlt=>(hg.block b (by simp;omega) (fun e=>hP b hb e.symm)).trans (jG5 w _ b hlt)
  have xu:aU (fun b=>P b\/v.ownBlock=some b\/w.heap.size<=b) w' (ds++[d]) (rows++[r]):=aU.app (aU.keep (fun b hb hlt=>⟨.inl hb,hh b hb hlt⟩) _ _ hrd) (aU.one (Rd.keep (fun b hb hlt=>⟨.inl hb,hh b hb hlt⟩) _ _ hx));have sS:∀ q∈rows++[r],q.length=k:=fun q hq=>(List.mem_append.1 hq).elim (hlen q) (fun h=>by rw [List.mem_singleton.1 h];exact hr)
  have hown2:w'.ownsRow B T k (.slice (some ⟨g,0,none⟩) (ds.length+1) cap) (ds++[d]).length (rows++[r]).flatten:=by rw [List.length_append,List.length_singleton,List.flatten_append];simpa using hown
  refine hK _ _ w' (Rd.fM hown2 xu sS (fun g' hg'=>?_)) hg;have e1:g=g':=by simpa [Value.ownBlock] using hg'
  subst e1;exact hat.elim (fun e=>.inr (.inl e)) (fun e=>.inr (.inr (by omega)))
end
theorem jmj {g b n c:Nat} (h:(Value.slice (some ⟨g,0,none⟩) n c).ownBlock=some b):b=g:=by
  have e:g=b:=by simpa [Value.ownBlock] using h
  exact e.symm
def EP (w1:jIq) (i:ByteArray) (rs:List ah) (v vi:jIz) (wr:jIq):Prop:=
  ∃ (k:Nat) (rows:List (List jIz)),k<=rs.length/\vi=.int .i64 k/\aG 30 4 (fun _=>False) wr.heap.size w1 (((rs.take k).map (fE mO i)).map Nd.d) rows v wr
theorem Z6{P Q:Prop}(q:Q)(h:Nonempty Q->P:=by
 intro qQ;refine fq 0 rfl (by kernel_rfl) hH (by rfl) (by intro wv hSw;obtain ⟨e2,e10,c0,c1,c2,c3,c4,c5,c6,c7,c8,c9,c10⟩:=CX.out wv hSw;go_simp;try with_reducible rfl) ?_;refine fq 1 rfl (by kernel_rfl) hH (by rfl) (by intro wv hSw;obtain ⟨e2,e10,c0,c1,c2,c3,c4,c5,c6,c7,c8,c9,c10⟩:=CX.out wv hSw;go_simp;try with_reducible rfl) ?_;refine fq 2 rfl (by kernel_rfl) hH (by rfl) (by intro wv hSw;obtain ⟨e2,e10,c0,c1,c2,c3,c4,c5,c6,c7,c8,c9,c10⟩:=CX.out wv hSw;go_simp;try with_reducible rfl) ?_;refine fq 3 rfl (by kernel_rfl) hH (by rfl) (by intro wv hSw;obtain ⟨e2,e10,c0,c1,c2,c3,c4,c5,c6,c7,c8,c9,c10⟩:=CX.out wv hSw;go_simp;try with_reducible rfl) ?_;refine fq 4 rfl (by kernel_rfl) hH (by rfl) (by intro wv hSw;obtain ⟨e2,e10,c0,c1,c2,c3,c4,c5,c6,c7,c8,c9,c10⟩:=CX.out wv hSw;go_simp;try with_reducible rfl) ?_;refine fq 5 rfl (by kernel_rfl) hH (by rfl) (by intro wv hSw;obtain ⟨e2,e10,c0,c1,c2,c3,c4,c5,c6,c7,c8,c9,c10⟩:=CX.out wv hSw;go_simp;try with_reducible rfl) ?_;exact qQ.elim fun x=>x):P:=h ⟨q⟩
theorem Dm{P Q:Prop}(q:Q)(h:Nonempty Q->P:=by
 intro qQ;go_simp;obtain ⟨q,hf⟩:∃ q,q=y.heap.size:=⟨_,rfl⟩;have jR:=hid HY.out.zero;obtain ⟨y,hN⟩:∃ y2,y2=y.alloc (.cells #[.string ⟨#[]⟩,.string ⟨#[]⟩,.slice none 0 0,.slice none 0 0] 30):=⟨_,rfl⟩;revert q hf jR y hN;exact qQ.elim fun x=>x):P:=h ⟨q⟩
theorem ZX{P Q:Prop}(q:Q)(h:Nonempty Q->P:=by
 intro qQ;have hcap:nk<=ck:=by have:=hs.le;rw [List.length_map] at this;omega
 have hmx:=hs.max;unfold maxLen at hmx;have J9:nk=rs.length+1:=by rw [hnk,List.length_cons]
 have Ka:nk<=900000:=by have:=hT.len;omega
 obtain ⟨S,W0,hS,hW0,z0,k0,k1,b0⟩:=uU 51 w [.int .i64 k,.int .i64 lv,.string i,.string t,.string d,.string ti,.string at_.id,.slice ac nc cc,.slice ap np cp,.slice al nl cl,.slice ak nk ck];have hs2:qP (·<S) W0 11 ((x0::rs).map ah.d) ak ck:=by subst hS;exact hs.below b0
 have hT0:=hT.row x0 (List.mem_cons_self ..);have hTR:=fun r hr=>hT.row r (List.mem_cons_of_mem _ hr)
 revert hcap hmx J9 Ka S W0 hS hW0 z0 k0 k1 b0 hs2 hT0 hTR;exact qQ.elim fun x=>x):P:=h ⟨q⟩
theorem vX{P Q:Prop}(q:Q)(h:Nonempty Q->P:=by
 intro qQ;rw [<- hN,<- hf];refine hK.out _ _ (fun _ _=>jR.out.aO) (fun hH2=>?_);revert hH2;exact qQ.elim fun x=>x):P:=h ⟨q⟩
theorem MS{P Q:Prop}(q:Q)(h:Nonempty Q->P:=by
 intro qQ;have he:e=.returned (.agg #[.string jU,.string ⟨#[]⟩,.slice aA nA cA,.slice aK nK cK]):=he;revert he;exact qQ.elim fun x=>x):P:=h ⟨q⟩
theorem jb8{P Q:Prop}(q:Q)(h:Nonempty Q->P:=by
 intro qQ;have d0:=PA.cell 0 _ rfl;have d1:=PA.cell 1 _ rfl;have d2:=PA.cell 2 _ rfl;have d3:=PA.cell 3 _ rfl;have d4:=PA.cell 4 _ rfl;have d5:=PA.cell 5 _ rfl;have d6:=PA.cell 6 _ rfl;have d7:=PA.cell 7 _ rfl;have d8:=PA.cell 8 _ rfl;have d9:=PA.cell 9 _ rfl;have d10:=PA.cell 10 _ rfl;revert d0 d1 d2 d3 d4 d5 d6 d7 d8 d9 d10;exact qQ.elim fun x=>x):P:=h ⟨q⟩
theorem jb9{P:Prop}(h:P:=by
 have h2:(rs.take j).length<=rs.length:=List.length_take_le' _ _;rw [hm,hds,List.length_map,List.length_map];have:=Ph.out;omega):P:=h
theorem ZY{P Q:Prop}(q:Q)(h:Nonempty Q->P:=by
 intro qQ;have hc:=show dA W0 ga off xk MP xi xt xd MQ MR.id (.slice xac xnc xcc) (.slice xap xnp xcp) (.slice xal xnl xcl) (.slice xak xnk xck) by simpa using hc
 revert hc;exact qQ.elim fun x=>x):P:=h ⟨q⟩
theorem Kw (k lv:Int) (i t d ti:ByteArray) (at_:At) (li:List aj) (ks:List ah) (vc vp vl vk:Value) (w:World) (hR:eT (·<w.heap.size) w at_ li ks vc vp vl vk) (hT:TbW i ks) : Calls prog 93 #[.agg #[.int .i64 k,.int .i64 lv,.string i,.string t,.string d,.string ti,.string at_.id,vc,vp,vl,vk]] w (o8 w (BJ i ks)):=by
  obtain ⟨ac,nc,cc,rfl⟩:=Rd.au hR.at_.cls
  obtain ⟨ap,np,cp,rfl⟩:=Rd.au hR.at_.aF
  obtain ⟨al,nl,cl,rfl⟩:=Rd.au hR.line;obtain ⟨ak,ck,hvk,hs⟩:=Rd.ay hR.kids;obtain ⟨nk,hnk⟩:∃ nk,nk=ks.length:=⟨_,rfl⟩;obtain rfl:vk=.slice ak nk ck:=by rw [hnk];simpa using hvk
  obtain ⟨x0,rs,rfl⟩:∃ x0 rs,ks=x0::rs:=by
    cases ks with
    | nil=>exact absurd rfl hT.ne
    | cons a b=>exact ⟨a,b,rfl⟩
  refine ZX ?_;intro hcap hmx J9 Ka S W0 hS hW0 z0 k0 k1 b0 hs2 hT0 hTR;obtain ⟨xk,MP,xi,xt,xd,MQ,MR,Xc,ny⟩:=x0;obtain ⟨ga,off,xvc,xvp,xvl,xvk,rfl,hok,hbl,hc,hR0⟩:=F7 (k:=0) hs2 rfl;obtain ⟨xac,xnc,xcc,rfl⟩:=Rd.au hR0.at_.cls
  obtain ⟨xap,xnp,xcp,rfl⟩:=Rd.au hR0.at_.aF
  obtain ⟨xal,xnl,xcl,rfl⟩:=Rd.au hR0.line;obtain ⟨xak,xnk,xck,rfl⟩:=Rd.au hR0.kids;refine ZY ?_;intro hc;have CX:Hid (∀ w':World,Below W0.heap.size W0 w'->w'.cell? ⟨S,2,none⟩=some (.string i)/\w'.cell? ⟨S,10,none⟩=some (.slice (some ⟨ga,off,none⟩) nk ck)/\dA w' ga off xk MP xi xt xd MQ MR.id (.slice xac xnc xcc) (.slice xap xnp xcp) (.slice xal xnl xcl) (.slice xak xnk xck)):=fun w' hb=>
    ⟨(k0.below hb).cell 2 _ rfl,(k0.below hb).cell 10 _ rfl,hc.at2 (hb.block ga hbl)⟩
  have RC:Hid (∀ w':World,Below W0.heap.size W0 w'->Calls prog 124 #[.agg #[.int .i64 xk,.int .i64 MP,.string xi,.string xt,.string xd,.string MQ,.string MR.id,.slice xac xnc xcc,.slice xap xnp xcp,.slice xal xnl xcl,.slice xak xnk xck],.string ⟨#[116,104]⟩,.string i] w' (o8 w' (aH jU [] (iq sj i.data.toList ny)))):=fun w' hb=>
    Hy xk MP xi xt xd MQ MR Xc ny _ _ _ _ sj i w' (eT.sK hR0 (fun b (hb':b<S) hlt=>⟨by show b<w'.heap.size;have:=hb.size;omega,hb.block b (by omega)⟩)) hT0.1 hT0.2.1 hT0.2.2
  have HS2:=hid hs2;refine Cy ?_;intro xq HW0 Z0 B0 K1;have Z5:=hid hTR;have uH:=hid J9;have jy7:0<nk:=by omega
  have jy8:(0:Int)<(nk:Int):=by omega
  clear hR hvk hs hs2 hS hW0 z0 k0 k1 b0 hc hT0 hTR hT hnk J9 hR0;go_enter func93,ntmps93;go_upto_region 1 with (fail)
  rw [<- xq.out];refine Cz ?_
  go_cut [3] (fun s3 wx=>∃ q g f,s3=.pointer (some ⟨q,0,none⟩)/\TbJ W0 q g wx (aH Bn [] [aH jU [] (iq sj i.data.toList ny)]).d [.string ⟨#[116,104,101,97,100]⟩,.string ⟨#[]⟩,.slice none 0 0,.slice (some ⟨f,0,none⟩) 1 1] [.string ⟨#[116,97,98,108,101]⟩,.string ⟨#[]⟩,.slice none 0 0,.slice (some ⟨g,0,none⟩) 1 1])
  case first=>
    refine Jv 12 (fun w'=>Below W0.heap.size W0 w') (by kernel_rfl) (Below.refl _ _).drew ?_;intro hH;refine Z6 ?_;obtain ⟨y,hy0⟩:∃ y,y=W0.drew:=⟨_,rfl⟩;rw [<- hy0] at hH;rw [<- hy0];clear hy0;have HY:Hid (Dl W0 none y (gH []) [.slice none 0 0]):=⟨hH,fun p hp=>by simp at hp,Rd.aD _ _ _⟩;refine MZ (i:=6) (j:=11) rfl rfl (by decide +kernel) (fun KQ hK=>?_) (fun KQ hK=>?_);rotate_left;refine Dm ?_;intro q hf jR y hN;rw [<- hN,<- hf] at jR;refine vX ?_;clear hN hf;intro hH2;clear hK KQ hH;refine aN ?_;clear hH2;intro hH;clear HY;have HY:=jR;clear jR;refine eF (i:=6) rfl (by kernel_rfl) (fun KQ hK=>?_);all_goals
      go_simp;go_at_call 124
      (with_reducible refine (RC.out _ HY.out.aO).mono ?_)
      rintro e y ⟨va,vk,he,hR,hb⟩;obtain ⟨aA,nA,cA,rfl⟩:=Rd.au hR.at_
      obtain ⟨aK,nK,cK,rfl⟩:=Rd.au hR.ks;refine MS ?_;intro he;subst he;have jR:=hid (HY.out.nd hb (Nd.dJ jU ⟨#[]⟩ hR));clear hb hR;refine hK.out _ _ (fun _ _=>jR.out.aO) (fun hH2=>?_);clear hK KQ hH;refine aN ?_;clear hH2;intro hH;clear HY;have HY:=jR;clear jR
    all_goals
      first
        | (refine MZ (i:=7) (j:=11) rfl rfl (by decide +kernel) (fun KQ hK=>?_) (fun KQ hK=>?_)
           rotate_left;refine Dm ?_;intro q hf jR y hN;rw [<- hN,<- hf] at jR;refine vX ?_;clear hN hf;intro hH2;clear hK KQ hH;refine aN ?_;clear hH2;intro hH;clear HY;have HY:=jR;clear jR;refine eF (i:=7) rfl (by kernel_rfl) (fun KQ hK=>?_))
        | refine eF (i:=7) rfl (by kernel_rfl) (fun KQ hK=>?_)
    all_goals
      go_simp;obtain ⟨f,hf⟩:∃ f,f=y.heap.size:=⟨_,rfl⟩;have jR:=hid HY.out.lit;obtain ⟨y,hN⟩:∃ y2,y2=y.alloc (.cells #[.string jU,.string ⟨#[]⟩,.slice aA nA cA,.slice aK nK cK] 30):=⟨_,rfl⟩;rw [<- hN,<- hf] at jR;refine vX ?_;clear hN hf;intro hH2;clear hK KQ hH;refine aN ?_;clear hH2;intro hH;clear HY;have HY:=jR;clear jR
    all_goals
      first
        | (refine MZ (i:=8) (j:=11) rfl rfl (by decide +kernel) (fun KQ hK=>?_) (fun KQ hK=>?_)
           rotate_left;refine Dm ?_;intro q hf jR y hN;rw [<- hN,<- hf] at jR;refine vX ?_;clear hN hf;intro hH2;clear hK KQ hH;refine aN ?_;clear hH2;intro hH;clear HY;have HY:=jR;clear jR;refine eF (i:=8) rfl (by kernel_rfl) (fun KQ hK=>?_))
        | refine eF (i:=8) rfl (by kernel_rfl) (fun KQ hK=>?_)
    all_goals
      go_simp;go_at_call 17
      (with_reducible refine (mg ⟨#[116,104,101,97,100]⟩ none (some ⟨f,0,none⟩) 0 1 0 1 _).mono ?_)
      rintro e y ⟨rfl,hb⟩;have jR:=hid (HY.out.el hb ⟨#[116,104,101,97,100]⟩);clear hb;refine hK.out _ _ (fun _ _=>jR.out.aO) (fun hH2=>?_);clear hK KQ hH;refine aN ?_;clear hH2;intro hH;clear HY;have HY:=jR;clear jR
    all_goals
      first
        | (refine MZ (i:=9) (j:=11) rfl rfl (by decide +kernel) (fun KQ hK=>?_) (fun KQ hK=>?_)
           rotate_left;refine Dm ?_;intro q hf jR y hN;rw [<- hN,<- hf] at jR;refine vX ?_;clear hN hf;intro hH2;clear hK KQ hH;refine aN ?_;clear hH2;intro hH;clear HY;have HY:=jR;clear jR;refine eF (i:=9) rfl (by kernel_rfl) (fun KQ hK=>?_))
        | refine eF (i:=9) rfl (by kernel_rfl) (fun KQ hK=>?_)
    all_goals
      go_simp;obtain ⟨g,hf⟩:∃ f,f=y.heap.size:=⟨_,rfl⟩;have jR:=hid HY.out.jz4;obtain ⟨y,hN⟩:∃ y2,y2=y.alloc (.cells #[.string ⟨#[116,104,101,97,100]⟩,.string ⟨#[]⟩,.slice none 0 0,.slice (some ⟨f,0,none⟩) 1 1] 30):=⟨_,rfl⟩;rw [<- hN,<- hf] at jR;refine vX ?_;clear hN hf;intro hH2;clear hK KQ hH;refine aN ?_;clear hH2;intro hH;clear HY;have HY:=jR;clear jR
    all_goals
      first
        | (refine MZ (i:=10) (j:=11) rfl rfl (by decide +kernel) (fun KQ hK=>?_) (fun KQ hK=>?_)
           rotate_left;refine Dm ?_;intro q hf jR y hN;rw [<- hN,<- hf] at jR;refine vX ?_;clear hN hf;intro hH2;clear hK KQ hH;refine aN ?_;clear hH2;intro hH;clear HY;have HY:=jR;clear jR;refine eF (i:=10) rfl (by kernel_rfl) (fun KQ hK=>?_))
        | refine eF (i:=10) rfl (by kernel_rfl) (fun KQ hK=>?_)
    all_goals
      go_simp;go_at_call 17
      (with_reducible refine (mg ⟨#[116,97,98,108,101]⟩ none (some ⟨g,0,none⟩) 0 1 0 1 _).mono ?_)
      rintro e y ⟨rfl,hb⟩;have jR:=hid (HY.out.far hb);clear hb;refine hK.out _ _ (fun _ _=>jR.out.aO) (fun hH2=>?_);clear hK KQ hH;refine aN ?_;clear hH2;intro hH;clear HY;have HY:=jR;clear jR
    all_goals
      first
        | (refine eF (i:=11) rfl (by decide +kernel) (fun KQ hK=>?_)
           refine Dm ?_;intro q hf jR y hN;rw [<- hN,<- hf] at jR;refine vX ?_;clear hN hf;intro hH2;clear hK KQ hH;refine aN ?_;clear hH2;intro hH;clear HY;have HY:=jR;clear jR)
        | skip
    all_goals
      refine eF (i:=12) rfl (by kernel_rfl) (fun KQ hK=>?_);obtain ⟨x0,x1,x2,x3,xf⟩:=pq (HY.out.cb q rfl).2;go_simp;have HJ:=hid (HY.out.put (.string ⟨#[116,97,98,108,101]⟩) (.string ⟨#[]⟩) (.slice none 0 0) (.slice (some ⟨g,0,none⟩) 1 1));clear x0 x1 x2 x3 xf;refine hK.out _ _ (fun h=>absurd rfl h) (fun _=>?_);clear hK KQ hH;refine OQ (by kernel_rfl) ?_ _;go_wp2
      go_meet
      exact ⟨q,g,f,rfl,HJ.out⟩
  case rest=>
    obtain ⟨q,g,f,rfl,hJ⟩:=hcut;obtain ⟨w1,hw1⟩:∃ w1:World,w1=wc:=⟨_,rfl⟩;subst hw1;have HJ:=hid hJ;obtain ⟨-,e10,-⟩:=CX.out w1 hJ.aO;obtain ⟨iN,qG,fF,fG,fH⟩:=info_parts iE;obtain ⟨nr,hnr⟩:∃ nr,nr=nk-1:=⟨_,rfl⟩;have Ph:Hid (nr=rs.length):=by have:=uH.out;show _=_;omega
    have jE2:nr<=900000:=by omega
    have R0:Hid (EP w1 i rs (.slice none 0 0) (.int .i64 0) w1):=⟨0,[],Nat.zero_le _,rfl,aG.nil _ _ _ _⟩;have hZ0:W0.heap.size=S+2:=Z0.out;clear hJ;by_cases hck:ck=1
    case' pos=>
      have hnz:nr=0:=by omega
      subst hck;go_upto_region 4 with (fail)
      subst hnz;clear hnr e10
      go_loopw [4,22] (fun v vi wr=>EP w1 i rs v vi wr) (fun _ vi _=>0-(intOf vi).toNat)
      case atStart=>exact R0.out
      case' round=>
        clear R0;obtain ⟨j,rows,hj,rfl,hrow⟩:=hrel;obtain ⟨ds,hds⟩:∃ ds,ds=((rs.take j).map (fE mO i)).map Nd.d:=⟨_,rfl⟩;rw [<- hds] at hrow;obtain ⟨m,hm⟩:∃ m,m=ds.length:=⟨_,rfl⟩;have Xf:m<=1000000:=by exact jb9
        obtain ⟨av,cv,rfl,-,-⟩:=hrow.cap hm.symm;have HM:=hid hm.symm;have nC:=hid hds;have bE:=hid hrow;clear hrow hm hds;by_cases hlt:j<0
        ·exact absurd hlt (by omega)
        have hkl:j=0:=by have:=Ph.out;omega
    case' neg=>
      obtain ⟨ck2,jtj⟩:∃ ck2,ck2=ck-1:=⟨_,rfl⟩;go_upto_region 4 with (fail)
      rw [<- hnr,<- jtj];have hcc:nr<=ck2:=by omega
      clear hnr e10 jtj hck
      go_loopw [4,22] (fun v vi wr=>EP w1 i rs v vi wr) (fun _ vi _=>nr-(intOf vi).toNat)
      case atStart=>exact R0.out
      case' round=>
        clear R0;obtain ⟨j,rows,hj,rfl,hrow⟩:=hrel;obtain ⟨ds,hds⟩:∃ ds,ds=((rs.take j).map (fE mO i)).map Nd.d:=⟨_,rfl⟩;rw [<- hds] at hrow;obtain ⟨m,hm⟩:∃ m,m=ds.length:=⟨_,rfl⟩;have Xf:m<=1000000:=by exact jb9
        obtain ⟨av,cv,rfl,-,-⟩:=hrow.cap hm.symm;have HM:=hid hm.symm;have nC:=hid hds;have bE:=hid hrow;clear hrow hm hds;by_cases hlt:j<nr
        ·obtain ⟨y,hy⟩:∃ y,rs[j]?=some y:=⟨_,List.getElem?_eq_getElem (by have:=Ph.out;omega)⟩;have hsn:=jl (fE mO i) rs j y hy;have hw:=Z5.out y (List.mem_of_getElem? hy);obtain ⟨yk,CG,yi,yt,yd,CJ,Bo,sM,lZ⟩:=y;have hw:lZ.length=i.size/\lZ.length<=1000000/\∀ c∈lZ,LnW c.kV:=hw;obtain ⟨g2,off2,vc,vp,vl,vk,hge,hok2,jmk,hc2,hR2⟩:=F7 (k:=j+1) HS2.out (show (ah.mk xk MP xi xt xd MQ MR Xc ny::rs)[j+1]?=some (.mk yk CG yi yt yd CJ Bo sM lZ) by simpa using hy);obtain ⟨rfl,rfl⟩:ga=g2/\off=off2:=by simpa using hge
         have hbr:Below W0.heap.size W0 wr:=HJ.out.aO.trans (bE.out.aO.mono HJ.out.aO.size);have hc2:dA W0 ga (off+11+j*11) yk CG yi yt yd CJ Bo.id vc vp vl vk:=by rw [show off+11+j*11=off+(j+1)*11 by omega];exact hc2
         obtain ⟨c0,c1,c2,c3,c4,c5,c6,c7,c8,c9,c10⟩:=hc2.at2 (w':=wr) (hbr.block ga hbl);obtain ⟨OT,OU,OV,rfl⟩:=Rd.au hR2.at_.cls
         obtain ⟨OX,OY,OZ,rfl⟩:=Rd.au hR2.at_.aF
         obtain ⟨yT,yU,yV,rfl⟩:=Rd.au hR2.line;obtain ⟨Ke,Kg,Kh,rfl⟩:=Rd.au hR2.kids;have RC2:Hid (∀ w':World,Below W0.heap.size W0 w'->Calls prog 124 #[.agg #[.int .i64 yk,.int .i64 CG,.string yi,.string yt,.string yd,.string CJ,.string Bo.id,.slice OT OU OV,.slice OX OY OZ,.slice yT yU yV,.slice Ke Kg Kh],.string ⟨#[116,100]⟩,.string i] w' (o8 w' (aH jU [] (iq mO i.data.toList lZ)))):=fun w' hb=>
           Hy yk CG yi yt yd CJ Bo sM lZ _ _ _ _ mO i w' (eT.sK hR2 (fun b (hb':b<S) hlt=>⟨by show b<w'.heap.size;have:=hb.size;omega,hb.block b (by omega)⟩)) hw.1 hw.2.1 hw.2.2
         have gZ:=hid (show ((rs.take (j+1)).map (fE mO i)).map Nd.d=ds++[(aH jU [] (iq mO i.data.toList lZ)).d] by rw [hsn,List.map_append,nC.out];rfl);have HBR:=hid hbr;clear hy hsn hw hge hok2 jmk hc2 hR2 hbr;go_upto_region 6 with (fail)
         refine SN ?_;intro p hp wA iH PA bA;rw [<- iH,<- hp];have BA:=hid bA;have b0A:Below W0.heap.size W0 wA:=HBR.out.trans (bA.mono HBR.out.size);obtain ⟨e2,-,-⟩:=CX.out wA b0A;refine jb8 ?_;intro d0 d1 d2 d3 d4 d5 d6 d7 d8 d9 d10;have R5:=hid (RC2.out wA b0A);have hpw:wr.heap.size<=wA.heap.size:=bA.size;clear iH hp c0 c1 c2 c3 c4 c5 c6 c7 c8 c9 c10 PA bA b0A RC2;go_wp2_with fail
         (with_reducible refine R5.out.mono ?_)
         rintro e w2 ⟨va,vk,he,hR2,hb2⟩;obtain ⟨aA,nA,cA,rfl⟩:=Rd.au hR2.at_
         obtain ⟨aK,nK,cK,rfl⟩:=Rd.au hR2.ks;refine MS ?_;intro he;subst he;have U2:=hid ((bE.out.below BA.out).below hb2);have XD:=hid ((Nd.dJ jU ⟨#[]⟩ hR2).weaken (ok':=fun b=>False\/wr.heap.size<=b) (fun b hb=>.inr (Nat.le_trans hpw hb)));clear R5 hR2 hb2 d0 d1 d2 d3 d4 d5 d6 d7 d8 d9 d10 e2;go_wp2_with (at_builtin;refine OP rfl _ _ 28 rfl iN _ 80 underlying28 qG fF fG fH rfl (by decide) U2.out (fun _=>False.elim) (aH jU [] (iq mO i.data.toList lZ)).d [.string jU,.string ⟨#[]⟩,.slice aA nA cA,.slice aK nK cK] XD.out rfl F9 HM.out (by omega) (by decide) rfl rfl ?_)
         intro a' c' w5 hrow hg5;have HF:Hid (EP w1 i rs (.slice a' (m+1) c') (.int .i64 ((j+1:Nat):Int)) w5):=⟨j+1,_,by have:=Ph.out;omega,rfl,by rw [gZ.out];exact hrow⟩;clear hrow hg5 XD U2 bE;exact gN
        have hkl:j=nr:=by have:=Ph.out;omega
    all_goals
      have hjr:j=rs.length:=by have:=Ph.out;omega
      have HNV:Hid (Rd (w1.heap.size<=·) wr (gH (rs.map (fE mO i))) [.slice av m cv]):=by have h:=bE.out.cu;rw [nC.out,hjr,List.take_length] at h;exact h
      have WL:=hid (HJ.out.far bE.out.aO);have HBJ:Hid (W0.heap.size<=w1.heap.size):=HJ.out.aO.size;have HQ1:Hid (q<w1.heap.size):=HJ.out.cq.lt;have HG1:Hid (g<w1.heap.size):=HJ.out.cg.lt;by_cases hm0:m=0
      ·have HE:Hid (rs=[]):=by
         have:=HM.out;rw [nC.out,hjr] at this;simp at this;exact List.length_eq_zero_iff.1 (by omega)
       subst hm0;have BL:=WL.out.aO;have HQ:=hid WL.out.cq;have HNR:Hid (gP (W0.heap.size<=·) wr [] [aH Bn [] [aH jU [] (iq sj i.data.toList ny)]] (.slice none 0 0) (.slice (some ⟨g,0,none⟩) 1 1)):=⟨Rd.aD _ _ _,Rd.fM (l:=[(aH Bn [] [aH jU [] (iq sj i.data.toList ny)]).d]) (rows:=[[.string ⟨#[116,104,101,97,100]⟩,.string ⟨#[]⟩,.slice none 0 0,.slice (some ⟨f,0,none⟩) 1 1]]) (Nl WL.out.cg rfl) (aU.one (WL.out.rd.weaken (fun b hb=>hb.1))) (by simp) (fun b hb=>by
         have e1:g=b:=by simpa [Value.ownBlock] using hb
         rw [<- e1];exact WL.out.hg.1)⟩
       have HTE:Hid (BJ i (ah.mk xk MP xi xt xd MQ MR Xc ny::rs)=aH nW [] [aH Bn [] [aH jU [] (iq sj i.data.toList ny)]]):=by show _=_;rw [HE.out];rfl
       obtain ⟨x0,x1,x2,x3,xf⟩:=pq (K1.out.below BL);obtain ⟨y0,y1,y2,y3,-⟩:=cb4 HQ.out;go_upto_region 10 with (fail)
       obtain ⟨w9,bZ⟩:∃ w9,w9=jV wr (S+1) (.string ⟨#[116,97,98,108,101]⟩) (.string ⟨#[]⟩) (.slice none 0 0) (.slice (some ⟨g,0,none⟩) 1 1):=⟨_,rfl⟩;have hf:=uP ⟨#[116,97,98,108,101]⟩ ⟨#[]⟩ [] ([aH Bn [] [aH jU [] (iq sj i.data.toList ny)]]) xq.out Z0.out B0.out K1.out BL HNR.out;rw [<- bZ] at hf;refine qK ?_;clear hf bZ;intro vT sN hw8;go_wp2;refine lD ?_;intro r0 r1 r2 r3;exact bodyPost_ret (v:=.agg #[.string ⟨#[116,97,98,108,101]⟩,.string ⟨#[]⟩,.slice none 0 0,.slice (some ⟨g,0,none⟩) 1 1]) (by simp [results,results93,go_sem,r0,r1,r2,r3]) rfl (by rw [HTE.out];exact sN.out)
      ·have hm1:0<m:=by omega
       have HE:Hid (rs.isEmpty=false):=by
         show _=_;cases hrs:rs with
         | nil=>
           have:=HM.out;rw [nC.out,hrs] at this;simp at this;omega
         | cons _ _=>rfl
       have S0:wr.drew.cell? ⟨q,3,none⟩=some (.slice (some ⟨g,0,none⟩) 1 1):=WL.out.cq.cell 3 _ rfl;have HTE:Hid (BJ i (ah.mk xk MP xi xt xd MQ MR Xc ny::rs)=aH nW [] [aH Bn [] [aH jU [] (iq sj i.data.toList ny)],aH iY [] (rs.map (fE mO i))]):=by show aH nW [] (aH Bn [] [aH jU [] (iq sj i.data.toList ny)]::if rs.isEmpty=true then [] else [aH iY [] (rs.map (fE mO i))])=_;rw [HE.out];rfl
       clear hkl hjr hm0;go_upto_region 9 with (fail)
       refine kC 7 (fun w'=>w'.cell? ⟨q,3,none⟩=some (.slice (some ⟨g,0,none⟩) 1 1)) (by kernel_rfl) S0 ?_;intro hH;refine BO 0 rfl (by kernel_rfl) hH (by rfl) (by intro wv hSw;(try dsimp only at hSw);go_simp;try with_reducible rfl) ?_;refine BO 1 rfl (by kernel_rfl) hH (by rfl) (by intro wv hSw;(try dsimp only at hSw);go_simp;try with_reducible rfl) ?_;refine BO 2 rfl (by kernel_rfl) hH (by rfl) (by intro wv hSw;(try dsimp only at hSw);go_simp;try with_reducible rfl) ?_;refine JA (i:=3) rfl (by kernel_rfl) (fun KQ hK=>?_);go_simp;go_at_call 17
       (with_reducible refine (mg ⟨#[116,98,111,100,121]⟩ none av 0 m 0 cv _).mono ?_)
       rintro e w3 ⟨rfl,b3⟩;have B3:Below wr.heap.size wr w3:=((Below.refl _ _).drew).trans b3;have Nn:=hid (WL.out.far B3);have S3:w3.cell? ⟨q,3,none⟩=some (.slice (some ⟨g,0,none⟩) 1 1):=Nn.out.cq.cell 3 _ rfl;have XD:=hid (show Rd (fun b=>w1.heap.size<=b) w3 (aH ⟨#[116,98,111,100,121]⟩ [] (rs.map (fE mO i))).d [.string ⟨#[116,98,111,100,121]⟩,.string ⟨#[]⟩,.slice none 0 0,.slice av m cv] from Nd.dJ ⟨#[116,98,111,100,121]⟩ ⟨#[]⟩ ⟨Rd.aD _ _ _,HNV.out.aX B3⟩);have HB3:=hid B3;clear b3 B3 S0;refine hK.out _ _ (fun _=>S3) (fun hH2=>?_);clear hK KQ hH;have hH:=hH2 (by decide);clear hH2;refine JA (i:=4) rfl (by kernel_rfl) (fun KQ hK=>?_);go_simp;refine hK.out _ _ (fun _=>past S3 _) (fun hH2=>?_);clear hK KQ hH;have hH:=hH2 (by decide);clear hH2;refine JA (i:=5) rfl (by kernel_rfl) (fun KQ hK=>?_);refine Pg (n:=1) rfl (.tmp 38) (.tmp 41) 28 rfl iN _ 80 underlying28 qG fF fG fH rfl (by decide) (ds:=[(aH Bn [] [aH jU [] (iq sj i.data.toList ny)]).d]) (rows:=[[.string ⟨#[116,104,101,97,100]⟩,.string ⟨#[]⟩,.slice none 0 0,.slice (some ⟨f,0,none⟩) 1 1]]) (v:=.slice (some ⟨g,0,none⟩) 1 1) (P:=fun b=>W0.heap.size<=b/\b≠q/\b≠g) (Nl Nn.out.cg rfl) (Nat.le_of_lt Nn.out.cg.lt) (aU.one Nn.out.rd) (by simp) (fun b hb e=>hb.2.2 (jmj e)) (aH ⟨#[116,98,111,100,121]⟩ [] (rs.map (fE mO i))).d [.string ⟨#[116,98,111,100,121]⟩,.string ⟨#[]⟩,.slice none 0 0,.slice av m cv] (XD.out.weaken (fun b hb=>⟨Nat.le_trans HBJ.out hb,by have:=HQ1.out;omega,by have:=HG1.out;omega⟩)) rfl F9 rfl (by decide) (by decide) rfl rfl ?_;intro a5 c5 w5 jmq hg5;have hgb:(Value.slice (some ⟨g,0,none⟩) 1 1).ownBlock=some g:=rfl;rw [hgb] at hg5 jmq;have q5:CB 30 q [.string ⟨#[116,97,98,108,101]⟩,.string ⟨#[]⟩,.slice none 0 0,.slice (some ⟨g,0,none⟩) 1 1] w5:=(hg5.block q (by simp;have:=Nn.out.cq.lt;omega) (fun e=>Nn.out.hg.2 (Option.some.inj e).symm)).trans ((Below.heap_alloc w3 _ q Nn.out.cq.lt).trans Nn.out.cq);have S5:w5.cell? ⟨q,3,none⟩=some (.slice (some ⟨g,0,none⟩) 1 1):=q5.cell 3 _ rfl;have fz:=ER q5;have b35:Below W0.heap.size w3 w5:=((Below.refl _ w3).alloc Nn.out.aO.size _).grown hg5 (by simp;have:=Nn.out.aO.size;omega) (fun x hx=>by have:=Option.some.inj hx;have:=Nn.out.hg.1;omega);have xJ:=hid (Nn.out.aO.trans b35);have jtk:=hid jmq;have HQ5:=hid q5;have hq3:q<w3.heap.size:=Nn.out.cq.lt;clear jmq hg5 hgb b35 XD q5;refine Np ?_;clear hK KQ hH;intro hH;refine JA (i:=6) rfl (by kernel_rfl) (fun KQ hK=>?_);go_simp;refine Np ?_;clear hK KQ hH;intro hH;refine JA (i:=7) rfl (by kernel_rfl) (fun KQ hK=>?_);refine nX ?_;clear hK KQ;refine kD (by kernel_rfl) ?_ _;obtain ⟨w6,pG⟩:∃ w6,w6=w5.setCell ⟨q,3,none⟩ (.slice a5 (1+1) c5):=⟨_,rfl⟩;try simp only [Nat.reduceAdd] at pG
       rw [<- pG];have HQ:Hid (CB 30 q [.string ⟨#[116,97,98,108,101]⟩,.string ⟨#[]⟩,.slice none 0 0,.slice a5 2 c5] w6):=by rw [pG];exact Dn HQ5.out 3 _
       have BL:Below W0.heap.size W0 w6:=by rw [pG];exact xJ.out.setCell WL.out.hq _
       have HNR:Hid (gP (W0.heap.size<=·) w6 [] [aH Bn [] [aH jU [] (iq sj i.data.toList ny)],aH iY [] (rs.map (fE mO i))] (.slice none 0 0) (.slice a5 2 c5)):=⟨Rd.aD _ _ _,by
         rw [pG];refine Rd.keep (fun b hb hlt=>⟨?_,Below.heap_setCell w5 ⟨q,3,none⟩ _ b ?_⟩) _ _ jtk.out
         ·rcases hb with hb | hb | hb
          ·exact hb.1
          ·have:=Option.some.inj hb;have:=WL.out.hg.1;omega
          ·have:=Nn.out.aO.size;omega
         ·show b≠q;rcases hb with hb | hb | hb
          ·exact hb.2.1
          ·have:=Option.some.inj hb;have:=WL.out.hg.2;omega
          ·omega⟩
       clear pG jtk S3 S5 fz hH;obtain ⟨x0,x1,x2,x3,xf⟩:=pq (K1.out.below BL);obtain ⟨y0,y1,y2,y3,-⟩:=cb4 HQ.out;go_upto_region 10 with (fail)
       obtain ⟨w9,bZ⟩:∃ w9,w9=jV w6 (S+1) (.string ⟨#[116,97,98,108,101]⟩) (.string ⟨#[]⟩) (.slice none 0 0) (.slice a5 2 c5):=⟨_,rfl⟩;have hf:=uP ⟨#[116,97,98,108,101]⟩ ⟨#[]⟩ [] ([aH Bn [] [aH jU [] (iq sj i.data.toList ny)],aH iY [] (rs.map (fE mO i))]) xq.out Z0.out B0.out K1.out BL HNR.out;rw [<- bZ] at hf;refine qK ?_;clear hf bZ;intro vT sN hw8;go_wp2;refine lD ?_;intro r0 r1 r2 r3;exact bodyPost_ret (v:=.agg #[.string ⟨#[116,97,98,108,101]⟩,.string ⟨#[]⟩,.slice none 0 0,.slice a5 2 c5]) (by simp [results,results93,go_sem,r0,r1,r2,r3]) rfl (by rw [HTE.out];exact sN.out)
open Go.RowKit
theorem xM {ok:Nat->Prop} {w:World} {x y:Nd} {c0 c1 c2 c3 d0 d1 d2 d3:Value} (hm:ok w.heap.size) (hx:Rd ok w x.d [c0,c1,c2,c3]) (hy:Rd ok w y.d [d0,d1,d2,d3]) : Rd ok (w.alloc (.cells #[c0,c1,c2,c3,d0,d1,d2,d3] 30)) (gH [x,y]) [.slice (some ⟨w.heap.size,0,none⟩) 2 2]:=by
  have hb:Below w.heap.size w (w.alloc (.cells #[c0,c1,c2,c3,d0,d1,d2,d3] 30)):=(Below.refl _ _).alloc (Nat.le_refl _) _;have k:CB 30 w.heap.size [c0,c1,c2,c3,d0,d1,d2,d3] (w.alloc (.cells #[c0,c1,c2,c3,d0,d1,d2,d3] 30)):=CB.new _ _ w;have kp:∀ {d:D} {cs:List Value},Rd ok w d cs->Rd ok (w.alloc (.cells #[c0,c1,c2,c3,d0,d1,d2,d3] 30)) d cs:=fun h=>Rd.keep (fun b hb' hlt=>⟨hb',hb.block b hlt⟩) _ _ h
  exact Rd.slB (l:=[x,y].map Nd.d) (rows:=[[c0,c1,c2,c3],[d0,d1,d2,d3]]) (by simp) (by unfold maxLen;decide) (aU.cons (kp hx) (aU.one (kp hy))) (by simp) hm k.lt (fun j u hu=>k.cell j u (by simpa using hu))
def uV (w:World) (E:Nat) (x:Nd) (e:Ending) (w':World):Prop:=
  ∃ va vk,e=.returned (.tuple #[.agg #[.string x.nm,.string x.tx,va,vk],.int .i64 (E:Int)])/\gP (w.heap.size<=·) w' x.at_ x.ks va vk/\Below w.heap.size w w'
theorem uV.of {w w':World} {E:Nat} {E':Int} {x:Nd} {v:Value} (h:o8 w x (.returned v) w') (hE:E'=(E:Int)):uV w E x (.returned (.tuple #[v,.int .i64 E'])) w':=by
  obtain ⟨va,vk,he,h1,h2⟩:=h;subst hE;injection he with he
  subst he;exact ⟨va,vk,rfl,h1,h2⟩
open Go.RowKit
structure LnR (li:List aj):Prop where
  sz:aj.aY li<=900000
  sm:aj.aC li
  cf:aj.WK li
def SQ (w1:World) (name:ByteArray) (cs:List UInt8) (ks:List ah) (v vi:Value) (wr:World):Prop:=
  ∃ (k:Nat) (rows:List (List Value)),k<=ks.length/\vi=.int .i64 k/\aG 30 4 (fun _=>False) wr.heap.size w1 ((iq name (cs.take k) (ks.take k)).map Nd.d) rows v wr
theorem Nq{P:Prop}(h:P:=by
 go_upto_region 13 with (fail)
 refine KE [9,19,20,21,22,23,24,25] (fun f hf=>?_);have h9:f 9=.string AL:=(hf 9).trans (by rw [<- hA];rfl);clear hf;simp only [List.foldl_cons,List.foldl_nil,List.set_cons_succ,List.set_cons_zero];exact REST f h9):P:=h
theorem GN (k lv:Int) (i t d ti:ByteArray) (at_:At) (li:List aj) (ks:List ah) (vc vp vl vk:jIz) (name letters:ByteArray) (w:jIq) (hR:eT (·<w.heap.size) w at_ li ks vc vp vl vk) (hlen:ks.length=letters.size) (hk1:ks.length<=1000000) (hc:∀ c∈ks,LnR c.kV) : Calls prog 140 #[.agg #[.int .i64 k,.int .i64 lv,.string i,.string t,.string d,.string ti,.string at_.id,vc,vp,vl,vk],.string letters,.string name] w (o8 w (aH jU [] (iq name letters.data.toList ks))):=by
  obtain ⟨iN,qG,fF,fG,fH⟩:=info_parts iE;obtain ⟨ac,nc,cc,rfl⟩:=Rd.au hR.at_.cls
  obtain ⟨ap,np,cp,rfl⟩:=Rd.au hR.at_.aF
  obtain ⟨al,nl,cl,rfl⟩:=Rd.au hR.line;obtain ⟨ak,ck,hvk,hs⟩:=Rd.ay hR.kids;obtain ⟨nk,hnk⟩:∃ nk,nk=ks.length:=⟨_,rfl⟩;obtain rfl:vk=.slice ak nk ck:=by rw [hnk];simpa using hvk
  have hcap:nk<=ck:=by have:=hs.le;rw [jG1] at this;omega
  have hmx:=hs.max;unfold maxLen at hmx;have hnl:nk=letters.size:=by rw [hnk,hlen]
  obtain ⟨S,W0,hS,hW0,z0,k0,k1,b0⟩:=uU 51 w [.int .i64 k,.int .i64 lv,.string i,.string t,.string d,.string ti,.string at_.id,.slice ac nc cc,.slice ap np cp,.slice al nl cl,.slice ak nk ck];have CX:Hid (∀ w':jIq,jIx W0.heap.size W0 w'->w'.cell? ⟨S,10,none⟩=some (.slice ak nk ck)):=fun w' hb=>(k0.below hb).cell 10 _ rfl
  have HS2:Hid (qP (·<S) W0 11 (ks.map ah.d) ak ck):=by subst hS;exact hs.below b0
  have xq:=hid hS;have HW0:=hid hW0;have Z0:=hid z0;have B0:=hid b0;have K1:=hid k1;have HC:=hid hc;have uH:=hid hnk;have G7:=hid hnl;have Ka:nk<=1000000:=by omega
  have hls:letters.size<=1000000:=by omega
  have R0:Hid (SQ W0 name letters.data.toList ks (.slice none 0 0) (.int .i64 0) W0):=⟨0,[],Nat.zero_le _,rfl,aG.nil _ _ _ _⟩;clear hR hvk hs hnk hnl hlen hS hW0 z0 k0 k1 b0 hc hk1;go_enter func140,ntmps140;go_upto_region 1 with (fail)
  rw [<- xq.out];have hk0:=HW0.out;simp only [Gc] at hk0;rw [<- hk0];clear hk0;go_wp2
  go_loopw [7,8] (fun v vi wr=>SQ W0 name letters.data.toList ks v vi wr) (fun _ vi _=>nk-(intOf vi).toNat)
  case atStart=>exact R0.out
  case round=>
    clear R0;obtain ⟨j,rows,hj,rfl,hrow⟩:=hrel;obtain ⟨ds,hds⟩:∃ ds,ds=(iq name (letters.data.toList.take j) (ks.take j)).map Nd.d:=⟨_,rfl⟩;rw [<- hds] at hrow;obtain ⟨m,hm⟩:∃ m,m=ds.length:=⟨_,rfl⟩;have Xf:m<=1000000:=by have h:=zG name (letters.data.toList.take j) (ks.take j);have h2:(ks.take j).length<=ks.length:=List.length_take_le' _ _;rw [hm,hds,jG1];have:=uH.out;omega
    obtain ⟨av,cv,rfl,-,-⟩:=hrow.cap hm.symm;have HM:=hid hm.symm;have nC:=hid hds;have bE:=hid hrow;have HB:=hid hrow.aO;have e10:=CX.out wr hrow.aO;clear hrow hm hds;by_cases hlt:j<nk
    · obtain ⟨y,hy⟩:∃ y,ks[j]?=some y:=⟨_,jF9 (by have:=uH.out;omega)⟩
      have hjs:j<letters.size:=by have:=G7.out;omega
      obtain ⟨c,hcx⟩:∃ c,letters.data.toList[j]?=some c:=⟨_,jF9 (by simpa using hjs)⟩;have hsn:=wh name _ _ _ _ _ hcx hy;have F8:=HC.out y (jG7 hy);obtain ⟨yk,CG,yi,yt,yd,CJ,Bo,sM,lZ⟩:=y;have F8:LnR sM:=F8;obtain ⟨g,off,vc,vp,vl,vk,rfl,hok,hbl,hc,hR⟩:=F7 HS2.out hy;obtain ⟨yT,yU,yV,rfl⟩:=Rd.au hR.line;have CY:Hid (∀ w':jIq,jIx W0.heap.size W0 w'->w'.cell? ⟨g,off+j*11+9,none⟩=some (.slice yT yU yV)):=fun w' hb=>by
        obtain ⟨c0,c1,c2,c3,c4,c5,c6,c7,c8,c9,c10⟩:=hc.at2 (w':=w') (hb.block g hbl);exact c9
      have NC:Hid (∀ w':jIq,jIx W0.heap.size W0 w'->Calls prog 105 #[.slice yT yU yV] w' (aQ w' (dV sM))):=fun w' hb=>
        q35 900000 sM _ w' F8.sz (by decide) (Rd.keep (w:=W0) (w':=w') (ok:=(·<S)) (fun b (hb':b<S) hlt=>⟨by show b<w'.heap.size;have:=hb.size;omega,hb.block b hlt⟩) _ _ hR.line) F8.sm F8.cf
      obtain ⟨AL,hAL⟩:∃ AL,AL=gQ c:=⟨_,rfl⟩;have gZ:=hid (show (iq name (letters.data.toList.take (j+1)) (ks.take (j+1))).map Nd.d=ds++[(aH name (cO zw AL) (dV sM)).d] by rw [hsn,List.map_append,nC.out,hAL];rfl);have hlet:(letters[j]'hjs)=c:=by have h:=hcx;rw [jF9 (by simpa using hjs)] at h;exact jG3 h
      have t7:(j:Int)<(letters.size:Int):=by omega
      have q7:letters[j]?=some c:=by rw [<- hlet];exact getElem?_pos letters j hjs
      have Bj:=hid hAL;clear hc hok hbl hR hsn F8 hy hcx hAL;go_upto_region 7 with (fail)
      apply jtq (α1:=Nat->jIz) (R:=fun f=>f 9=.string AL);case hm=>
        intro REST;by_cases BU:c=108
        · have XJ:((c.toNat:Int)==108)=true:=by rw [BU];rfl
          have hA:(⟨#[108,101,102,116]⟩:ByteArray)=AL:=by rw [Bj.out,BU];rfl
          go_upto_region 13 with (fail)
          refine KE [9,19,20,21,22,23,24,25] (fun f hf=>?_);have h9:f 9=.string AL:=(hf 9).trans (by rw [<- hA];rfl);clear hf;simp only [List.foldl_cons,List.foldl_nil,jF8,jF7];exact REST f h9
        by_cases QO:c=99
        · have XJ:((c.toNat:Int)==108)=false:=by rw [QO];rfl
          have q99:((c.toNat:Int)==99)=true:=by rw [QO];rfl
          have hA:(⟨#[99,101,110,116,101,114]⟩:ByteArray)=AL:=by rw [Bj.out,QO];rfl
          go_upto_region 13 with (fail)
          refine KE [9,19,20,21,22,23,24,25] (fun f hf=>?_);have h9:f 9=.string AL:=(hf 9).trans (by rw [<- hA];rfl);clear hf;simp only [List.foldl_cons,List.foldl_nil,jF8,jF7];exact REST f h9
        by_cases sU:c=114
        · have q99:((c.toNat:Int)==99)=false:=by rw [sU];rfl
          have XJ:((c.toNat:Int)==108)=false:=by rw [sU];rfl
          have jE3:((c.toNat:Int)==114)=true:=by rw [sU];rfl
          have hA:(⟨#[114,105,103,104,116]⟩:ByteArray)=AL:=by rw [Bj.out,sU];rfl
          go_upto_region 13 with (fail)
          refine KE [9,19,20,21,22,23,24,25] (fun f hf=>?_);have h9:f 9=.string AL:=(hf 9).trans (by rw [<- hA];rfl);clear hf;simp only [List.foldl_cons,List.foldl_nil,jF8,jF7];exact REST f h9
        have q1:((c.toNat:Int)==108)=false:=by rw [beq_eq_false_iff_ne];intro h;exact BU (UInt8.toNat_inj.1 (show c.toNat=108 by omega))
        have q2:((c.toNat:Int)==99)=false:=by rw [beq_eq_false_iff_ne];intro h;exact QO (UInt8.toNat_inj.1 (show c.toNat=99 by omega))
        have q3:((c.toNat:Int)==114)=false:=by rw [beq_eq_false_iff_ne];intro h;exact sU (UInt8.toNat_inj.1 (show c.toNat=114 by omega))
        have hA:(⟨#[]⟩:ByteArray)=AL:=by rw [Bj.out];unfold gQ;rw [if_neg BU,if_neg QO,if_neg sU]
        clear BU QO sU;go_upto_region 13 with (fail)
        refine KE [9,19,20,21,22,23,24,25] (fun f hf=>?_);have h9:f 9=.string AL:=(hf 9).trans (by rw [<- hA];rfl);clear hf;simp only [List.foldl_cons,List.foldl_nil,jF8,jF7];exact REST f h9
      case hr=>
        intro f h9;rw [h9];clear h9;clear hlet q7 t7;refine Jv 14 (fun w'=>jIx W0.heap.size W0 w') (by kernel_rfl) HB.out.drew ?_;intro hH;refine fq 0 rfl (by kernel_rfl) hH (by rfl) (by intro wv hSw;have e10:=CX.out wv hSw;have c9:=CY.out wv hSw;go_simp;try with_reducible rfl) ?_;refine fq 1 rfl (by kernel_rfl) hH (by rfl) (by intro wv hSw;have e10:=CX.out wv hSw;have c9:=CY.out wv hSw;go_simp;try with_reducible rfl) ?_;refine fq 2 rfl (by kernel_rfl) hH (by rfl) (by intro wv hSw;have e10:=CX.out wv hSw;have c9:=CY.out wv hSw;go_simp;try with_reducible rfl) ?_;refine fq 4 rfl (by kernel_rfl) hH (by rfl) (by intro wv hSw;have e10:=CX.out wv hSw;have c9:=CY.out wv hSw;go_simp;try with_reducible rfl) ?_;refine fq 5 rfl (by kernel_rfl) hH (by rfl) (by intro wv hSw;have e10:=CX.out wv hSw;have c9:=CY.out wv hSw;go_simp;try with_reducible rfl) ?_;refine fq 6 rfl (by kernel_rfl) hH (by rfl) (by intro wv hSw;have e10:=CX.out wv hSw;have c9:=CY.out wv hSw;go_simp;try with_reducible rfl) ?_;refine fq 7 rfl (by kernel_rfl) hH (by rfl) (by intro wv hSw;have e10:=CX.out wv hSw;have c9:=CY.out wv hSw;go_simp;try with_reducible rfl) ?_;refine fq 8 rfl (by kernel_rfl) hH (by rfl) (by intro wv hSw;have e10:=CX.out wv hSw;have c9:=CY.out wv hSw;go_simp;try with_reducible rfl) ?_;refine fq 9 rfl (by kernel_rfl) hH (by rfl) (by intro wv hSw;have e10:=CX.out wv hSw;have c9:=CY.out wv hSw;go_simp;try with_reducible rfl) ?_;try simp only [Act.put,jF6,jF7,jF8]
        obtain ⟨y0,hy0⟩:∃ y0,y0=wr.drew:=⟨_,rfl⟩;have MU:jIx wr.heap.size wr y0:=by rw [hy0];exact (jFj _ _).drew
        rw [<- hy0] at hH;rw [<- hy0];clear hy0;refine eF (i:=3) rfl (by kernel_rfl) (fun KQ hK=>?_);go_simp;go_at_call 49
        (with_reducible refine (q24 ⟨#[97,108,105,103,110]⟩ AL y0).mono ?_)
        rintro e y1 ⟨bD,v2,rfl,hrow2⟩;obtain ⟨a2,m2,c2,rfl⟩:=hrow2.slice3;have GR:=MU.trans (hrow2.aO.mono MU.size);have Ku:=hid (show Rd (wr.heap.size<=·) y1 (fJ (cO zw AL)) [.slice a2 m2 c2] from hrow2.cu.weaken (fun b hb=>jFq MU.size hb));have B1:jIx W0.heap.size W0 y1:=HB.out.trans (GR.mono HB.out.size);clear hrow2;refine hK.out _ _ (fun _ _=>B1) (fun hH2=>?_);clear hK KQ hH;have hH:=hH2 (by decide) (by kernel_rfl);clear hH2;try simp only [Act.put,jF6,jF7,jF8]
        refine eF (i:=10) rfl (by kernel_rfl) (fun KQ hK=>?_);go_simp;go_at_call 105
        (with_reducible refine (NC.out y1 B1).mono ?_)
        rintro e y2 ⟨dH,v3,rfl,hrow3⟩;obtain ⟨a3,n3,c3,rfl⟩:=hrow3.slice3;have Xr:=GR.trans (hrow3.aO.mono GR.size);have PR2:=hid (Ku.out.aX hrow3.aO);have KS2:=hid (show Rd (wr.heap.size<=·) y2 (gH (dV sM)) [.slice a3 n3 c3] from hrow3.cu.weaken (fun b hb=>jFq GR.size hb));have B2:jIx W0.heap.size W0 y2:=HB.out.trans (Xr.mono HB.out.size);clear hrow3;refine hK.out _ _ (fun _ _=>B2) (fun hH2=>?_);clear hK KQ hH;have hH:=hH2 (by decide) (by kernel_rfl);clear hH2;try simp only [Act.put,jF6,jF7,jF8]
        refine eF (i:=11) rfl (by kernel_rfl) (fun KQ hK=>?_);go_simp;go_at_call 48
        (with_reducible refine (lY name a2 a3 m2 n3 c2 c3 y2).mono ?_)
        rintro e y3 ⟨rfl,b3⟩;have B3r:=Xr.trans (b3.mono Xr.size);have B3:jIx W0.heap.size W0 y3:=HB.out.trans (B3r.mono HB.out.size);have XD:=hid (show Rd (fun b=>False\/wr.heap.size<=b) y3 (aH name (cO zw AL) (dV sM)).d [.string name,.string ⟨#[]⟩,.slice a2 m2 c2,.slice a3 n3 c3] from (Nd.dJ name ⟨#[]⟩ ⟨PR2.out.aX b3,KS2.out.aX b3⟩).weaken (fun b hb=>.inr hb));have U3:=hid (bE.out.below B3r);clear b3;refine hK.out _ _ (fun _ _=>B3) (fun hH2=>?_);clear hK KQ hH;have hH:=hH2 (by decide) (by kernel_rfl);clear hH2;try simp only [Act.put,jF6,jF7,jF8]
        refine eF (i:=12) rfl (by kernel_rfl) (fun KQ hK=>?_);go_simp;refine hK.out _ _ (fun _ _=>B3.alloc B3.size _) (fun hH2=>?_);clear hK KQ hH;have hH:=hH2 (by decide) (by kernel_rfl);clear hH2;try simp only [Act.put,jF6,jF7,jF8]
        refine eF (i:=13) rfl (by kernel_rfl) (fun KQ hK=>?_);refine lC rfl (.tmp 26) (.tmp 38) 28 rfl iN _ 80 underlying28 qG fF fG fH rfl (by decide) U3.out (fun _=>False.elim) (aH name (cO zw AL) (dV sM)).d [.string name,.string ⟨#[]⟩,.slice a2 m2 c2,.slice a3 n3 c3] XD.out rfl F9 HM.out (by omega) (by decide) rfl rfl ?_;intro a5 c5 w5 bC hg5;have B5:jIx W0.heap.size W0 w5:=bC.aO;have HF:Hid (SQ W0 name letters.data.toList ks (.slice a5 (m+1) c5) (.int .i64 ((j+1:Nat):Int)) w5):=⟨j+1,_,by have:=uH.out;omega,rfl,by rw [gZ.out];exact bC⟩;clear bC hg5;refine hK.out _ _ (fun _ _=>B5) (fun hH2=>?_);clear hK KQ hH;have hH:=hH2 (by decide) (by kernel_rfl);clear hH2;try simp only [Act.put,jF6,jF7,jF8]
        refine eF (i:=14) rfl (by kernel_rfl) (fun KQ hK=>?_);go_simp;refine hK.out _ _ (fun h=>absurd rfl h) (fun _=>?_);clear hK KQ hH;try simp only [Act.put,jF6,jF7,jF8]
        refine OQ (by kernel_rfl) ?_ _;clear XD U3 PR2 Ku KS2;go_wp2;go_roundw;case rel=>exact HF.out
        case measure=>simp [intOf];omega
    · have hkl:j=nk:=by have:=uH.out;omega
      have hjk:j=ks.length:=by have:=uH.out;omega
      have hll:letters.data.toList.length=letters.size:=by simp
      have HNR:Hid (gP (W0.heap.size<=·) wr [] (iq name letters.data.toList ks) (.slice none 0 0) (.slice av m cv)):=by have h:=bE.out.cu;rw [nC.out,jGx (by rw [hll];have:=G7.out;omega),jGx (by omega)] at h;exact ⟨Rd.aD _ _ _,h⟩
      have EC:=hid (lY ⟨#[116,114]⟩ none av 0 m 0 cv wr);clear hll hjk;go_wp2_with fail
      (with_reducible refine EC.out.mono ?_)
      rintro e w3 ⟨rfl,b3⟩;have BL:=hid (q01 HB.out b3);have HN3:=hid (show gP (W0.heap.size<=·) w3 [] (iq name letters.data.toList ks) (.slice none 0 0) (.slice av m cv) from ⟨Rd.aD _ _ _,HNR.out.ks.aX b3⟩);obtain ⟨x0,x1,x2,x3,xf⟩:=pq (K1.out.below BL.out);obtain ⟨w9,bZ⟩:∃ w9,w9=jV w3 (S+1) (.string ⟨#[116,114]⟩) (.string ⟨#[]⟩) (.slice none 0 0) (.slice av m cv):=⟨_,rfl⟩;have hf:=uP ⟨#[116,114]⟩ ⟨#[]⟩ [] (iq name letters.data.toList ks) xq.out Z0.out B0.out K1.out BL.out HN3.out;rw [<- bZ] at hf;have vT:=hid hf.1;have sN:=hid hf.2;clear hf b3;have hw8:=bZ;simp only [jV] at hw8;clear bZ;go_wp2;rw [<- hw8];have r0:=vT.out.cell 0 _ rfl;have r1:=vT.out.cell 1 _ rfl;have r2:=vT.out.cell 2 _ rfl;have r3:=vT.out.cell 3 _ rfl;exact bodyPost_ret (v:=.agg #[.string ⟨#[116,114]⟩,.string ⟨#[]⟩,.slice none 0 0,.slice av m cv]) (by simp [results,results140,go_sem,r0,r1,r2,r3]) rfl sN.out
open Go.RowKit
theorem aG.Kc {w w5:jIq} {x:Nd} {c0 c1 c2 c3:jIz} (hb:jIx w.heap.size w w5) (hx:Rd (w.heap.size<=·) w5 x.d [c0,c1,c2,c3]) : aG 30 4 (fun _=>False) (w5.alloc (.cells #[c0,c1,c2,c3] 30)).heap.size w [x.d] [[c0,c1,c2,c3]] (.slice (some ⟨w5.heap.size,0,none⟩) 1 1) (w5.alloc (.cells #[c0,c1,c2,c3] 30)):=by have hz:(w5.alloc (.cells #[c0,c1,c2,c3] 30)).heap.size=w5.heap.size+1:=World.size_alloc _ _;have hs:=hb.size;have hc:CB 30 w5.heap.size [c0,c1,c2,c3] (w5.alloc (.cells #[c0,c1,c2,c3] 30)):=CB.new _ _ w5;refine ⟨zo (Nl hc rfl) hs,aU.one (Rd.keep (fun b hk hlt=>⟨⟨.inr hk,fun e=>by have:=jmj e;omega,by omega⟩,jG5 w5 _ b hlt⟩) _ _ hx),by simp,hb.alloc hs _,fun g hg=>by have:=jmj hg;omega,by omega,jFk _⟩
end Go.Proofs.YtklhajbpfelliaaGreatDoor

