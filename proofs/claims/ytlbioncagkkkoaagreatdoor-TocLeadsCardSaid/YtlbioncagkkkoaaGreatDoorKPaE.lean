/- Contracts of attr.Empty, tree.oneOf, anyKind, inlineFields. The contract of attr.Check: the first error of attributes. publisherref04.count, sizes, Size, Depth; tree.sizeOfLine, sizeOfBlocks, Size, Depth. Size and Depth of documents, of tree and of the reference. Plain part: attributes in braces, read off a list of bytes; what is read does not depend on what stands behind the closing brace. Contracts of attr.wordEnd from any index. The contract of attr.readValue. Contracts of slices.Index and Contains at a row of texts of one's own; attr.Has, attr.Get, addClass, addPair at an attribute of one's own. An attribute of one's own in memory; the contracts of attr.addClass and attr.addPair. The contract of attr.readItem. -/
import Derived.Test.YtlbioncagkkkoaaGreatDoorKChA
import Derived.Test.YtlbioncagkkkoaaGreatDoorKWeight
import Derived.Test.YtlbioncagkkkoaaGreatDoorKTcM
import Derived.Deep.DeepCutAuto
import Derived.Test.YtlbioncagkkkoaaGreatDoorKSmall
import Derived.Test.YtlbioncagkkkoaaGreatDoorKInlsW
import Derived.BigRegion
import Derived.Test.YtlbioncagkkkoaaGreatDoorKPlToc
import Derived.Test.YtlbioncagkkkoaaGreatDoorKBuilderK
import Derived.BigGuard
import Derived.Lib.SmallJoins
import Derived.Lib.OwnKind
set_option maxHeartbeats 8000000
set_option maxRecDepth 100000
open Go.Lib (hid)
namespace Go.Proofs.YtlbioncagkkkoaaGreatDoor
open Go.RowKit
set_option linter.unusedVariables false
set_option linter.unusedSimpArgs false
def RetB (v:Value) (w:World) (e:Ending) (w':World):Prop:=e=.returned v/\Below w.heap.size w w'
theorem len0 {α:Type} (l:List α):(((l.length:Nat):Int)==0)=l.isEmpty:=by
 cases l with
 | nil=>rfl
 | cons x l=>simp;omega
theorem aEmpty_any (a:At) (ac ap:Option Addr) (cc cp:Nat) (w:World) (hc:a.cls.length<=maxLen) (hp:a.prs.length<=maxLen) :
  Calls Tryz.prog 118 #[.agg #[.string a.id,.slice ac a.cls.length cc,.slice ap a.prs.length cp]] w (RetB (.bool a.none) w):=by
 obtain ⟨id,cls,prs⟩:=a
 dsimp only at hc hp ⊢
 have h1:=q19 id
 have h2:=len0 cls
 have h3:=len0 prs
 have HV:Hid (At.none ⟨id,cls,prs⟩=(q06 id&&cls.isEmpty&&prs.isEmpty)):=rfl
 generalize At.none ⟨id,cls,prs⟩=V at *
 generalize q06 id=b1 at *
 generalize cls.isEmpty=b2 at *
 generalize prs.isEmpty=b3 at *
 cases b1<;>cases b2<;>cases b3
 all_goals
  go_enter Tryz.func118,Tryz.ntmps118
  go_wp2
  go_ret
  exact ⟨by rw [HV.out];rfl,(Below.refl _ _).alloc (Nat.le_refl _) _⟩
def OoRel (n:Int) (ks:List Int) (vi:Value):Prop:=∃ k:Nat,k<=ks.length/\vi=.int .i64 k/\(ks.take k).contains n=false
theorem oneOf_any (n:Int) (ks:List Int) (g cap:Nat) (w:World) (hl:ks.length<=1000) (hc:∀ j k,ks[j]?=some k->w.cell? ⟨g,j,none⟩=some (.int .i64 k)) :
  Calls Tryz.prog 119 #[.int .i64 n,.slice (some ⟨g,0,none⟩) ks.length cap] w fun e w'=>e=.returned (.bool (ks.contains n))/\w=w':=by
 have HC:=hid hc
 have R0:Hid (OoRel n ks (.int .i64 0)):=⟨0,Nat.zero_le _,rfl,by simp⟩
 obtain ⟨V,hV⟩:∃ V,V=ks.contains n:=⟨_,rfl⟩
 rw [<- hV]
 have HV:=hid hV
 clear hc hV
 go_enter Tryz.func119,Tryz.ntmps119
 go_wp2
 go_loop [9] (fun i=>OoRel n ks i) (fun i=>ks.length-(intOf i).toNat)
 case atStart=>exact R0.out
 case round=>
  clear R0
  obtain ⟨k,hk,rfl,hno⟩:=hrel
  have HN:=hid hno
  clear hno
  by_cases hlt:k<ks.length
  ·obtain ⟨x,hx⟩:∃ x,ks[k]?=some x:=⟨_,List.getElem?_eq_getElem hlt⟩
   have hcell:=HC.out k x hx
   have HT:Hid ((ks.take (k+1)).contains n=((ks.take k).contains n||(n==x))):=by
    show _=_
    rw [List.take_add_one,hx,Bool.eq_iff_iff]
    simp
   have HX:=hid hx
   clear hx
   cases hnx:(n==x)
   ·rw [hnx] at HT
    go_wp2
    go_round
    case rel=>exact ⟨k+1,by omega,by go_num,by rw [HT.out,HN.out];rfl⟩
    case measure=>simp [intOf];omega
   ·have HE:Hid (V=true):=by
     show V=true
     rw [HV.out,List.contains_iff_mem]
     have:n=x:=by simpa using hnx
     rw [this];exact List.mem_of_getElem? HX.out
    go_wp2
    go_ret
    exact ⟨by rw [HE.out];rfl,rfl⟩
  ·have HE:Hid (V=false):=by
    show V=false
    rw [HV.out]
    have:=HN.out
    rwa [List.take_of_length_le (by omega)] at this
   go_wp2
   go_ret
   exact ⟨by rw [HE.out];rfl,rfl⟩
def AkRel (l:List Inl) (ks:List Int) (vi:Value):Prop:=∃ k:Nat,k<=l.length/\vi=.int .i64 k/\Inl.anyL ks (l.take k)=false
theorem Inl.anyL_app (ks:List Int):∀ (l m:List Inl),Inl.anyL ks (l++m)=(Inl.anyL ks l||Inl.anyL ks m)
 | [],m=>by rw [List.nil_append,Inl.anyL];rfl
 | x::l,m=>by rw [List.cons_append,Inl.anyL,Inl.anyL,Inl.anyL_app ks l m,Bool.or_assoc]
theorem Inl.anyL_snoc (ks:List Int) {l:List Inl} {k:Nat} {x:Inl} (hx:l[k]?=some x):Inl.anyL ks (l.take (k+1))=(Inl.anyL ks (l.take k)||x.anyK ks):=by
 rw [List.take_add_one,hx,Inl.anyL_app,Option.toList_some,Inl.anyL,Inl.anyL,Bool.or_false]
theorem Inl.anyL_get (ks:List Int):∀ {l:List Inl} {k:Nat} {x:Inl},l[k]?=some x->x.anyK ks=true->Inl.anyL ks l=true
 | [],_,_,h,_=>by simp at h
 | y::l,0,x,h,hx=>by simp at h;subst h;rw [Inl.anyL,hx];rfl
 | y::l,k+1,x,h,hx=>by rw [Inl.anyL,Inl.anyL_get ks (l:=l) (k:=k) (by simpa using h) hx,Bool.or_true]
theorem anyKind_any (n:Nat):∀ (l:List Inl) (ok:Nat->Prop) (v:Value) (ks:List Int) (g cap:Nat) (w:World),Inl.szL l<=n->Rd ok w (q0w l) [v]->ks.length<=1000->(∀ j k,ks[j]?=some k->w.cell? ⟨g,j,none⟩=some (.int .i64 k)) ->
  Calls Tryz.prog 155 #[v,.slice (some ⟨g,0,none⟩) ks.length cap] w fun e w'=>e=.returned (.bool (Inl.anyL ks l))/\w=w':=by
 induction n using Nat.strongRecOn with
 | _ n ih=>
  intro l ok v ks g cap w hn hrd hks hc
  obtain ⟨a,cp,hv,hs⟩:=Rd.sl_open hrd
  obtain rfl:v=.slice a l.length cp:=by simpa using hv
  have hcap:l.length<=cp:=by simpa using hs.le
  have hmx:=hs.max
  unfold maxLen at hmx
  have HS:=hid hs
  have IH:=hid ih
  have HC:=hid hc
  have OO:=hid (fun n=>oneOf_any n ks g cap w hks hc)
  have R0:Hid (AkRel l ks (.int .i64 0)):=⟨0,Nat.zero_le _,rfl,by rw [List.take_zero,Inl.anyL]⟩
  obtain ⟨V,hV⟩:∃ V,V=Inl.anyL ks l:=⟨_,rfl⟩
  rw [<- hV]
  have HV:=hid hV
  clear hs hv hrd ih hc hV
  go_enter Tryz.func155,Tryz.ntmps155
  go_wp2
  go_loop [8] (fun i=>AkRel l ks i) (fun i=>l.length-(intOf i).toNat)
  case atStart=>exact R0.out
  case round=>
   clear R0
   obtain ⟨k,hk,rfl,hno⟩:=hrel
   have HN:=hid hno
   clear hno
   by_cases hlt:k<l.length
   ·obtain ⟨x,hx⟩:∃ x,l[k]?=some x:=⟨_,List.getElem?_eq_getElem hlt⟩
    have hsn:=Inl.anyL_snoc ks hx
    have HG:=hid (Inl.anyL_get ks hx)
    obtain ⟨kd,t,d,ti,at_,ar,ci,kids⟩:=x
    obtain ⟨b,off,vc,vp,va,vi,vk,rfl,hok,hbl,hcl,hR⟩:=q1b HS.out hx
    obtain ⟨c0,-,-,-,-,-,-,-,-,c9⟩:=hcl
    have hsz:=Inl.szL_get l k _ hx
    rw [Inl.sz] at hsz
    have AK:=hid (IH.out (Inl.szL kids) (by omega) kids ok vk ks g cap w (Nat.le_refl _) hR.kids hks HC.out)
    obtain ⟨ak,nk,ck,rfl⟩:=Rd.slf hR.kids
    have OK:=hid (OO.out kd)
    have HX:Hid ((Inl.mk kd t d ti at_ ar ci kids).anyK ks=(ks.contains kd||Inl.anyL ks kids)):=by show _=_;rw [Inl.anyK]
    have HSN:=hid hsn
    clear hx hR hsn
    cases h1:ks.contains kd with
    | true=>
     rw [h1] at OK HX
     have HE:Hid (V=true):=by show V=true;rw [HV.out];exact HG.out (by rw [HX.out];rfl)
     clear h1
     go_wp2_with fail
     refine OK.out.mono ?_
     rintro e w1 ⟨rfl,rfl⟩
     go_wp2
     go_ret
     exact ⟨by rw [HE.out];rfl,rfl⟩
    | false=>
     rw [h1] at OK HX
     cases h2:Inl.anyL ks kids with
     | true=>
      rw [h2] at AK HX
      have HE:Hid (V=true):=by show V=true;rw [HV.out];exact HG.out (by rw [HX.out];rfl)
      clear h1 h2
      go_wp2_with fail
      refine OK.out.mono ?_
      rintro e w1 ⟨rfl,rfl⟩
      go_wp2_with fail
      refine AK.out.mono ?_
      rintro e w1 ⟨rfl,rfl⟩
      go_wp2
      go_ret
      exact ⟨by rw [HE.out];rfl,rfl⟩
     | false=>
      rw [h2] at AK HX
      clear h1 h2
      go_wp2_with fail
      refine OK.out.mono ?_
      rintro e w1 ⟨rfl,rfl⟩
      go_wp2_with fail
      refine AK.out.mono ?_
      rintro e w1 ⟨rfl,rfl⟩
      go_wp2
      go_round
      case rel=>exact ⟨k+1,by omega,by go_num,by rw [HSN.out,HN.out,HX.out];rfl⟩
      case measure=>simp [intOf];omega
   ·have HE:Hid (V=false):=by
     show V=false
     rw [HV.out]
     have:=HN.out
     rwa [List.take_of_length_le (by omega)] at this
    go_wp2
    go_ret
    exact ⟨by rw [HE.out];rfl,rfl⟩
open Go.RowKit
theorem hasB_rev (l:List ByteArray) (x:ByteArray):q1d l.reverse x=q1d l x:=by
 rw [Bool.eq_iff_iff,hasB_iff,hasB_iff,List.mem_reverse]
theorem SetAt.cleared {w:World} {b n:Nat} {S:List ByteArray} (h:SetAt w b n S) (ty:TypeId) :
  ∃ w',(Builtin.clear_ #[112] ty #[.map (some b)]).run Tryz.prog w=.ok (.tuple #[]) w'/\SetAt w' b 0 []/\w.grownBy w' (some b):=by
 obtain ⟨D,⟨es,clock,hb,F,hsz,hD⟩,hat⟩:=h
 have hr:∃ clock',(Builtin.clear_ #[112] ty #[.map (some b)]).run Tryz.prog w=.ok (.tuple #[]) { w with heap:=w.heap.setIfInBounds b (.map #[] clock') }:=by
  refine ⟨clock,?_⟩
  simp [Builtin.clear_,run_underlying Tryz.underlying112,MapKept.run_getObj_map hb,MapKept.run_setObj_map _ hb,Result.andThen]
 obtain ⟨clock',hrun⟩:=hr
 have hs:=MapKept.heap_set (o':=.map #[] clock') hb
 refine ⟨_,hrun,⟨.map [],⟨#[],clock',hs.1,⟨by simp,MapKept.stamped_empty clock',by simp⟩,Nat.le_refl _,rfl⟩,fun s=>rfl⟩,rfl,rfl,rfl,?_,fun i _ hne=>hs.2 i (fun e=>hne (by rw [e]))⟩
 simp
def EtB (T:TypeId) (p:Nat) (cs:List Value) (w:World) (mb n:Nat) (S:List ByteArray) (wr:World):Prop:=CB T p cs wr/\SetAt wr mb n S/\Below w.heap.size w wr/\w.heap.size<=mb/\p≠mb/\w.heap.size<=p
theorem EtB.put {T:TypeId} {p:Nat} {cs:List Value} {w:World} {mb n n':Nat} {S S':List ByteArray} {wr w':World} (h:EtB T p cs w mb n S wr) (hg:wr.grownBy w' (some mb)) (hs:SetAt w' mb n' S'):EtB T p cs w mb n' S' w':=
 ⟨(hg.block p h.1.lt (fun e=>h.2.2.2.2.1 (by injection e))).trans h.1,hs,h.2.2.1.grown hg h.2.2.1.size (fun j hj=>by cases hj;exact h.2.2.2.1),h.2.2.2⟩
theorem EtB.alloc {T:TypeId} {p:Nat} {cs:List Value} {w:World} {mb n:Nat} {S:List ByteArray} {wr:World} (h:EtB T p cs w mb n S wr) (o:Obj):EtB T p cs w mb n S (wr.alloc o):=
 ⟨h.1.below ((Below.refl _ _).alloc (Nat.le_refl _) _),h.2.1.below ((Below.refl _ _).alloc (Nat.le_refl _) _),h.2.2.1.alloc h.2.2.1.size _,h.2.2.2⟩
theorem EtB.drewN {T:TypeId} {p:Nat} {cs:List Value} {w:World} {mb n:Nat} {S:List ByteArray} {wr:World} (h:EtB T p cs w mb n S wr) (q:Nat):EtB T p cs w mb n S (wr.drewN q):=
 ⟨h.1,h.2.1,q03 h.2.2.1 q,h.2.2.2⟩
def AcRel1 (T:TypeId) (p:Nat) (cs:List Value) (w:World) (mb:Nat) (l:List ByteArray) (E:Nat) (vi:Value) (wr:World):Prop:=
 ∃ k:Nat,k<=l.length/\vi=.int .i64 k/\EtB T p cs w mb k (l.take k).reverse wr/\q1e (l.take k) (l.drop k)=E
def AcRel2 (T:TypeId) (p:Nat) (cs:List Value) (w:World) (mb:Nat) (l:List Pr) (E:Nat) (vi:Value) (wr:World):Prop:=
 ∃ k:Nat,k<=l.length/\vi=.int .i64 k/\EtB T p cs w mb k ((l.take k).map Pr.key).reverse wr/\q0u ((l.take k).map Pr.key) (l.drop k)=E
theorem aCheck_any (a:At) (ac ap:Option Addr) (cc cp:Nat) (w:World) (h:AtR (·<w.heap.size) w a (.slice ac a.cls.length cc) (.slice ap a.prs.length cp)) (hs:a.short) :
  Calls Tryz.prog 129 #[.agg #[.string a.id,.slice ac a.cls.length cc,.slice ap a.prs.length cp]] w (RetB (.int .i64 (a.err:Nat)) w):=by
 obtain ⟨sc,sp,si,sca,spa⟩:=hs
 obtain ⟨id,cls,prs⟩:=a
 dsimp only at sc sp si sca spa h ⊢
 obtain ⟨a1,c1,hv1,hs1⟩:=Rd.sl_open h.cls
 obtain ⟨rfl,rfl⟩:a1=ac/\c1=cc:=by simp at hv1;exact ⟨hv1.1.symm,hv1.2.symm⟩
 obtain ⟨a2,c2,hv2,hs2⟩:=Rd.sl_open h.prs
 obtain ⟨rfl,rfl⟩:a2=ap/\c2=cp:=by simp at hv2;exact ⟨hv2.1.symm,hv2.2.symm⟩
 have l1:cls.length<=c1:=by simpa using hs1.le
 have l2:prs.length<=c2:=by simpa using hs2.le
 have m1:=hs1.max
 have m2:=hs2.max
 unfold maxLen at m1 m2
 have H1:=hid hs1
 have H2:=hid hs2
 have SC:=hid sca
 have SP:=hid spa
 have NI:=hid (fun w=>name_any id w (by omega))
 have HE:Hid (At.err ⟨id,cls,prs⟩=if q06 id=false/\q0a id=false then 6 else if q1e [] cls≠0 then q1e [] cls else if q0u [] prs≠0 then q0u [] prs else if 32<cls.length\/32<prs.length then 3 else 0):=rfl
 obtain ⟨V,hV⟩:∃ V,V=At.err ⟨id,cls,prs⟩:=⟨_,rfl⟩
 rw [<- hV] at HE ⊢
 clear hV sca spa hs1 hs2 hv1 hv2 h
 by_cases hbad:q06 id=false/\q0a id=false
 ·have HV:Hid (V=6):=by show V=6;rw [HE.out,if_pos hbad]
  rw [hbad.2] at NI
  have hie:id.toList.isEmpty=false:=by rw [q19];exact hbad.1
  clear hbad HE
  go_enter Tryz.func129,Tryz.ntmps129
  go_wp2_with (go_at_call 128;refine (NI.out _).mono ?_;rintro e w1 ⟨rfl,rfl⟩)
  go_ret
  exact ⟨by rw [HV.out];rfl,(Below.refl _ _).alloc (Nat.le_refl _) _⟩
 have hgood:id.toList.isEmpty=true\/(id.toList.isEmpty=false/\q0a id=true):=by
  rw [q19]
  cases h1:q06 id
  ·right
   refine ⟨rfl,?_⟩
   cases h2:q0a id
   ·exact absurd ⟨h1,h2⟩ hbad
   ·rfl
  ·left;rfl
 have HE2:Hid (V=if q1e [] cls≠0 then q1e [] cls else if q0u [] prs≠0 then q0u [] prs else if 32<cls.length\/32<prs.length then 3 else 0):=by show V=_;rw [HE.out,if_neg hbad]
 obtain ⟨w1,hw1⟩:∃ w1,w1=(w.alloc (.cells #[.string id,.slice a1 cls.length c1,.slice a2 prs.length c2] 44)).alloc (.map #[] 0):=⟨_,rfl⟩
 have R0:Hid (AcRel1 44 w.heap.size [.string id,.slice a1 cls.length c1,.slice a2 prs.length c2] w (w.heap.size+1) cls (q1e [] cls) (.int .i64 0) w1):=by
  refine ⟨0,Nat.zero_le _,rfl,⟨?_,?_,?_,by omega,by omega,Nat.le_refl _⟩,rfl⟩
  ·rw [hw1];exact (CB.new _ _ w).below ((Below.refl _ _).alloc (Nat.le_refl _) _)
  ·rw [hw1]
   have:=SetAt.made (w.alloc (.cells #[.string id,.slice a1 cls.length c1,.slice a2 prs.length c2] 44))
   rwa [World.size_alloc] at this
  ·rw [hw1];exact ((Below.refl _ _).alloc (Nat.le_refl _) _).alloc (by simp) _
 have HW1:=hid hw1
 obtain ⟨E1,hE1⟩:∃ E1,E1=q1e [] cls:=⟨_,rfl⟩
 obtain ⟨E2,hE2⟩:∃ E2,E2=q0u [] prs:=⟨_,rfl⟩
 rw [<- hE1] at HE2 R0
 rw [<- hE2] at HE2
 have HE2d:=hid hE2
 clear hbad HE hw1 hE1 hE2
 have hmm:=@run_makeMap Tryz.prog
 rcases hgood with hie | ⟨hie,hnm⟩
 ·clear NI
  go_enter Tryz.func129,Tryz.ntmps129
  go_wp2
  rw [<- HW1.out]
  clear hmm
  go_loopw [21] (fun i wr=>AcRel1 44 w.heap.size [.string id,.slice a1 cls.length c1,.slice a2 prs.length c2] w (w.heap.size+1) cls E1 i wr) (fun i _=>cls.length-(intOf i).toNat)
  case atStart=>exact R0.out
  case round=>
   clear R0
   obtain ⟨k,hk,rfl,hEt,herr⟩:=hrel
   have HET:=hid hEt
   by_cases hlt:k<cls.length
   ·obtain ⟨x,hx⟩:∃ x,cls[k]?=some x:=⟨_,List.getElem?_eq_getElem hlt⟩
    obtain ⟨b,off,rfl,-,-,c0⟩:=strs_at H1.out hx
    have c0:wr.cell? ⟨b,off+k,none⟩=some (.string x):=by rw [hEt.2.2.1.cell (p:=⟨b,off+k,none⟩) (q0c c0)];exact c0
    have hxs:=SC.out x (List.mem_of_getElem? hx)
    have CN:=hid (fun w=>name_any x w (by omega))
    have hlk:=hEt.2.1.look x (by unfold maxLen;omega)
    obtain ⟨w',hup,hS',hg⟩:=hEt.2.1.put x (by unfold maxLen;omega) (by unfold maxLen;omega)
    have HN':=hid (hEt.put hg hS')
    rw [hasB_rev] at hlk
    rw [q0s cls k x hx,q1e] at herr
    have HTK:Hid (cls.take (k+1)=cls.take k++[x]):=by show _=_;rw [List.take_add_one,hx];rfl
    have HERR:=hid herr
    clear herr hS' hg hEt hx
    cases hn:q0a x with
    | false=>
     rw [hn] at CN
     have HV:Hid (V=6):=by
      show V=6
      have:=HERR.out
      rw [if_pos hn] at this
      rw [HE2.out,<- this];rfl
     clear hn hup
     go_wp2_with fail
     refine (CN.out _).mono ?_
     rintro e w3 ⟨rfl,rfl⟩
     go_wp2
     go_ret
     exact ⟨by rw [HV.out];rfl,HET.out.2.2.1⟩
    | true=>
     rw [hn] at CN
     cases hb:q1d (cls.take k) x with
     | true=>
      rw [hb] at hlk
      have HV:Hid (V=7):=by
       show V=7
       have:=HERR.out
       rw [if_neg (by rw [hn];decide),if_pos hb] at this
       rw [HE2.out,<- this];rfl
      clear hn hb hup
      go_wp2_with fail
      refine (CN.out _).mono ?_
      rintro e w3 ⟨rfl,rfl⟩
      go_wp2
      go_ret
      exact ⟨by rw [HV.out];rfl,HET.out.2.2.1⟩
     | false=>
      rw [hb] at hlk
      have HN2:Hid (q1e (cls.take (k+1)) (cls.drop (k+1))=E1):=by
       show _=_
       have:=HERR.out
       rw [if_neg (by rw [hn];decide),if_neg (by rw [hb];decide)] at this
       rw [HTK.out];exact this
      clear hn hb
      go_wp2_with fail
      refine (CN.out _).mono ?_
      rintro e w3 ⟨rfl,rfl⟩
      go_wp2
      go_roundw
      case rel=>exact ⟨k+1,by omega,by go_num,by rw [HTK.out,List.reverse_append];exact HN'.out,HN2.out⟩
      case measure=>simp [intOf];omega
   ·obtain rfl:k=cls.length:=by omega
    have HE10:Hid (E1=0):=by
     show E1=0
     rw [List.drop_length,q1e] at herr;exact herr.symm
    obtain ⟨w2,hcl,hS2,hg2⟩:∃ w2,(∀ ty,(Builtin.clear_ #[112] ty #[.map (some (w.heap.size+1))]).run Tryz.prog wr=.ok (.tuple #[]) w2)/\SetAt w2 (w.heap.size+1) 0 []/\wr.grownBy w2 (some (w.heap.size+1)):=by
     obtain ⟨w2,h1,h2,h3⟩:=hEt.2.1.cleared 0
     exact ⟨w2,fun ty=>h1,h2,h3⟩
    have R2:Hid (AcRel2 44 w.heap.size [.string id,.slice a1 cls.length c1,.slice a2 prs.length c2] w (w.heap.size+1) prs E2 (.int .i64 0) w2):=⟨0,Nat.zero_le _,rfl,hEt.put hg2 hS2,HE2d.out.symm⟩
    have p2:w2.cell? ⟨w.heap.size,2,none⟩=some (.slice a2 prs.length c2):=(hEt.put hg2 hS2).1.cell 2 _ rfl
    clear herr hEt HET hS2 hg2 hk hlt
    go_wp2
    go_loopw [38] (fun i wr=>AcRel2 44 w.heap.size [.string id,.slice a1 cls.length c1,.slice a2 prs.length c2] w (w.heap.size+1) prs E2 i wr) (fun i _=>prs.length-(intOf i).toNat)
    case atStart=>exact R2.out
    case round=>
     clear R2 hcl p2
     obtain ⟨k,hk,rfl,hEt,herr⟩:=hrel
     have HET:=hid hEt
     by_cases hlt:k<prs.length
     ·obtain ⟨x,hx⟩:∃ x,prs[k]?=some x:=⟨_,List.getElem?_eq_getElem hlt⟩
      obtain ⟨b,off,rfl,-,-,c0,c1'⟩:=prs_at H2.out hx
      have c0:wr.cell? ⟨b,off+k*2,none⟩=some (.string x.key):=by rw [hEt.2.2.1.cell (p:=⟨b,off+k*2,none⟩) (q0c c0)];exact c0
      have c1':wr.cell? ⟨b,off+k*2+1,none⟩=some (.string x.val):=by rw [hEt.2.2.1.cell (p:=⟨b,off+k*2+1,none⟩) (q0c c1')];exact c1'
      have hxs:=SP.out x (List.mem_of_getElem? hx)
      have HX:=hid hx
      have HERR:Hid (q0u ((prs.take k).map Pr.key) (x::prs.drop (k+1))=E2):=by show _=_;rw [<- q0s prs k x hx];exact herr
      obtain ⟨key,val⟩:=x
      dsimp only at c0 c1' hxs
      have CN:=hid (fun w=>name_any key w (by omega))
      have CV:=hid (fun w=>aLine_any val w (by omega))
      have HTK:Hid ((prs.take (k+1)).map Pr.key=(prs.take k).map Pr.key++[key]):=by show _=_;rw [List.take_add_one,HX.out];simp
      obtain ⟨wi,hwi⟩:∃ wi,wi=wr.alloc (.cells #[.string key,.string val] 58):=⟨_,rfl⟩
      have hEi:=hEt.alloc (.cells #[.string key,.string val] 58)
      rw [<- hwi] at hEi
      have i0:wi.cell? ⟨wr.heap.size,0,none⟩=some (.string key):=by rw [hwi];exact q11 wr [.string key,.string val] _ 0 _ rfl
      have i1:wi.cell? ⟨wr.heap.size,1,none⟩=some (.string val):=by rw [hwi];exact q11 wr [.string key,.string val] _ 1 _ rfl
      have HEI:=hid hEi
      clear herr hEt hx
      cases hn:q0a key with
      | false=>
       rw [hn] at CN
       have HV:Hid (V=6):=by
        show V=6
        have:=HERR.out
        rw [q0u,if_pos hn] at this
        rw [HE2.out,HE10.out,<- this];rfl
       clear hn
       go_upto_region 17 with (fail)
       rw [<- hwi]
       clear hwi hEi
       go_wp2_with fail
       refine (CN.out _).mono ?_
       rintro e w3 ⟨rfl,rfl⟩
       go_wp2
       go_ret
       exact ⟨by rw [HV.out];rfl,HEI.out.2.2.1⟩
      | true=>
       rw [hn] at CN
       cases hln:q0d val with
       | false=>
        rw [hln] at CV
        have HV:Hid (V=17):=by
         show V=17
         have:=HERR.out
         rw [q0u,if_neg (by rw [hn];decide),if_pos hln] at this
         rw [HE2.out,HE10.out,<- this];rfl
        clear hn hln
        go_upto_region 17 with (fail)
        rw [<- hwi]
        clear hwi hEi
        go_wp2_with fail
        refine (CN.out _).mono ?_
        rintro e w3 ⟨rfl,rfl⟩
        go_wp2_with fail
        refine (CV.out _).mono ?_
        rintro e w3 ⟨rfl,q,rfl⟩
        go_wp2
        go_ret
        exact ⟨by rw [HV.out];rfl,q03 HEI.out.2.2.1 q⟩
       | true=>
        rw [hln] at CV
        have HLK:=hid (fun q=>(hEi.drewN q).2.1.look key (by unfold maxLen;omega))
        have HPUT:=hid (fun q=>(hEi.drewN q).2.1.put key (by unfold maxLen;omega) (by unfold maxLen;omega))
        cases hb:q1d ((prs.take k).map Pr.key) key with
        | true=>
         have HV:Hid (V=7):=by
          show V=7
          have:=HERR.out
          rw [q0u,if_neg (by rw [hn];decide),if_neg (by rw [hln];decide),if_pos hb] at this
          rw [HE2.out,HE10.out,<- this];rfl
         have HB:=hid hb
         clear hn hln hb
         go_upto_region 17 with (fail)
         rw [<- hwi]
         clear hwi hEi
         go_wp2_with fail
         refine (CN.out _).mono ?_
         rintro e w3 ⟨rfl,rfl⟩
         go_wp2_with fail
         refine (CV.out _).mono ?_
         rintro e w3 ⟨rfl,q,rfl⟩
         have hlk:=HLK.out q
         rw [hasB_rev,HB.out] at hlk
         go_wp2
         go_ret
         exact ⟨by rw [HV.out];rfl,q03 HEI.out.2.2.1 q⟩
        | false=>
         have HN2:Hid (q0u ((prs.take (k+1)).map Pr.key) (prs.drop (k+1))=E2):=by
          show _=_
          have:=HERR.out
          rw [q0u,if_neg (by rw [hn];decide),if_neg (by rw [hln];decide),if_neg (by rw [hb];decide)] at this
          rw [HTK.out];exact this
         have HB:=hid hb
         clear hn hln hb
         go_upto_region 17 with (fail)
         rw [<- hwi]
         clear hwi hEi
         go_wp2_with fail
         refine (CN.out _).mono ?_
         rintro e w3 ⟨rfl,rfl⟩
         go_wp2_with fail
         refine (CV.out _).mono ?_
         rintro e w3 ⟨rfl,q,rfl⟩
         have hlk:=HLK.out q
         rw [hasB_rev,HB.out] at hlk
         obtain ⟨w',hup,hS',hg⟩:=HPUT.out q
         have HN':=hid ((HEI.out.drewN q).put hg hS')
         clear hS' hg
         go_wp2
         go_roundw
         case rel=>exact ⟨k+1,by omega,by go_num,by rw [HTK.out,List.reverse_append];exact HN'.out,HN2.out⟩
         case measure=>simp [intOf];omega
     ·obtain rfl:k=prs.length:=by omega
      have HV:Hid (V=if 32<cls.length\/32<prs.length then 3 else 0):=by
       show V=_
       rw [List.drop_length,q0u] at herr
       rw [HE2.out,HE10.out,<- herr];rfl
      have p1:wr.cell? ⟨w.heap.size,1,none⟩=some (.slice a1 cls.length c1):=hEt.1.cell 1 _ rfl
      have p2:wr.cell? ⟨w.heap.size,2,none⟩=some (.slice a2 prs.length c2):=hEt.1.cell 2 _ rfl
      clear herr hEt hk hlt
      by_cases h1:32<cls.length
      ·have q1:decide ((32:Int)<(cls.length:Int))=true:=by simp;omega
       go_wp2
       go_ret
       exact ⟨by rw [HV.out,if_pos (.inl h1)];rfl,HET.out.2.2.1⟩
      ·have q1:decide ((32:Int)<(cls.length:Int))=false:=by simp;omega
       by_cases h2:32<prs.length
       ·have q2:decide ((32:Int)<(prs.length:Int))=true:=by simp;omega
        go_wp2
        go_ret
        exact ⟨by rw [HV.out,if_pos (.inr h2)];rfl,HET.out.2.2.1⟩
       ·have q2:decide ((32:Int)<(prs.length:Int))=false:=by simp;omega
        go_wp2
        go_ret
        exact ⟨by rw [HV.out,if_neg (by omega)];rfl,HET.out.2.2.1⟩
 ·rw [hnm] at NI
  clear hnm
  go_enter Tryz.func129,Tryz.ntmps129
  go_wp2_with (go_at_call 128;refine (NI.out _).mono ?_;rintro e w1 ⟨rfl,rfl⟩)
  rw [<- HW1.out]
  clear hmm
  go_loopw [21] (fun i wr=>AcRel1 44 w.heap.size [.string id,.slice a1 cls.length c1,.slice a2 prs.length c2] w (w.heap.size+1) cls E1 i wr) (fun i _=>cls.length-(intOf i).toNat)
  case atStart=>exact R0.out
  case round=>
   clear R0
   obtain ⟨k,hk,rfl,hEt,herr⟩:=hrel
   have HET:=hid hEt
   by_cases hlt:k<cls.length
   ·obtain ⟨x,hx⟩:∃ x,cls[k]?=some x:=⟨_,List.getElem?_eq_getElem hlt⟩
    obtain ⟨b,off,rfl,-,-,c0⟩:=strs_at H1.out hx
    have c0:wr.cell? ⟨b,off+k,none⟩=some (.string x):=by rw [hEt.2.2.1.cell (p:=⟨b,off+k,none⟩) (q0c c0)];exact c0
    have hxs:=SC.out x (List.mem_of_getElem? hx)
    have CN:=hid (fun w=>name_any x w (by omega))
    have hlk:=hEt.2.1.look x (by unfold maxLen;omega)
    obtain ⟨w',hup,hS',hg⟩:=hEt.2.1.put x (by unfold maxLen;omega) (by unfold maxLen;omega)
    have HN':=hid (hEt.put hg hS')
    rw [hasB_rev] at hlk
    rw [q0s cls k x hx,q1e] at herr
    have HTK:Hid (cls.take (k+1)=cls.take k++[x]):=by show _=_;rw [List.take_add_one,hx];rfl
    have HERR:=hid herr
    clear herr hS' hg hEt hx
    cases hn:q0a x with
    | false=>
     rw [hn] at CN
     have HV:Hid (V=6):=by
      show V=6
      have:=HERR.out
      rw [if_pos hn] at this
      rw [HE2.out,<- this];rfl
     clear hn hup
     go_wp2_with fail
     refine (CN.out _).mono ?_
     rintro e w3 ⟨rfl,rfl⟩
     go_wp2
     go_ret
     exact ⟨by rw [HV.out];rfl,HET.out.2.2.1⟩
    | true=>
     rw [hn] at CN
     cases hb:q1d (cls.take k) x with
     | true=>
      rw [hb] at hlk
      have HV:Hid (V=7):=by
       show V=7
       have:=HERR.out
       rw [if_neg (by rw [hn];decide),if_pos hb] at this
       rw [HE2.out,<- this];rfl
      clear hn hb hup
      go_wp2_with fail
      refine (CN.out _).mono ?_
      rintro e w3 ⟨rfl,rfl⟩
      go_wp2
      go_ret
      exact ⟨by rw [HV.out];rfl,HET.out.2.2.1⟩
     | false=>
      rw [hb] at hlk
      have HN2:Hid (q1e (cls.take (k+1)) (cls.drop (k+1))=E1):=by
       show _=_
       have:=HERR.out
       rw [if_neg (by rw [hn];decide),if_neg (by rw [hb];decide)] at this
       rw [HTK.out];exact this
      clear hn hb
      go_wp2_with fail
      refine (CN.out _).mono ?_
      rintro e w3 ⟨rfl,rfl⟩
      go_wp2
      go_roundw
      case rel=>exact ⟨k+1,by omega,by go_num,by rw [HTK.out,List.reverse_append];exact HN'.out,HN2.out⟩
      case measure=>simp [intOf];omega
   ·obtain rfl:k=cls.length:=by omega
    have HE10:Hid (E1=0):=by
     show E1=0
     rw [List.drop_length,q1e] at herr;exact herr.symm
    obtain ⟨w2,hcl,hS2,hg2⟩:∃ w2,(∀ ty,(Builtin.clear_ #[112] ty #[.map (some (w.heap.size+1))]).run Tryz.prog wr=.ok (.tuple #[]) w2)/\SetAt w2 (w.heap.size+1) 0 []/\wr.grownBy w2 (some (w.heap.size+1)):=by
     obtain ⟨w2,h1,h2,h3⟩:=hEt.2.1.cleared 0
     exact ⟨w2,fun ty=>h1,h2,h3⟩
    have R2:Hid (AcRel2 44 w.heap.size [.string id,.slice a1 cls.length c1,.slice a2 prs.length c2] w (w.heap.size+1) prs E2 (.int .i64 0) w2):=⟨0,Nat.zero_le _,rfl,hEt.put hg2 hS2,HE2d.out.symm⟩
    have p2:w2.cell? ⟨w.heap.size,2,none⟩=some (.slice a2 prs.length c2):=(hEt.put hg2 hS2).1.cell 2 _ rfl
    clear herr hEt HET hS2 hg2 hk hlt
    go_wp2
    go_loopw [38] (fun i wr=>AcRel2 44 w.heap.size [.string id,.slice a1 cls.length c1,.slice a2 prs.length c2] w (w.heap.size+1) prs E2 i wr) (fun i _=>prs.length-(intOf i).toNat)
    case atStart=>exact R2.out
    case round=>
     clear R2 hcl p2
     obtain ⟨k,hk,rfl,hEt,herr⟩:=hrel
     have HET:=hid hEt
     by_cases hlt:k<prs.length
     ·obtain ⟨x,hx⟩:∃ x,prs[k]?=some x:=⟨_,List.getElem?_eq_getElem hlt⟩
      obtain ⟨b,off,rfl,-,-,c0,c1'⟩:=prs_at H2.out hx
      have c0:wr.cell? ⟨b,off+k*2,none⟩=some (.string x.key):=by rw [hEt.2.2.1.cell (p:=⟨b,off+k*2,none⟩) (q0c c0)];exact c0
      have c1':wr.cell? ⟨b,off+k*2+1,none⟩=some (.string x.val):=by rw [hEt.2.2.1.cell (p:=⟨b,off+k*2+1,none⟩) (q0c c1')];exact c1'
      have hxs:=SP.out x (List.mem_of_getElem? hx)
      have HX:=hid hx
      have HERR:Hid (q0u ((prs.take k).map Pr.key) (x::prs.drop (k+1))=E2):=by show _=_;rw [<- q0s prs k x hx];exact herr
      obtain ⟨key,val⟩:=x
      dsimp only at c0 c1' hxs
      have CN:=hid (fun w=>name_any key w (by omega))
      have CV:=hid (fun w=>aLine_any val w (by omega))
      have HTK:Hid ((prs.take (k+1)).map Pr.key=(prs.take k).map Pr.key++[key]):=by show _=_;rw [List.take_add_one,HX.out];simp
      obtain ⟨wi,hwi⟩:∃ wi,wi=wr.alloc (.cells #[.string key,.string val] 58):=⟨_,rfl⟩
      have hEi:=hEt.alloc (.cells #[.string key,.string val] 58)
      rw [<- hwi] at hEi
      have i0:wi.cell? ⟨wr.heap.size,0,none⟩=some (.string key):=by rw [hwi];exact q11 wr [.string key,.string val] _ 0 _ rfl
      have i1:wi.cell? ⟨wr.heap.size,1,none⟩=some (.string val):=by rw [hwi];exact q11 wr [.string key,.string val] _ 1 _ rfl
      have HEI:=hid hEi
      clear herr hEt hx
      cases hn:q0a key with
      | false=>
       rw [hn] at CN
       have HV:Hid (V=6):=by
        show V=6
        have:=HERR.out
        rw [q0u,if_pos hn] at this
        rw [HE2.out,HE10.out,<- this];rfl
       clear hn
       go_upto_region 17 with (fail)
       rw [<- hwi]
       clear hwi hEi
       go_wp2_with fail
       refine (CN.out _).mono ?_
       rintro e w3 ⟨rfl,rfl⟩
       go_wp2
       go_ret
       exact ⟨by rw [HV.out];rfl,HEI.out.2.2.1⟩
      | true=>
       rw [hn] at CN
       cases hln:q0d val with
       | false=>
        rw [hln] at CV
        have HV:Hid (V=17):=by
         show V=17
         have:=HERR.out
         rw [q0u,if_neg (by rw [hn];decide),if_pos hln] at this
         rw [HE2.out,HE10.out,<- this];rfl
        clear hn hln
        go_upto_region 17 with (fail)
        rw [<- hwi]
        clear hwi hEi
        go_wp2_with fail
        refine (CN.out _).mono ?_
        rintro e w3 ⟨rfl,rfl⟩
        go_wp2_with fail
        refine (CV.out _).mono ?_
        rintro e w3 ⟨rfl,q,rfl⟩
        go_wp2
        go_ret
        exact ⟨by rw [HV.out];rfl,q03 HEI.out.2.2.1 q⟩
       | true=>
        rw [hln] at CV
        have HLK:=hid (fun q=>(hEi.drewN q).2.1.look key (by unfold maxLen;omega))
        have HPUT:=hid (fun q=>(hEi.drewN q).2.1.put key (by unfold maxLen;omega) (by unfold maxLen;omega))
        cases hb:q1d ((prs.take k).map Pr.key) key with
        | true=>
         have HV:Hid (V=7):=by
          show V=7
          have:=HERR.out
          rw [q0u,if_neg (by rw [hn];decide),if_neg (by rw [hln];decide),if_pos hb] at this
          rw [HE2.out,HE10.out,<- this];rfl
         have HB:=hid hb
         clear hn hln hb
         go_upto_region 17 with (fail)
         rw [<- hwi]
         clear hwi hEi
         go_wp2_with fail
         refine (CN.out _).mono ?_
         rintro e w3 ⟨rfl,rfl⟩
         go_wp2_with fail
         refine (CV.out _).mono ?_
         rintro e w3 ⟨rfl,q,rfl⟩
         have hlk:=HLK.out q
         rw [hasB_rev,HB.out] at hlk
         go_wp2
         go_ret
         exact ⟨by rw [HV.out];rfl,q03 HEI.out.2.2.1 q⟩
        | false=>
         have HN2:Hid (q0u ((prs.take (k+1)).map Pr.key) (prs.drop (k+1))=E2):=by
          show _=_
          have:=HERR.out
          rw [q0u,if_neg (by rw [hn];decide),if_neg (by rw [hln];decide),if_neg (by rw [hb];decide)] at this
          rw [HTK.out];exact this
         have HB:=hid hb
         clear hn hln hb
         go_upto_region 17 with (fail)
         rw [<- hwi]
         clear hwi hEi
         go_wp2_with fail
         refine (CN.out _).mono ?_
         rintro e w3 ⟨rfl,rfl⟩
         go_wp2_with fail
         refine (CV.out _).mono ?_
         rintro e w3 ⟨rfl,q,rfl⟩
         have hlk:=HLK.out q
         rw [hasB_rev,HB.out] at hlk
         obtain ⟨w',hup,hS',hg⟩:=HPUT.out q
         have HN':=hid ((HEI.out.drewN q).put hg hS')
         clear hS' hg
         go_wp2
         go_roundw
         case rel=>exact ⟨k+1,by omega,by go_num,by rw [HTK.out,List.reverse_append];exact HN'.out,HN2.out⟩
         case measure=>simp [intOf];omega
     ·obtain rfl:k=prs.length:=by omega
      have HV:Hid (V=if 32<cls.length\/32<prs.length then 3 else 0):=by
       show V=_
       rw [List.drop_length,q0u] at herr
       rw [HE2.out,HE10.out,<- herr];rfl
      have p1:wr.cell? ⟨w.heap.size,1,none⟩=some (.slice a1 cls.length c1):=hEt.1.cell 1 _ rfl
      have p2:wr.cell? ⟨w.heap.size,2,none⟩=some (.slice a2 prs.length c2):=hEt.1.cell 2 _ rfl
      clear herr hEt hk hlt
      by_cases h1:32<cls.length
      ·have q1:decide ((32:Int)<(cls.length:Int))=true:=by simp;omega
       go_wp2
       go_ret
       exact ⟨by rw [HV.out,if_pos (.inl h1)];rfl,HET.out.2.2.1⟩
      ·have q1:decide ((32:Int)<(cls.length:Int))=false:=by simp;omega
       by_cases h2:32<prs.length
       ·have q2:decide ((32:Int)<(prs.length:Int))=true:=by simp;omega
        go_wp2
        go_ret
        exact ⟨by rw [HV.out,if_pos (.inr h2)];rfl,HET.out.2.2.1⟩
       ·have q2:decide ((32:Int)<(prs.length:Int))=false:=by simp;omega
        go_wp2
        go_ret
        exact ⟨by rw [HV.out,if_neg (by omega)];rfl,HET.out.2.2.1⟩
open Go.RowKit
theorem Inl.szL_part (l:List Inl) (k:Nat) (x:Inl) (h:l[k]?=some x):Inl.szL (l.take k)+x.sz<=Inl.szL l:=by
 have h1:Inl.szL (l.take (k+1))<=Inl.szL l:=by
  have:=Inl.szL_app (l.take (k+1)) (l.drop (k+1))
  rw [List.take_append_drop] at this
  omega
 rw [Inl.szL_snoc h] at h1
 exact h1
theorem Blk.allL_part (l:List Blk) (k:Nat) (x:Blk) (h:l[k]?=some x):Blk.allL (l.take k)+x.all<=Blk.allL l:=by
 have h1:Blk.allL (l.take (k+1))<=Blk.allL l:=by
  have:=Blk.allL_app (l.take (k+1)) (l.drop (k+1))
  rw [List.take_append_drop] at this
  omega
 rw [Blk.allL_snoc h] at h1
 exact h1
theorem Blk.all_pos (x:Blk):1<=x.all:=by cases x;rw [Blk.all];omega
theorem Blk.len_all:∀ (l:List Blk),l.length<=Blk.allL l
 | []=>by simp
 | x::l=>by have:=Blk.len_all l;have:=x.all_pos;rw [Blk.allL];simp;omega
theorem q_eq {P:Program} {f:FuncId} {args:Array Value} {w:World} {a n:Nat} {v:Value} (h:Calls P f args (w.drewN (a+n)) fun e w'=>e=.returned v/\w.drewN (a+n)=w') :
  Calls P f args (w.drewN (a+n)) fun e w''=>e=.returned v/\∃ m,w''=w.drewN (a+m):=h.mono fun _ _ ⟨he,hm⟩=>⟨he,n,hm.symm⟩
theorem q_dr {P:Program} {f:FuncId} {args:Array Value} {w:World} {a n:Nat} {v:Value} (h:Calls P f args (w.drewN (a+n)) (Dr v (w.drewN (a+n)))) :
  Calls P f args (w.drewN (a+n)) fun e w''=>e=.returned v/\∃ m,w''=w.drewN (a+m):=h.mono fun _ _ ⟨he,m,hm⟩=>⟨he,n+m,by rw [hm,World.drewN_drewN,Nat.add_assoc]⟩
def SzRel (l:List Inl) (vn vi:Value):Prop:=∃ k n:Nat,k<=l.length/\vi=.int .i64 k/\vn=.int .i64 n/\n=Inl.szL (l.take k)+(l.length-k)
def SbRel (l:List Blk) (w:World) (vn vi:Value) (wr:World):Prop:=∃ k n q:Nat,k<=l.length/\vi=.int .i64 k/\vn=.int .i64 n/\n=Blk.allL (l.take k)+(l.length-k)/\wr=w.drewN q
theorem count_any (n:Nat):∀ (l:List Inl) (ok:Nat->Prop) (v:Value) (w:World),Inl.szL l<=n->n<=1000000->Rd ok w (q0w l) [v] ->
  Calls Tryz.prog 102 #[v] w fun e w'=>e=.returned (.int .i64 (Inl.szL l:Nat))/\w=w':=by
 induction n using Nat.strongRecOn with
 | _ n ih=>
  intro l ok v w hn hnm h1
  obtain ⟨a,cap,hv,hs⟩:=Rd.sl_open h1
  obtain rfl:v=.slice a l.length cap:=by simpa using hv
  have hcap:l.length<=cap:=by simpa using hs.le
  have hmx:=hs.max
  unfold maxLen at hmx
  have HS:=hid hs
  have IH:=hid ih
  have R0:Hid (SzRel l (.int .i64 (l.length:Int)) (.int .i64 0)):=⟨0,l.length,Nat.zero_le _,rfl,rfl,by rw [List.take_zero,Inl.szL];simp⟩
  clear hs hv h1 ih
  go_enter Tryz.func102,Tryz.ntmps102
  go_wp2
  go_loop [3,4] (fun vn vi=>SzRel l vn vi) (fun _ i=>l.length-(intOf i).toNat)
  case atStart=>exact R0.out
  case round=>
   clear R0
   obtain ⟨k,m,hk,rfl,rfl,hm⟩:=hrel
   by_cases hlt:k<l.length
   ·obtain ⟨x,hx⟩:∃ x,l[k]?=some x:=⟨_,List.getElem?_eq_getElem hlt⟩
    have hsz:=Inl.szL_part l k _ hx
    have hsn:=Inl.szL_snoc hx
    obtain ⟨kd,t,d,ti,at_,ar,ci,ks⟩:=x
    obtain ⟨g,off,vc,vp,va,vi,vk,rfl,hok,hbl,hc,hR⟩:=q1b HS.out hx
    rw [Inl.sz] at hsz hsn
    obtain ⟨ak,nk,ck,rfl⟩:=Rd.slf hR.kids
    have p9:=hc.c9
    have CK:=hid (IH.out (Inl.szL ks) (by omega) ks ok (.slice ak nk ck) w (Nat.le_refl _) (by omega) hR.kids)
    have HM:Hid (m+Inl.szL ks=Inl.szL (l.take (k+1))+(l.length-(k+1))):=by show _=_;omega
    have hlm:l.length-k<=1000000:=by have:=Inl.len_le l;omega
    have hmb:m+Inl.szL ks<=3000000:=by omega
    generalize Inl.szL ks=K at *
    clear hc hR hx hm hsn hsz hlm
    go_wp2_with fail
    refine CK.out.mono ?_
    rintro e w1 ⟨rfl,rfl⟩
    go_wp2
    go_round
    case rel=>exact ⟨k+1,m+K,by omega,by go_num,by go_num,HM.out⟩
    case measure=>simp [intOf];omega
   ·obtain rfl:k=l.length:=by omega
    have hv:m=Inl.szL l:=by rw [hm,List.take_length];omega
    have HV:=hid hv
    clear hv hm
    go_wp2
    go_ret
    exact ⟨by rw [<- HV.out];rfl,rfl⟩
theorem sizes_any (n:Nat):∀ (l:List Blk) (ok:Nat->Prop) (v:Value) (w:World),Blk.allL l<=n->n<=1000000->Rd ok w (q0x l) [v] ->
  Calls Tryz.prog 75 #[v] w (Dr (.int .i64 (Blk.allL l:Nat)) w):=by
 induction n using Nat.strongRecOn with
 | _ n ih=>
  intro l ok v w hn hnm h1
  obtain ⟨a,cap,hv,hs⟩:=Rd.sl_open h1
  obtain rfl:v=.slice a l.length cap:=by simpa using hv
  have hcap:l.length<=cap:=by simpa using hs.le
  have hmx:=hs.max
  unfold maxLen at hmx
  have HS:=hid hs
  have IH:=hid ih
  have R0:Hid (SbRel l w (.int .i64 (l.length:Int)) (.int .i64 0) w):=⟨0,l.length,0,Nat.zero_le _,rfl,rfl,by rw [List.take_zero,Blk.allL];simp,rfl⟩
  clear hs hv h1 ih
  go_enter Tryz.func75,Tryz.ntmps75
  go_wp2
  go_loopw [3,4] (fun vn vi wr=>SbRel l w vn vi wr) (fun _ i _=>l.length-(intOf i).toNat)
  case atStart=>exact R0.out
  case round=>
   clear R0
   obtain ⟨k,m,q,hk,rfl,rfl,hm,rfl⟩:=hrel
   by_cases hlt:k<l.length
   ·obtain ⟨x,hx⟩:∃ x,l[k]?=some x:=⟨_,List.getElem?_eq_getElem hlt⟩
    have hsz:=Blk.allL_part l k _ hx
    have hsn:=Blk.allL_snoc hx
    obtain ⟨kd,lv,i,t,d,ti,at_,li,ks⟩:=x
    obtain ⟨g,off,vc,vp,vl,vk,rfl,hok,hbl,hc,hR⟩:=q1w HS.out hx
    rw [Blk.all] at hsz hsn
    obtain ⟨ak,nk,ck,rfl⟩:=Rd.slf hR.kids
    obtain ⟨al,nl,cl,rfl⟩:=Rd.slf hR.line
    have p9:=hc.c9
    have p10:=hc.c10
    have hst:∀ q,Stays ok ok w (w.drewN q):=fun q b h _=>⟨h,rfl⟩
    have CL:=hid (fun q=>count_any _ li ok (.slice al nl cl) (w.drewN q) (Nat.le_refl _) (by omega) (Rd.keep (hst q) _ _ hR.line))
    have CK:=hid (fun q=>IH.out (Blk.allL ks) (by omega) ks ok (.slice ak nk ck) (w.drewN q) (Nat.le_refl _) (by omega) (Rd.keep (hst q) _ _ hR.kids))
    have HM:Hid (m+(Inl.szL li+Blk.allL ks)=Blk.allL (l.take (k+1))+(l.length-(k+1))):=by show _=_;omega
    have hlm:l.length-k<=1000000:=by have:=Blk.len_all l;omega
    have hmb:m+(Inl.szL li+Blk.allL ks)<=3000000:=by omega
    generalize Inl.szL li=L at *
    generalize Blk.allL ks=K at *
    have s1:IntKind.i64.wrap ((L:Int)+(K:Int))=(L:Int)+(K:Int):=wrap_id (by omega) (by omega)
    have s2:IntKind.i64.wrap ((m:Int)+((L:Int)+(K:Int)))=(m:Int)+((L:Int)+(K:Int)):=wrap_id (by omega) (by omega)
    clear hc hR hx hm hsn hsz hlm hst
    go_wp2_with fail
    go_quiet ((first | (go_at_call 102;exact q_eq (CL.out _)) | (go_at_call 75;exact q_dr (CK.out _))))
    clear s1 s2
    go_wp2
    go_roundw
    case rel=>exact ⟨k+1,m+(L+K),_,by omega,by go_num,by go_num,HM.out,rfl⟩
    case measure=>simp [intOf];omega
   ·obtain rfl:k=l.length:=by omega
    have hv:m=Blk.allL l:=by rw [hm,List.take_length];omega
    have HV:=hid hv
    clear hv hm
    go_wp2
    go_ret
    exact ⟨by rw [<- HV.out];rfl,q,rfl⟩
open Go.RowKit
mutual
def Blk.dep:Blk->Nat
 | .mk _ _ _ _ _ _ _ _ ks=>1+Blk.depL ks
def Blk.depL:List Blk->Nat
 | []=>0
 | x::l=>max x.dep (Blk.depL l)
end
theorem Blk.szL_part (l:List Blk):∀ k,Blk.szL (l.take k)<=Blk.szL l:=by
 intro k
 have h:∀ (l m:List Blk),Blk.szL (l++m)=Blk.szL l+Blk.szL m:=by
  intro l m
  induction l with
  | nil=>rw [List.nil_append,Blk.szL];omega
  | cons x l ih=>rw [List.cons_append,Blk.szL,Blk.szL,ih];omega
 have:=h (l.take k) (l.drop k)
 rw [List.take_append_drop] at this
 omega
theorem rSize_any (l:List Blk) (am ab:Option Addr) (nm cm nb cb:Nat) (w:World) (hn:Blk.allL l<=1000000) (h:Rd (·<w.heap.size) w (q0x l) [.slice ab nb cb]) :
  Calls Tryz.prog 40 #[.agg #[.slice am nm cm,.slice ab nb cb]] w (RetB (.int .i64 (Blk.allL l:Nat)) w):=by
 have hb0:Below w.heap.size w (w.alloc (.cells #[.slice am nm cm,.slice ab nb cb] 25)):=(Below.refl _ _).alloc (Nat.le_refl _) _
 have SZ:=hid (sizes_any _ l _ _ _ (Nat.le_refl _) hn (h.up hb0))
 have HB:=hid hb0
 generalize Blk.allL l=N at *
 clear h hb0
 go_enter Tryz.func40,Tryz.ntmps40
 go_wp2_with fail
 refine SZ.out.mono ?_
 rintro e w1 ⟨rfl,q,rfl⟩
 go_wp2
 go_ret
 exact ⟨rfl,q03 HB.out q⟩
def quoteL:List UInt8->List UInt8->Option (List UInt8 × List UInt8)
 | [],_=>none
 | c::l,acc=>
  if c=34 then some (acc,l)
  else if c=92 then (match l with
   | []=>none
   | d::l'=>if d=34\/d=92 then quoteL l' (acc++[d]) else none)
  else quoteL l (acc++[c])
def bsOf (l:List UInt8):ByteArray:=⟨l.toArray⟩
def q2l (l:List UInt8):Option (ByteArray × List UInt8):=
 if l.head?=some 34 then (match quoteL l.tail [] with
  | none=>none
  | some (v,r)=>if q0d (bsOf v)=true then some (bsOf v,r) else none)
 else if q0a (bsOf (l.takeWhile nmB))=true then some (bsOf (l.takeWhile nmB),l.dropWhile nmB) else none
def q0g (l:List UInt8):List UInt8:=if l.head?=some 35\/l.head?=some 46 then l.tail else l
def keysOf (a:At):List ByteArray:=a.prs.map Pr.key
def q2h (a:At) (l:List UInt8):Option (At × List UInt8):=
 if q0a (bsOf ((q0g l).takeWhile nmB))=false then none
 else if l.head?=some 35 then (if q06 a.id=false then none else some (⟨bsOf ((q0g l).takeWhile nmB),a.cls,a.prs⟩,(q0g l).dropWhile nmB))
 else if l.head?=some 46 then (if q1d a.cls (bsOf ((q0g l).takeWhile nmB))=true then none else if 32<=a.cls.length then none
  else some (⟨a.id,a.cls++[bsOf ((q0g l).takeWhile nmB)],a.prs⟩,(q0g l).dropWhile nmB))
 else if ((q0g l).dropWhile nmB).head?=some 61 then (match q2l ((q0g l).dropWhile nmB).tail with
  | none=>none
  | some (v,r)=>if q1d (keysOf a) (bsOf ((q0g l).takeWhile nmB))=true then none else if 32<=a.prs.length then none
   else some (⟨a.id,a.cls,a.prs++[⟨bsOf ((q0g l).takeWhile nmB),v⟩]⟩,r))
 else none
def isSp (c:UInt8):Bool:=decide (c=32)
def q0t (l:List UInt8):List UInt8:=l.dropWhile isSp
def parseG:Nat->At->Bool->List UInt8->Option (At × List UInt8)
 | 0,_,_,_=>none
 | f+1,a,sep,l=>
  if l.head?=some 125 then some (a,l.tail)
  else if l=[]\/sep=false then none
  else (match q2h a l with
   | none=>none
   | some (a',l')=>parseG f a' (decide (l'.head?=some 32)) (q0t l'))
def parseL (l:List UInt8):Option (At × List UInt8):=
 if l.head?=some 123 then parseG l.length ⟨bsOf [],[],[]⟩ true (q0t l.tail) else none
theorem tw_app (p:UInt8->Bool):∀ (n r:List UInt8),(∀ c∈n,p c=true)->(∀ c,r.head?=some c->p c=false)->(n++r).takeWhile p=n/\(n++r).dropWhile p=r
 | [],r,_,h2=>by
  cases r with
  | nil=>exact ⟨rfl,rfl⟩
  | cons c r=>exact ⟨by simp [h2 c rfl],by simp [h2 c rfl]⟩
 | c::n,r,h1,h2=>by
  have hc:=h1 c (by simp)
  obtain ⟨k1,k2⟩:=tw_app p n r (fun x hx=>h1 x (by simp [hx])) h2
  rw [List.cons_append,List.takeWhile_cons,List.dropWhile_cons,hc]
  simp [k1,k2]
theorem tw_parts (p:UInt8->Bool) (l:List UInt8):(∀ c∈l.takeWhile p,p c=true)/\(∀ c,(l.dropWhile p).head?=some c->p c=false):=by
 induction l with
 | nil=>simp
 | cons x l ih=>
  rw [List.takeWhile_cons,List.dropWhile_cons]
  cases h:p x with
  | true=>
   refine ⟨fun c hc=>?_,fun c hc=>ih.2 c (by simpa using hc)⟩
   simp at hc
   rcases hc with rfl | hc
   ·exact h
   ·exact ih.1 c hc
  | false=>exact ⟨by simp,fun c hc=>by simp at hc;rw [<- hc];exact h⟩
theorem tw_swap (p:UInt8->Bool) (l r':List UInt8) (h:r'.head?=(l.dropWhile p).head?):(l.takeWhile p++r').takeWhile p=l.takeWhile p/\(l.takeWhile p++r').dropWhile p=r':=
 tw_app p _ _ (tw_parts p l).1 (fun c hc=>(tw_parts p l).2 c (by rw [<- h];exact hc))
theorem quoteL_pre:∀ (n:Nat) (l acc v r:List UInt8),l.length<=n->quoteL l acc=some (v,r)->∃ p,l=p++r/\p≠[]/\∀ r',quoteL (p++r') acc=some (v,r')
 | n,[],acc,v,r,_,h=>by rw [quoteL] at h;cases h
 | 0,c::l,acc,v,r,hn,h=>by simp at hn
 | n+1,c::l,acc,v,r,hn,h=>by
  simp only [List.length_cons] at hn
  rw [quoteL.eq_def] at h
  simp only at h
  by_cases h1:c=34
  ·rw [if_pos h1] at h
   injection h with h
   injection h with h2 h3
   subst h2 h3
   exact ⟨[c],rfl,by simp,fun r'=>by rw [List.singleton_append,quoteL.eq_def];simp only;rw [if_pos h1]⟩
  ·rw [if_neg h1] at h
   by_cases h2:c=92
   ·rw [if_pos h2] at h
    cases l with
    | nil=>cases h
    | cons d l'=>
     simp only at h
     by_cases h3:d=34\/d=92
     ·rw [if_pos h3] at h
      obtain ⟨p,e1,e2,e3⟩:=quoteL_pre n l' (acc++[d]) v r (by simp at hn;omega) h
      refine ⟨c::d::p,by rw [e1];rfl,by simp,fun r'=>?_⟩
      rw [List.cons_append,List.cons_append,quoteL.eq_def]
      simp only
      rw [if_neg h1,if_pos h2,if_pos h3]
      exact e3 r'
     ·rw [if_neg h3] at h;cases h
   ·rw [if_neg h2] at h
    obtain ⟨p,e1,e2,e3⟩:=quoteL_pre n l (acc++[c]) v r (by omega) h
    refine ⟨c::p,by rw [e1];rfl,by simp,fun r'=>?_⟩
    rw [List.cons_append,quoteL.eq_def]
    simp only
    rw [if_neg h1,if_neg h2]
    exact e3 r'
theorem nameOk_ne (l:List UInt8) (h:q0a (bsOf l)=true):l≠[]:=by
 rintro rfl
 revert h
 decide
theorem valueL_pre (l r:List UInt8) (v:ByteArray) (h:q2l l=some (v,r)):∃ p,l=p++r/\p≠[]/\∀ r',r'.head?=r.head?->q2l (p++r')=some (v,r'):=by
 unfold q2l at h
 by_cases h1:l.head?=some 34
 ·rw [if_pos h1] at h
  cases l with
  | nil=>simp at h1
  | cons c l=>
   obtain rfl:c=34:=by simpa using h1
   rw [List.tail_cons] at h
   cases hq:quoteL l [] with
   | none=>rw [hq] at h;cases h
   | some z=>
    obtain ⟨v1,r1⟩:=z
    rw [hq] at h
    simp only at h
    by_cases h2:q0d (bsOf v1)=true
    ·rw [if_pos h2] at h
     injection h with h
     injection h with h3 h4
     subst h3 h4
     obtain ⟨p,e1,e2,e3⟩:=quoteL_pre _ l [] v1 r1 (Nat.le_refl _) hq
     refine ⟨34::p,by rw [e1];rfl,by simp,fun r' _=>?_⟩
     unfold q2l
     rw [List.cons_append,List.head?_cons,if_pos rfl,List.tail_cons,e3 r']
     simp only
     rw [if_pos h2]
    ·rw [if_neg h2] at h;cases h
 ·rw [if_neg h1] at h
  by_cases h2:q0a (bsOf (l.takeWhile nmB))=true
  ·rw [if_pos h2] at h
   injection h with h
   injection h with h3 h4
   subst h3 h4
   refine ⟨l.takeWhile nmB,(List.takeWhile_append_dropWhile).symm,nameOk_ne _ h2,fun r' hr=>?_⟩
   obtain ⟨k1,k2⟩:=tw_swap nmB l r' hr
   unfold q2l
   have hh:(l.takeWhile nmB++r').head?=l.head?:=by
    cases l with
    | nil=>exact absurd rfl (nameOk_ne _ h2)
    | cons c l=>
     have hne:=nameOk_ne _ h2
     rw [List.takeWhile_cons] at hne ⊢
     cases hc:nmB c with
     | true=>simp
     | false=>rw [hc] at hne;simp at hne
   rw [hh,if_neg h1,k1,k2,if_pos h2]
  ·rw [if_neg h2] at h;cases h
theorem head_app (p r r':List UInt8) (h:p≠[]):(p++r).head?=(p++r').head?:=by
 cases p with
 | nil=>exact absurd rfl h
 | cons c p=>rfl
theorem itemL_pre (a a':At) (l r:List UInt8) (h:q2h a l=some (a',r)):∃ p,l=p++r/\p≠[]/\∀ r',r'.head?=r.head?->q2h a (p++r')=some (a',r'):=by
 unfold q2h at h
 by_cases h1:q0a (bsOf ((q0g l).takeWhile nmB))=false
 ·rw [if_pos h1] at h;cases h
 rw [if_neg h1] at h
 have h1':q0a (bsOf ((q0g l).takeWhile nmB))=true:=by simpa using h1
 have hN:=nameOk_ne _ h1'
 by_cases h2:l.head?=some 35
 ·rw [if_pos h2] at h
  by_cases h3:q06 a.id=false
  ·rw [if_pos h3] at h;cases h
  rw [if_neg h3] at h
  injection h with h
  injection h with e1 e2
  cases l with
  | nil=>simp at h2
  | cons c l=>
   obtain rfl:c=35:=by simpa using h2
   have hA:∀ x,q0g (35::x)=x:=fun x=>by simp [q0g]
   rw [hA] at e1 e2 h1 hN
   refine ⟨35::l.takeWhile nmB,?_,by simp,fun r' hr=>?_⟩
   ·rw [<- e2,List.cons_append,List.takeWhile_append_dropWhile]
   ·obtain ⟨k1,k2⟩:=tw_swap nmB l r' (by rw [hr,e2])
    unfold q2h
    rw [List.cons_append,hA,k1,k2,if_neg h1,List.head?_cons,if_pos rfl,if_neg h3,e1]
 rw [if_neg h2] at h
 by_cases h3:l.head?=some 46
 ·rw [if_pos h3] at h
  by_cases h4:q1d a.cls (bsOf ((q0g l).takeWhile nmB))=true
  ·rw [if_pos h4] at h;cases h
  rw [if_neg h4] at h
  by_cases h5:32<=a.cls.length
  ·rw [if_pos h5] at h;cases h
  rw [if_neg h5] at h
  injection h with h
  injection h with e1 e2
  cases l with
  | nil=>simp at h3
  | cons c l=>
   obtain rfl:c=46:=by simpa using h3
   have hA:∀ x,q0g (46::x)=x:=fun x=>by simp [q0g]
   rw [hA] at e1 e2 h1 hN h4
   refine ⟨46::l.takeWhile nmB,?_,by simp,fun r' hr=>?_⟩
   ·rw [<- e2,List.cons_append,List.takeWhile_append_dropWhile]
   ·obtain ⟨k1,k2⟩:=tw_swap nmB l r' (by rw [hr,e2])
    unfold q2h
    rw [List.cons_append,hA,k1,k2,if_neg h1,List.head?_cons,if_neg (by decide),if_pos rfl,if_neg h4,if_neg h5,e1]
 rw [if_neg h3] at h
 have hA:q0g l=l:=by unfold q0g;rw [if_neg (by rintro (h | h);exact h2 h;exact h3 h)]
 rw [hA] at h h1 hN
 by_cases h4:(l.dropWhile nmB).head?=some 61
 ·rw [if_pos h4] at h
  cases hv:q2l (l.dropWhile nmB).tail with
  | none=>rw [hv] at h;cases h
  | some z=>
   obtain ⟨v,r1⟩:=z
   rw [hv] at h
   simp only at h
   by_cases h5:q1d (keysOf a) (bsOf (l.takeWhile nmB))=true
   ·rw [if_pos h5] at h;cases h
   rw [if_neg h5] at h
   by_cases h6:32<=a.prs.length
   ·rw [if_pos h6] at h;cases h
   rw [if_neg h6] at h
   injection h with h
   injection h with e1 e2
   subst e2
   obtain ⟨p1,q1,q2,q3⟩:=valueL_pre _ _ _ hv
   have hD:l.dropWhile nmB=61::(l.dropWhile nmB).tail:=by
    cases hd:l.dropWhile nmB with
    | nil=>rw [hd] at h4;simp at h4
    | cons c m=>
     rw [hd] at h4
     obtain rfl:c=61:=by simpa using h4
     rfl
   refine ⟨l.takeWhile nmB++61::p1,?_,by simp,fun r' hr=>?_⟩
   ·rw [List.append_assoc,List.cons_append,<- q1,<- hD,List.takeWhile_append_dropWhile]
   ·have hrr:(l.takeWhile nmB++61::p1)++r'=l.takeWhile nmB++(61::(p1++r')):=by simp
    obtain ⟨k1,k2⟩:=tw_swap nmB l (61::(p1++r')) (by rw [h4];rfl)
    have hh:(l.takeWhile nmB++(61::(p1++r'))).head?=l.head?:=by
     conv=>rhs;rw [<- List.takeWhile_append_dropWhile (p:=nmB) (l:=l)]
     exact head_app _ _ _ hN
    have hA':q0g (l.takeWhile nmB++(61::(p1++r')))=l.takeWhile nmB++(61::(p1++r')):=by
     unfold q0g;rw [hh,if_neg (by rintro (h | h);exact h2 h;exact h3 h)]
    unfold q2h
    rw [hrr,hA',k1,k2,hh,if_neg h1,if_neg h2,if_neg h3,List.head?_cons,if_pos rfl,List.tail_cons,q3 r' hr]
    simp only
    rw [if_neg h5,if_neg h6,e1]
 ·rw [if_neg h4] at h;cases h
def closeR (l:List UInt8):Bool:=match parseL l with
 | none=>false
 | some (_,r)=>r.all isSp
def endsL (l:List UInt8):Bool:=
 decide ((l.takeWhile isSp).length<=3)&&decide ((q0t l).take 2=[36,36])&&((q0t ((q0t l).drop 2)).isEmpty||closeR (q0t ((q0t l).drop 2)))
def linesG:List UInt8->List UInt8->List (List UInt8)
 | _,[]=>[]
 | acc,c::l=>if c=10 then acc::linesG [] l else linesG (acc++[c]) l
def q0i (s:ByteArray):Bool:=(linesG [] s.data.toList).any endsL
open Go.RowKit
def frm (s:ByteArray) (i:Nat):List UInt8:=s.data.toList.drop i
theorem frm_len (s:ByteArray) (i:Nat):(frm s i).length=s.size-i:=by unfold frm;simp
theorem q1l (s:ByteArray) (i:Nat) (h:i<s.size):frm s i=s[i]::frm s (i+1):=by
 unfold frm
 have h1:i<s.data.toList.length:=by simpa using h
 rw [List.drop_eq_getElem_cons h1]
 congr 1
theorem frm_end (s:ByteArray) (i:Nat) (h:s.size<=i):frm s i=[]:=List.drop_eq_nil_of_le (by simpa using h)
theorem frm_head (s:ByteArray) (i:Nat) (h:i<s.size):(frm s i).head?=some s[i]:=by rw [q1l s i h];rfl
def q1u (s:ByteArray) (i:Nat):Nat:=i+((frm s i).takeWhile nmB).length
theorem wEndI_le (s:ByteArray) (i:Nat) (h:i<=s.size):q1u s i<=s.size:=by
 unfold q1u
 have h1:=(List.takeWhile_sublist (p:=nmB) (l:=frm s i)).length_le
 rw [frm_len] at h1
 omega
theorem frm_wEnd (s:ByteArray) (i:Nat):frm s (q1u s i)=(frm s i).dropWhile nmB:=by
 unfold q1u frm
 rw [<- List.drop_drop]
 generalize s.data.toList.drop i=l
 induction l with
 | nil=>rfl
 | cons c l ih=>
  by_cases h:nmB c=true
  ·rw [List.takeWhile_cons_of_pos h,List.dropWhile_cons_of_pos h,List.length_cons,List.drop_succ_cons];exact ih
  ·rw [List.takeWhile_cons_of_neg h,List.dropWhile_cons_of_neg h];rfl
theorem word_text (s:ByteArray) (i:Nat) (h:i<=s.size):s.extract i (q1u s i)=bsOf ((frm s i).takeWhile nmB):=by
 apply ByteArray.ext
 apply Array.toList_inj.1
 unfold bsOf
 rw [ByteArray.data_extract,Array.toList_extract]
 have h2:(frm s i).take (q1u s i-i)=(frm s i).takeWhile nmB:=by
  unfold q1u
  rw [Nat.add_sub_cancel_left]
  generalize frm s i=l
  induction l with
  | nil=>rfl
  | cons c l ih=>
   by_cases h:nmB c=true
   ·rw [List.takeWhile_cons_of_pos h,List.length_cons,List.take_succ_cons,ih]
   ·rw [List.takeWhile_cons_of_neg h];rfl
 rw [<- h2]
 unfold frm
 simp [List.extract_eq_take_drop]
open Go.RowKit
open Go.RowKit
theorem hasB_drop (l:List ByteArray) (k:Nat) (y x:ByteArray) (h:l[k]?=some y):q1d (l.drop k) x=(decide (y=x)||q1d (l.drop (k+1)) x):=by
 rw [q0s l k y h];rfl
def pcs (p:Pr):List Value:=[.string p.key,.string p.val]
def q2f (l:List Pr):List Value:=(l.map pcs).flatten
theorem prCells_get (l:List Pr) (k:Nat) (p:Pr) (h:l[k]?=some p):(q2f l)[k*2]?=some (.string p.key)/\(q2f l)[k*2+1]?=some (.string p.val):=by
 have h2:∀ r∈l.map pcs,r.length=2:=by intro r hr;obtain ⟨q,_,rfl⟩:=List.mem_map.1 hr;rfl
 have hr:(l.map pcs)[k]?=some (pcs p):=by rw [List.getElem?_map,h];rfl
 exact ⟨q28 2 _ h2 k 0 _ _ hr rfl,q28 2 _ h2 k 1 _ _ hr rfl⟩
open Go.RowKit
structure Kx (B b:Nat) (w w':World):Prop where
 os:w'.os=w.os
 tape:w'.tape=w.tape
 output:w'.output=w.output
 size:w.heap.size<=w'.heap.size
 block:∀ k,k<B->k≠b->w'.heap[k]?=w.heap[k]?
section
variable {B b:Nat} {w w' w1 w2:World}
theorem Kx.refl (B b:Nat) (w:World):Kx B b w w:=⟨rfl,rfl,rfl,Nat.le_refl _,fun _ _ _=>rfl⟩
theorem Kx.trans (h:Kx B b w w1) (k:Kx B b w1 w2):Kx B b w w2:=
 ⟨k.os.trans h.os,k.tape.trans h.tape,k.output.trans h.output,Nat.le_trans h.size k.size,fun i h1 h2=>(k.block i h1 h2).trans (h.block i h1 h2)⟩
theorem Kx.of (h:Below w.heap.size w w1) (hB:B<=w.heap.size):Kx B b w w1:=⟨h.os,h.tape,h.output,h.size,fun i h1 _=>h.block i (by omega)⟩
theorem Kx.grown {row:Option Nat} (h:w.grownBy w1 row) (hB:B<=w.heap.size) (hr:∀ g,row=some g->B<=g):Kx B b w w1:=
 ⟨h.os,h.tape,h.output,h.size,fun i h1 _=>h.block i (by omega) (fun e=>by have:=hr i e.symm;omega)⟩
theorem Kx.set (w:World) (j:Nat) (u:Value):Kx B b w (w.setCell ⟨b,j,none⟩ u):=
 ⟨rfl,rfl,rfl,by simp [World.setCell],fun i _ h2=>Below.heap_setCell w ⟨b,j,none⟩ u i h2⟩
end
structure AtO (B b:Nat) (a:At) (vc vp:Value) (w:World):Prop where
 ab:AB b [.string a.id,vc,vp] w
 cls:w.ownsRow B 9 1 vc a.cls.length (a.cls.map Value.string)
 prs:w.ownsRow B 58 2 vp a.prs.length (q2f a.prs)
 lt:b<B
 le:B<=w.heap.size
section
variable {B b:Nat} {a:At} {vc vp v1:Value} {w w1 w2:World}
theorem AtO.below (h:AtO B b a vc vp w) (hb:Below w.heap.size w w1):AtO B b a vc vp w1:=
 ⟨(hb.block b h.ab.lt).trans h.ab,q27 h.cls hb,q27 h.prs hb,h.lt,Nat.le_trans h.le hb.size⟩
theorem AtO.apart (h:AtO B b a vc vp w):vc.ownBlock=none\/vc.ownBlock≠vp.ownBlock:=by
 cases hc:vc.ownBlock with
 | none=>exact .inl rfl
 | some g=>
  right
  intro e
  obtain ⟨c1,f1,e1⟩:=Lib.ownsRow_kind h.cls g hc
  obtain ⟨c2,f2,e2⟩:=Lib.ownsRow_kind h.prs g e.symm
  rw [e1] at e2
  simp at e2
theorem AtO.apart' (h:AtO B b a vc vp w):vp.ownBlock=none\/vp.ownBlock≠vc.ownBlock:=by
 rcases h.apart with h1 | h1
 ·cases hc:vp.ownBlock with
  | none=>exact .inl rfl
  | some g=>right;rw [h1];simp
 ·exact .inr fun e=>h1 e.symm
theorem AtO.at3 (h:AtO B b a vc vp w):w.cell? ⟨b,0,none⟩=some (.string a.id)/\w.cell? ⟨b,1,none⟩=some vc/\w.cell? ⟨b,2,none⟩=some vp:=
 ⟨h.ab.cell 0 _ rfl,h.ab.cell 1 _ rfl,h.ab.cell 2 _ rfl⟩
theorem AtO.pushC {x:ByteArray} {o:Obj} (h:AtO B b a vc vp w) (hg:(w.alloc o).grownBy w1 vc.ownBlock) (hown:w1.ownsRow B 9 1 v1 (a.cls.length+1) (a.cls.map Value.string++[.string x])) :
  w1.frozen? ⟨b,1,none⟩=false/\w1.cell? ⟨b,1,none⟩=some vc/\AtO B b ⟨a.id,a.cls++[x],a.prs⟩ v1 vp (w1.setCell ⟨b,1,none⟩ v1)/\Kx B b w (w1.setCell ⟨b,1,none⟩ v1):=by
 have hal:Below w.heap.size w (w.alloc o):=(Below.refl _ _).alloc (Nat.le_refl _) _
 have h0:=h.below hal
 have hr:∀ g,vc.ownBlock=some g->B<=g:=fun g hgv=>(h.cls.lt g hgv).1
 have hab1:AB b [.string a.id,vc,vp] w1:=(hg.block b h0.ab.lt (fun e=>by have:=hr b e.symm;have:=h.lt;omega)).trans h0.ab
 refine ⟨hab1.free 1,hab1.cell 1 _ rfl,⟨hab1.set 1 v1,?_,?_,h.lt,?_⟩,?_⟩
 ·exact ownsRow_setCell_below (by simpa using hown) h.lt v1
 ·exact ownsRow_setCell_below (h0.prs.kept hg h.apart') h.lt v1
 ·exact Nat.le_trans h0.le (by simpa [World.setCell] using hg.size)
 ·exact ((Kx.of hal h.le).trans (Kx.grown hg h0.le hr)).trans (Kx.set w1 1 v1)
theorem AtO.pushP {x:Pr} {o:Obj} (h:AtO B b a vc vp w) (hg:(w.alloc o).grownBy w1 vp.ownBlock) (hown:w1.ownsRow B 58 2 v1 (a.prs.length+1) (q2f a.prs++pcs x)) :
  w1.frozen? ⟨b,2,none⟩=false/\w1.cell? ⟨b,2,none⟩=some vp/\AtO B b ⟨a.id,a.cls,a.prs++[x]⟩ vc v1 (w1.setCell ⟨b,2,none⟩ v1)/\Kx B b w (w1.setCell ⟨b,2,none⟩ v1):=by
 have hal:Below w.heap.size w (w.alloc o):=(Below.refl _ _).alloc (Nat.le_refl _) _
 have h0:=h.below hal
 have hr:∀ g,vp.ownBlock=some g->B<=g:=fun g hgv=>(h.prs.lt g hgv).1
 have hab1:AB b [.string a.id,vc,vp] w1:=(hg.block b h0.ab.lt (fun e=>by have:=hr b e.symm;have:=h.lt;omega)).trans h0.ab
 refine ⟨hab1.free 2,hab1.cell 2 _ rfl,⟨hab1.set 2 v1,?_,?_,h.lt,?_⟩,?_⟩
 ·exact ownsRow_setCell_below (h0.cls.kept hg h.apart) h.lt v1
 ·refine ownsRow_setCell_below ?_ h.lt v1
  have e:q2f (a.prs++[x])=q2f a.prs++pcs x:=by simp [q2f]
  rw [e]
  simpa using hown
 ·exact Nat.le_trans h0.le (by simpa [World.setCell] using hg.size)
 ·exact ((Kx.of hal h.le).trans (Kx.grown hg h0.le hr)).trans (Kx.set w1 2 v1)
end
open Go.RowKit
theorem item_form (a:At) (s:ByteArray) (i j:Nat) (h:q0g (frm s i)=frm s j) (hj:j<=s.size) :
  q2h a (frm s i)=if q0a (s.extract j (q1u s j))=false then none
   else if (frm s i).head?=some 35 then (if q06 a.id=false then none else some (⟨s.extract j (q1u s j),a.cls,a.prs⟩,frm s (q1u s j)))
   else if (frm s i).head?=some 46 then (if q1d a.cls (s.extract j (q1u s j))=true then none else if 32<=a.cls.length then none
    else some (⟨a.id,a.cls++[s.extract j (q1u s j)],a.prs⟩,frm s (q1u s j)))
   else if (frm s (q1u s j)).head?=some 61 then (match q2l (frm s (q1u s j)).tail with
    | none=>none
    | some (v,r)=>if q1d (keysOf a) (s.extract j (q1u s j))=true then none else if 32<=a.prs.length then none
     else some (⟨a.id,a.cls,a.prs++[⟨s.extract j (q1u s j),v⟩]⟩,r))
   else none:=by
 unfold q2h
 rw [h,word_text s j hj,frm_wEnd]<;>rfl
end Go.Proofs.YtlbioncagkkkoaaGreatDoor
