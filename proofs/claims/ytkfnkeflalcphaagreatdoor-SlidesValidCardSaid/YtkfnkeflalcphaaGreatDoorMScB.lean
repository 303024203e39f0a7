/- Contracts of attr.Empty, tree.oneOf, anyKind, inlineFields. The contract of attr.Check: the first error of attributes. publisherref04.count, sizes, Size, Depth; tree.sizeOfLine, sizeOfBlocks, Size, Depth. Size and Depth of documents, of tree and of the reference. Contracts of publisherref01.clean, Digit, Valid. Contracts of publisherref04.line, trimmed, has, in, noAttr and of publisherref03.line. Contracts of publisherref03.letter, part, word, Name. Contracts of publisherref03.hasText, hasKey, Check. Contracts of slices.Clone at inlines and blocks, and of slides.copyAttr, copyLine, copyBlocks. Contract of slides.copyBlocks. -/
import Derived.Test.YtkfnkeflalcphaaGreatDoorMPlParse
import Derived.Test.YtkfnkeflalcphaaGreatDoorMSmall
set_option maxHeartbeats 8000000
set_option maxRecDepth 100000
open Go.Lib (hid)
namespace Go.Proofs.YtkfnkeflalcphaaGreatDoor
open Tryz
open List renaming getElem?_eq_getElem->jK6,length_map->jKx,mem_of_getElem?->jL4,getElem?_map->jL9,take_add_one->jLk
open Go.RowKit.Below renaming refl->jK7
open Nat renaming le_refl->jK8,zero_le->jL3
open Bool renaming eq_iff_iff->jKk
open Go.World renaming setCell->jM1
open Go renaming World->jN9,Value->jNk
open Go.RowKit
set_option linter.unusedVariables false
set_option linter.unusedSimpArgs false
def dF (v:jNk) (w:jN9) (e:Ending) (w':jN9):Prop:=e=.returned v/\Below w.heap.size w w'
theorem kF {α:Type} (l:List α):(((l.length:Nat):Int)==0)=l.isEmpty:=by
 cases l with
 | nil=>rfl
 | cons x l=>simp;omega
theorem Yo{P:Prop}(h:P:=by
 go_ret;exact ⟨by rw [HV.out];rfl,(Below.refl _ _).alloc (Nat.le_refl _) _⟩):P:=h
theorem qU (a:At) (ac ap:Option Addr) (cc cp:Nat) (w:jN9) (hc:a.cls.length<=maxLen) (hp:a.aD.length<=maxLen) : Calls prog 165 #[.agg #[.string a.id,.slice ac a.cls.length cc,.slice ap a.aD.length cp]] w (dF (.bool a.none) w):=by
 obtain ⟨id,cls,aD⟩:=a;dsimp only at hc hp ⊢;have h1:=pI id;have h2:=kF cls;have h3:=kF aD;have HV:Hid (At.none ⟨id,cls,aD⟩=(aV id&&cls.isEmpty&&aD.isEmpty)):=rfl;generalize At.none ⟨id,cls,aD⟩=V at *;generalize aV id=b1 at *;generalize cls.isEmpty=b2 at *;generalize aD.isEmpty=b3 at *;cases b1<;>cases b2<;>cases b3
 all_goals
  go_enter func165,ntmps165;go_wp2;exact Yo
def Qv (n:Int) (ks:List Int) (vi:jNk):Prop:=∃ k:Nat,k<=ks.length/\vi=.int .i64 k/\(ks.take k).contains n=false
theorem Yp{P:Prop}(h:P:=by
 have HE:Hid (V=false):=by
  show V=false;rw [HV.out];have:=HN.out
  rwa [List.take_of_length_le (by omega)] at this
 go_wp2;go_ret;exact ⟨by rw [HE.out];rfl,rfl⟩):P:=h
theorem Qw{P:Prop}(h:P:=by
 go_wp2;go_ret;exact ⟨by rw [HE.out];rfl,rfl⟩):P:=h
theorem jnj{P:Prop}(h:P:=by
 rw [hnx] at HT;go_wp2
 go_round
 case rel=>exact ⟨k+1,by omega,by go_num,by rw [HT.out,HN.out];rfl⟩
 case measure=>simp [intOf];omega):P:=h
theorem lJ (n:Int) (ks:List Int) (g cap:Nat) (w:jN9) (hl:ks.length<=1000) (hc:∀ j k,ks[j]?=some k->w.cell? ⟨g,j,none⟩=some (.int .i64 k)) : Calls prog 161 #[.int .i64 n,.slice (some ⟨g,0,none⟩) ks.length cap] w fun e w'=>e=.returned (.bool (ks.contains n))/\w=w':=by
 have HC:=hid hc;have R0:Hid (Qv n ks (.int .i64 0)):=⟨0,jL3 _,rfl,by simp⟩;obtain ⟨V,hV⟩:∃ V,V=ks.contains n:=⟨_,rfl⟩;rw [<- hV];have HV:=hid hV;clear hc hV;go_enter func161,ntmps161;go_wp2
 go_loop [9] (fun i=>Qv n ks i) (fun i=>ks.length-(intOf i).toNat)
 case atStart=>exact R0.out
 case round=>
  clear R0;obtain ⟨k,hk,rfl,hno⟩:=hrel;have HN:=hid hno;clear hno;by_cases hlt:k<ks.length
  ·obtain ⟨x,hx⟩:∃ x,ks[k]?=some x:=⟨_,jK6 hlt⟩;have hcell:=HC.out k x hx;have HT:Hid ((ks.take (k+1)).contains n=((ks.take k).contains n||(n==x))):=by
    show _=_;rw [jLk,hx,jKk];simp
   have HX:=hid hx;clear hx;cases hnx:(n==x)
   ·exact jnj
   ·have HE:Hid (V=true):=by
     show V=true;rw [HV.out,List.contains_iff_mem];have:n=x:=by simpa using hnx
     rw [this];exact jL4 HX.out
    exact Qw
  ·exact Yp
def jnk (l:List aj) (ks:List Int) (vi:jNk):Prop:=∃ k:Nat,k<=l.length/\vi=.int .i64 k/\aj.cO ks (l.take k)=false
theorem aj.Lh (ks:List Int):∀ (l m:List aj),aj.cO ks (l++m)=(aj.cO ks l||aj.cO ks m)
 | [],m=>by rw [List.nil_append,aj.cO];rfl
 | x::l,m=>by rw [List.cons_append,aj.cO,aj.cO,aj.Lh ks l m,Bool.or_assoc]
theorem aj.Fy (ks:List Int) {l:List aj} {k:Nat} {x:aj} (hx:l[k]?=some x):aj.cO ks (l.take (k+1))=(aj.cO ks (l.take k)||x.Nk ks):=by rw [jLk,hx,aj.Lh,Option.toList_some,aj.cO,aj.cO,Bool.or_false]
theorem aj.Ch (ks:List Int):∀ {l:List aj} {k:Nat} {x:aj},l[k]?=some x->x.Nk ks=true->aj.cO ks l=true
 | [],_,_,h,_=>by simp at h
 | y::l,0,x,h,hx=>by simp at h;subst h;rw [aj.cO,hx];rfl
 | y::l,k+1,x,h,hx=>by rw [aj.cO,aj.Ch ks (l:=l) (k:=k) (by simpa using h) hx,Bool.or_true]
theorem IZ{P Q:Prop}(q:Q)(h:Nonempty Q->P:=by
 intro qQ;have hmx:=hs.max;unfold maxLen at hmx;have HS:=hid hs;have IH:=hid ih;revert hmx HS IH;exact qQ.elim fun x=>x):P:=h ⟨q⟩
theorem Cj{P Q:Prop}(q:Q)(h:Nonempty Q->P:=by
 intro qQ;have HE:Hid (V=true):=by show V=true;rw [HV.out];exact HG.out (by rw [HX.out];rfl)
 revert HE;exact qQ.elim fun x=>x):P:=h ⟨q⟩
theorem xB (n:Nat):∀ (l:List aj) (ok:Nat->Prop) (v:Value) (ks:List Int) (g cap:Nat) (w:World),aj.aU l<=n->Rd ok w (aZ l) [v]->ks.length<=1000->(∀ j k,ks[j]?=some k->w.cell? ⟨g,j,none⟩=some (.int .i64 k)) -> Calls prog 203 #[v,.slice (some ⟨g,0,none⟩) ks.length cap] w fun e w'=>e=.returned (.bool (aj.cO ks l))/\w=w':=by
 induction n using Nat.strongRecOn with
 | _ n ih=>
  intro l ok v ks g cap w hn hrd hks hc;obtain ⟨a,cp,hv,hs⟩:=Rd.aB hrd;obtain rfl:v=.slice a l.length cp:=by simpa using hv
  have hcap:l.length<=cp:=by simpa using hs.le
  refine IZ ?_;intro hmx HS IH;have HC:=hid hc;have OO:=hid (fun n=>lJ n ks g cap w hks hc);have R0:Hid (jnk l ks (.int .i64 0)):=⟨0,Nat.zero_le _,rfl,by rw [List.take_zero,aj.cO]⟩;obtain ⟨V,hV⟩:∃ V,V=aj.cO ks l:=⟨_,rfl⟩;rw [<- hV];have HV:=hid hV;clear hs hv hrd ih hc hV;go_enter func203,ntmps203;go_wp2
  go_loop [8] (fun i=>jnk l ks i) (fun i=>l.length-(intOf i).toNat)
  case atStart=>exact R0.out
  case round=>
   clear R0;obtain ⟨k,hk,rfl,hno⟩:=hrel;have HN:=hid hno;clear hno;by_cases hlt:k<l.length
   ·obtain ⟨x,hx⟩:∃ x,l[k]?=some x:=⟨_,List.getElem?_eq_getElem hlt⟩;have hsn:=aj.Fy ks hx;have HG:=hid (aj.Ch ks hx);obtain ⟨kd,t,d,ti,at_,ar,ci,kids⟩:=x;obtain ⟨b,off,vc,vp,va,vi,vk,rfl,hok,hbl,hcl,hR⟩:=fE HS.out hx;obtain ⟨c0,-,-,-,-,-,-,-,-,c9⟩:=hcl;have hsz:=aj.bK l k _ hx;rw [aj.sz] at hsz;have AK:=hid (IH.out (aj.aU kids) (by omega) kids ok vk ks g cap w (Nat.le_refl _) hR.kids hks HC.out);obtain ⟨ak,nk,ck,rfl⟩:=Rd.yJ hR.kids;have OK:=hid (OO.out kd);have HX:Hid ((aj.mk kd t d ti at_ ar ci kids).Nk ks=(ks.contains kd||aj.cO ks kids)):=by show _=_;rw [aj.Nk]
    have kg:=hid hsn;clear hx hR hsn;cases h1:ks.contains kd with
    | true=>
     rw [h1] at OK HX;refine Cj ?_;intro HE;clear h1;go_wp2_with fail
     refine OK.out.mono ?_;rintro e w1 ⟨rfl,rfl⟩;exact Qw
    | false=>
     rw [h1] at OK HX;cases h2:aj.cO ks kids with
     | true=>
      rw [h2] at AK HX;refine Cj ?_;intro HE;clear h1 h2;go_wp2_with fail
      refine OK.out.mono ?_;rintro e w1 ⟨rfl,rfl⟩;go_wp2_with fail
      refine AK.out.mono ?_;rintro e w1 ⟨rfl,rfl⟩;exact Qw
     | false=>
      rw [h2] at AK HX;clear h1 h2;go_wp2_with fail
      refine OK.out.mono ?_;rintro e w1 ⟨rfl,rfl⟩;go_wp2_with fail
      refine AK.out.mono ?_;rintro e w1 ⟨rfl,rfl⟩;go_wp2
      go_round
      case rel=>exact ⟨k+1,by omega,by go_num,by rw [kg.out,HN.out,HX.out];rfl⟩
      case measure=>simp [intOf];omega
   ·exact Yp
open Go.RowKit
theorem oq (l:List ByteArray) (x:ByteArray):dO l.reverse x=dO l x:=by rw [Bool.eq_iff_iff,tT,tT,List.mem_reverse]
theorem fB.cleared {w:World} {b n:Nat} {S:List ByteArray} (h:fB w b n S) (ty:TypeId) : ∃ w',(Builtin.clear_ #[127] ty #[.map (some b)]).run prog w=.ok (.tuple #[]) w'/\fB w' b 0 []/\w.grownBy w' (some b):=by
 obtain ⟨D,⟨es,clock,hb,F,hsz,hD⟩,hat⟩:=h;have hr:∃ clock',(Builtin.clear_ #[127] ty #[.map (some b)]).run prog w=.ok (.tuple #[]) { w with heap:=w.heap.setIfInBounds b (.map #[] clock') }:=by refine ⟨clock,?_⟩;simp [Builtin.clear_,run_underlying underlying127,MapKept.run_getObj_map hb,MapKept.run_setObj_map _ hb,Result.andThen]
 obtain ⟨clock',hrun⟩:=hr;have hs:=MapKept.heap_set (o':=.map #[] clock') hb;refine ⟨_,hrun,⟨.map [],⟨#[],clock',hs.1,⟨by simp,MapKept.stamped_empty clock',by simp⟩,Nat.le_refl _,rfl⟩,fun s=>rfl⟩,rfl,rfl,rfl,?_,fun i _ hne=>hs.2 i (fun e=>hne (by rw [e]))⟩;simp
def Tw (T:TypeId) (p:Nat) (cs:List Value) (w:World) (mb n:Nat) (S:List ByteArray) (wr:World):Prop:=CB T p cs wr/\fB wr mb n S/\Below w.heap.size w wr/\w.heap.size<=mb/\p≠mb/\w.heap.size<=p
theorem Tw.put {T:TypeId} {p:Nat} {cs:List Value} {w:World} {mb n n':Nat} {S S':List ByteArray} {wr w':World} (h:Tw T p cs w mb n S wr) (hg:wr.grownBy w' (some mb)) (hs:fB w' mb n' S'):Tw T p cs w mb n' S' w':=
 ⟨(hg.block p h.1.lt (fun e=>h.2.2.2.2.1 (by injection e))).trans h.1,hs,h.2.2.1.grown hg h.2.2.1.size (fun j hj=>by cases hj;exact h.2.2.2.1),h.2.2.2⟩
theorem Tw.alloc {T:TypeId} {p:Nat} {cs:List Value} {w:World} {mb n:Nat} {S:List ByteArray} {wr:World} (h:Tw T p cs w mb n S wr) (o:Obj):Tw T p cs w mb n S (wr.alloc o):=
 ⟨h.1.below ((Below.refl _ _).alloc (Nat.le_refl _) _),h.2.1.below ((Below.refl _ _).alloc (Nat.le_refl _) _),h.2.2.1.alloc h.2.2.1.size _,h.2.2.2⟩
theorem Tw.drewN {T:TypeId} {p:Nat} {cs:List Value} {w:World} {mb n:Nat} {S:List ByteArray} {wr:World} (h:Tw T p cs w mb n S wr) (q:Nat):Tw T p cs w mb n S (wr.drewN q):=
 ⟨h.1,h.2.1,gQ h.2.2.1 q,h.2.2.2⟩
def Yq (T:TypeId) (p:Nat) (cs:List Value) (w:World) (mb:Nat) (l:List ByteArray) (E:Nat) (vi:Value) (wr:World):Prop:=
 ∃ k:Nat,k<=l.length/\vi=.int .i64 k/\Tw T p cs w mb k (l.take k).reverse wr/\sN (l.take k) (l.drop k)=E
def Yr (T:TypeId) (p:Nat) (cs:List Value) (w:World) (mb:Nat) (l:List Pr) (E:Nat) (vi:Value) (wr:World):Prop:=
 ∃ k:Nat,k<=l.length/\vi=.int .i64 k/\Tw T p cs w mb k ((l.take k).map Pr.key).reverse wr/\wJ ((l.take k).map Pr.key) (l.drop k)=E
theorem Uu{P:Prop}(h:P:=by
 go_wp2;go_roundw;case rel=>exact ⟨k+1,by omega,by go_num,by rw [Tx.out,List.reverse_append];exact HN'.out,Ej.out⟩
 case measure=>simp [intOf];omega):P:=h
theorem jex{P:Prop}(h:P:=by
 rw [<- hwi];clear hwi LH;go_wp2_with fail
 refine (CN.out _).mono ?_;rintro e w3 ⟨rfl,rfl⟩;go_wp2_with fail
 refine (CV.out _).mono ?_;rintro e w3 ⟨rfl,q,rfl⟩;go_wp2;go_ret;exact ⟨by rw [HV.out];rfl,gQ HEI.out.2.2.1 q⟩):P:=h
theorem Ut{P:Prop}(h:P:=by
 go_wp2;go_ret;exact ⟨by rw [HV.out];rfl,gQ HEI.out.2.2.1 q⟩):P:=h
theorem jnq{P Q:Prop}(q:Q)(h:Nonempty Q->P:=by
 intro qQ;have Ej:Hid (wJ ((aD.take (k+1)).map Pr.key) (aD.drop (k+1))=E2):=by show _=_;have:=bS.out;rw [wJ,if_neg (by rw [hn];decide),if_neg (by rw [hln];decide),if_neg (by rw [hb];decide)] at this;rw [Tx.out];exact this
 revert Ej;exact qQ.elim fun x=>x):P:=h ⟨q⟩
theorem jeq{P:Prop}(h:P:=by
 rw [<- hwi];clear hwi LH;go_wp2_with fail
 refine (CN.out _).mono ?_;rintro e w3 ⟨rfl,rfl⟩;go_wp2;go_ret;exact ⟨by rw [HV.out];rfl,HEI.out.2.2.1⟩):P:=h
theorem jnx{P:Prop}(h:P:=by
 show V=7;have:=bS.out;rw [wJ,if_neg (by rw [hn];decide),if_neg (by rw [hln];decide),if_pos hb] at this;rw [HE2.out,Oo.out,<- this];rfl):P:=h
theorem jnz{P:Prop}(h:P:=by
 go_wp2_with fail
 refine (CN.out _).mono ?_;rintro e w3 ⟨rfl,rfl⟩;go_wp2;go_ret;exact ⟨by rw [HV.out];rfl,HET.out.2.2.1⟩):P:=h
theorem jo0{P:Prop}(h:P:=by
 show V=17;have:=bS.out;rw [wJ,if_neg (by rw [hn];decide),if_pos hln] at this;rw [HE2.out,Oo.out,<- this];rfl):P:=h
theorem iy (a:At) (ac ap:Option Addr) (cc cp:Nat) (w:jN9) (h:AtR (·<w.heap.size) w a (.slice ac a.cls.length cc) (.slice ap a.aD.length cp)) (hs:a.short) : Calls prog 95 #[.agg #[.string a.id,.slice ac a.cls.length cc,.slice ap a.aD.length cp]] w (dF (.int .i64 (a.err:Nat)) w):=by
 obtain ⟨sc,sp,si,sca,spa⟩:=hs;obtain ⟨id,cls,aD⟩:=a;dsimp only at sc sp si sca spa h ⊢;obtain ⟨a1,c1,hv1,hs1⟩:=Rd.aB h.cls;obtain ⟨rfl,rfl⟩:a1=ac/\c1=cc:=by simp at hv1;exact ⟨hv1.1.symm,hv1.2.symm⟩
 obtain ⟨a2,c2,hv2,hs2⟩:=Rd.aB h.aD;obtain ⟨rfl,rfl⟩:a2=ap/\c2=cp:=by simp at hv2;exact ⟨hv2.1.symm,hv2.2.symm⟩
 have l1:cls.length<=c1:=by simpa using hs1.le
 have l2:aD.length<=c2:=by simpa using hs2.le
 have m1:=hs1.max;have m2:=hs2.max;unfold maxLen at m1 m2;have H1:=hid hs1;have H2:=hid hs2;have SC:=hid sca;have SP:=hid spa;have NI:=hid (fun w=>Tm id w (by omega));have HE:Hid (At.err ⟨id,cls,aD⟩=if aV id=false/\dQ id=false then 6 else if sN [] cls≠0 then sN [] cls else if wJ [] aD≠0 then wJ [] aD else if 32<cls.length\/32<aD.length then 3 else 0):=rfl;obtain ⟨V,hV⟩:∃ V,V=At.err ⟨id,cls,aD⟩:=⟨_,rfl⟩;rw [<- hV] at HE ⊢;clear hV sca spa hs1 hs2 hv1 hv2 h;by_cases hbad:aV id=false/\dQ id=false
 ·have HV:Hid (V=6):=by show V=6;rw [HE.out,if_pos hbad]
  rw [hbad.2] at NI;have hie:id.toList.isEmpty=false:=by rw [pI];exact hbad.1
  clear hbad HE;go_enter func95,ntmps95;go_wp2_with (go_at_call 52;refine (NI.out _).mono ?_;rintro e w1 ⟨rfl,rfl⟩)
  exact Yo
 have hgood:id.toList.isEmpty=true\/(id.toList.isEmpty=false/\dQ id=true):=by
  rw [pI];cases h1:aV id
  ·right;refine ⟨rfl,?_⟩;cases h2:dQ id
   ·exact absurd ⟨h1,h2⟩ hbad
   ·rfl
  ·left;rfl
 have HE2:Hid (V=if sN [] cls≠0 then sN [] cls else if wJ [] aD≠0 then wJ [] aD else if 32<cls.length\/32<aD.length then 3 else 0):=by show V=_;rw [HE.out,if_neg hbad]
 obtain ⟨w1,hw1⟩:∃ w1,w1=(w.alloc (.cells #[.string id,.slice a1 cls.length c1,.slice a2 aD.length c2] 45)).alloc (.map #[] 0):=⟨_,rfl⟩;have R0:Hid (Yq 45 w.heap.size [.string id,.slice a1 cls.length c1,.slice a2 aD.length c2] w (w.heap.size+1) cls (sN [] cls) (.int .i64 0) w1):=by
  refine ⟨0,jL3 _,rfl,⟨?_,?_,?_,by omega,by omega,jK8 _⟩,rfl⟩
  ·rw [hw1];exact (CB.new _ _ w).below ((jK7 _ _).alloc (jK8 _) _)
  ·rw [hw1];have:=fB.made (w.alloc (.cells #[.string id,.slice a1 cls.length c1,.slice a2 aD.length c2] 45))
   rwa [World.size_alloc] at this
  ·rw [hw1];exact ((jK7 _ _).alloc (jK8 _) _).alloc (by simp) _
 have HW1:=hid hw1;obtain ⟨E1,hE1⟩:∃ E1,E1=sN [] cls:=⟨_,rfl⟩;obtain ⟨E2,hE2⟩:∃ E2,E2=wJ [] aD:=⟨_,rfl⟩;rw [<- hE1] at HE2 R0;rw [<- hE2] at HE2;have jv6:=hid hE2;clear hbad HE hw1 hE1 hE2;have hmm:=@run_makeMap prog;rcases hgood with hie | ⟨hie,hnm⟩
 case' inl=>
  clear NI;go_enter func95,ntmps95;go_wp2;rw [<- HW1.out];clear hmm
 case' inr=>
  rw [hnm] at NI;clear hnm;go_enter func95,ntmps95;go_wp2_with (go_at_call 52;refine (NI.out _).mono ?_;rintro e w1 ⟨rfl,rfl⟩)
  rw [<- HW1.out];clear hmm
 all_goals
  go_loopw [21] (fun i wr=>Yq 45 w.heap.size [.string id,.slice a1 cls.length c1,.slice a2 aD.length c2] w (w.heap.size+1) cls E1 i wr) (fun i _=>cls.length-(intOf i).toNat)
  case atStart=>exact R0.out
  case round=>
   clear R0;obtain ⟨k,hk,rfl,vC,aX⟩:=hrel;have HET:=hid vC;by_cases hlt:k<cls.length
   ·obtain ⟨x,hx⟩:∃ x,cls[k]?=some x:=⟨_,jK6 hlt⟩;obtain ⟨b,off,rfl,-,-,c0⟩:=kM H1.out hx;have c0:wr.cell? ⟨b,off+k,none⟩=some (.string x):=by rw [vC.2.2.1.cell (p:=⟨b,off+k,none⟩) (nX c0)];exact c0
    have hxs:=SC.out x (jL4 hx);have CN:=hid (fun w=>Tm x w (by omega));have hlk:=vC.2.1.look x (by unfold maxLen;omega);obtain ⟨w',hup,hS',hg⟩:=vC.2.1.put x (by unfold maxLen;omega) (by unfold maxLen;omega);have HN':=hid (vC.put hg hS');rw [oq] at hlk;rw [IU cls k x hx,sN] at aX;have Tx:Hid (cls.take (k+1)=cls.take k++[x]):=by show _=_;rw [jLk,hx];rfl
    have bS:=hid aX;clear aX hS' hg vC hx;cases hn:dQ x with
    | false=>
     rw [hn] at CN;have HV:Hid (V=6):=by show V=6;have:=bS.out;rw [if_pos hn] at this;rw [HE2.out,<- this];rfl
     clear hn hup;exact jnz
    | true=>
     rw [hn] at CN;cases hb:dO (cls.take k) x with
     | true=>
      rw [hb] at hlk;have HV:Hid (V=7):=by show V=7;have:=bS.out;rw [if_neg (by rw [hn];decide),if_pos hb] at this;rw [HE2.out,<- this];rfl
      clear hn hb hup;exact jnz
     | false=>
      rw [hb] at hlk;have Ej:Hid (sN (cls.take (k+1)) (cls.drop (k+1))=E1):=by show _=_;have:=bS.out;rw [if_neg (by rw [hn];decide),if_neg (by rw [hb];decide)] at this;rw [Tx.out];exact this
      clear hn hb;go_wp2_with fail
      refine (CN.out _).mono ?_;rintro e w3 ⟨rfl,rfl⟩;exact Uu
   ·obtain rfl:k=cls.length:=by omega
    have Oo:Hid (E1=0):=by show E1=0;rw [List.drop_length,sN] at aX;exact aX.symm
    obtain ⟨w2,hcl,hS2,hg2⟩:∃ w2,(∀ ty,(Builtin.clear_ #[127] ty #[.map (some (w.heap.size+1))]).run prog wr=.ok (.tuple #[]) w2)/\fB w2 (w.heap.size+1) 0 []/\wr.grownBy w2 (some (w.heap.size+1)):=by obtain ⟨w2,h1,h2,h3⟩:=vC.2.1.cleared 0;exact ⟨w2,fun ty=>h1,h2,h3⟩
    have R2:Hid (Yr 45 w.heap.size [.string id,.slice a1 cls.length c1,.slice a2 aD.length c2] w (w.heap.size+1) aD E2 (.int .i64 0) w2):=⟨0,jL3 _,rfl,vC.put hg2 hS2,jv6.out.symm⟩;have p2:w2.cell? ⟨w.heap.size,2,none⟩=some (.slice a2 aD.length c2):=(vC.put hg2 hS2).1.cell 2 _ rfl;clear aX vC HET hS2 hg2 hk hlt;go_wp2
    go_loopw [38] (fun i wr=>Yr 45 w.heap.size [.string id,.slice a1 cls.length c1,.slice a2 aD.length c2] w (w.heap.size+1) aD E2 i wr) (fun i _=>aD.length-(intOf i).toNat)
    case atStart=>exact R2.out
    case round=>
     clear R2 hcl p2;obtain ⟨k,hk,rfl,vC,aX⟩:=hrel;have HET:=hid vC;by_cases hlt:k<aD.length
     ·obtain ⟨x,hx⟩:∃ x,aD[k]?=some x:=⟨_,jK6 hlt⟩;obtain ⟨b,off,rfl,-,-,c0,c1'⟩:=jU H2.out hx;have c0:wr.cell? ⟨b,off+k*2,none⟩=some (.string x.key):=by rw [vC.2.2.1.cell (p:=⟨b,off+k*2,none⟩) (nX c0)];exact c0
      have c1':wr.cell? ⟨b,off+k*2+1,none⟩=some (.string x.val):=by rw [vC.2.2.1.cell (p:=⟨b,off+k*2+1,none⟩) (nX c1')];exact c1'
      have hxs:=SP.out x (jL4 hx);have HX:=hid hx;have bS:Hid (wJ ((aD.take k).map Pr.key) (x::aD.drop (k+1))=E2):=by show _=_;rw [<- IU aD k x hx];exact aX
      obtain ⟨key,val⟩:=x;dsimp only at c0 c1' hxs;have CN:=hid (fun w=>Tm key w (by omega));have CV:=hid (fun w=>E9 val w (by omega));have Tx:Hid ((aD.take (k+1)).map Pr.key=(aD.take k).map Pr.key++[key]):=by show _=_;rw [jLk,HX.out];simp
      obtain ⟨wi,hwi⟩:∃ wi,wi=wr.alloc (.cells #[.string key,.string val] 61):=⟨_,rfl⟩;have LH:=vC.alloc (.cells #[.string key,.string val] 61);rw [<- hwi] at LH;have i0:wi.cell? ⟨wr.heap.size,0,none⟩=some (.string key):=by rw [hwi];exact IV wr [.string key,.string val] _ 0 _ rfl
      have i1:wi.cell? ⟨wr.heap.size,1,none⟩=some (.string val):=by rw [hwi];exact IV wr [.string key,.string val] _ 1 _ rfl
      have HEI:=hid LH;clear aX vC hx;cases hn:dQ key with
      | false=>
       rw [hn] at CN;have HV:Hid (V=6):=by show V=6;have:=bS.out;rw [wJ,if_pos hn] at this;rw [HE2.out,Oo.out,<- this];rfl
       clear hn;go_upto_region 17 with (fail)
       exact jeq
      | true=>
       rw [hn] at CN;cases hln:cZ val with
       | false=>
        rw [hln] at CV;have HV:Hid (V=17):=by exact jo0
        clear hn hln;go_upto_region 17 with (fail)
        exact jex
       | true=>
        rw [hln] at CV;have HLK:=hid (fun q=>(LH.drewN q).2.1.look key (by unfold maxLen;omega));have jqz:=hid (fun q=>(LH.drewN q).2.1.put key (by unfold maxLen;omega) (by unfold maxLen;omega));cases hb:dO ((aD.take k).map Pr.key) key with
        | true=>
         have HV:Hid (V=7):=by exact jnx
         have HB:=hid hb;clear hn hln hb;go_upto_region 17 with (fail)
         rw [<- hwi];clear hwi LH;go_wp2_with fail
         refine (CN.out _).mono ?_;rintro e w3 ⟨rfl,rfl⟩;go_wp2_with fail
         refine (CV.out _).mono ?_;rintro e w3 ⟨rfl,q,rfl⟩;have hlk:=HLK.out q;rw [oq,HB.out] at hlk;exact Ut
        | false=>
         refine jnq ?_;intro Ej;have HB:=hid hb;clear hn hln hb;go_upto_region 17 with (fail)
         rw [<- hwi];clear hwi LH;go_wp2_with fail
         refine (CN.out _).mono ?_;rintro e w3 ⟨rfl,rfl⟩;go_wp2_with fail
         refine (CV.out _).mono ?_;rintro e w3 ⟨rfl,q,rfl⟩;have hlk:=HLK.out q;rw [oq,HB.out] at hlk;obtain ⟨w',hup,hS',hg⟩:=jqz.out q;have HN':=hid ((HEI.out.drewN q).put hg hS');clear hS' hg;exact Uu
     ·obtain rfl:k=aD.length:=by omega
      have HV:Hid (V=if 32<cls.length\/32<aD.length then 3 else 0):=by show V=_;rw [List.drop_length,wJ] at aX;rw [HE2.out,Oo.out,<- aX];rfl
      have p1:wr.cell? ⟨w.heap.size,1,none⟩=some (.slice a1 cls.length c1):=vC.1.cell 1 _ rfl;have p2:wr.cell? ⟨w.heap.size,2,none⟩=some (.slice a2 aD.length c2):=vC.1.cell 2 _ rfl;clear aX vC hk hlt;by_cases h1:32<cls.length
      ·have q1:decide ((32:Int)<(cls.length:Int))=true:=by simp;omega
       go_wp2;go_ret;exact ⟨by rw [HV.out,if_pos (.inl h1)];rfl,HET.out.2.2.1⟩
      ·have q1:decide ((32:Int)<(cls.length:Int))=false:=by simp;omega
       by_cases h2:32<aD.length
       ·have q2:decide ((32:Int)<(aD.length:Int))=true:=by simp;omega
        go_wp2;go_ret;exact ⟨by rw [HV.out,if_pos (.inr h2)];rfl,HET.out.2.2.1⟩
       ·have q2:decide ((32:Int)<(aD.length:Int))=false:=by simp;omega
        go_wp2;go_ret;exact ⟨by rw [HV.out,if_neg (by omega)];rfl,HET.out.2.2.1⟩
open Go.RowKit
theorem aj.Li (l:List aj) (k:Nat) (x:aj) (h:l[k]?=some x):aj.aU (l.take k)+x.sz<=aj.aU l:=by
 have h1:aj.aU (l.take (k+1))<=aj.aU l:=by have:=aj.GY (l.take (k+1)) (l.drop (k+1));rw [List.take_append_drop] at this;omega
 rw [aj.uJ h] at h1;exact h1
theorem ah.FP (l:List ah) (k:Nat) (x:ah) (h:l[k]?=some x):ah.bU (l.take k)+x.all<=ah.bU l:=by
 have h1:ah.bU (l.take (k+1))<=ah.bU l:=by have:=ah.Lj (l.take (k+1)) (l.drop (k+1));rw [List.take_append_drop] at this;omega
 rw [ah.qw h] at h1;exact h1
theorem ah.jck (x:ah):1<=x.all:=by cases x;rw [ah.all];omega
theorem ah.Qx:∀ (l:List ah),l.length<=ah.bU l
 | []=>by simp
 | x::l=>by have:=ah.Qx l;have:=x.jck;rw [ah.bU];simp;omega
theorem jC2 {P:Program} {f:FuncId} {args:Array jNk} {w:jN9} {a n:Nat} {v:jNk} (h:Calls P f args (w.drewN (a+n)) fun e w'=>e=.returned v/\w.drewN (a+n)=w') : Calls P f args (w.drewN (a+n)) fun e w''=>e=.returned v/\∃ m,w''=w.drewN (a+m):=h.mono fun _ _ ⟨he,hm⟩=>⟨he,n,hm.symm⟩
theorem jC3 {P:Program} {f:FuncId} {args:Array jNk} {w:jN9} {a n:Nat} {v:jNk} (h:Calls P f args (w.drewN (a+n)) (Dr v (w.drewN (a+n)))) : Calls P f args (w.drewN (a+n)) fun e w''=>e=.returned v/\∃ m,w''=w.drewN (a+m):=h.mono fun _ _ ⟨he,m,hm⟩=>⟨he,n+m,by rw [hm,World.drewN_drewN,Nat.add_assoc]⟩
def Qy (l:List aj) (vn vi:jNk):Prop:=∃ k n:Nat,k<=l.length/\vi=.int .i64 k/\vn=.int .i64 n/\n=aj.aU (l.take k)+(l.length-k)
def Yt (l:List ah) (w:jN9) (vn vi:jNk) (wr:jN9):Prop:=∃ k n q:Nat,k<=l.length/\vi=.int .i64 k/\vn=.int .i64 n/\n=ah.bU (l.take k)+(l.length-k)/\wr=w.drewN q
theorem jo1{P:Prop}(h:P:=by
 clear R0;obtain ⟨k,m,hk,rfl,rfl,hm⟩:=hrel;by_cases hlt:k<l.length
 ·obtain ⟨x,hx⟩:∃ x,l[k]?=some x:=⟨_,List.getElem?_eq_getElem hlt⟩;have hsz:=aj.Li l k _ hx;have hsn:=aj.uJ hx;obtain ⟨kd,t,d,ti,at_,ar,ci,ks⟩:=x;obtain ⟨g,off,vc,vp,va,vi,vk,rfl,hok,hbl,hc,hR⟩:=fE HS.out hx;rw [aj.sz] at hsz hsn;obtain ⟨ak,nk,ck,rfl⟩:=Rd.yJ hR.kids;have p9:=hc.c9;have CK:=hid (IH.out (aj.aU ks) (by omega) ks ok (.slice ak nk ck) w (Nat.le_refl _) (by omega) hR.kids);have HM:Hid (m+aj.aU ks=aj.aU (l.take (k+1))+(l.length-(k+1))):=by show _=_;omega
  have hlm:l.length-k<=1000000:=by have:=aj.dI l;omega
  have hmb:m+aj.aU ks<=3000000:=by omega
  generalize aj.aU ks=K at *;clear hc hR hx hm hsn hsz hlm;go_wp2_with fail
  refine CK.out.mono ?_;rintro e w1 ⟨rfl,rfl⟩;go_wp2
  go_round
  case rel=>exact ⟨k+1,m+K,by omega,by go_num,by go_num,HM.out⟩
  case measure=>simp [intOf];omega
 ·obtain rfl:k=l.length:=by omega
  have hv:m=aj.aU l:=by rw [hm,List.take_length];omega
  have HV:=hid hv;clear hv hm;go_wp2;go_ret;exact ⟨by rw [<- HV.out];rfl,rfl⟩):P:=h
theorem SL (n:Nat):∀ (l:List aj) (ok:Nat->Prop) (v:jNk) (w:jN9),aj.aU l<=n->n<=1000000->Rd ok w (aZ l) [v] -> Calls prog 191 #[v] w fun e w'=>e=.returned (.int .i64 (aj.aU l:Nat))/\w=w':=by
 induction n using Nat.strongRecOn with
 | _ n ih=>
  intro l ok v w hn hnm h1;obtain ⟨a,cap,hv,hs⟩:=Rd.aB h1;obtain rfl:v=.slice a l.length cap:=by simpa using hv
  refine qJ ?_;intro hcap hmx HS;have IH:=hid ih;have R0:Hid (Qy l (.int .i64 (l.length:Int)) (.int .i64 0)):=⟨0,l.length,jL3 _,rfl,rfl,by rw [List.take_zero,aj.aU];simp⟩;clear hs hv h1 ih;go_enter func191,ntmps191;go_wp2
  go_loop [3,4] (fun vn vi=>Qy l vn vi) (fun _ i=>l.length-(intOf i).toNat)
  case atStart=>exact R0.out
  case round=>
   exact jo1
theorem Cz (n:Nat):∀ (l:List aj) (ok:Nat->Prop) (v:jNk) (w:jN9),aj.aU l<=n->n<=1000000->Rd ok w (aZ l) [v] -> Calls prog 186 #[v] w fun e w'=>e=.returned (.int .i64 (aj.aU l:Nat))/\w=w':=by
 induction n using Nat.strongRecOn with
 | _ n ih=>
  intro l ok v w hn hnm h1;obtain ⟨a,cap,hv,hs⟩:=Rd.aB h1;obtain rfl:v=.slice a l.length cap:=by simpa using hv
  refine qJ ?_;intro hcap hmx HS;have IH:=hid ih;have R0:Hid (Qy l (.int .i64 (l.length:Int)) (.int .i64 0)):=⟨0,l.length,jL3 _,rfl,rfl,by rw [List.take_zero,aj.aU];simp⟩;clear hs hv h1 ih;go_enter func186,ntmps186;go_wp2
  go_loop [3,9] (fun vn vi=>Qy l vn vi) (fun _ i=>l.length-(intOf i).toNat)
  case atStart=>exact R0.out
  case round=>
   exact jo1
theorem jo2{P Q:Prop}(q:Q)(h:Nonempty Q->P:=by
 intro qQ;have CK:=hid (fun q=>IH.out (ah.bU ks) (by omega) ks ok (.slice ak nk ck) (w.drewN q) (Nat.le_refl _) (by omega) (Rd.keep (hst q) _ _ hR.kids));have HM:Hid (m+(aj.aU li+ah.bU ks)=ah.bU (l.take (k+1))+(l.length-(k+1))):=by show _=_;omega
 have hlm:l.length-k<=1000000:=by have:=ah.Qx l;omega
 have hmb:m+(aj.aU li+ah.bU ks)<=3000000:=by omega
 revert CK HM hlm hmb;exact qQ.elim fun x=>x):P:=h ⟨q⟩
theorem jo3{P:Prop}(h:P:=by
 obtain rfl:k=l.length:=by omega
 have hv:m=ah.bU l:=by rw [hm,List.take_length];omega
 have HV:=hid hv;clear hv hm;go_wp2;go_ret;exact ⟨by rw [<- HV.out];rfl,q,rfl⟩):P:=h
theorem jo4{P Q:Prop}(q:Q)(h:Nonempty Q->P:=by
 intro qQ;have s1:IntKind.i64.wrap ((L:Int)+(K:Int))=(L:Int)+(K:Int):=jI (by omega) (by omega);have s2:IntKind.i64.wrap ((m:Int)+((L:Int)+(K:Int)))=(m:Int)+((L:Int)+(K:Int)):=jI (by omega) (by omega);revert s1 s2;exact qQ.elim fun x=>x):P:=h ⟨q⟩
theorem jo5{P:Prop}(h:P:=by
 clear s1 s2;go_wp2;go_roundw;case rel=>exact ⟨k+1,m+(L+K),_,by omega,by go_num,by go_num,HM.out,rfl⟩
 case measure=>simp [intOf];omega):P:=h
theorem jo6{P Q:Prop}(q:Q)(h:Nonempty Q->P:=by
 intro qQ;have IH:=hid ih;have R0:Hid (Yt l w (.int .i64 (l.length:Int)) (.int .i64 0) w):=⟨0,l.length,0,Nat.zero_le _,rfl,rfl,by rw [List.take_zero,ah.bU];simp,rfl⟩;revert IH R0;exact qQ.elim fun x=>x):P:=h ⟨q⟩
theorem SN (n:Nat):∀ (l:List ah) (ok:Nat->Prop) (v:Value) (w:World),ah.bU l<=n->n<=1000000->Rd ok w (iC l) [v] -> Calls prog 151 #[v] w (Dr (.int .i64 (ah.bU l:Nat)) w):=by
 induction n using Nat.strongRecOn with
 | _ n ih=>
  intro l ok v w hn hnm h1;obtain ⟨a,cap,hv,hs⟩:=Rd.aB h1;obtain rfl:v=.slice a l.length cap:=by simpa using hv
  refine qJ ?_;intro hcap hmx HS;refine jo6 ?_;intro IH R0;clear hs hv h1 ih;go_enter func151,ntmps151;go_wp2
  go_loopw [3,4] (fun vn vi wr=>Yt l w vn vi wr) (fun _ i _=>l.length-(intOf i).toNat)
  case atStart=>exact R0.out
  case round=>
   clear R0;obtain ⟨k,m,q,hk,rfl,rfl,hm,rfl⟩:=hrel;by_cases hlt:k<l.length
   ·refine kK ?_;intro x hx;have hsz:=ah.FP l k _ hx;have hsn:=ah.qw hx;obtain ⟨kd,lv,i,t,d,ti,at_,li,ks⟩:=x;obtain ⟨g,off,vc,vp,vl,vk,rfl,hok,hbl,hc,hR⟩:=Mr HS.out hx;rw [ah.all] at hsz hsn;obtain ⟨ak,nk,ck,rfl⟩:=Rd.yJ hR.kids;obtain ⟨al,nl,cl,rfl⟩:=Rd.yJ hR.line;have p9:=hc.c9;have sM:=hc.c10;have hst:∀ q,xL ok ok w (w.drewN q):=fun q b h _=>⟨h,rfl⟩
    have CL:=hid (fun q=>SL _ li ok (.slice al nl cl) (w.drewN q) (Nat.le_refl _) (by omega) (Rd.keep (hst q) _ _ hR.line));refine jo2 ?_;intro CK HM hlm hmb;generalize aj.aU li=L at *;generalize ah.bU ks=K at *;refine jo4 ?_;intro s1 s2;clear hc hR hx hm hsn hsz hlm hst;go_wp2_with fail
    go_quiet ((first | (go_at_call 191;exact jC2 (CL.out _)) | (go_at_call 151;exact jC3 (CK.out _))))
    exact jo5
   ·exact jo3
theorem wX (n:Nat):∀ (l:List ah) (ok:Nat->Prop) (v:Value) (w:World),ah.bU l<=n->n<=1000000->Rd ok w (iC l) [v] -> Calls prog 146 #[v] w (Dr (.int .i64 (ah.bU l:Nat)) w):=by
 induction n using Nat.strongRecOn with
 | _ n ih=>
  intro l ok v w hn hnm h1;obtain ⟨a,cap,hv,hs⟩:=Rd.aB h1;obtain rfl:v=.slice a l.length cap:=by simpa using hv
  refine qJ ?_;intro hcap hmx HS;refine jo6 ?_;intro IH R0;clear hs hv h1 ih;go_enter func146,ntmps146;go_wp2
  go_loopw [3,9] (fun vn vi wr=>Yt l w vn vi wr) (fun _ i _=>l.length-(intOf i).toNat)
  case atStart=>exact R0.out
  case round=>
   clear R0;obtain ⟨k,m,q,hk,rfl,rfl,hm,rfl⟩:=hrel;by_cases hlt:k<l.length
   ·refine kK ?_;intro x hx;have hsz:=ah.FP l k _ hx;have hsn:=ah.qw hx;obtain ⟨kd,lv,i,t,d,ti,at_,li,ks⟩:=x;obtain ⟨g,off,vc,vp,vl,vk,rfl,hok,hbl,hc,hR⟩:=Mr HS.out hx;rw [ah.all] at hsz hsn;obtain ⟨ak,nk,ck,rfl⟩:=Rd.yJ hR.kids;obtain ⟨al,nl,cl,rfl⟩:=Rd.yJ hR.line;have p9:=hc.c9;have sM:=hc.c10;have hst:∀ q,xL ok ok w (w.drewN q):=fun q b h _=>⟨h,rfl⟩
    have CL:=hid (fun q=>Cz _ li ok (.slice al nl cl) (w.drewN q) (Nat.le_refl _) (by omega) (Rd.keep (hst q) _ _ hR.line));refine jo2 ?_;intro CK HM hlm hmb;generalize aj.aU li=L at *;generalize ah.bU ks=K at *;refine jo4 ?_;intro s1 s2;clear hc hR hx hm hsn hsz hlm hst;go_wp2_with fail
    go_quiet ((first | (go_at_call 186;exact jC2 (CL.out _)) | (go_at_call 146;exact jC3 (CK.out _))))
    exact jo5
   ·exact jo3
open Go.RowKit
theorem SG (l:List ah) (am ab:Option Addr) (nm cm nb cb:Nat) (w:World) (hn:ah.bU l<=1000000) (h:Rd (·<w.heap.size) w (iC l) [.slice ab nb cb]) : Calls prog 110 #[.agg #[.slice am nm cm,.slice ab nb cb]] w (dF (.int .i64 (ah.bU l:Nat)) w):=by
 have hb0:Below w.heap.size w (w.alloc (.cells #[.slice am nm cm,.slice ab nb cb] 26)):=(Below.refl _ _).alloc (Nat.le_refl _) _;have SZ:=hid (SN _ l _ _ _ (Nat.le_refl _) hn (h.up hb0));have HB:=hid hb0;generalize ah.bU l=N at *;clear h hb0;go_enter func110,ntmps110;go_wp2_with fail
 refine SZ.out.mono ?_;rintro e w1 ⟨rfl,q,rfl⟩;go_wp2;go_ret;exact ⟨rfl,gQ HB.out q⟩
theorem QU (l:List ah) (am ab:Option Addr) (nm cm nb cb:Nat) (w:World) (hn:ah.bU l<=1000000) (h:Rd (·<w.heap.size) w (iC l) [.slice ab nb cb]) : Calls prog 92 #[.agg #[.slice am nm cm,.slice ab nb cb]] w (dF (.int .i64 (ah.bU l:Nat)) w):=by
 have hb0:Below w.heap.size w (w.alloc (.cells #[.slice am nm cm,.slice ab nb cb] 26)):=(Below.refl _ _).alloc (Nat.le_refl _) _;have SZ:=hid (wX _ l _ _ _ (Nat.le_refl _) hn (h.up hb0));have HB:=hid hb0;generalize ah.bU l=N at *;clear h hb0;go_enter func92,ntmps92;go_wp2_with fail
 refine SZ.out.mono ?_;rintro e w1 ⟨rfl,q,rfl⟩;go_wp2;go_ret;exact ⟨rfl,gQ HB.out q⟩
open Go.RowKit
def Yu (c:Nat):Bool:=decide (c=10)||(decide (32<=c)&&!decide (c=127))
theorem Oq (c:Nat) (w:World) (hc:c<=1114111) : Calls prog 108 #[.int .i64 (c:Int)] w fun e w'=>e=.returned (.bool (Yu c))/\w=w':=by
 go_enter func108,ntmps108;go_wp2;all_goals
  go_ret;refine ⟨vB ?_,rfl⟩;unfold Yu
  (try simp only [beq_iff_eq,beq_eq_false_iff_ne,ne_eq,bne_iff_ne,bne_eq_false_iff_eq] at *)
  rw [Bool.eq_iff_iff];simp;omega
theorem NG (c:Nat) (w:World) (hc:c<=1114111) : Calls prog 219 #[.int .i64 (c:Int)] w fun e w'=>e=.returned (.bool (Ga c))/\w=w':=by
 go_enter func219,ntmps219;go_wp2;all_goals
  go_ret;refine ⟨vB ?_,rfl⟩;unfold Ga
  (try unfold j6)
  rw [Bool.eq_iff_iff];simp;omega
theorem jo7 (a b:Nat):decide (a=b)=((a:Int)==(b:Int)):=by rw [Bool.eq_iff_iff];simp;omega
theorem jcq (a b:Nat):nN (a,b)=(Yu a&&!(((a:Int)==65533)&&((b:Int)==1))):=by unfold nN Yu;rw [jo7 a 65533,jo7 b 1];rfl
theorem SQ {w1:World} {B:Nat} {v1:Value} {ps:List (Nat × Nat)} (ho1:w1.ownsRow B 138 2 v1 ps.length (mW ps).flatten) : ∃ a cap,v1=.slice a ps.length cap/\ps.length<=cap/\cap<=maxLen/\(0<ps.length->∃ b,a=some ⟨b,0,none⟩/\b<w1.heap.size/\∀ k p,ps[k]?=some p->w1.cell? ⟨b,k*2,none⟩=some (.int .i64 (p.1:Int))/\w1.cell? ⟨b,k*2+1,none⟩=some (.int .i64 (p.2:Int))):=by exact jj7
theorem Yv {α:Type} (f:α->Bool) {l:List α} {k:Nat} {x:α} (h:l[k]?=some x):(l.take (k+1)).all f=((l.take k).all f&&f x):=by rw [List.take_add_one,h];simp
theorem jv7 {α:Type} (f:α->Bool) {l:List α} {k:Nat} {x:α} (h:l[k]?=some x) (hf:f x=false):l.all f=false:=by rw [List.all_eq_false];exact ⟨x,List.mem_of_getElem? h,by rw [hf];decide⟩
def jC4 (w1 wr:World) (ps:List (Nat × Nat)) (vi:Value):Prop:=∃ k:Nat,k<=ps.length/\vi=.int .i64 k/\(ps.take k).all nN=true/\Below w1.heap.size w1 wr
theorem jo8{P:Prop}(h:P:=by
 clear hcl;go_wp2_with fail
 refine (CC.out _).mono ?_;rintro e w2 ⟨rfl,rfl⟩;go_wp2;go_roundw;case rel=>exact ⟨k+1,by omega,by go_num,by rw [kg.out,HA.out,EK.out];rfl,HB.out.alloc HB.out.size _⟩
 case measure=>simp [intOf];omega):P:=h
theorem jo9{P:Prop}(h:P:=by
 have HE:Hid (V=false):=Ib.out EK.out;clear hcl;go_wp2_with fail
 refine (CC.out _).mono ?_;rintro e w2 ⟨rfl,rfl⟩;go_wp2;go_ret;exact ⟨by rw [HE.out];rfl,q01 B1.out (HB.out.alloc HB.out.size _)⟩):P:=h
theorem Ot (s:ByteArray) (w:jN9) (hs:s.size<=10000000000) : Calls prog 64 #[.string s] w (dF (.bool (je s)) w):=by
 have PO:=hid (xX s w (by omega));obtain ⟨V,hV⟩:∃ V,V=je s:=⟨_,rfl⟩;rw [<- hV];have HV:Hid (V=(pts s).all nN):=hV;have hpl:(pts s).length<=s.size:=by have:=Kn s s.size 0;unfold pts;simpa using this
 have LM:=hid (yZ s s.size 0);change Hid (∀ p∈pts s,p.1<=1114111) at LM;clear hV;generalize pts s=ps at *;go_enter func64,ntmps64;go_wp2_with fail
 refine PO.out.mono ?_;rintro e w1 ⟨v1,rfl,ho1,b1⟩;obtain ⟨a,cap,rfl,hcap,hmx,hcs⟩:=SQ ho1;have LB:=hid hcs;have B1:=hid b1;have HZ:Hid ((ps.take 0).all nN=true):=rfl;clear hcs ho1 PO b1;unfold maxLen at hmx;go_wp2
 go_loopw [8] (fun vi wr=>jC4 w1 wr ps vi) (fun i _=>ps.length-(intOf i).toNat)
 case atStart=>exact ⟨0,jL3 _,rfl,HZ.out,jK7 _ _⟩
 case round=>
  obtain ⟨k,hk,rfl,hall,hbel⟩:=hrel;have HA:=hid hall;have HB:=hid hbel;clear hall;by_cases hlt:k<ps.length
  ·obtain ⟨p,hp⟩:∃ p,ps[k]?=some p:=⟨_,jK6 hlt⟩;obtain ⟨b,rfl,hbl,hc⟩:=LB.out (by omega);obtain ⟨k1,k2⟩:=hc k p hp;have c1:wr.cell? ⟨b,k*2,none⟩=some (.int .i64 (p.1:Int)):=by rw [hbel.cell (p:=⟨b,k*2,none⟩) hbl];exact k1
   have c2:wr.cell? ⟨b,k*2+1,none⟩=some (.int .i64 (p.2:Int)):=by rw [hbel.cell (p:=⟨b,k*2+1,none⟩) hbl];exact k2
   have hd:=LM.out p (jL4 hp);have kg:=hid (Yv nN hp);have Ib:=hid (fun hf=>HV.out.trans (jv7 nN hp hf));obtain ⟨d1,d2⟩:=p;simp only at hd c1 c2;have CC:=hid (fun w=>Oq d1 w hd);have EK:=hid (jcq d1 d2);clear hp hc k1 k2 hbel;cases hcl:Yu d1 with
   | false=>
    rw [hcl] at CC EK;exact jo9
   | true=>
    rw [hcl] at CC EK;cases hq1:((d1:Int)==65533) with
    | false=>
     rw [hq1] at EK;exact jo8
    | true=>
     cases hq2:((d2:Int)==1) with
     | false=>
      rw [hq1,hq2] at EK;exact jo8
     | true=>
      rw [hq1,hq2] at EK;exact jo9
  ·have HE:Hid (V=true):=by
    show V=true;have:=HA.out;rw [List.take_of_length_le (by omega)] at this;rw [HV.out,this]
   go_wp2;go_ret;exact ⟨by rw [HE.out];rfl,q01 B1.out HB.out⟩
theorem iF (s:ByteArray) (w:jN9) (hs:s.size<=1000000000) : Calls prog 64 #[.string s] w (dF (.bool (je s)) w):=Ot s w (by omega)
open Go.RowKit
theorem CF (s:ByteArray):wI s=true↔∀ j,j<s.size->bt s j≠10:=by
 unfold wI;rw [List.all_eq_true];constructor
 ·intro h j hj hc;have h1:=h s[j] (jL4 (CY s j hj));rw [<- jE s j hj] at hc;have:s[j]=10:=by rw [<- UInt8.toNat_inj];exact hc
  rw [this] at h1;simp at h1
 ·intro h c hc;obtain ⟨j,hj,rfl⟩:=List.getElem_of_mem hc;have hj':j<s.size:=by simpa using hj
  have h1:=h j hj';rw [<- jE s j hj'] at h1;have h2:s.data.toList[j]=s[j]:=by have:=CY s j hj';rw [jK6 hj] at this;exact Option.some.inj this
  rw [h2];simp;intro h3;rw [h3] at h1;exact h1 rfl
def Qz (s:ByteArray) (vi:jNk):Prop:=∃ k:Nat,k<=s.size/\vi=.int .i64 k/\∀ j,j<k->bt s j≠10
theorem joj{P:Prop}(h:P:=by
 go_wp2_with fail
 refine VA.out.mono ?_;rintro e w1 ⟨rfl,b1⟩;have HB:=hid b1;have R0:Hid (Qz s (.int .i64 0)):=⟨0,Nat.zero_le _,rfl,fun j hj=>by omega⟩;clear VA b1;go_wp2
 go_loop [3] (fun i=>Qz s i) (fun i=>s.size-(intOf i).toNat)
 case atStart=>exact R0.out
 case round=>
  clear R0;obtain ⟨k,hk,rfl,hall⟩:=hrel;have HA:=hid hall;clear hall;by_cases hlt:k<s.size
  ·have eb:=jE s k hlt;by_cases hc:bt s k=10
   ·have HE:Hid (V=false):=by
     show V=false;rw [HL.out];have h1:wI s=false:=by
      cases h2:wI s
      ·rfl
      ·exact absurd hc (HN.out.1 h2 k hlt)
     rw [h1];rfl
    have hq:(((bt s k:Nat):Int)==10)=true:=by rw [hc];rfl
    rw [<- eb] at hq;clear hc eb;go_wp2;go_ret;exact ⟨by rw [HE.out];rfl,HB.out⟩
   ·have HC:=hid hc;have hq:(((bt s k:Nat):Int)==10)=false:=by rw [beq_eq_false_iff_ne];omega
    rw [<- eb] at hq;clear hc eb;go_wp2
    go_round
    case rel=>
     refine ⟨k+1,by omega,by go_num,fun j hj=>?_⟩;rcases Nat.lt_or_ge j k with h | h
     ·exact HA.out j h
     ·have:j=k:=by omega
      subst this;exact HC.out
    case measure=>simp [intOf];omega
  ·have HE:Hid (V=true):=by
    show V=true;rw [HL.out,HN.out.2 (fun j hj=>HA.out j (by omega))];rfl
   go_wp2;go_ret;exact ⟨by rw [HE.out];rfl,HB.out⟩):P:=h
theorem jok{P:Prop}(h:P:=by
 go_wp2_with fail
 refine VA.out.mono ?_;rintro e w1 ⟨rfl,b1⟩;have HB:=hid b1;go_wp2;go_ret;exact ⟨by rw [HL.out];rfl,HB.out⟩):P:=h
theorem Xt (s:ByteArray) (w:jN9) (hs:s.size<=1000000000) : Calls prog 111 #[.string s] w (dF (.bool (cZ s)) w):=by
 have VA:=hid (iF s w hs);have HL:Hid (cZ s=(je s&&wI s)):=rfl;have HN:=hid (CF s);obtain ⟨V,hV⟩:∃ V,V=cZ s:=⟨_,rfl⟩;rw [<- hV] at HL ⊢;clear hV;cases hv:je s with
 | false=>
  rw [hv] at VA HL;clear hv;go_enter func111,ntmps111;exact jok
 | true=>
  rw [hv] at VA HL;clear hv;go_enter func111,ntmps111;exact joj
theorem Cu (s:ByteArray) (w:jN9) (hs:s.size<=1000000000) : Calls prog 213 #[.string s] w (dF (.bool (cZ s)) w):=by
 have VA:=hid (iF s w hs);have HL:Hid (cZ s=(je s&&wI s)):=rfl;have HN:=hid (CF s);obtain ⟨V,hV⟩:∃ V,V=cZ s:=⟨_,rfl⟩;rw [<- hV] at HL ⊢;clear hV;cases hv:je s with
 | false=>
  rw [hv] at VA HL;clear hv;go_enter func213,ntmps213;exact jok
 | true=>
  rw [hv] at VA HL;clear hv;go_enter func213,ntmps213;exact joj
theorem qj (s:ByteArray) (w:jN9) (hs:s.size<=1000000000) : Calls prog 112 #[.string s] w fun e w'=>e=.returned (.bool (trimS s))/\w=w':=by
 rcases fq s with rfl | ⟨hne,hp,hie,hes⟩
 ·go_enter func112,ntmps112;go_wp2;go_ret;exact ⟨rfl,rfl⟩
 ·refine jiz ?_;intro hv e0 e1;generalize bt s 0=b0 at *;generalize bt s (s.size-1)=b1 at *;have hsub:((s.size:Int)-1).toNat=s.size-1:=by omega
  clear hv hes;go_enter func112,ntmps112;go_wp2;all_goals
   go_ret;refine ⟨vB ?_,rfl⟩;exact WJ
def joq (s b:ByteArray) (w:jN9) (vi:jNk) (wr:jN9):Prop:=∃ k q:Nat,k<=s.size/\vi=.int .i64 k/\(∀ j i,j<k->i<b.size->bt s j≠bt b i)/\wr=w.drewN q
def Yw (s b:ByteArray) (w:jN9) (k:Nat) (vi:jNk) (wr:jN9):Prop:=∃ i q:Nat,i<=b.size/\vi=.int .i64 i/\(∀ j,j<i->bt s k≠bt b j)/\wr=w.drewN q
theorem Ou (s b:ByteArray):nI s b.data.toList=true↔∃ j i,j<s.size/\i<b.size/\bt s j=bt b i:=by
 unfold nI;rw [List.any_eq_true];constructor
 ·rintro ⟨c,hc,hb⟩;rw [List.contains_iff_mem] at hb;obtain ⟨j,hj,rfl⟩:=List.getElem_of_mem hc;obtain ⟨i,hi,he⟩:=List.getElem_of_mem hb;have hj':j<s.size:=by simpa using hj
  have hi':i<b.size:=by simpa using hi
  refine ⟨j,i,hj',hi',?_⟩;rw [<- jE s j hj',<- jE b i hi'];exact congrArg UInt8.toNat he.symm
 ·rintro ⟨j,i,hj,hi,he⟩;refine ⟨s[j],jL4 (CY s j hj),?_⟩;rw [List.contains_iff_mem];rw [<- jE s j hj,<- jE b i hi,UInt8.toNat_inj] at he;rw [he];exact jL4 (CY b i hi)
theorem uZ (w:jN9) (q:Nat):Below w.heap.size w (w.drewN q):=gQ (jK7 _ _) q
theorem jP (s b:ByteArray) (w:jN9) (hs:s.size<=1000000000) (hb:b.size<=1000000000) : Calls prog 215 #[.string s,.string b] w (dF (.bool (nI s b.data.toList)) w):=by
 have HI:=hid (Ou s b);obtain ⟨V,hV⟩:∃ V,V=nI s b.data.toList:=⟨_,rfl⟩;rw [<- hV] at HI ⊢;clear hV;have R0:Hid (joq s b w (.int .i64 0) w):=⟨0,0,jL3 _,rfl,fun j i hj=>by omega,rfl⟩;go_enter func215,ntmps215;go_wp2
 go_loopw [5] (fun vi wr=>joq s b w vi wr) (fun i _=>s.size-(intOf i).toNat)
 case atStart=>exact R0.out
 case round=>
  clear R0;obtain ⟨k,q,hk,rfl,hall,rfl⟩:=hrel;have Dn:=hid hall;clear hall;by_cases hlt:k<s.size
  ·have R1:Hid (Yw s b w k (.int .i64 0) (w.drewN q)):=⟨0,q,jL3 _,rfl,fun j hj=>by omega,rfl⟩;go_wp2
   go_loopw [6] (fun vi wr=>Yw s b w k vi wr) (fun i _=>b.size-(intOf i).toNat)
   case atStart=>exact R1.out
   case round=>
    clear R1;obtain ⟨i,q2,hi,rfl,Lg,rfl⟩:=hrel;have jc7:=hid Lg;clear Lg;by_cases hlt2:i<b.size
    ·have eb:=jE s k hlt;have ec:=jE b i hlt2;by_cases hc:bt s k=bt b i
     ·have HE:Hid (V=true):=HI.out.2 ⟨k,i,hlt,hlt2,hc⟩;have hq:(((bt s k:Nat):Int)==((bt b i:Nat):Int))=true:=by rw [hc];simp
      rw [<- eb,<- ec] at hq;clear hc eb ec;go_upto_region 7 with (fail)
      go_region
      go_wp2;go_ret;exact ⟨by rw [HE.out];rfl,uZ w (q2+1)⟩
     ·have HC:=hid hc;have hq:(((bt s k:Nat):Int)==((bt b i:Nat):Int))=false:=by rw [beq_eq_false_iff_ne];omega
      rw [<- eb,<- ec] at hq;clear hc eb ec;go_upto_region 7 with (fail)
      go_region
      go_wp2;go_roundw;case rel=>
       refine ⟨i+1,q2+1,by omega,by go_num,fun j hj=>?_,rfl⟩;rcases Nat.lt_or_ge j i with h | h
       ·exact jc7.out j h
       ·have:j=i:=by omega
        subst this;exact HC.out
      case measure=>simp [intOf];omega
    ·go_wp2;go_roundw;case rel=>
      refine ⟨k+1,q2,by omega,by go_num,fun j i' hj hi'=>?_,rfl⟩;rcases Nat.lt_or_ge j k with h | h
      ·exact Dn.out j i' h hi'
      ·have:j=k:=by omega
       subst this;exact jc7.out i' (by omega)
     case measure=>simp [intOf];omega
  ·have HE:Hid (V=false):=by
    show V=false;cases hV:V with
    | false=>rfl
    | true=>
     obtain ⟨j,i,hj,hi,he⟩:=HI.out.1 hV;exact absurd he (Dn.out j i (by omega) hi)
   go_wp2;go_ret;exact ⟨by rw [HE.out];rfl,uZ w q⟩
theorem jb8 (n:Int) (ks:List Int) (g cap:Nat) (w:jN9) (hl:ks.length<=1000) (hc:∀ j k,ks[j]?=some k->w.cell? ⟨g,j,none⟩=some (.int .i64 k)) : Calls prog 175 #[.int .i64 n,.slice (some ⟨g,0,none⟩) ks.length cap] w fun e w'=>e=.returned (.bool (ks.contains n))/\w=w':=by
 have HC:=hid hc;have R0:Hid (Qv n ks (.int .i64 0)):=⟨0,jL3 _,rfl,by simp⟩;obtain ⟨V,hV⟩:∃ V,V=ks.contains n:=⟨_,rfl⟩;rw [<- hV];have HV:=hid hV;clear hc hV;go_enter func175,ntmps175;go_wp2
 go_loop [5] (fun i=>Qv n ks i) (fun i=>ks.length-(intOf i).toNat)
 case atStart=>exact R0.out
 case round=>
  clear R0;obtain ⟨k,hk,rfl,hno⟩:=hrel;have HN:=hid hno;clear hno;by_cases hlt:k<ks.length
  ·obtain ⟨x,hx⟩:∃ x,ks[k]?=some x:=⟨_,jK6 hlt⟩;have hcell:=HC.out k x hx;have HT:Hid ((ks.take (k+1)).contains n=((ks.take k).contains n||(x==n))):=by
    show _=_;have e:(x==n)=(n==x):=by rw [jKk,beq_iff_eq,beq_iff_eq];exact eq_comm
    rw [e,jLk,hx,jKk];simp
   have HX:=hid hx;clear hx;cases hnx:(x==n)
   ·exact jnj
   ·have HE:Hid (V=true):=by
     show V=true;rw [HV.out,List.contains_iff_mem];have:x=n:=by simpa using hnx
     rw [<- this];exact jL4 HX.out
    exact Qw
  ·exact Yp
theorem o8 (a:At) (ac ap:Option Addr) (cc cp:Nat) (w:jN9) (hc:a.cls.length<=maxLen) (hp:a.aD.length<=maxLen) : Calls prog 176 #[.agg #[.string a.id,.slice ac a.cls.length cc,.slice ap a.aD.length cp]] w (dF (.bool a.none) w):=by
 obtain ⟨id,cls,aD⟩:=a;unfold maxLen at hc hp;dsimp only at hc hp ⊢;have HV:Hid (At.none ⟨id,cls,aD⟩=(aV id&&cls.isEmpty&&aD.isEmpty)):=rfl;have e1:=kF cls;have e2:=kF aD;have e3:=pI id;obtain ⟨V,hV⟩:∃ V,V=At.none ⟨id,cls,aD⟩:=⟨_,rfl⟩;rw [<- hV] at HV ⊢;clear hV;generalize aV id=b3 at *;generalize cls.isEmpty=b1 at *;generalize aD.isEmpty=b2 at *;cases b3<;>cases b1<;>cases b2
 all_goals
  go_enter func176,ntmps176;go_wp2;exact Yo
open Go.RowKit
theorem vv (c:Nat) (w:jN9) (hc:c<256) : Calls prog 113 #[.int .u8 (c:Int)] w fun e w'=>e=.returned (.bool (dW c))/\w=w':=by
 go_enter func113,ntmps113;go_wp2;all_goals
  go_ret;refine ⟨vB ?_,rfl⟩;unfold dW j6;rw [jKk];simp;omega
theorem FJ (c:Nat) (w:jN9) (hc:c<256) : Calls prog 152 #[.int .u8 (c:Int)] w fun e w'=>e=.returned (.bool (Il c))/\w=w':=by
 have LT:=hid (fun w=>vv c w hc);have HL:Hid (dW c=true↔(97<=c/\c<=122)\/(65<=c/\c<=90)):=by show _↔_;unfold dW j6;simp
 cases hl:dW c with
 | true=>
  rw [hl] at LT;have hv:Il c=true:=by unfold Il;rw [hl];simp
  rw [hv];clear hl hv;go_enter func152,ntmps152;go_wp2_with fail
  refine (LT.out _).mono ?_;rintro e w1 ⟨rfl,rfl⟩;go_wp2;go_ret;exact ⟨rfl,rfl⟩
 | false=>
  rw [hl] at LT;have HV:Hid (Il c=((decide (c=45)||decide (c=95)||decide (c=46)||decide (c=58))||j6 c 48 57)):=by show _=_;unfold Il;rw [hl];simp
  generalize Il c=V at *;clear hl;go_enter func152,ntmps152;go_wp2_with fail
  refine (LT.out _).mono ?_;rintro e w1 ⟨rfl,rfl⟩;go_wp2;all_goals
   go_ret;refine ⟨vB ?_,rfl⟩;rw [HV.out]
   (try simp only [beq_iff_eq,beq_eq_false_iff_ne,ne_eq] at *)
   rw [jKk];unfold j6;simp
   (try omega)
theorem SV (s:ByteArray) (w:jN9) (hs:s.size<=1000000000) : Calls prog 114 #[.string s,.int .i64 0] w fun e w'=>e=.returned (.int .i64 (qN s:Nat))/\w=w':=by
 obtain ⟨V,hV⟩:∃ V,V=qN s:=⟨_,rfl⟩;rw [<- hV];have HV:=hid hV;clear hV;go_enter func114,ntmps114;go_wp2
 go_loop [1] (fun vi=>∃ k:Nat,k<=s.size/\vi=.int .i64 k/\∀ j x,j<k->s.data.toList[j]?=some x->gM x=true) (fun i=>s.size-(intOf i).toNat)
 case atStart=>exact ⟨0,jL3 _,rfl,fun j x hj=>by omega⟩
 case round=>
  obtain ⟨k,hk,rfl,hall⟩:=hrel;have HA:=hid hall;clear hall;by_cases hlt:k<s.size
  ·have hgl:=UInt8.toNat_lt s[k];have IN:=hid (fun w=>FJ s[k].toNat w hgl);have HG:=hid (CY s k hlt);cases hn:Il s[k].toNat with
   | true=>
    rw [hn] at IN;have HN:=hid hn;clear hn;go_wp2_with fail
    refine (IN.out _).mono ?_;rintro e w1 ⟨rfl,rfl⟩;go_wp2
    go_round
    case rel=>
     refine ⟨k+1,by omega,by go_num,fun j x hj hx=>?_⟩;exact P6
    case measure=>simp [intOf];omega
   | false=>
    rw [hn] at IN;have hw:V=k:=by exact jk4
    exact P7
  ·exact jk3
theorem TS (s:ByteArray) (w:jN9) (hs:s.size<=1000000000) : Calls prog 70 #[.string s] w fun e w'=>e=.returned (.bool (dQ s))/\w=w':=by
 by_cases h0:s.size=0
 ·have hv:dQ s=false:=by unfold dQ;simp [h0]
  rw [hv];have e0:decide ((1:Int)<=(s.size:Int))=false:=by simp;omega
  clear hv h0;go_enter func70,ntmps70;go_wp2;go_ret;exact ⟨rfl,rfl⟩
 have e0:decide ((1:Int)<=(s.size:Int))=true:=by simp;omega
 by_cases h60:60<s.size
 ·have hv:dQ s=false:=by unfold dQ;simp;omega
  rw [hv];have e1:decide ((s.size:Int)<=(60:Int))=false:=by simp;omega
  clear hv;go_enter func70,ntmps70;go_wp2;go_ret;exact ⟨rfl,rfl⟩
 have e1:decide ((s.size:Int)<=(60:Int))=true:=by simp;omega
 have hp:0<s.size:=by omega
 have hg:=CY s 0 hp;obtain ⟨c,hc⟩:∃ c,s[0]=c:=⟨_,rfl⟩;rw [hc] at hg;have hcl:=UInt8.toNat_lt c;have LT:=hid (fun w=>vv c.toNat w hcl);have WE:=hid (fun w=>SV s w hs);have hl:s.data.toList=c::s.data.toList.tail:=by
  cases h:s.data.toList with
  | nil=>rw [h] at hg;simp at hg
  | cons a l=>rw [h] at hg;simp at hg;rw [hg];rfl
 have hv:dQ s=(dW c.toNat&&decide (qN s=s.size)):=by exact jk7
 have HV:=hid hv;generalize dQ s=V at *;generalize qN s=E at *;clear hv hl hg;cases hlt:dW c.toNat with
 | false=>
  rw [hlt] at LT;rw [hlt] at HV;go_enter func70,ntmps70;exact jk6
 | true=>
  rw [hlt] at LT;rw [hlt] at HV;go_enter func70,ntmps70;exact jk5
open Go.RowKit
theorem jox{P:Prop}(h:P:=by
 by_cases hyx:y=x
 ·subst hyx;go_wp2;go_ret;exact ⟨by rw [HT.out (by rw [kg.out];simp)];rfl,rfl⟩
 ·have e1:=vQ hyx;go_wp2
  go_round
  case rel=>exact ⟨k+1,by omega,by go_num,by rw [kg.out];simp [hyx]⟩
  case measure=>simp [intOf];omega):P:=h
theorem joz{P:Prop}(h:P:=by
 have hA:=HA.out;rw [hkl,List.take_length] at hA;have HA2:=hid hA;clear hA HA hkl;go_wp2;go_ret;exact ⟨by rw [HA2.out];rfl,rfl⟩):P:=h
theorem uW (l:List ByteArray) (x:ByteArray) (v:jNk) (w:jN9) (hs:Dt w 1 v l.length (l.map Value.string)) : Calls prog 212 #[v,.string x] w fun e w'=>e=.returned (.bool (dO l x))/\w=w':=by
 obtain ⟨-,a,cap,rfl,hcap,hmx,hcs⟩:=hs;have LB:=hid hcs;have HZ:Hid (dO (l.take 0) x=false):=rfl;clear hcs;unfold maxLen at hmx;go_enter func212,ntmps212;go_wp2
 go_loop [5] (fun vi=>∃ k:Nat,k<=l.length/\vi=.int .i64 k/\dO (l.take k) x=false) (fun i=>l.length-(intOf i).toNat)
 case atStart=>exact ⟨0,jL3 _,rfl,HZ.out⟩
 case round=>
  obtain ⟨k,hk,rfl,hany⟩:=hrel;have HA:=hid hany;clear hany;by_cases hlt:k<l.length
  ·obtain ⟨y,hy⟩:∃ y,l[k]?=some y:=⟨_,jK6 hlt⟩;rcases LB.out with h0 | ⟨b,off,rfl,hc⟩
   ·omega
   have c0:w.cell? ⟨b,off+k,none⟩=some (.string y):=hc k _ (by simp [hy]);have hsn:=wL l k y x hy;rw [HA.out] at hsn;have kg:=hid hsn;have HT:=hid (wM l (k+1) x);clear hy hc hsn;exact jox
  ·have hkl:k=l.length:=by omega
   exact joz
theorem Ll (l:List Pr) (x:ByteArray) (b off n cap:Nat) (w:jN9) (hn:n<=l.length) (hcap:n<=cap) (hmx:cap<=maxLen) (hc:∀ k p,l[k]?=some p->w.cell? ⟨b,off+k*2,none⟩=some (.string p.key)) : Calls prog 214 #[.slice (some ⟨b,off,none⟩) n cap,.string x] w fun e w'=>e=.returned (.bool (dO ((l.take n).map Pr.key) x))/\w=w':=by
 have LB:=hid hc;obtain ⟨K,hK⟩:∃ K,K=(l.take n).map Pr.key:=⟨_,rfl⟩;rw [<- hK];have hkn:K.length=n:=by rw [hK];simp;omega
 have HKI:Hid (∀ k,k<n->∃ p,l[k]?=some p/\K[k]?=some p.key):=by intro k hk;obtain ⟨p,hp⟩:∃ p,l[k]?=some p:=⟨_,jK6 (by omega)⟩;refine ⟨p,hp,?_⟩;rw [hK,jL9,List.getElem?_take,if_pos hk,hp];rfl
 have HZ:Hid (dO (K.take 0) x=false):=rfl;clear hc hK;unfold maxLen at hmx;go_enter func214,ntmps214;go_wp2
 go_loop [5] (fun vi=>∃ k:Nat,k<=n/\vi=.int .i64 k/\dO (K.take k) x=false) (fun i=>n-(intOf i).toNat)
 case atStart=>exact ⟨0,jL3 _,rfl,HZ.out⟩
 case round=>
  obtain ⟨k,hk,rfl,hany⟩:=hrel;have HA:=hid hany;clear hany;by_cases hlt:k<n
  ·obtain ⟨p,hp,hy⟩:=HKI.out k hlt;have c0:=LB.out k p hp;obtain ⟨y,val⟩:=p;dsimp only at c0 hy;have hsn:=wL K k y x hy;rw [HA.out] at hsn;have kg:=hid hsn;have HT:=hid (wM K (k+1) x);clear hy hp hsn;exact jox
  ·have hkl:k=K.length:=by omega
   exact joz
def jC5 (T:TypeId) (p:Nat) (cs:List jNk) (w:jN9) (l:List ByteArray) (E:Nat) (vi:jNk) (wr:jN9):Prop:=
 ∃ k:Nat,k<=l.length/\vi=.int .i64 k/\CB T p cs wr/\Below w.heap.size w wr/\sN (l.take k) (l.drop k)=E
def jC6 (T:TypeId) (p:Nat) (cs:List jNk) (w:jN9) (l:List Pr) (E:Nat) (vi:jNk) (wr:jN9):Prop:=
 ∃ k:Nat,k<=l.length/\vi=.int .i64 k/\CB T p cs wr/\Below w.heap.size w wr/\wJ ((l.take k).map Pr.key) (l.drop k)=E
theorem CB.dN {T:TypeId} {p:Nat} {cs:List jNk} {w:jN9} (h:CB T p cs w) (q:Nat):CB T p cs (w.drewN q):=h
theorem qH{P:Prop}(h:P:=by
 go_wp2;go_ret;exact ⟨by rw [HV.out];rfl,B1.out⟩):P:=h
theorem jp0{P:Prop}(h:P:=by
 clear hn;go_wp2_with fail
 refine (CN.out _).mono ?_;rintro e w3 ⟨rfl,rfl⟩;go_wp2;go_ret;exact ⟨by rw [HV.out];rfl,sK.out⟩):P:=h
theorem XR{P Q:Prop}(q:Q)(h:Nonempty Q->P:=by
 intro qQ;have b1:Below w.heap.size w w1:=by rw [hw1];exact (Below.refl _ _).alloc (Nat.le_refl _) _
 revert b1;exact qQ.elim fun x=>x):P:=h ⟨q⟩
theorem lg (a:At) (ac ap:Option Addr) (cc cp:Nat) (w:World) (h:AtR (·<w.heap.size) w a (.slice ac a.cls.length cc) (.slice ap a.aD.length cp)) (hs:a.short) : Calls prog 180 #[.agg #[.string a.id,.slice ac a.cls.length cc,.slice ap a.aD.length cp]] w (dF (.int .i64 (a.err:Nat)) w):=by
 obtain ⟨sc,sp,si,sca,spa⟩:=hs;obtain ⟨id,cls,aD⟩:=a;dsimp only at sc sp si sca spa h ⊢;obtain ⟨a1,c1,hv1,hs1⟩:=Rd.aB h.cls;obtain ⟨rfl,rfl⟩:a1=ac/\c1=cc:=by simp at hv1;exact ⟨hv1.1.symm,hv1.2.symm⟩
 obtain ⟨a2,c2,hv2,hs2⟩:=Rd.aB h.aD;obtain ⟨rfl,rfl⟩:a2=ap/\c2=cp:=by simp at hv2;exact ⟨hv2.1.symm,hv2.2.symm⟩
 have l1:cls.length<=c1:=by simpa using hs1.le
 have l2:aD.length<=c2:=by simpa using hs2.le
 have m1:=hs1.max;have m2:=hs2.max;have H1:=hid hs1;have H2:=hid hs2;have SC:=hid sca;have SP:=hid spa;have NI:=hid (fun w=>TS id w (by omega));have HE:Hid (At.err ⟨id,cls,aD⟩=if aV id=false/\dQ id=false then 6 else if sN [] cls≠0 then sN [] cls else if wJ [] aD≠0 then wJ [] aD else if 32<cls.length\/32<aD.length then 3 else 0):=rfl;obtain ⟨V,hV⟩:∃ V,V=At.err ⟨id,cls,aD⟩:=⟨_,rfl⟩;rw [<- hV] at HE ⊢;have hie:=pI id;obtain ⟨w1,hw1⟩:∃ w1,w1=w.alloc (.cells #[.string id,.slice a1 cls.length c1,.slice a2 aD.length c2] 45):=⟨_,rfl⟩;have k1:CB 45 w.heap.size [.string id,.slice a1 cls.length c1,.slice a2 aD.length c2] w1:=by rw [hw1];exact CB.new _ _ _
 refine XR ?_;intro b1;have p0:=k1.cell 0 _ rfl;have p1:=k1.cell 1 _ rfl;have K1:=hid k1;have B1:=hid b1;have R0:Hid (jC5 45 w.heap.size [.string id,.slice a1 cls.length c1,.slice a2 aD.length c2] w cls (sN [] cls) (.int .i64 0) w1):=⟨0,Nat.zero_le _,rfl,k1,b1,rfl⟩;have HM1:=hid m1;have HM2:=hid m2;unfold maxLen at m1 m2;clear hV sca spa hs1 hs2 hv1 hv2 h k1 b1;go_enter func180,ntmps180;go_upto_region 1 with (fail)
 rw [<- hw1];clear hw1
 go_cut [13] (fun s wx=>s=.bool (!aV id&&!dQ id)/\w1=wx)
 case first=>
  clear R0 HE;cases he:aV id with
  | true=>
   rw [he] at hie;have LZ:=hid he;clear he NI;go_wp2_with fail
   go_meet
   exact ⟨by rw [LZ.out];rfl,rfl⟩
  | false=>
   rw [he] at hie;have LZ:=hid he;clear he;cases hn:dQ id
   all_goals
    rw [hn] at NI;have HNN:=hid hn;clear hn;go_wp2_with fail
    refine (NI.out _).mono ?_;rintro e w2 ⟨rfl,rfl⟩;go_wp2_with fail
    go_meet
    exact ⟨by rw [LZ.out,HNN.out];rfl,rfl⟩
 case rest=>
  obtain ⟨rfl,rfl⟩:=hcut;clear NI;cases hbad:(!aV id&&!dQ id) with
  | true=>
   have HV:Hid (V=6):=by show V=6;rw [HE.out,if_pos (by simpa using hbad)]
   clear hbad R0;exact qH
  | false=>
   have HE2:Hid (V=if sN [] cls≠0 then sN [] cls else if wJ [] aD≠0 then wJ [] aD else if 32<cls.length\/32<aD.length then 3 else 0):=by show V=_;rw [HE.out,if_neg (fun h=>by rw [h.1,h.2] at hbad;cases hbad)]
   clear hbad HE hie;obtain ⟨E1,hE1⟩:∃ E1,E1=sN [] cls:=⟨_,rfl⟩;obtain ⟨E2,hE2⟩:∃ E2,E2=wJ [] aD:=⟨_,rfl⟩;rw [<- hE1] at HE2 R0;rw [<- hE2] at HE2;have jv6:=hid hE2;clear hE1 hE2 p0 p1;go_wp2
   go_loopw [3] (fun i wr=>jC5 45 w.heap.size [.string id,.slice a1 cls.length c1,.slice a2 aD.length c2] w cls E1 i wr) (fun i _=>cls.length-(intOf i).toNat)
   case atStart=>exact R0.out
   case round=>
    clear R0;obtain ⟨k,hk,rfl,hcb,hbl,aX⟩:=hrel;have xQ:=hid hcb;have sK:=hid hbl;have p1:=hcb.cell 1 _ rfl;by_cases hlt:k<cls.length
    ·obtain ⟨x,hx⟩:∃ x,cls[k]?=some x:=⟨_,List.getElem?_eq_getElem hlt⟩;obtain ⟨b,off,ha,-,-,c0⟩:=kM H1.out hx;have c0:wr.cell? ⟨b,off+k,none⟩=some (.string x):=by rw [hbl.cell (p:=⟨b,off+k,none⟩) (nX c0)];exact c0
     have jC7:Dt wr 1 (.slice a1 k c1) (cls.take k).length ((cls.take k).map Value.string):=by
      have hkl:(cls.take k).length=k:=by simp;omega
      rw [hkl];refine ⟨by simp;omega,_,_,rfl,by omega,HM1.out,.inr ⟨b,off,ha,fun j u hu=>?_⟩⟩;rw [List.getElem?_map,List.getElem?_take] at hu;split at hu
      ·rename_i hjk
       obtain ⟨y,hy⟩:∃ y,cls[j]?=some y:=⟨_,List.getElem?_eq_getElem (by omega)⟩;rw [hy] at hu;obtain ⟨b',off',ha',-,-,c0'⟩:=kM H1.out hy;rw [ha] at ha';simp at ha';obtain ⟨rfl,rfl⟩:=ha';have c2':wr.cell? ⟨b,off+j,none⟩=some (.string y):=by rw [hbl.cell (p:=⟨b,off+j,none⟩) (nX c0')];exact c0'
       simp at hu;subst hu;exact c2'
      ·cases hu
     have hxs:=SC.out x (List.mem_of_getElem? hx);have CN:=hid (fun w=>TS x w (by omega));have HTX:Hid (∀ m,Calls prog 212 #[.slice a1 k c1,.string x] (wr.drewN m) fun e w'=>e=.returned (.bool (dO (cls.take k) x))/\w'=wr.drewN m):=fun m=>(uW (cls.take k) x _ (wr.drewN m) jC7).mono fun _ _ h=>⟨h.1,h.2.symm⟩
     subst ha;have bS:Hid (sN (cls.take k) (x::cls.drop (k+1))=E1):=by show _=_;rw [<- IU cls k x hx];exact aX
     have Tx:Hid (cls.take (k+1)=cls.take k++[x]):=by show _=_;rw [List.take_add_one,hx];rfl
     clear aX hx jC7 hcb hbl;cases hn:dQ x with
     | false=>
      rw [hn] at CN;have HV:Hid (V=6):=by show V=6;have:=bS.out;rw [sN,if_pos hn] at this;rw [HE2.out,<- this];rfl
      exact jp0
     | true=>
      rw [hn] at CN;cases hb:dO (cls.take k) x with
      | true=>
       rw [hb] at HTX;have HV:Hid (V=7):=by show V=7;have:=bS.out;rw [sN,if_neg (by rw [hn];decide),if_pos hb] at this;rw [HE2.out,<- this];rfl
       clear hn hb;go_wp2_with fail
       refine (CN.out _).mono ?_;rintro e w3 ⟨rfl,rfl⟩;go_upto_region 8 with (fail)
       go_quiet ((go_at_call 212;with_reducible exact Calls.quiet_of_same (HTX.out _)))
       go_wp2;go_ret;exact ⟨by rw [HV.out];rfl,gQ sK.out _⟩
      | false=>
       rw [hb] at HTX;have Ej:Hid (sN (cls.take (k+1)) (cls.drop (k+1))=E1):=by show _=_;have:=bS.out;rw [sN,if_neg (by rw [hn];decide),if_neg (by rw [hb];decide)] at this;rw [Tx.out];exact this
       clear hn hb;go_wp2_with fail
       refine (CN.out _).mono ?_;rintro e w3 ⟨rfl,rfl⟩;go_upto_region 8 with (fail)
       go_quiet ((go_at_call 212;with_reducible exact Calls.quiet_of_same (HTX.out _)))
       go_wp2;go_roundw;case rel=>exact ⟨k+1,by omega,by go_num,xQ.out.dN _,gQ sK.out _,Ej.out⟩
       case measure=>simp [intOf];omega
    ·obtain rfl:k=cls.length:=by omega
     have Oo:Hid (E1=0):=by show E1=0;rw [List.drop_length,sN] at aX;exact aX.symm
     have R2:Hid (jC6 45 w.heap.size [.string id,.slice a1 cls.length c1,.slice a2 aD.length c2] w aD E2 (.int .i64 0) wr):=⟨0,Nat.zero_le _,rfl,hcb,hbl,jv6.out.symm⟩;clear aX hcb hbl xQ sK hk hlt;go_wp2
     go_loopw [4] (fun i wr=>jC6 45 w.heap.size [.string id,.slice a1 cls.length c1,.slice a2 aD.length c2] w aD E2 i wr) (fun i _=>aD.length-(intOf i).toNat)
     case atStart=>exact R2.out
     case round=>
      clear R2 p1;obtain ⟨k,hk,rfl,hcb,hbl,aX⟩:=hrel;have xQ:=hid hcb;have sK:=hid hbl;have p2:=hcb.cell 2 _ rfl;by_cases hlt:k<aD.length
      ·obtain ⟨x,hx⟩:∃ x,aD[k]?=some x:=⟨_,List.getElem?_eq_getElem hlt⟩;obtain ⟨b,off,ha,-,-,c0,c1'⟩:=jU H2.out hx;have hkeys:∀ j p,aD[j]?=some p->wr.cell? ⟨b,off+j*2,none⟩=some (.string p.key):=by
        intro j y hy;obtain ⟨b',off',ha',-,-,c0',-⟩:=jU H2.out hy;rw [ha] at ha';simp at ha';obtain ⟨rfl,rfl⟩:=ha';rw [hbl.cell (p:=⟨b,off+j*2,none⟩) (nX c0')];exact c0'
       have c0:wr.cell? ⟨b,off+k*2,none⟩=some (.string x.key):=hkeys k x hx;have c1':wr.cell? ⟨b,off+k*2+1,none⟩=some (.string x.val):=by rw [hbl.cell (p:=⟨b,off+k*2+1,none⟩) (nX c1')];exact c1'
       have hxs:=SP.out x (List.mem_of_getElem? hx);have HX:=hid hx;have bS:Hid (wJ ((aD.take k).map Pr.key) (x::aD.drop (k+1))=E2):=by show _=_;rw [<- IU aD k x hx];exact aX
       have HKEY:=hid hkeys;obtain ⟨key,val⟩:=x;dsimp only at c0 c1' hxs;have CN:=hid (fun w=>TS key w (by omega));have CV:=hid (Cu val wr (by omega));have Tx:Hid ((aD.take (k+1)).map Pr.key=(aD.take k).map Pr.key++[key]):=by show _=_;rw [List.take_add_one,HX.out];simp
       subst ha;clear aX hx hcb hbl hkeys;cases hn:dQ key with
       | false=>
        rw [hn] at CN;have HV:Hid (V=6):=by show V=6;have:=bS.out;rw [wJ,if_pos hn] at this;rw [HE2.out,Oo.out,<- this];rfl
        exact jp0
       | true=>
        rw [hn] at CN;cases hln:cZ val with
        | false=>
         rw [hln] at CV;have HV:Hid (V=17):=by exact jo0
         clear hn hln;go_wp2_with fail
         refine (CN.out _).mono ?_;rintro e w3 ⟨rfl,rfl⟩;go_wp2_with fail
         refine CV.out.mono ?_;rintro e w4 ⟨rfl,b4⟩;have B4:=hid (q01 sK.out b4);go_wp2;go_ret;exact ⟨by rw [HV.out];rfl,B4.out⟩
        | true=>
         rw [hln] at CV;have HKX:Hid (∀ w4,Below wr.heap.size wr w4->∀ m,Calls prog 214 #[.slice (some ⟨b,off,none⟩) k c2,.string key] (w4.drewN m) fun e w'=>e=.returned (.bool (dO ((aD.take k).map Pr.key) key))/\w'=w4.drewN m):=fun w4 h4 m=>
          (Ll aD key b off k c2 (w4.drewN m) (by omega) (by omega) HM2.out (fun j p hp=>by
           have:=HKEY.out j p hp;show w4.cell? _=_;rw [h4.cell (p:=⟨b,off+j*2,none⟩) (nX this)];exact this)).mono fun _ _ h=>⟨h.1,h.2.symm⟩
         cases hb:dO ((aD.take k).map Pr.key) key with
         | true=>
          rw [hb] at HKX;have HV:Hid (V=7):=by exact jnx
          clear hn hln hb;go_wp2_with fail
          refine (CN.out _).mono ?_;rintro e w3 ⟨rfl,rfl⟩;go_wp2_with fail
          refine CV.out.mono ?_;rintro e w4 ⟨rfl,b4⟩;have B4:=hid (q01 sK.out b4);have HKM:=hid (HKX.out w4 b4);have p2:=(xQ.out.below b4).cell 2 _ rfl;have c0:w4.cell? ⟨b,off+k*2,none⟩=some (.string key):=by rw [b4.cell (p:=⟨b,off+k*2,none⟩) (nX c0)];exact c0
          clear b4 HKX c1';go_upto_region 17 with (fail)
          go_quiet ((go_at_call 214;with_reducible exact Calls.quiet_of_same (HKM.out _)))
          go_wp2;go_ret;exact ⟨by rw [HV.out];rfl,gQ B4.out _⟩
         | false=>
          rw [hb] at HKX;refine jnq ?_;intro Ej;clear hn hln hb;go_wp2_with fail
          refine (CN.out _).mono ?_;rintro e w3 ⟨rfl,rfl⟩;go_wp2_with fail
          refine CV.out.mono ?_;rintro e w4 ⟨rfl,b4⟩;have B4:=hid (q01 sK.out b4);have HKM:=hid (HKX.out w4 b4);have HC4:=hid (xQ.out.below b4);have p2:=HC4.out.cell 2 _ rfl;have c0:w4.cell? ⟨b,off+k*2,none⟩=some (.string key):=by rw [b4.cell (p:=⟨b,off+k*2,none⟩) (nX c0)];exact c0
          clear b4 HKX c1';go_upto_region 17 with (fail)
          go_quiet ((go_at_call 214;with_reducible exact Calls.quiet_of_same (HKM.out _)))
          go_wp2;go_roundw;case rel=>exact ⟨k+1,by omega,by go_num,HC4.out.dN _,gQ B4.out _,Ej.out⟩
          case measure=>simp [intOf];omega
      ·obtain rfl:k=aD.length:=by omega
       have HV:Hid (V=if 32<cls.length\/32<aD.length then 3 else 0):=by show V=_;rw [List.drop_length,wJ] at aX;rw [HE2.out,Oo.out,<- aX];rfl
       have p1:=hcb.cell 1 _ rfl;clear aX hcb hbl hk hlt;by_cases h1:32<cls.length
       ·have q1:decide ((32:Int)<(cls.length:Int))=true:=by simp;omega
        go_wp2;go_ret;exact ⟨by rw [HV.out,if_pos (.inl h1)];rfl,sK.out⟩
       ·have q1:decide ((32:Int)<(cls.length:Int))=false:=by simp;omega
        by_cases h2:32<aD.length
        ·have q2:decide ((32:Int)<(aD.length:Int))=true:=by simp;omega
         go_wp2;go_ret;exact ⟨by rw [HV.out,if_pos (.inr h2)];rfl,sK.out⟩
        ·have q2:decide ((32:Int)<(aD.length:Int))=false:=by simp;omega
         go_wp2;go_ret;exact ⟨by rw [HV.out,if_neg (by omega)];rfl,sK.out⟩
open Go.RowKit
theorem Yx {ok:Nat->Prop} {w:World} {l:List aj} {rows:List (List Value)} (h:aO ok w (l.map aj.d) rows):∀ u∈rows.flatten,u.oneCell'=true:=
 o9 h fun d hd r hr u hu=>by
  obtain ⟨x,_,rfl⟩:=List.mem_map.1 hd;obtain ⟨k,t,d,ti,a,ar,ci,ks⟩:=x;obtain ⟨vc,vp,va,vi,vk,rfl,hR⟩:=aj.open_ hr;obtain ⟨_,_,_,rfl⟩:=Rd.au hR.at_.cls
  obtain ⟨_,_,_,rfl⟩:=Rd.au hR.at_.aD
  obtain ⟨_,_,_,rfl⟩:=Rd.au hR.args;obtain ⟨_,_,_,rfl⟩:=Rd.au hR.dH;obtain ⟨_,_,_,rfl⟩:=Rd.au hR.kids;simp at hu;rcases hu with rfl | rfl | rfl | rfl | rfl | rfl | rfl | rfl | rfl | rfl<;>rfl
theorem Yy {ok:Nat->Prop} {w:World} {l:List ah} {rows:List (List Value)} (h:aO ok w (l.map ah.d) rows):∀ u∈rows.flatten,u.oneCell'=true:=
 o9 h fun d hd r hr u hu=>by
  obtain ⟨x,_,rfl⟩:=List.mem_map.1 hd;obtain ⟨k,lv,i,t,d,ti,a,li,ks⟩:=x;obtain ⟨vc,vp,vl,vk,rfl,hR⟩:=ah.open_ hr;obtain ⟨_,_,_,rfl⟩:=Rd.au hR.at_.cls
  obtain ⟨_,_,_,rfl⟩:=Rd.au hR.at_.aD
  obtain ⟨_,_,_,rfl⟩:=Rd.au hR.line;obtain ⟨_,_,_,rfl⟩:=Rd.au hR.kids;simp at hu;rcases hu with rfl | rfl | rfl | rfl | rfl | rfl | rfl | rfl | rfl | rfl | rfl<;>rfl
theorem jp2{P:Prop}(h:P:=by
 clear hown hg;go_wp2;go_ret;refine ⟨_,rows,rfl,⟨by rw [List.length_map];exact HO.out,aO.keep (fun b hb hlt=>⟨⟨.inl hb,fun e=>by have:=(HO.out.lt b e).1;omega,by have:=b1.size;omega⟩,b1.block b hlt⟩) _ _ H3.out,H4.out,b1,fun g hg=>(HO.out.lt g hg).2,b1.size,Nat.le_refl _⟩⟩):P:=h
theorem Ov (l:List aj) (ok:Nat->Prop) (v:jNk) (w:jN9) (h:Rd ok w (aZ l) [v]) (hB:∀ b,ok b->b<w.heap.size) (hl:l.length<=1000000) : Calls prog 103 #[v] w (fun e w'=>∃ v' rows,e=.returned v'/\aC 66 10 ok w'.heap.size w (l.map aj.d) rows v' w'):=by
 obtain ⟨i0,hi,hz0,hz1,hz2⟩:=info_parts MP;obtain ⟨A,cap,rows,rfl,h1,h2,h3,h4,h5⟩:=Rd.Gm h;rw [jKx] at h1 h5;have e:(l.map aj.d).length=l.length:=jKx _;rw [e];unfold maxLen at h2;have H3:=hid h3;have H4:=hid h4;have H5:=hid h5;have H1:=hid (Yx h3);clear h h3 h4 h5 e;cases A with
 | none=>
  refine KM ?_;intro h0;subst h0;have hq:=fun (w:jN9) (a:Option Addr) (n c:Nat)=>Lib.run_eql_slice_nil (P:=prog) w _ _ a n c 0 0 underlying46
  go_enter func103,ntmps103;go_wp2;go_ret;exact ⟨_,[],rfl,aC.nil _ _ _ _⟩
 | some ad=>
  have hq:=fun (w:jN9) (a:Option Addr) (n c:Nat)=>Lib.run_eql_slice_nil (P:=prog) w _ _ a n c 0 0 underlying46
  go_enter func103,ntmps103;go_wp2_with (at_builtin;refine Iu _ rfl (.tmp 5) (.tmp 6) 46 rfl w.heap.size 66 i0 _ 10 192 underlying46 hi hz0 hz1 hz2 rfl (by decide) (.slice (some ⟨w.heap.size,0,none⟩) 0 0) 0 [] rfl (j3 w _ _) w.heap.size (some ad) l.length cap rows.flatten rfl (H5.out.below ((jK7 _ w).alloc (jK8 _) _)) H1.out ?a1 ?a2 ?a3 ?_)
  case a1=>unfold maxLen;omega
  case a2=>omega
  case a3=>simp
  intro v' w1 hown hg _
  (try simp only [Nat.zero_add,List.nil_append] at hown)
  refine KJ ?_;intro b1 HO;exact jp2
theorem Ow (l:List ah) (ok:Nat->Prop) (v:jNk) (w:jN9) (h:Rd ok w (iC l) [v]) (hB:∀ b,ok b->b<w.heap.size) (hl:l.length<=1000000) : Calls prog 105 #[v] w (fun e w'=>∃ v' rows,e=.returned v'/\aC 48 11 ok w'.heap.size w (l.map ah.d) rows v' w'):=by
 obtain ⟨i0,hi,hz0,hz1,hz2⟩:=info_parts XE;obtain ⟨A,cap,rows,rfl,h1,h2,h3,h4,h5⟩:=Rd.Gm h;rw [jKx] at h1 h5;have e:(l.map ah.d).length=l.length:=jKx _;rw [e];unfold maxLen at h2;have H3:=hid h3;have H4:=hid h4;have H5:=hid h5;have H1:=hid (Yy h3);clear h h3 h4 h5 e;cases A with
 | none=>
  refine KM ?_;intro h0;subst h0;have hq:=fun (w:jN9) (a:Option Addr) (n c:Nat)=>Lib.run_eql_slice_nil (P:=prog) w _ _ a n c 0 0 underlying22
  go_enter func105,ntmps105;go_wp2;go_ret;exact ⟨_,[],rfl,aC.nil _ _ _ _⟩
 | some ad=>
  have hq:=fun (w:jN9) (a:Option Addr) (n c:Nat)=>Lib.run_eql_slice_nil (P:=prog) w _ _ a n c 0 0 underlying22
  go_enter func105,ntmps105;go_wp2_with (at_builtin;refine Iu _ rfl (.tmp 5) (.tmp 6) 22 rfl w.heap.size 48 i0 _ 11 192 underlying22 hi hz0 hz1 hz2 rfl (by decide) (.slice (some ⟨w.heap.size,0,none⟩) 0 0) 0 [] rfl (j3 w _ _) w.heap.size (some ad) l.length cap rows.flatten rfl (H5.out.below ((jK7 _ w).alloc (jK8 _) _)) H1.out ?a1 ?a2 ?a3 ?_)
  case a1=>unfold maxLen;omega
  case a2=>omega
  case a3=>simp
  intro v' w1 hown hg _
  (try simp only [Nat.zero_add,List.nil_append] at hown)
  refine KJ ?_;intro b1 HO;exact jp2
theorem FQ (at_:At) (vc vp:jNk) (B:Nat) (w:jN9) (h:AtR (·<B) w at_ vc vp) (hB:B<=w.heap.size) (hc:at_.cls.length<=1000000) (hp:at_.aD.length<=1000000) : Calls prog 104 #[.agg #[.string at_.id,vc,vp]] w fun e w'=>∃ J8 J9,e=.returned (.agg #[.string at_.id,J8,J9])/\AtR (w.heap.size<=·) w' at_ J8 J9/\Below w.heap.size w w':=by
 obtain ⟨ac,nc,cc,rfl⟩:=Rd.au h.cls;obtain ⟨ap,np,cp,rfl⟩:=Rd.au h.aD;have HA:=hid h;clear h;go_enter func104,ntmps104;go_upto_region 1 with (fail)
 refine jl7 ?_;intro w0 b0 hs0 CS d1 HP0 HQ0;go_wp2_with fail
 refine CS.out.mono ?_;rintro e w1 ⟨v1,rfl,hr1,b1⟩;obtain ⟨a1,n1,c1,rfl⟩:=Rd.au hr1;refine jlj ?_;intro P1 Q1 Y7 HQ1 HR1 hb1 hs1 d1 f1;clear P1 Q1 HP0 HQ0 CS hr1 b0 b1 hs0;go_upto_region 2 with (fail)
 refine jl8 ?_;clear Y7 HQ1 HR1 hb1 hs1 d1 f1;intro w2 R2 b2 hs2 CP d2 Rh LW;go_wp2_with fail
 refine CP.out.mono ?_;rintro e w3 ⟨v3,rfl,hr3,b3⟩;obtain ⟨a3,n3,c3,rfl⟩:=Rd.au hr3;refine jl9 ?_;intro P3 Q3 MZ Pw HR3 HS3 hb3 d2 f2;clear P3 Q3 Rh LW CP hr3 b2 b3 R2 hs2;go_upto_region 3 with (fail)
 obtain ⟨w4,hw4⟩:∃ w4,w4=w3.setCell ⟨w.heap.size,2,none⟩ (.slice a3 n3 c3):=⟨_,rfl⟩;rw [<- hw4] at MZ Pw;refine jl6 ?_;clear hw4 HR3 HS3 hb3 d2 f2;intro R4 S4 q0 q1 q2 r0 r1 r2 g0 g1 g2 FB HAV;go_wp2;exact bodyPost_ret (v:=.agg #[.string at_.id,.slice a1 n1 c1,.slice a3 n3 c3]) (by simp [results,results104,go_sem,r0,r1,r2]) rfl ⟨_,_,rfl,⟨HAV.out _ _ S4.out _ _ _,HAV.out _ _ R4.out _ _ _⟩,FB.out _ _ _⟩
def QA {α:Type} (T:TypeId) (k:Nat) (ok:Nat->Prop) (w:jN9) (D':α->D) (l:List α) (v vi:jNk) (wr:jN9):Prop:=∃ (i:Nat) (rows:List (List jNk)),i<=l.length/\vi=.int .i64 i/\aC T k ok wr.heap.size w (l.map D') rows v wr
theorem rdB {ok:Nat->Prop} {w:jN9} {d:D} {cs:List jNk} (h:Rd ok w d cs):Rd (·<w.heap.size) w d cs:=Rd.keep (fun b _ h2=>⟨h2,rfl⟩) _ _ h
theorem FR {ok:Nat->Prop} {g B1:Nat} {w0 w':jN9} {d:D} {cs:List jNk} (h:Rd (B1<=·) w' d cs) (h0:w0.heap.size<=B1) (hg:g<B1):Rd (fun b=>(ok b\/w0.heap.size<=b)/\b≠g) w' d cs:=h.weaken (fun b hb=>⟨.inr (Nat.le_trans h0 hb),by omega⟩)
theorem FU {g B1 o:Nat} {w:jN9} {u:jNk} {d:D} {cs:List jNk} (h:Rd (B1<=·) w d cs) (hg:g<B1):Rd (B1<=·) (w.setCell ⟨g,o,none⟩ u) d cs:=Rd.keep (fun b (hb:B1<=b) _=>⟨hb,Below.heap_setCell w ⟨g,o,none⟩ u b (by show b≠g;omega)⟩) _ _ h
theorem aj.j6 {ok:Nat->Prop} {w:jN9} {k:Int} {t d ti:ByteArray} {a:At} {ar:List ByteArray} {ci:List Ci} {ks:List aj} {vc vp va vi vk:jNk} (h:Rd ok w (aj.mk k t d ti a ar ci ks).d [.int .i64 k,.string t,.string d,.string ti,.string a.id,vc,vp,va,vi,vk]):vD ok w a ar ci ks vc vp va vi vk:=by obtain ⟨J8,J9,va',vi',vk',e,hI⟩:=aj.open_ h;simp only [List.cons.injEq,and_true,true_and] at e;obtain ⟨rfl,rfl,rfl,rfl,rfl⟩:=e;exact hI
theorem ah.blR {ok:Nat->Prop} {w:jN9} {k lv:Int} {i t d ti:ByteArray} {a:At} {li:List aj} {ks:List ah} {vc vp vl vk:jNk} (h:Rd ok w (ah.mk k lv i t d ti a li ks).d [.int .i64 k,.int .i64 lv,.string i,.string t,.string d,.string ti,.string a.id,vc,vp,vl,vk]):kG ok w a li ks vc vp vl vk:=by obtain ⟨J8,J9,vl',vk',e,hI⟩:=ah.open_ h;simp only [List.cons.injEq,and_true,true_and] at e;obtain ⟨rfl,rfl,rfl,rfl⟩:=e;exact hI
section
variable {U g n c B1 i:Nat} {ok:Nat->Prop} {w0 w:jN9} {ds:List D} {rows:List (List jNk)} {k lv:Int} {s t d ti:ByteArray} {a:At} {ar:List ByteArray} {ci:List Ci} {ks:List aj} {li:List aj} {bs:List ah} {vc vp va vi vk vl u:jNk}
theorem aC.in4 (h:aC 66 10 ok U w0 ds rows (.slice (some ⟨g,0,none⟩) n c) w) (hd:ds[i]?=some (aj.mk k t d ti a ar ci ks).d) (hr:rows[i]?=some [.int .i64 k,.string t,.string d,.string ti,.string a.id,vc,vp,va,vi,vk]) : ∃ rows',rows'[i]?=some [.int .i64 k,.string t,.string d,.string ti,.string a.id,vc,vp,va,vi,vk]/\aC 66 10 ok (w.setCell ⟨g,i*10+4,none⟩ (.string a.id)).heap.size w0 ds rows' (.slice (some ⟨g,0,none⟩) n c) (w.setCell ⟨g,i*10+4,none⟩ (.string a.id)):=
 h.XJ hr hd 4 _ _ (by decide) rfl (h.get hr hd).1
theorem aC.in5 (h:aC 66 10 ok U w0 ds rows (.slice (some ⟨g,0,none⟩) n c) w) (hd:ds[i]?=some (aj.mk k t d ti a ar ci ks).d) (hr:rows[i]?=some [.int .i64 k,.string t,.string d,.string ti,.string a.id,vc,vp,va,vi,vk]) (hu:Rd (B1<=·) w (jf a.cls) [u]) (h0:w0.heap.size<=B1) (hg:g<B1) : ∃ rows',rows'[i]?=some [.int .i64 k,.string t,.string d,.string ti,.string a.id,u,vp,va,vi,vk]/\aC 66 10 ok (w.setCell ⟨g,i*10+5,none⟩ u).heap.size w0 ds rows' (.slice (some ⟨g,0,none⟩) n c) (w.setCell ⟨g,i*10+5,none⟩ u):=
 have I:=aj.j6 (h.get hr hd).1;have N:=FR (ok:=ok) hu h0 hg
 h.XJ hr hd 5 u _ (by decide) rfl (aj.fC k t d ti ⟨⟨N,I.at_.aD⟩,I.args,I.dH,I.kids⟩)
theorem aC.in6 (h:aC 66 10 ok U w0 ds rows (.slice (some ⟨g,0,none⟩) n c) w) (hd:ds[i]?=some (aj.mk k t d ti a ar ci ks).d) (hr:rows[i]?=some [.int .i64 k,.string t,.string d,.string ti,.string a.id,vc,vp,va,vi,vk]) (hu:Rd (B1<=·) w (dx a.aD) [u]) (h0:w0.heap.size<=B1) (hg:g<B1) : ∃ rows',rows'[i]?=some [.int .i64 k,.string t,.string d,.string ti,.string a.id,vc,u,va,vi,vk]/\aC 66 10 ok (w.setCell ⟨g,i*10+6,none⟩ u).heap.size w0 ds rows' (.slice (some ⟨g,0,none⟩) n c) (w.setCell ⟨g,i*10+6,none⟩ u):=
 have I:=aj.j6 (h.get hr hd).1;have N:=FR (ok:=ok) hu h0 hg
 h.XJ hr hd 6 u _ (by decide) rfl (aj.fC k t d ti ⟨⟨I.at_.cls,N⟩,I.args,I.dH,I.kids⟩)
theorem aC.in7 (h:aC 66 10 ok U w0 ds rows (.slice (some ⟨g,0,none⟩) n c) w) (hd:ds[i]?=some (aj.mk k t d ti a ar ci ks).d) (hr:rows[i]?=some [.int .i64 k,.string t,.string d,.string ti,.string a.id,vc,vp,va,vi,vk]) (hu:Rd (B1<=·) w (jf ar) [u]) (h0:w0.heap.size<=B1) (hg:g<B1) : ∃ rows',rows'[i]?=some [.int .i64 k,.string t,.string d,.string ti,.string a.id,vc,vp,u,vi,vk]/\aC 66 10 ok (w.setCell ⟨g,i*10+7,none⟩ u).heap.size w0 ds rows' (.slice (some ⟨g,0,none⟩) n c) (w.setCell ⟨g,i*10+7,none⟩ u):=
 have I:=aj.j6 (h.get hr hd).1;have N:=FR (ok:=ok) hu h0 hg
 h.XJ hr hd 7 u _ (by decide) rfl (aj.fC k t d ti ⟨I.at_,N,I.dH,I.kids⟩)
theorem aC.in8 (h:aC 66 10 ok U w0 ds rows (.slice (some ⟨g,0,none⟩) n c) w) (hd:ds[i]?=some (aj.mk k t d ti a ar ci ks).d) (hr:rows[i]?=some [.int .i64 k,.string t,.string d,.string ti,.string a.id,vc,vp,va,vi,vk]) (hu:Rd (B1<=·) w (Mg ci) [u]) (h0:w0.heap.size<=B1) (hg:g<B1) : ∃ rows',rows'[i]?=some [.int .i64 k,.string t,.string d,.string ti,.string a.id,vc,vp,va,u,vk]/\aC 66 10 ok (w.setCell ⟨g,i*10+8,none⟩ u).heap.size w0 ds rows' (.slice (some ⟨g,0,none⟩) n c) (w.setCell ⟨g,i*10+8,none⟩ u):=
 have I:=aj.j6 (h.get hr hd).1;have N:=FR (ok:=ok) hu h0 hg
 h.XJ hr hd 8 u _ (by decide) rfl (aj.fC k t d ti ⟨I.at_,I.args,N,I.kids⟩)
theorem aC.in9 (h:aC 66 10 ok U w0 ds rows (.slice (some ⟨g,0,none⟩) n c) w) (hd:ds[i]?=some (aj.mk k t d ti a ar ci ks).d) (hr:rows[i]?=some [.int .i64 k,.string t,.string d,.string ti,.string a.id,vc,vp,va,vi,vk]) (N:Rd (fun b=>(ok b\/w0.heap.size<=b)/\b≠g) w (aZ ks) [u]) : ∃ rows',rows'[i]?=some [.int .i64 k,.string t,.string d,.string ti,.string a.id,vc,vp,va,vi,u]/\aC 66 10 ok (w.setCell ⟨g,i*10+9,none⟩ u).heap.size w0 ds rows' (.slice (some ⟨g,0,none⟩) n c) (w.setCell ⟨g,i*10+9,none⟩ u):=
 have I:=aj.j6 (h.get hr hd).1
 h.XJ hr hd 9 u _ (by decide) rfl (aj.fC k t d ti ⟨I.at_,I.args,I.dH,N⟩)
theorem aC.bl6 (h:aC 48 11 ok U w0 ds rows (.slice (some ⟨g,0,none⟩) n c) w) (hd:ds[i]?=some (ah.mk k lv s t d ti a li bs).d) (hr:rows[i]?=some [.int .i64 k,.int .i64 lv,.string s,.string t,.string d,.string ti,.string a.id,vc,vp,vl,vk]) : ∃ rows',rows'[i]?=some [.int .i64 k,.int .i64 lv,.string s,.string t,.string d,.string ti,.string a.id,vc,vp,vl,vk]/\aC 48 11 ok (w.setCell ⟨g,i*11+6,none⟩ (.string a.id)).heap.size w0 ds rows' (.slice (some ⟨g,0,none⟩) n c) (w.setCell ⟨g,i*11+6,none⟩ (.string a.id)):=
 h.XJ hr hd 6 _ _ (by decide) rfl (h.get hr hd).1
theorem aC.bl7 (h:aC 48 11 ok U w0 ds rows (.slice (some ⟨g,0,none⟩) n c) w) (hd:ds[i]?=some (ah.mk k lv s t d ti a li bs).d) (hr:rows[i]?=some [.int .i64 k,.int .i64 lv,.string s,.string t,.string d,.string ti,.string a.id,vc,vp,vl,vk]) (hu:Rd (B1<=·) w (jf a.cls) [u]) (h0:w0.heap.size<=B1) (hg:g<B1) : ∃ rows',rows'[i]?=some [.int .i64 k,.int .i64 lv,.string s,.string t,.string d,.string ti,.string a.id,u,vp,vl,vk]/\aC 48 11 ok (w.setCell ⟨g,i*11+7,none⟩ u).heap.size w0 ds rows' (.slice (some ⟨g,0,none⟩) n c) (w.setCell ⟨g,i*11+7,none⟩ u):=
 have I:=ah.blR (h.get hr hd).1;have N:=FR (ok:=ok) hu h0 hg
 h.XJ hr hd 7 u _ (by decide) rfl (ah.fC k lv s t d ti ⟨⟨N,I.at_.aD⟩,I.line,I.kids⟩)
theorem aC.bl8 (h:aC 48 11 ok U w0 ds rows (.slice (some ⟨g,0,none⟩) n c) w) (hd:ds[i]?=some (ah.mk k lv s t d ti a li bs).d) (hr:rows[i]?=some [.int .i64 k,.int .i64 lv,.string s,.string t,.string d,.string ti,.string a.id,vc,vp,vl,vk]) (hu:Rd (B1<=·) w (dx a.aD) [u]) (h0:w0.heap.size<=B1) (hg:g<B1) : ∃ rows',rows'[i]?=some [.int .i64 k,.int .i64 lv,.string s,.string t,.string d,.string ti,.string a.id,vc,u,vl,vk]/\aC 48 11 ok (w.setCell ⟨g,i*11+8,none⟩ u).heap.size w0 ds rows' (.slice (some ⟨g,0,none⟩) n c) (w.setCell ⟨g,i*11+8,none⟩ u):=
 have I:=ah.blR (h.get hr hd).1;have N:=FR (ok:=ok) hu h0 hg
 h.XJ hr hd 8 u _ (by decide) rfl (ah.fC k lv s t d ti ⟨⟨I.at_.cls,N⟩,I.line,I.kids⟩)
theorem aC.bl9 (h:aC 48 11 ok U w0 ds rows (.slice (some ⟨g,0,none⟩) n c) w) (hd:ds[i]?=some (ah.mk k lv s t d ti a li bs).d) (hr:rows[i]?=some [.int .i64 k,.int .i64 lv,.string s,.string t,.string d,.string ti,.string a.id,vc,vp,vl,vk]) (N:Rd (fun b=>(ok b\/w0.heap.size<=b)/\b≠g) w (aZ li) [u]) : ∃ rows',rows'[i]?=some [.int .i64 k,.int .i64 lv,.string s,.string t,.string d,.string ti,.string a.id,vc,vp,u,vk]/\aC 48 11 ok (w.setCell ⟨g,i*11+9,none⟩ u).heap.size w0 ds rows' (.slice (some ⟨g,0,none⟩) n c) (w.setCell ⟨g,i*11+9,none⟩ u):=
 have I:=ah.blR (h.get hr hd).1
 h.XJ hr hd 9 u _ (by decide) rfl (ah.fC k lv s t d ti ⟨I.at_,N,I.kids⟩)
theorem aC.jGq (h:aC 48 11 ok U w0 ds rows (.slice (some ⟨g,0,none⟩) n c) w) (hd:ds[i]?=some (ah.mk k lv s t d ti a li bs).d) (hr:rows[i]?=some [.int .i64 k,.int .i64 lv,.string s,.string t,.string d,.string ti,.string a.id,vc,vp,vl,vk]) (N:Rd (fun b=>(ok b\/w0.heap.size<=b)/\b≠g) w (iC bs) [u]) : ∃ rows',rows'[i]?=some [.int .i64 k,.int .i64 lv,.string s,.string t,.string d,.string ti,.string a.id,vc,vp,vl,u]/\aC 48 11 ok (w.setCell ⟨g,i*11+10,none⟩ u).heap.size w0 ds rows' (.slice (some ⟨g,0,none⟩) n c) (w.setCell ⟨g,i*11+10,none⟩ u):=
 have I:=ah.blR (h.get hr hd).1
 h.XJ hr hd 10 u _ (by decide) rfl (ah.fC k lv s t d ti ⟨I.at_,I.line,N⟩)
end
theorem aC.sl3 {T:TypeId} {k U:Nat} {ok:Nat->Prop} {w0 w:jN9} {ds:List D} {rows:List (List jNk)} {v:jNk} (h:aC T k ok U w0 ds rows v w):∃ a n c,v=.slice a n c:=by obtain ⟨a,c,e⟩:=h.slice;exact ⟨a,_,c,e⟩
theorem At.sl {ok:Nat->Prop} {w:jN9} {a:At} {vc vp:jNk} (h:AtR ok w a vc vp):(∃ b n c,vc=.slice b n c)/\∃ b n c,vp=.slice b n c:=⟨Rd.au h.cls,Rd.au h.aD⟩
theorem jp3{P:Prop}(h:P:=by
 go_wp2;go_roundw;case rel=>exact ⟨k+1,rF,by have:=DI.out;omega,by go_num,HF.out⟩
 case measure=>simp [intOf];omega):P:=h
theorem FV (N:Nat):∀ (l:List aj) (ok:Nat->Prop) (v:jNk) (w:jN9),aj.aU l<=N->N<=1000000->Rd ok w (aZ l) [v]->(∀ b,ok b->b<w.heap.size)->aj.mh l -> Calls prog 59 #[v] w (fun e w'=>∃ v' rows,e=.returned v'/\aC 66 10 ok w'.heap.size w (l.map aj.d) rows v' w'):=by
 induction N using Nat.strongRecOn with
 | _ N ih=>
  intro l ok v w hN hNm hrd hB hbd;obtain ⟨a,n,cap,rfl⟩:=Rd.au hrd;have CC:=hid (Ov l ok _ w hrd hB (by have:=aj.dI l;omega));have IH:=hid ih;have HN:=hid hN;have HNM:=hid hNm;have mD:=hid hbd;have HBs:=hid hB;clear ih hN hNm hrd hbd;go_enter func59,ntmps59;go_wp2_with fail
  (with_reducible refine CC.out.mono ?_)
  rintro e w1 ⟨v1,JX,rfl,hr1⟩;obtain ⟨nL,FW⟩:∃ nL,nL=l.length:=⟨_,rfl⟩;obtain ⟨a1,c1,rfl⟩:∃ a1 c1,v1=.slice a1 nL c1:=by obtain ⟨a',c',e'⟩:=hr1.slice;rw [jKx] at e';exact ⟨a',c',by rw [FW];exact e'⟩
  have DI:=hid FW;have R0:Hid (QA 66 10 ok w aj.d l (.slice a1 nL c1) (.int .i64 0) w1):=⟨0,JX,jL3 _,rfl,hr1⟩;have hnl:nL<=1000000:=by have:=aj.dI l;have:=HN.out;have:=HNM.out;omega
  clear hr1 FW CC;go_wp2
  go_loopw [8] (fun vi wr=>QA 66 10 ok w aj.d l (.slice a1 nL c1) vi wr) (fun i _=>nL-(intOf i).toNat)
  case atStart=>exact R0.out
  case round=>
   clear R0;obtain ⟨k,rows,hk,rfl,hR⟩:=hrel;by_cases hlt:k<nL
   ·obtain ⟨x,hx⟩:∃ x,l[k]?=some x:=⟨_,jK6 (by have:=DI.out;omega)⟩;have hd:(l.map aj.d)[k]?=some x.d:=by rw [jL9,hx];rfl
    have hbx:=aj.mM l k x mD.out hx;have hsx:=aj.Li l k _ hx;obtain ⟨r,hr,hrx⟩:=hR.red.get k _ hd;obtain ⟨g,rfl,-,hc1,hcm,hg0⟩:=hR.at_ (by rw [jKx];have:=DI.out;omega)
    obtain ⟨kd,t,d,ti,at_,ar,ci,ks⟩:=x;obtain ⟨vc,vp,va,vi,vk,rfl,-⟩:=aj.open_ hrx;obtain ⟨hE,hcell⟩:=hR.get hr hd;have hI:=aj.j6 hE;obtain ⟨ac,nc,cc,rfl⟩:=Rd.au hI.at_.cls
    obtain ⟨ap,np,cp,rfl⟩:=Rd.au hI.at_.aD
    obtain ⟨aa,na,ca,rfl⟩:=Rd.au hI.args;obtain ⟨ai,ni,yx,rfl⟩:=Rd.au hI.dH;obtain ⟨ak,nk,ck,rfl⟩:=Rd.au hI.kids;rw [aj.bd] at hbx;rw [aj.sz] at hsx;unfold maxLen at hcm;have hgr:g<wr.heap.size:=(hR.own.lt g rfl).2;have AC:=hid (FQ at_ _ _ wr.heap.size wr ⟨rdB hI.at_.cls,rdB hI.at_.aD⟩ (jK8 _) hbx.1 hbx.2.1);have c4:=hcell 4 _ rfl;have c5:=hcell 5 _ rfl;have c6:=hcell 6 _ rfl;have lK:=hid hbx;have HSX:=hid hsx;have zm:=hid hd;have HRr:=hid hr;have HR:=hid hR;have Zc:=hid hR.aY.size;have Ma:=hid hgr;clear hx hd hbx hsx hrx hE hcell hI hr hR hg0 hgr;go_wp2_with fail
    (with_reducible refine AC.out.mono ?_)
    rintro e w2 ⟨uc,up,rfl,hA2,b2⟩;obtain ⟨⟨a2,n2,c2,rfl⟩,⟨p2,m2,d2,rfl⟩⟩:=At.sl hA2;obtain ⟨rA,hrA,hA⟩:=(HR.out.below b2).in4 zm.out HRr.out;obtain ⟨rB,hrB,hB'⟩:=hA.in5 zm.out hrA (FU hA2.cls Ma.out) Zc.out Ma.out;obtain ⟨rC,hrC,hC⟩:=hB'.in6 zm.out hrB (FU (FU hA2.aD Ma.out) Ma.out) Zc.out Ma.out;obtain ⟨-,hcell⟩:=(HR.out.below b2).get HRr.out zm.out;clear c4 c5 c6;have c4:=hcell 4 _ rfl;have c5:=hcell 5 _ rfl;have c6:=hcell 6 _ rfl;have ff:=(HR.out.below b2).free (by omega);obtain ⟨w3,hw3⟩:∃ w3,w3=((w2.setCell ⟨g,k*10+4,none⟩ (.string at_.id)).setCell ⟨g,k*10+4+1,none⟩ (.slice a2 n2 c2)).setCell ⟨g,k*10+4+2,none⟩ (.slice p2 m2 d2):=⟨_,rfl⟩;rw [<- hw3] at hC;have O9:=hid hrC;have HC:=hid hC;have h3s:wr.heap.size<=w3.heap.size:=by rw [hw3];simp [jM1];exact b2.size
    have H3S:=hid h3s;clear hA hrA hB' hrB hC hrC hcell hA2 b2 HR HRr AC h3s;go_upto_region 6 with (fail)
    rw [<- hw3];clear hw3 ff c4 c5 c6;obtain ⟨hE,hcell⟩:=HC.out.get O9.out zm.out;have c7:=hcell 7 _ rfl;have ARC:=hid (rJ ar w3.heap.size _ w3 (rdB (aj.j6 hE).args) (jK8 _) lK.out.2.2.1);clear hE hcell;go_wp2_with fail
    (with_reducible refine ARC.out.mono ?_)
    rintro e w4 ⟨va4,rfl,hv4,b4⟩;obtain ⟨a4,n4,c4,rfl⟩:=Rd.au hv4;have hr4:=HC.out.below b4;have ZJ:=hv4.weaken (ok':=(wr.heap.size<=·)) (fun b hb=>Nat.le_trans H3S.out hb);obtain ⟨rD,hrD,hD⟩:=hr4.in7 zm.out O9.out ZJ Zc.out Ma.out;obtain ⟨-,hcell⟩:=hr4.get O9.out zm.out;clear c7;have c7:=hcell 7 _ rfl;have ff:=hr4.free (by omega);obtain ⟨w5,MN⟩:∃ w5,w5=w4.setCell ⟨g,k*10+7,none⟩ (.slice a4 n4 c4):=⟨_,rfl⟩;rw [<- MN] at hD;have Fp:=hid hrD;have HD':=hid hD;have h5s:wr.heap.size<=w5.heap.size:=by rw [MN];simp [jM1];have:=b4.size;have:=H3S.out;omega
    have H5S:=hid h5s;clear hr4 ZJ hrD hD hcell hv4 b4 HC O9 ARC h5s H3S;go_upto_region 7 with (fail)
    rw [<- MN];clear MN ff c7;obtain ⟨hE,hcell⟩:=HD'.out.get Fp.out zm.out;have c8:=hcell 8 _ rfl;have CIC:=hid (Au ci w5.heap.size _ w5 (rdB (aj.j6 hE).dH) (jK8 _) lK.out.2.2.2.1);clear hE hcell;go_wp2_with fail
    (with_reducible refine CIC.out.mono ?_)
    rintro e w6 ⟨vi6,rfl,hv6,b6⟩;obtain ⟨a6,n6,c6,rfl⟩:=Rd.au hv6;have Ig:=HD'.out.below b6;have hn6:=hv6.weaken (ok':=(wr.heap.size<=·)) (fun b hb=>Nat.le_trans H5S.out hb);obtain ⟨rE,hrE,LY⟩:=Ig.in8 zm.out Fp.out hn6 Zc.out Ma.out;obtain ⟨-,hcell⟩:=Ig.get Fp.out zm.out;clear c8;have c8:=hcell 8 _ rfl;have ff:=Ig.free (by omega);obtain ⟨w7,hw7⟩:∃ w7,w7=w6.setCell ⟨g,k*10+8,none⟩ (.slice a6 n6 c6):=⟨_,rfl⟩;rw [<- hw7] at LY;have Qn:=hid hrE;have HE':=hid LY;have h7s:wr.heap.size<=w7.heap.size:=by rw [hw7];simp [jM1];have:=b6.size;have:=H5S.out;omega
    have H7S:=hid h7s;clear Ig hn6 hrE LY hcell hv6 b6 HD' Fp CIC h7s H5S;go_upto_region 8 with (fail)
    rw [<- hw7];clear hw7 ff c8;obtain ⟨hE,hcell⟩:=HE'.out.get Qn.out zm.out;have c9:=hcell 9 _ rfl;have KC:=hid (IH.out (aj.aU ks) (by have:=HSX.out;have:=HN.out;omega) ks _ _ w7 (jK8 _) (by have:=HSX.out;have:=HN.out;have:=HNM.out;omega) (aj.j6 hE).kids.inside (fun b hb=>hb.2) lK.out.2.2.2.2);clear hE hcell;go_wp2_with fail
    (with_reducible refine KC.out.mono ?_)
    rintro e w8 ⟨vk8,jC8,rfl,hr8⟩;obtain ⟨a8,n8,c8,rfl⟩:=hr8.sl3;have b8:=hr8.aY;have hr9:=HE'.out.below b8;have hn8:Rd (fun b=>(ok b\/w.heap.size<=b)/\b≠g) w8 (aZ ks) [.slice a8 n8 c8]:=hr8.rd.weaken (fun b hb=>hb.elim (fun h=>h.1) (fun h=>⟨.inr (by have:=H7S.out;have:=Zc.out;omega),by have:=H7S.out;have:=Ma.out;omega⟩));obtain ⟨rF,hrF,hF⟩:=hr9.in9 zm.out Qn.out hn8;obtain ⟨-,hcell⟩:=hr9.get Qn.out zm.out;clear c9;have c9:=hcell 9 _ rfl;have ff:=hr9.free (by omega);have HF:=hid hF;clear hr9 hn8 hrF hF hcell hr8 b8 HE' Qn KC H7S;exact jp3
   ·have HRF:=hid hR;clear hR;go_wp2;go_ret;exact ⟨_,rows,rfl,HRF.out⟩
open Go.RowKit
theorem SY (N:Nat):∀ (l:List ah) (ok:Nat->Prop) (v:jNk) (w:jN9),ah.aU l<=N->N<=1000000->Rd ok w (iC l) [v]->(∀ b,ok b->b<w.heap.size)->ah.mh l -> Calls prog 60 #[v] w (fun e w'=>∃ v' rows,e=.returned v'/\aC 48 11 ok w'.heap.size w (l.map ah.d) rows v' w'):=by
 induction N using Nat.strongRecOn with
 | _ N ih=>
  intro l ok v w hN hNm hrd hB hbd;obtain ⟨a,n,cap,rfl⟩:=Rd.au hrd;have CC:=hid (Ow l ok _ w hrd hB (by have:=ah.dI l;omega));have IH:=hid ih;have HN:=hid hN;have HNM:=hid hNm;have mD:=hid hbd;clear ih hN hNm hrd hbd;go_enter func60,ntmps60;go_wp2_with fail
  (with_reducible refine CC.out.mono ?_)
  rintro e w1 ⟨v1,JX,rfl,hr1⟩;obtain ⟨nL,FW⟩:∃ nL,nL=l.length:=⟨_,rfl⟩;obtain ⟨a1,c1,rfl⟩:∃ a1 c1,v1=.slice a1 nL c1:=by obtain ⟨a',c',e'⟩:=hr1.slice;rw [jKx] at e';exact ⟨a',c',by rw [FW];exact e'⟩
  have DI:=hid FW;have R0:Hid (QA 48 11 ok w ah.d l (.slice a1 nL c1) (.int .i64 0) w1):=⟨0,JX,jL3 _,rfl,hr1⟩;have hnl:nL<=1000000:=by have:=ah.dI l;have:=HN.out;have:=HNM.out;omega
  clear hr1 FW CC;go_wp2
  go_loopw [8] (fun vi wr=>QA 48 11 ok w ah.d l (.slice a1 nL c1) vi wr) (fun i _=>nL-(intOf i).toNat)
  case atStart=>exact R0.out
  case round=>
   clear R0;obtain ⟨k,rows,hk,rfl,hR⟩:=hrel;by_cases hlt:k<nL
   ·obtain ⟨x,hx⟩:∃ x,l[k]?=some x:=⟨_,jK6 (by have:=DI.out;omega)⟩;have hd:(l.map ah.d)[k]?=some x.d:=by rw [jL9,hx];rfl
    have hbx:=ah.mM l k x mD.out hx;have hsx:=ah.bK l k _ hx;obtain ⟨r,hr,hrx⟩:=hR.red.get k _ hd;obtain ⟨g,rfl,-,hc1,hcm,hg0⟩:=hR.at_ (by rw [jKx];have:=DI.out;omega)
    obtain ⟨kd,lv,i,t,d,ti,at_,li,ks⟩:=x;obtain ⟨vc,vp,vl,vk,rfl,-⟩:=ah.open_ hrx;obtain ⟨hE,hcell⟩:=hR.get hr hd;have hI:=ah.blR hE;obtain ⟨ac,nc,cc,rfl⟩:=Rd.au hI.at_.cls
    obtain ⟨ap,np,cp,rfl⟩:=Rd.au hI.at_.aD
    obtain ⟨al,nl,cl,rfl⟩:=Rd.au hI.line;obtain ⟨ak,nk,ck,rfl⟩:=Rd.au hI.kids;rw [ah.bd] at hbx;rw [ah.sz] at hsx;unfold maxLen at hcm;have hgr:g<wr.heap.size:=(hR.own.lt g rfl).2;have AC:=hid (FQ at_ _ _ wr.heap.size wr ⟨rdB hI.at_.cls,rdB hI.at_.aD⟩ (jK8 _) hbx.1 hbx.2.1);have c6:=hcell 6 _ rfl;have c7:=hcell 7 _ rfl;have c8:=hcell 8 _ rfl;have lK:=hid hbx;have HSX:=hid hsx;have zm:=hid hd;have HRr:=hid hr;have HR:=hid hR;have Zc:=hid hR.aY.size;have Ma:=hid hgr;clear hx hd hbx hsx hrx hE hcell hI hr hR hg0 hgr;go_wp2_with fail
    (with_reducible refine AC.out.mono ?_)
    rintro e w2 ⟨uc,up,rfl,hA2,b2⟩;obtain ⟨⟨a2,n2,c2,rfl⟩,⟨p2,m2,d2,rfl⟩⟩:=At.sl hA2;obtain ⟨rA,hrA,hA⟩:=(HR.out.below b2).bl6 zm.out HRr.out;obtain ⟨rB,hrB,hB'⟩:=hA.bl7 zm.out hrA (FU hA2.cls Ma.out) Zc.out Ma.out;obtain ⟨rC,hrC,hC⟩:=hB'.bl8 zm.out hrB (FU (FU hA2.aD Ma.out) Ma.out) Zc.out Ma.out;obtain ⟨-,hcell⟩:=(HR.out.below b2).get HRr.out zm.out;clear c6 c7 c8;have c6:=hcell 6 _ rfl;have c7:=hcell 7 _ rfl;have c8:=hcell 8 _ rfl;have ff:=(HR.out.below b2).free (by omega);obtain ⟨w3,hw3⟩:∃ w3,w3=((w2.setCell ⟨g,k*11+6,none⟩ (.string at_.id)).setCell ⟨g,k*11+6+1,none⟩ (.slice a2 n2 c2)).setCell ⟨g,k*11+6+2,none⟩ (.slice p2 m2 d2):=⟨_,rfl⟩;rw [<- hw3] at hC;have O9:=hid hrC;have HC:=hid hC;have h3s:wr.heap.size<=w3.heap.size:=by rw [hw3];simp [jM1];exact b2.size
    have H3S:=hid h3s;clear hA hrA hB' hrB hC hrC hcell hA2 b2 HR HRr AC h3s;go_upto_region 6 with (fail)
    rw [<- hw3];clear hw3 ff c6 c7 c8;obtain ⟨hE,hcell⟩:=HC.out.get O9.out zm.out;have c9:=hcell 9 _ rfl;have LC:=hid (FV _ li _ _ w3 (jK8 _) lK.out.2.2.2.1 (ah.blR hE).line.inside (fun b hb=>hb.2) lK.out.2.2.1);clear hE hcell;go_wp2_with fail
    (with_reducible refine LC.out.mono ?_)
    rintro e w4 ⟨vl4,eH,rfl,hr4⟩;obtain ⟨a4,n4,c4,rfl⟩:=hr4.sl3;have b4:=hr4.aY;have hr5:=HC.out.below b4;have ZJ:Rd (fun b=>(ok b\/w.heap.size<=b)/\b≠g) w4 (aZ li) [.slice a4 n4 c4]:=hr4.rd.weaken (fun b hb=>hb.elim (fun h=>h.1) (fun h=>⟨.inr (by have:=H3S.out;have:=Zc.out;omega),by have:=H3S.out;have:=Ma.out;omega⟩));obtain ⟨rD,hrD,hD⟩:=hr5.bl9 zm.out O9.out ZJ;obtain ⟨-,hcell⟩:=hr5.get O9.out zm.out;clear c9;have c9:=hcell 9 _ rfl;have ff:=hr5.free (by omega);obtain ⟨w5,MN⟩:∃ w5,w5=w4.setCell ⟨g,k*11+9,none⟩ (.slice a4 n4 c4):=⟨_,rfl⟩;rw [<- MN] at hD;have Fp:=hid hrD;have HD':=hid hD;have h5s:wr.heap.size<=w5.heap.size:=by rw [MN];simp [jM1];have:=b4.size;have:=H3S.out;omega
    have H5S:=hid h5s;clear hr5 ZJ hrD hD hcell hr4 b4 HC O9 LC h5s H3S;go_upto_region 7 with (fail)
    rw [<- MN];clear MN ff c9;obtain ⟨hE,hcell⟩:=HD'.out.get Fp.out zm.out;have c10:=hcell 10 _ rfl;have KC:=hid (IH.out (ah.aU ks) (by have:=HSX.out;have:=HN.out;omega) ks _ _ w5 (jK8 _) (by have:=HSX.out;have:=HN.out;have:=HNM.out;omega) (ah.blR hE).kids.inside (fun b hb=>hb.2) lK.out.2.2.2.2);clear hE hcell;go_wp2_with fail
    (with_reducible refine KC.out.mono ?_)
    rintro e w8 ⟨vk8,jC8,rfl,hr8⟩;obtain ⟨a8,n8,c8,rfl⟩:=hr8.sl3;have b8:=hr8.aY;have hr9:=HD'.out.below b8;have hn8:Rd (fun b=>(ok b\/w.heap.size<=b)/\b≠g) w8 (iC ks) [.slice a8 n8 c8]:=hr8.rd.weaken (fun b hb=>hb.elim (fun h=>h.1) (fun h=>⟨.inr (by have:=H5S.out;have:=Zc.out;omega),by have:=H5S.out;have:=Ma.out;omega⟩));obtain ⟨rF,hrF,hF⟩:=hr9.jGq zm.out Fp.out hn8;obtain ⟨-,hcell⟩:=hr9.get Fp.out zm.out;clear c10;have c10:=hcell 10 _ rfl;have ff:=hr9.free (by omega);have HF:=hid hF;clear hr9 hn8 hrF hF hcell hr8 b8 HD' Fp KC H5S;exact jp3
   ·have HRF:=hid hR;clear hR;go_wp2;go_ret;exact ⟨_,rows,rfl,HRF.out⟩
end Go.Proofs.YtkfnkeflalcphaaGreatDoor

