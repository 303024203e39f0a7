/- Contracts of attr.Empty, tree.oneOf, anyKind, inlineFields. The contract of attr.Check: the first error of attributes. publisherref04.count, sizes, Size, Depth; tree.sizeOfLine, sizeOfBlocks, Size, Depth. Size and Depth of documents, of tree and of the reference. Contracts of publisherref01.clean, Digit, Valid. Contracts of publisherref04.line, trimmed, has, in, noAttr and of publisherref03.line. Contracts of publisherref03.letter, part, word, Name. Contracts of publisherref03.hasText, hasKey, Check. -/
import Derived.Test.YtklhajbpfelliaaGreatDoorKPlParse
import Derived.Test.YtklhajbpfelliaaGreatDoorKSmall
set_option maxHeartbeats 8000000
set_option maxRecDepth 100000
open Go.Lib (hid)
namespace Go.Proofs.YtklhajbpfelliaaGreatDoor
open List renaming getElem?_eq_getElem->jF9,mem_of_getElem?->jG7,take_add_one->jGz
open Go.RowKit.Below renaming refl->jFj
open Nat renaming le_refl->jFk,zero_le->jG6
open Bool renaming eq_iff_iff->jFz
open Go renaming World->jIq,Value->jIz
open Go.RowKit
set_option linter.unusedVariables false
set_option linter.unusedSimpArgs false
def dP (v:jIz) (w:jIq) (e:Ending) (w':jIq):Prop:=e=.returned v/\Below w.heap.size w w'
theorem jT {α:Type} (l:List α):(((l.length:Nat):Int)==0)=l.isEmpty:=by
 cases l with
 | nil=>rfl
 | cons x l=>simp;omega
theorem VG{P:Prop}(h:P:=by
 go_ret;exact ⟨by rw [HV.out];rfl,(Below.refl _ _).alloc (Nat.le_refl _) _⟩):P:=h
theorem qW (a:At) (ac ap:Option Addr) (cc cp:Nat) (w:jIq) (hc:a.cls.length<=maxLen) (hp:a.aF.length<=maxLen) : Calls Tryz.prog 109 #[.agg #[.string a.id,.slice ac a.cls.length cc,.slice ap a.aF.length cp]] w (dP (.bool a.none) w):=by
 obtain ⟨id,cls,aF⟩:=a;dsimp only at hc hp ⊢;have h1:=oQ id;have h2:=jT cls;have h3:=jT aF;have HV:Hid (At.none ⟨id,cls,aF⟩=(bq id&&cls.isEmpty&&aF.isEmpty)):=rfl;generalize At.none ⟨id,cls,aF⟩=V at *;generalize bq id=b1 at *;generalize cls.isEmpty=b2 at *;generalize aF.isEmpty=b3 at *;cases b1<;>cases b2<;>cases b3
 all_goals
  go_enter Tryz.func109,Tryz.ntmps109;go_wp2;exact VG
def Og (n:Int) (ks:List Int) (vi:jIz):Prop:=∃ k:Nat,k<=ks.length/\vi=.int .i64 k/\(ks.take k).contains n=false
theorem VH{P:Prop}(h:P:=by
 have HE:Hid (V=false):=by
  show V=false;rw [HV.out];have:=HN.out
  rwa [List.take_of_length_le (by omega)] at this
 go_wp2;go_ret;exact ⟨by rw [HE.out];rfl,rfl⟩):P:=h
theorem Oh{P:Prop}(h:P:=by
 go_wp2;go_ret;exact ⟨by rw [HE.out];rfl,rfl⟩):P:=h
theorem jhx{P:Prop}(h:P:=by
 rw [hnx] at HT;go_wp2
 go_round
 case rel=>exact ⟨k+1,by omega,by go_num,by rw [HT.out,HN.out];rfl⟩
 case measure=>simp [intOf];omega):P:=h
theorem lq (n:Int) (ks:List Int) (g cap:Nat) (w:jIq) (hl:ks.length<=1000) (hc:∀ j k,ks[j]?=some k->w.cell? ⟨g,j,none⟩=some (.int .i64 k)) : Calls Tryz.prog 82 #[.int .i64 n,.slice (some ⟨g,0,none⟩) ks.length cap] w fun e w'=>e=.returned (.bool (ks.contains n))/\w=w':=by
 have HC:=hid hc;have R0:Hid (Og n ks (.int .i64 0)):=⟨0,jG6 _,rfl,by simp⟩;obtain ⟨V,hV⟩:∃ V,V=ks.contains n:=⟨_,rfl⟩;rw [<- hV];have HV:=hid hV;clear hc hV;go_enter Tryz.func82,Tryz.ntmps82;go_wp2
 go_loop [9] (fun i=>Og n ks i) (fun i=>ks.length-(intOf i).toNat)
 case atStart=>exact R0.out
 case round=>
  clear R0;obtain ⟨k,hk,rfl,hno⟩:=hrel;have HN:=hid hno;clear hno;by_cases hlt:k<ks.length
  ·obtain ⟨x,hx⟩:∃ x,ks[k]?=some x:=⟨_,jF9 hlt⟩;have hcell:=HC.out k x hx;have HT:Hid ((ks.take (k+1)).contains n=((ks.take k).contains n||(n==x))):=by
    show _=_;rw [jGz,hx,jFz];simp
   have HX:=hid hx;clear hx;cases hnx:(n==x)
   ·exact jhx
   ·have HE:Hid (V=true):=by
     show V=true;rw [HV.out,List.contains_iff_mem];have:n=x:=by simpa using hnx
     rw [this];exact jG7 HX.out
    exact Oh
  ·exact VH
def jhz (l:List aj) (ks:List Int) (vi:jIz):Prop:=∃ k:Nat,k<=l.length/\vi=.int .i64 k/\aj.dx ks (l.take k)=false
theorem aj.Jb (ks:List Int):∀ (l m:List aj),aj.dx ks (l++m)=(aj.dx ks l||aj.dx ks m)
 | [],m=>by rw [List.nil_append,aj.dx];rfl
 | x::l,m=>by rw [List.cons_append,aj.dx,aj.dx,aj.Jb ks l m,Bool.or_assoc]
theorem aj.Ef (ks:List Int) {l:List aj} {k:Nat} {x:aj} (hx:l[k]?=some x):aj.dx ks (l.take (k+1))=(aj.dx ks (l.take k)||x.LJ ks):=by rw [jGz,hx,aj.Jb,Option.toList_some,aj.dx,aj.dx,Bool.or_false]
theorem aj.Az (ks:List Int):∀ {l:List aj} {k:Nat} {x:aj},l[k]?=some x->x.LJ ks=true->aj.dx ks l=true
 | [],_,_,h,_=>by simp at h
 | y::l,0,x,h,hx=>by simp at h;subst h;rw [aj.dx,hx];rfl
 | y::l,k+1,x,h,hx=>by rw [aj.dx,aj.Az ks (l:=l) (k:=k) (by simpa using h) hx,Bool.or_true]
theorem Gy{P Q:Prop}(q:Q)(h:Nonempty Q->P:=by
 intro qQ;have hmx:=hs.max;unfold maxLen at hmx;have HS:=hid hs;have IH:=hid ih;revert hmx HS IH;exact qQ.elim fun x=>x):P:=h ⟨q⟩
theorem AA{P Q:Prop}(q:Q)(h:Nonempty Q->P:=by
 intro qQ;have HE:Hid (V=true):=by show V=true;rw [HV.out];exact HG.out (by rw [HX.out];rfl)
 revert HE;exact qQ.elim fun x=>x):P:=h ⟨q⟩
theorem vP (n:Nat):∀ (l:List aj) (ok:Nat->Prop) (v:Value) (ks:List Int) (g cap:Nat) (w:World),aj.aY l<=n->Rd ok w (bJ l) [v]->ks.length<=1000->(∀ j k,ks[j]?=some k->w.cell? ⟨g,j,none⟩=some (.int .i64 k)) -> Calls Tryz.prog 141 #[v,.slice (some ⟨g,0,none⟩) ks.length cap] w fun e w'=>e=.returned (.bool (aj.dx ks l))/\w=w':=by
 induction n using Nat.strongRecOn with
 | _ n ih=>
  intro l ok v ks g cap w hn hrd hks hc;obtain ⟨a,cp,hv,hs⟩:=Rd.ay hrd;obtain rfl:v=.slice a l.length cp:=by simpa using hv
  have hcap:l.length<=cp:=by simpa using hs.le
  refine Gy ?_;intro hmx HS IH;have HC:=hid hc;have OO:=hid (fun n=>lq n ks g cap w hks hc);have R0:Hid (jhz l ks (.int .i64 0)):=⟨0,Nat.zero_le _,rfl,by rw [List.take_zero,aj.dx]⟩;obtain ⟨V,hV⟩:∃ V,V=aj.dx ks l:=⟨_,rfl⟩;rw [<- hV];have HV:=hid hV;clear hs hv hrd ih hc hV;go_enter Tryz.func141,Tryz.ntmps141;go_wp2
  go_loop [8] (fun i=>jhz l ks i) (fun i=>l.length-(intOf i).toNat)
  case atStart=>exact R0.out
  case round=>
   clear R0;obtain ⟨k,hk,rfl,hno⟩:=hrel;have HN:=hid hno;clear hno;by_cases hlt:k<l.length
   ·obtain ⟨x,hx⟩:∃ x,l[k]?=some x:=⟨_,List.getElem?_eq_getElem hlt⟩;have hsn:=aj.Ef ks hx;have HG:=hid (aj.Az ks hx);obtain ⟨kd,t,d,ti,at_,ar,ci,kids⟩:=x;obtain ⟨b,off,vc,vp,va,vi,vk,rfl,hok,hbl,hcl,hR⟩:=MC HS.out hx;obtain ⟨c0,-,-,-,-,-,-,-,-,c9⟩:=hcl;have hsz:=aj.bI l k _ hx;rw [aj.sz] at hsz;have AK:=hid (IH.out (aj.aY kids) (by omega) kids ok vk ks g cap w (Nat.le_refl _) hR.kids hks HC.out);obtain ⟨ak,nk,ck,rfl⟩:=Rd.xD hR.kids;have OK:=hid (OO.out kd);have HX:Hid ((aj.mk kd t d ti at_ ar ci kids).LJ ks=(ks.contains kd||aj.dx ks kids)):=by show _=_;rw [aj.LJ]
    have gZ:=hid hsn;clear hx hR hsn;cases h1:ks.contains kd with
    | true=>
     rw [h1] at OK HX;refine AA ?_;intro HE;clear h1;go_wp2_with fail
     refine OK.out.mono ?_;rintro e w1 ⟨rfl,rfl⟩;exact Oh
    | false=>
     rw [h1] at OK HX;cases h2:aj.dx ks kids with
     | true=>
      rw [h2] at AK HX;refine AA ?_;intro HE;clear h1 h2;go_wp2_with fail
      refine OK.out.mono ?_;rintro e w1 ⟨rfl,rfl⟩;go_wp2_with fail
      refine AK.out.mono ?_;rintro e w1 ⟨rfl,rfl⟩;exact Oh
     | false=>
      rw [h2] at AK HX;clear h1 h2;go_wp2_with fail
      refine OK.out.mono ?_;rintro e w1 ⟨rfl,rfl⟩;go_wp2_with fail
      refine AK.out.mono ?_;rintro e w1 ⟨rfl,rfl⟩;go_wp2
      go_round
      case rel=>exact ⟨k+1,by omega,by go_num,by rw [gZ.out,HN.out,HX.out];rfl⟩
      case measure=>simp [intOf];omega
   ·exact VH
open Go.RowKit
theorem nU (l:List ByteArray) (x:ByteArray):q22 l.reverse x=q22 l x:=by rw [Bool.eq_iff_iff,yM,yM,List.mem_reverse]
theorem fD.cleared {w:World} {b n:Nat} {S:List ByteArray} (h:fD w b n S) (ty:TypeId) : ∃ w',(Builtin.clear_ #[78] ty #[.map (some b)]).run Tryz.prog w=.ok (.tuple #[]) w'/\fD w' b 0 []/\w.grownBy w' (some b):=by
 obtain ⟨D,⟨es,clock,hb,F,hsz,hD⟩,hat⟩:=h;have hr:∃ clock',(Builtin.clear_ #[78] ty #[.map (some b)]).run Tryz.prog w=.ok (.tuple #[]) { w with heap:=w.heap.setIfInBounds b (.map #[] clock') }:=by refine ⟨clock,?_⟩;simp [Builtin.clear_,run_underlying Tryz.underlying78,MapKept.run_getObj_map hb,MapKept.run_setObj_map _ hb,Result.andThen]
 obtain ⟨clock',hrun⟩:=hr;have hs:=MapKept.heap_set (o':=.map #[] clock') hb;refine ⟨_,hrun,⟨.map [],⟨#[],clock',hs.1,⟨by simp,MapKept.stamped_empty clock',by simp⟩,Nat.le_refl _,rfl⟩,fun s=>rfl⟩,rfl,rfl,rfl,?_,fun i _ hne=>hs.2 i (fun e=>hne (by rw [e]))⟩;simp
def QD (T:TypeId) (p:Nat) (cs:List Value) (w:World) (mb n:Nat) (S:List ByteArray) (wr:World):Prop:=CB T p cs wr/\fD wr mb n S/\Below w.heap.size w wr/\w.heap.size<=mb/\p≠mb/\w.heap.size<=p
theorem QD.put {T:TypeId} {p:Nat} {cs:List Value} {w:World} {mb n n':Nat} {S S':List ByteArray} {wr w':World} (h:QD T p cs w mb n S wr) (hg:wr.grownBy w' (some mb)) (hs:fD w' mb n' S'):QD T p cs w mb n' S' w':=
 ⟨(hg.block p h.1.lt (fun e=>h.2.2.2.2.1 (by injection e))).trans h.1,hs,h.2.2.1.grown hg h.2.2.1.size (fun j hj=>by cases hj;exact h.2.2.2.1),h.2.2.2⟩
theorem QD.alloc {T:TypeId} {p:Nat} {cs:List Value} {w:World} {mb n:Nat} {S:List ByteArray} {wr:World} (h:QD T p cs w mb n S wr) (o:Obj):QD T p cs w mb n S (wr.alloc o):=
 ⟨h.1.below ((Below.refl _ _).alloc (Nat.le_refl _) _),h.2.1.below ((Below.refl _ _).alloc (Nat.le_refl _) _),h.2.2.1.alloc h.2.2.1.size _,h.2.2.2⟩
theorem QD.drewN {T:TypeId} {p:Nat} {cs:List Value} {w:World} {mb n:Nat} {S:List ByteArray} {wr:World} (h:QD T p cs w mb n S wr) (q:Nat):QD T p cs w mb n S (wr.drewN q):=
 ⟨h.1,h.2.1,ig h.2.2.1 q,h.2.2.2⟩
def VI (T:TypeId) (p:Nat) (cs:List Value) (w:World) (mb:Nat) (l:List ByteArray) (E:Nat) (vi:Value) (wr:World):Prop:=
 ∃ k:Nat,k<=l.length/\vi=.int .i64 k/\QD T p cs w mb k (l.take k).reverse wr/\uI (l.take k) (l.drop k)=E
def VJ (T:TypeId) (p:Nat) (cs:List Value) (w:World) (mb:Nat) (l:List Pr) (E:Nat) (vi:Value) (wr:World):Prop:=
 ∃ k:Nat,k<=l.length/\vi=.int .i64 k/\QD T p cs w mb k ((l.take k).map Pr.key).reverse wr/\vC ((l.take k).map Pr.key) (l.drop k)=E
theorem Rq{P:Prop}(h:P:=by
 go_wp2;go_roundw;case rel=>exact ⟨k+1,by omega,by go_num,by rw [QE.out,List.reverse_append];exact HN'.out,JO.out⟩
 case measure=>simp [intOf];omega):P:=h
theorem ZO{P:Prop}(h:P:=by
 rw [<- hwi];clear hwi Ju;go_wp2_with fail
 refine (CN.out _).mono ?_;rintro e w3 ⟨rfl,rfl⟩;go_wp2_with fail
 refine (CV.out _).mono ?_;rintro e w3 ⟨rfl,q,rfl⟩;go_wp2;go_ret;exact ⟨by rw [HV.out];rfl,ig HEI.out.2.2.1 q⟩):P:=h
theorem Rp{P:Prop}(h:P:=by
 go_wp2;go_ret;exact ⟨by rw [HV.out];rfl,ig HEI.out.2.2.1 q⟩):P:=h
theorem ji0{P Q:Prop}(q:Q)(h:Nonempty Q->P:=by
 intro qQ;have JO:Hid (vC ((aF.take (k+1)).map Pr.key) (aF.drop (k+1))=E2):=by show _=_;have:=bV.out;rw [vC,if_neg (by rw [hn];decide),if_neg (by rw [hln];decide),if_neg (by rw [hb];decide)] at this;rw [QE.out];exact this
 revert JO;exact qQ.elim fun x=>x):P:=h ⟨q⟩
theorem ZM{P:Prop}(h:P:=by
 rw [<- hwi];clear hwi Ju;go_wp2_with fail
 refine (CN.out _).mono ?_;rintro e w3 ⟨rfl,rfl⟩;go_wp2;go_ret;exact ⟨by rw [HV.out];rfl,HEI.out.2.2.1⟩):P:=h
theorem ji1{P:Prop}(h:P:=by
 show V=7;have:=bV.out;rw [vC,if_neg (by rw [hn];decide),if_neg (by rw [hln];decide),if_pos hb] at this;rw [HE2.out,L6.out,<- this];rfl):P:=h
theorem ji2{P:Prop}(h:P:=by
 go_wp2_with fail
 refine (CN.out _).mono ?_;rintro e w3 ⟨rfl,rfl⟩;go_wp2;go_ret;exact ⟨by rw [HV.out];rfl,ZL.out.2.2.1⟩):P:=h
theorem ji3{P:Prop}(h:P:=by
 show V=17;have:=bV.out;rw [vC,if_neg (by rw [hn];decide),if_pos hln] at this;rw [HE2.out,L6.out,<- this];rfl):P:=h
theorem iC (a:At) (ac ap:Option Addr) (cc cp:Nat) (w:jIq) (h:AtR (·<w.heap.size) w a (.slice ac a.cls.length cc) (.slice ap a.aF.length cp)) (hs:a.short) : Calls Tryz.prog 37 #[.agg #[.string a.id,.slice ac a.cls.length cc,.slice ap a.aF.length cp]] w (dP (.int .i64 (a.err:Nat)) w):=by
 obtain ⟨sc,sp,si,sca,spa⟩:=hs;obtain ⟨id,cls,aF⟩:=a;dsimp only at sc sp si sca spa h ⊢;obtain ⟨a1,c1,hv1,hs1⟩:=Rd.ay h.cls;obtain ⟨rfl,rfl⟩:a1=ac/\c1=cc:=by simp at hv1;exact ⟨hv1.1.symm,hv1.2.symm⟩
 obtain ⟨a2,c2,hv2,hs2⟩:=Rd.ay h.aF;obtain ⟨rfl,rfl⟩:a2=ap/\c2=cp:=by simp at hv2;exact ⟨hv2.1.symm,hv2.2.symm⟩
 have l1:cls.length<=c1:=by simpa using hs1.le
 have l2:aF.length<=c2:=by simpa using hs2.le
 have m1:=hs1.max;have m2:=hs2.max;unfold maxLen at m1 m2;have H1:=hid hs1;have H2:=hid hs2;have SC:=hid sca;have SP:=hid spa;have NI:=hid (fun w=>QA id w (by omega));have HE:Hid (At.err ⟨id,cls,aF⟩=if bq id=false/\dU id=false then 6 else if uI [] cls≠0 then uI [] cls else if vC [] aF≠0 then vC [] aF else if 32<cls.length\/32<aF.length then 3 else 0):=rfl;obtain ⟨V,hV⟩:∃ V,V=At.err ⟨id,cls,aF⟩:=⟨_,rfl⟩;rw [<- hV] at HE ⊢;clear hV sca spa hs1 hs2 hv1 hv2 h;by_cases hbad:bq id=false/\dU id=false
 ·have HV:Hid (V=6):=by show V=6;rw [HE.out,if_pos hbad]
  rw [hbad.2] at NI;have hie:id.toList.isEmpty=false:=by rw [oQ];exact hbad.1
  clear hbad HE;go_enter Tryz.func37,Tryz.ntmps37;go_wp2_with (go_at_call 16;refine (NI.out _).mono ?_;rintro e w1 ⟨rfl,rfl⟩)
  exact VG
 have hgood:id.toList.isEmpty=true\/(id.toList.isEmpty=false/\dU id=true):=by
  rw [oQ];cases h1:bq id
  ·right;refine ⟨rfl,?_⟩;cases h2:dU id
   ·exact absurd ⟨h1,h2⟩ hbad
   ·rfl
  ·left;rfl
 have HE2:Hid (V=if uI [] cls≠0 then uI [] cls else if vC [] aF≠0 then vC [] aF else if 32<cls.length\/32<aF.length then 3 else 0):=by show V=_;rw [HE.out,if_neg hbad]
 obtain ⟨w1,hw1⟩:∃ w1,w1=(w.alloc (.cells #[.string id,.slice a1 cls.length c1,.slice a2 aF.length c2] 43)).alloc (.map #[] 0):=⟨_,rfl⟩;have R0:Hid (VI 43 w.heap.size [.string id,.slice a1 cls.length c1,.slice a2 aF.length c2] w (w.heap.size+1) cls (uI [] cls) (.int .i64 0) w1):=by
  refine ⟨0,jG6 _,rfl,⟨?_,?_,?_,by omega,by omega,jFk _⟩,rfl⟩
  ·rw [hw1];exact (CB.new _ _ w).below ((jFj _ _).alloc (jFk _) _)
  ·rw [hw1];have:=fD.made (w.alloc (.cells #[.string id,.slice a1 cls.length c1,.slice a2 aF.length c2] 43))
   rwa [World.size_alloc] at this
  ·rw [hw1];exact ((jFj _ _).alloc (jFk _) _).alloc (by simp) _
 have HW1:=hid hw1;obtain ⟨E1,hE1⟩:∃ E1,E1=uI [] cls:=⟨_,rfl⟩;obtain ⟨E2,hE2⟩:∃ E2,E2=vC [] aF:=⟨_,rfl⟩;rw [<- hE1] at HE2 R0;rw [<- hE2] at HE2;have jr0:=hid hE2;clear hbad HE hw1 hE1 hE2;have hmm:=@run_makeMap Tryz.prog;rcases hgood with hie | ⟨hie,hnm⟩
 case' inl=>
  clear NI;go_enter Tryz.func37,Tryz.ntmps37;go_wp2;rw [<- HW1.out];clear hmm
 case' inr=>
  rw [hnm] at NI;clear hnm;go_enter Tryz.func37,Tryz.ntmps37;go_wp2_with (go_at_call 16;refine (NI.out _).mono ?_;rintro e w1 ⟨rfl,rfl⟩)
  rw [<- HW1.out];clear hmm
 all_goals
  go_loopw [21] (fun i wr=>VI 43 w.heap.size [.string id,.slice a1 cls.length c1,.slice a2 aF.length c2] w (w.heap.size+1) cls E1 i wr) (fun i _=>cls.length-(intOf i).toNat)
  case atStart=>exact R0.out
  case round=>
   clear R0;obtain ⟨k,hk,rfl,uF,bg⟩:=hrel;have ZL:=hid uF;by_cases hlt:k<cls.length
   ·obtain ⟨x,hx⟩:∃ x,cls[k]?=some x:=⟨_,jF9 hlt⟩;obtain ⟨b,off,rfl,-,-,c0⟩:=jk H1.out hx;have c0:wr.cell? ⟨b,off+k,none⟩=some (.string x):=by rw [uF.2.2.1.cell (p:=⟨b,off+k,none⟩) (nO c0)];exact c0
    have hxs:=SC.out x (jG7 hx);have CN:=hid (fun w=>QA x w (by omega));have hlk:=uF.2.1.look x (by unfold maxLen;omega);obtain ⟨w',hup,hS',hg⟩:=uF.2.1.put x (by unfold maxLen;omega) (by unfold maxLen;omega);have HN':=hid (uF.put hg hS');rw [nU] at hlk;rw [Gu cls k x hx,uI] at bg;have QE:Hid (cls.take (k+1)=cls.take k++[x]):=by show _=_;rw [jGz,hx];rfl
    have bV:=hid bg;clear bg hS' hg uF hx;cases hn:dU x with
    | false=>
     rw [hn] at CN;have HV:Hid (V=6):=by show V=6;have:=bV.out;rw [if_pos hn] at this;rw [HE2.out,<- this];rfl
     clear hn hup;exact ji2
    | true=>
     rw [hn] at CN;cases hb:q22 (cls.take k) x with
     | true=>
      rw [hb] at hlk;have HV:Hid (V=7):=by show V=7;have:=bV.out;rw [if_neg (by rw [hn];decide),if_pos hb] at this;rw [HE2.out,<- this];rfl
      clear hn hb hup;exact ji2
     | false=>
      rw [hb] at hlk;have JO:Hid (uI (cls.take (k+1)) (cls.drop (k+1))=E1):=by show _=_;have:=bV.out;rw [if_neg (by rw [hn];decide),if_neg (by rw [hb];decide)] at this;rw [QE.out];exact this
      clear hn hb;go_wp2_with fail
      refine (CN.out _).mono ?_;rintro e w3 ⟨rfl,rfl⟩;exact Rq
   ·obtain rfl:k=cls.length:=by omega
    have L6:Hid (E1=0):=by show E1=0;rw [List.drop_length,uI] at bg;exact bg.symm
    obtain ⟨w2,hcl,hS2,hg2⟩:∃ w2,(∀ ty,(Builtin.clear_ #[78] ty #[.map (some (w.heap.size+1))]).run Tryz.prog wr=.ok (.tuple #[]) w2)/\fD w2 (w.heap.size+1) 0 []/\wr.grownBy w2 (some (w.heap.size+1)):=by obtain ⟨w2,h1,h2,h3⟩:=uF.2.1.cleared 0;exact ⟨w2,fun ty=>h1,h2,h3⟩
    have R2:Hid (VJ 43 w.heap.size [.string id,.slice a1 cls.length c1,.slice a2 aF.length c2] w (w.heap.size+1) aF E2 (.int .i64 0) w2):=⟨0,jG6 _,rfl,uF.put hg2 hS2,jr0.out.symm⟩;have p2:w2.cell? ⟨w.heap.size,2,none⟩=some (.slice a2 aF.length c2):=(uF.put hg2 hS2).1.cell 2 _ rfl;clear bg uF ZL hS2 hg2 hk hlt;go_wp2
    go_loopw [38] (fun i wr=>VJ 43 w.heap.size [.string id,.slice a1 cls.length c1,.slice a2 aF.length c2] w (w.heap.size+1) aF E2 i wr) (fun i _=>aF.length-(intOf i).toNat)
    case atStart=>exact R2.out
    case round=>
     clear R2 hcl p2;obtain ⟨k,hk,rfl,uF,bg⟩:=hrel;have ZL:=hid uF;by_cases hlt:k<aF.length
     ·obtain ⟨x,hx⟩:∃ x,aF[k]?=some x:=⟨_,jF9 hlt⟩;obtain ⟨b,off,rfl,-,-,c0,c1'⟩:=jB H2.out hx;have c0:wr.cell? ⟨b,off+k*2,none⟩=some (.string x.key):=by rw [uF.2.2.1.cell (p:=⟨b,off+k*2,none⟩) (nO c0)];exact c0
      have c1':wr.cell? ⟨b,off+k*2+1,none⟩=some (.string x.val):=by rw [uF.2.2.1.cell (p:=⟨b,off+k*2+1,none⟩) (nO c1')];exact c1'
      have hxs:=SP.out x (jG7 hx);have HX:=hid hx;have bV:Hid (vC ((aF.take k).map Pr.key) (x::aF.drop (k+1))=E2):=by show _=_;rw [<- Gu aF k x hx];exact bg
      obtain ⟨key,val⟩:=x;dsimp only at c0 c1' hxs;have CN:=hid (fun w=>QA key w (by omega));have CV:=hid (fun w=>DW val w (by omega));have QE:Hid ((aF.take (k+1)).map Pr.key=(aF.take k).map Pr.key++[key]):=by show _=_;rw [jGz,HX.out];simp
      obtain ⟨wi,hwi⟩:∃ wi,wi=wr.alloc (.cells #[.string key,.string val] 37):=⟨_,rfl⟩;have Ju:=uF.alloc (.cells #[.string key,.string val] 37);rw [<- hwi] at Ju;have i0:wi.cell? ⟨wr.heap.size,0,none⟩=some (.string key):=by rw [hwi];exact Gv wr [.string key,.string val] _ 0 _ rfl
      have i1:wi.cell? ⟨wr.heap.size,1,none⟩=some (.string val):=by rw [hwi];exact Gv wr [.string key,.string val] _ 1 _ rfl
      have HEI:=hid Ju;clear bg uF hx;cases hn:dU key with
      | false=>
       rw [hn] at CN;have HV:Hid (V=6):=by show V=6;have:=bV.out;rw [vC,if_pos hn] at this;rw [HE2.out,L6.out,<- this];rfl
       clear hn;go_upto_region 17 with (fail)
       exact ZM
      | true=>
       rw [hn] at CN;cases hln:dG val with
       | false=>
        rw [hln] at CV;have HV:Hid (V=17):=by exact ji3
        clear hn hln;go_upto_region 17 with (fail)
        exact ZO
       | true=>
        rw [hln] at CV;have HLK:=hid (fun q=>(Ju.drewN q).2.1.look key (by unfold maxLen;omega));have jm0:=hid (fun q=>(Ju.drewN q).2.1.put key (by unfold maxLen;omega) (by unfold maxLen;omega));cases hb:q22 ((aF.take k).map Pr.key) key with
        | true=>
         have HV:Hid (V=7):=by exact ji1
         have HB:=hid hb;clear hn hln hb;go_upto_region 17 with (fail)
         rw [<- hwi];clear hwi Ju;go_wp2_with fail
         refine (CN.out _).mono ?_;rintro e w3 ⟨rfl,rfl⟩;go_wp2_with fail
         refine (CV.out _).mono ?_;rintro e w3 ⟨rfl,q,rfl⟩;have hlk:=HLK.out q;rw [nU,HB.out] at hlk;exact Rp
        | false=>
         refine ji0 ?_;intro JO;have HB:=hid hb;clear hn hln hb;go_upto_region 17 with (fail)
         rw [<- hwi];clear hwi Ju;go_wp2_with fail
         refine (CN.out _).mono ?_;rintro e w3 ⟨rfl,rfl⟩;go_wp2_with fail
         refine (CV.out _).mono ?_;rintro e w3 ⟨rfl,q,rfl⟩;have hlk:=HLK.out q;rw [nU,HB.out] at hlk;obtain ⟨w',hup,hS',hg⟩:=jm0.out q;have HN':=hid ((HEI.out.drewN q).put hg hS');clear hS' hg;exact Rq
     ·obtain rfl:k=aF.length:=by omega
      have HV:Hid (V=if 32<cls.length\/32<aF.length then 3 else 0):=by show V=_;rw [List.drop_length,vC] at bg;rw [HE2.out,L6.out,<- bg];rfl
      have p1:wr.cell? ⟨w.heap.size,1,none⟩=some (.slice a1 cls.length c1):=uF.1.cell 1 _ rfl;have p2:wr.cell? ⟨w.heap.size,2,none⟩=some (.slice a2 aF.length c2):=uF.1.cell 2 _ rfl;clear bg uF hk hlt;by_cases h1:32<cls.length
      ·have q1:decide ((32:Int)<(cls.length:Int))=true:=by simp;omega
       go_wp2;go_ret;exact ⟨by rw [HV.out,if_pos (.inl h1)];rfl,ZL.out.2.2.1⟩
      ·have q1:decide ((32:Int)<(cls.length:Int))=false:=by simp;omega
       by_cases h2:32<aF.length
       ·have q2:decide ((32:Int)<(aF.length:Int))=true:=by simp;omega
        go_wp2;go_ret;exact ⟨by rw [HV.out,if_pos (.inr h2)];rfl,ZL.out.2.2.1⟩
       ·have q2:decide ((32:Int)<(aF.length:Int))=false:=by simp;omega
        go_wp2;go_ret;exact ⟨by rw [HV.out,if_neg (by omega)];rfl,ZL.out.2.2.1⟩
open Go.RowKit
theorem aj.VK (l:List aj) (k:Nat) (x:aj) (h:l[k]?=some x):aj.aY (l.take k)+x.sz<=aj.aY l:=by
 have h1:aj.aY (l.take (k+1))<=aj.aY l:=by have:=aj.Fv (l.take (k+1)) (l.drop (k+1));rw [List.take_append_drop] at this;omega
 rw [aj.tJ h] at h1;exact h1
theorem ah.Eh (l:List ah) (k:Nat) (x:ah) (h:l[k]?=some x):ah.bX (l.take k)+x.all<=ah.bX l:=by
 have h1:ah.bX (l.take (k+1))<=ah.bX l:=by have:=ah.Jc (l.take (k+1)) (l.drop (k+1));rw [List.take_append_drop] at this;omega
 rw [ah.qg h] at h1;exact h1
theorem ah.Y1 (x:ah):1<=x.all:=by cases x;rw [ah.all];omega
theorem ah.Oi:∀ (l:List ah),l.length<=ah.bX l
 | []=>by simp
 | x::l=>by have:=ah.Oi l;have:=x.Y1;rw [ah.bX];simp;omega
theorem jwq {P:Program} {f:FuncId} {args:Array jIz} {w:jIq} {a n:Nat} {v:jIz} (h:Calls P f args (w.drewN (a+n)) fun e w'=>e=.returned v/\w.drewN (a+n)=w') : Calls P f args (w.drewN (a+n)) fun e w''=>e=.returned v/\∃ m,w''=w.drewN (a+m):=h.mono fun _ _ ⟨he,hm⟩=>⟨he,n,hm.symm⟩
theorem jwx {P:Program} {f:FuncId} {args:Array jIz} {w:jIq} {a n:Nat} {v:jIz} (h:Calls P f args (w.drewN (a+n)) (Dr v (w.drewN (a+n)))) : Calls P f args (w.drewN (a+n)) fun e w''=>e=.returned v/\∃ m,w''=w.drewN (a+m):=h.mono fun _ _ ⟨he,m,hm⟩=>⟨he,n+m,by rw [hm,World.drewN_drewN,Nat.add_assoc]⟩
def Oj (l:List aj) (vn vi:jIz):Prop:=∃ k n:Nat,k<=l.length/\vi=.int .i64 k/\vn=.int .i64 n/\n=aj.aY (l.take k)+(l.length-k)
def VL (l:List ah) (w:jIq) (vn vi:jIz) (wr:jIq):Prop:=∃ k n q:Nat,k<=l.length/\vi=.int .i64 k/\vn=.int .i64 n/\n=ah.bX (l.take k)+(l.length-k)/\wr=w.drewN q
theorem ji4{P:Prop}(h:P:=by
 clear R0;obtain ⟨k,m,hk,rfl,rfl,hm⟩:=hrel;by_cases hlt:k<l.length
 ·obtain ⟨x,hx⟩:∃ x,l[k]?=some x:=⟨_,List.getElem?_eq_getElem hlt⟩;have hsz:=aj.VK l k _ hx;have hsn:=aj.tJ hx;obtain ⟨kd,t,d,ti,at_,ar,ci,ks⟩:=x;obtain ⟨g,off,vc,vp,va,vi,vk,rfl,hok,hbl,hc,hR⟩:=MC HS.out hx;rw [aj.sz] at hsz hsn;obtain ⟨ak,nk,ck,rfl⟩:=Rd.xD hR.kids;have p9:=hc.c9;have CK:=hid (IH.out (aj.aY ks) (by omega) ks ok (.slice ak nk ck) w (Nat.le_refl _) (by omega) hR.kids);have HM:Hid (m+aj.aY ks=aj.aY (l.take (k+1))+(l.length-(k+1))):=by show _=_;omega
  have hlm:l.length-k<=1000000:=by have:=aj.fK l;omega
  have hmb:m+aj.aY ks<=3000000:=by omega
  generalize aj.aY ks=K at *;clear hc hR hx hm hsn hsz hlm;go_wp2_with fail
  refine CK.out.mono ?_;rintro e w1 ⟨rfl,rfl⟩;go_wp2
  go_round
  case rel=>exact ⟨k+1,m+K,by omega,by go_num,by go_num,HM.out⟩
  case measure=>simp [intOf];omega
 ·obtain rfl:k=l.length:=by omega
  have hv:m=aj.aY l:=by rw [hm,List.take_length];omega
  have HV:=hid hv;clear hv hm;go_wp2;go_ret;exact ⟨by rw [<- HV.out];rfl,rfl⟩):P:=h
theorem Qh (n:Nat):∀ (l:List aj) (ok:Nat->Prop) (v:jIz) (w:jIq),aj.aY l<=n->n<=1000000->Rd ok w (bJ l) [v] -> Calls Tryz.prog 128 #[v] w fun e w'=>e=.returned (.int .i64 (aj.aY l:Nat))/\w=w':=by
 induction n using Nat.strongRecOn with
 | _ n ih=>
  intro l ok v w hn hnm h1;obtain ⟨a,cap,hv,hs⟩:=Rd.ay h1;obtain rfl:v=.slice a l.length cap:=by simpa using hv
  refine qJ ?_;intro hcap hmx HS;have IH:=hid ih;have R0:Hid (Oj l (.int .i64 (l.length:Int)) (.int .i64 0)):=⟨0,l.length,jG6 _,rfl,rfl,by rw [List.take_zero,aj.aY];simp⟩;clear hs hv h1 ih;go_enter Tryz.func128,Tryz.ntmps128;go_wp2
  go_loop [3,4] (fun vn vi=>Oj l vn vi) (fun _ i=>l.length-(intOf i).toNat)
  case atStart=>exact R0.out
  case round=>
   exact ji4
theorem AJ (n:Nat):∀ (l:List aj) (ok:Nat->Prop) (v:jIz) (w:jIq),aj.aY l<=n->n<=1000000->Rd ok w (bJ l) [v] -> Calls Tryz.prog 94 #[v] w fun e w'=>e=.returned (.int .i64 (aj.aY l:Nat))/\w=w':=by
 induction n using Nat.strongRecOn with
 | _ n ih=>
  intro l ok v w hn hnm h1;obtain ⟨a,cap,hv,hs⟩:=Rd.ay h1;obtain rfl:v=.slice a l.length cap:=by simpa using hv
  refine qJ ?_;intro hcap hmx HS;have IH:=hid ih;have R0:Hid (Oj l (.int .i64 (l.length:Int)) (.int .i64 0)):=⟨0,l.length,jG6 _,rfl,rfl,by rw [List.take_zero,aj.aY];simp⟩;clear hs hv h1 ih;go_enter Tryz.func94,Tryz.ntmps94;go_wp2
  go_loop [3,9] (fun vn vi=>Oj l vn vi) (fun _ i=>l.length-(intOf i).toNat)
  case atStart=>exact R0.out
  case round=>
   exact ji4
theorem ji5{P Q:Prop}(q:Q)(h:Nonempty Q->P:=by
 intro qQ;have CK:=hid (fun q=>IH.out (ah.bX ks) (by omega) ks ok (.slice ak nk ck) (w.drewN q) (Nat.le_refl _) (by omega) (Rd.keep (hst q) _ _ hR.kids));have HM:Hid (m+(aj.aY li+ah.bX ks)=ah.bX (l.take (k+1))+(l.length-(k+1))):=by show _=_;omega
 have hlm:l.length-k<=1000000:=by have:=ah.Oi l;omega
 have hmb:m+(aj.aY li+ah.bX ks)<=3000000:=by omega
 revert CK HM hlm hmb;exact qQ.elim fun x=>x):P:=h ⟨q⟩
theorem ji6{P:Prop}(h:P:=by
 obtain rfl:k=l.length:=by omega
 have hv:m=ah.bX l:=by rw [hm,List.take_length];omega
 have HV:=hid hv;clear hv hm;go_wp2;go_ret;exact ⟨by rw [<- HV.out];rfl,q,rfl⟩):P:=h
theorem ji7{P Q:Prop}(q:Q)(h:Nonempty Q->P:=by
 intro qQ;have s1:IntKind.i64.wrap ((L:Int)+(K:Int))=(L:Int)+(K:Int):=jq (by omega) (by omega);have s2:IntKind.i64.wrap ((m:Int)+((L:Int)+(K:Int)))=(m:Int)+((L:Int)+(K:Int)):=jq (by omega) (by omega);revert s1 s2;exact qQ.elim fun x=>x):P:=h ⟨q⟩
theorem ji8{P:Prop}(h:P:=by
 clear s1 s2;go_wp2;go_roundw;case rel=>exact ⟨k+1,m+(L+K),_,by omega,by go_num,by go_num,HM.out,rfl⟩
 case measure=>simp [intOf];omega):P:=h
theorem ji9{P Q:Prop}(q:Q)(h:Nonempty Q->P:=by
 intro qQ;have IH:=hid ih;have R0:Hid (VL l w (.int .i64 (l.length:Int)) (.int .i64 0) w):=⟨0,l.length,0,Nat.zero_le _,rfl,rfl,by rw [List.take_zero,ah.bX];simp,rfl⟩;revert IH R0;exact qQ.elim fun x=>x):P:=h ⟨q⟩
theorem Qi (n:Nat):∀ (l:List ah) (ok:Nat->Prop) (v:Value) (w:World),ah.bX l<=n->n<=1000000->Rd ok w (lu l) [v] -> Calls Tryz.prog 98 #[v] w (Dr (.int .i64 (ah.bX l:Nat)) w):=by
 induction n using Nat.strongRecOn with
 | _ n ih=>
  intro l ok v w hn hnm h1;obtain ⟨a,cap,hv,hs⟩:=Rd.ay h1;obtain rfl:v=.slice a l.length cap:=by simpa using hv
  refine qJ ?_;intro hcap hmx HS;refine ji9 ?_;intro IH R0;clear hs hv h1 ih;go_enter Tryz.func98,Tryz.ntmps98;go_wp2
  go_loopw [3,4] (fun vn vi wr=>VL l w vn vi wr) (fun _ i _=>l.length-(intOf i).toNat)
  case atStart=>exact R0.out
  case round=>
   clear R0;obtain ⟨k,m,q,hk,rfl,rfl,hm,rfl⟩:=hrel;by_cases hlt:k<l.length
   ·refine jc ?_;intro x hx;have hsz:=ah.Eh l k _ hx;have hsn:=ah.qg hx;obtain ⟨kd,lv,i,t,d,ti,at_,li,ks⟩:=x;obtain ⟨g,off,vc,vp,vl,vk,rfl,hok,hbl,hc,hR⟩:=F7 HS.out hx;rw [ah.all] at hsz hsn;obtain ⟨ak,nk,ck,rfl⟩:=Rd.xD hR.kids;obtain ⟨al,nl,cl,rfl⟩:=Rd.xD hR.line;have p9:=hc.c9;have rZ:=hc.c10;have hst:∀ q,sP ok ok w (w.drewN q):=fun q b h _=>⟨h,rfl⟩
    have CL:=hid (fun q=>Qh _ li ok (.slice al nl cl) (w.drewN q) (Nat.le_refl _) (by omega) (Rd.keep (hst q) _ _ hR.line));refine ji5 ?_;intro CK HM hlm hmb;generalize aj.aY li=L at *;generalize ah.bX ks=K at *;refine ji7 ?_;intro s1 s2;clear hc hR hx hm hsn hsz hlm hst;go_wp2_with fail
    go_quiet ((first | (go_at_call 128;exact jwq (CL.out _)) | (go_at_call 98;exact jwx (CK.out _))))
    exact ji8
   ·exact ji6
theorem vE (n:Nat):∀ (l:List ah) (ok:Nat->Prop) (v:Value) (w:World),ah.bX l<=n->n<=1000000->Rd ok w (lu l) [v] -> Calls Tryz.prog 67 #[v] w (Dr (.int .i64 (ah.bX l:Nat)) w):=by
 induction n using Nat.strongRecOn with
 | _ n ih=>
  intro l ok v w hn hnm h1;obtain ⟨a,cap,hv,hs⟩:=Rd.ay h1;obtain rfl:v=.slice a l.length cap:=by simpa using hv
  refine qJ ?_;intro hcap hmx HS;refine ji9 ?_;intro IH R0;clear hs hv h1 ih;go_enter Tryz.func67,Tryz.ntmps67;go_wp2
  go_loopw [3,9] (fun vn vi wr=>VL l w vn vi wr) (fun _ i _=>l.length-(intOf i).toNat)
  case atStart=>exact R0.out
  case round=>
   clear R0;obtain ⟨k,m,q,hk,rfl,rfl,hm,rfl⟩:=hrel;by_cases hlt:k<l.length
   ·refine jc ?_;intro x hx;have hsz:=ah.Eh l k _ hx;have hsn:=ah.qg hx;obtain ⟨kd,lv,i,t,d,ti,at_,li,ks⟩:=x;obtain ⟨g,off,vc,vp,vl,vk,rfl,hok,hbl,hc,hR⟩:=F7 HS.out hx;rw [ah.all] at hsz hsn;obtain ⟨ak,nk,ck,rfl⟩:=Rd.xD hR.kids;obtain ⟨al,nl,cl,rfl⟩:=Rd.xD hR.line;have p9:=hc.c9;have rZ:=hc.c10;have hst:∀ q,sP ok ok w (w.drewN q):=fun q b h _=>⟨h,rfl⟩
    have CL:=hid (fun q=>AJ _ li ok (.slice al nl cl) (w.drewN q) (Nat.le_refl _) (by omega) (Rd.keep (hst q) _ _ hR.line));refine ji5 ?_;intro CK HM hlm hmb;generalize aj.aY li=L at *;generalize ah.bX ks=K at *;refine ji7 ?_;intro s1 s2;clear hc hR hx hm hsn hsz hlm hst;go_wp2_with fail
    go_quiet ((first | (go_at_call 94;exact jwq (CL.out _)) | (go_at_call 67;exact jwx (CK.out _))))
    exact ji8
   ·exact ji6
open Go.RowKit
theorem Qj (l:List ah) (am ab:Option Addr) (nm cm nb cb:Nat) (w:World) (hn:ah.bX l<=1000000) (h:Rd (·<w.heap.size) w (lu l) [.slice ab nb cb]) : Calls Tryz.prog 72 #[.agg #[.slice am nm cm,.slice ab nb cb]] w (dP (.int .i64 (ah.bX l:Nat)) w):=by
 have hb0:Below w.heap.size w (w.alloc (.cells #[.slice am nm cm,.slice ab nb cb] 25)):=(Below.refl _ _).alloc (Nat.le_refl _) _;have SZ:=hid (Qi _ l _ _ _ (Nat.le_refl _) hn (h.up hb0));have HB:=hid hb0;generalize ah.bX l=N at *;clear h hb0;go_enter Tryz.func72,Tryz.ntmps72;go_wp2_with fail
 refine SZ.out.mono ?_;rintro e w1 ⟨rfl,q,rfl⟩;go_wp2;go_ret;exact ⟨rfl,ig HB.out q⟩
theorem OJ (l:List ah) (am ab:Option Addr) (nm cm nb cb:Nat) (w:World) (hn:ah.bX l<=1000000) (h:Rd (·<w.heap.size) w (lu l) [.slice ab nb cb]) : Calls Tryz.prog 34 #[.agg #[.slice am nm cm,.slice ab nb cb]] w (dP (.int .i64 (ah.bX l:Nat)) w):=by
 have hb0:Below w.heap.size w (w.alloc (.cells #[.slice am nm cm,.slice ab nb cb] 25)):=(Below.refl _ _).alloc (Nat.le_refl _) _;have SZ:=hid (vE _ l _ _ _ (Nat.le_refl _) hn (h.up hb0));have HB:=hid hb0;generalize ah.bX l=N at *;clear h hb0;go_enter Tryz.func34,Tryz.ntmps34;go_wp2_with fail
 refine SZ.out.mono ?_;rintro e w1 ⟨rfl,q,rfl⟩;go_wp2;go_ret;exact ⟨rfl,ig HB.out q⟩
open Go.RowKit
def VN (c:Nat):Bool:=decide (c=10)||(decide (32<=c)&&!decide (c=127))
theorem L8 (c:Nat) (w:World) (hc:c<=1114111) : Calls Tryz.prog 100 #[.int .i64 (c:Int)] w fun e w'=>e=.returned (.bool (VN c))/\w=w':=by
 go_enter Tryz.func100,Tryz.ntmps100;go_wp2;all_goals
  go_ret;refine ⟨wW ?_,rfl⟩;unfold VN
  (try simp only [beq_iff_eq,beq_eq_false_iff_ne,ne_eq,bne_iff_ne,bne_eq_false_iff_eq] at *)
  rw [Bool.eq_iff_iff];simp;omega
theorem L9 (c:Nat) (w:World) (hc:c<=1114111) : Calls Tryz.prog 165 #[.int .i64 (c:Int)] w fun e w'=>e=.returned (.bool (Es c))/\w=w':=by
 go_enter Tryz.func165,Tryz.ntmps165;go_wp2;all_goals
  go_ret;refine ⟨wW ?_,rfl⟩;unfold Es
  (try unfold nN)
  rw [Bool.eq_iff_iff];simp;omega
theorem jij (a b:Nat):decide (a=b)=((a:Int)==(b:Int)):=by rw [Bool.eq_iff_iff];simp;omega
theorem Y2 (a b:Nat):vD (a,b)=(VN a&&!(((a:Int)==65533)&&((b:Int)==1))):=by unfold vD VN;rw [jij a 65533,jij b 1];rfl
theorem Qk {w1:World} {B:Nat} {v1:Value} {ps:List (Nat × Nat)} (ho1:w1.ownsRow B 134 2 v1 ps.length (mH ps).flatten) : ∃ a cap,v1=.slice a ps.length cap/\ps.length<=cap/\cap<=maxLen/\(0<ps.length->∃ b,a=some ⟨b,0,none⟩/\b<w1.heap.size/\∀ k p,ps[k]?=some p->w1.cell? ⟨b,k*2,none⟩=some (.int .i64 (p.1:Int))/\w1.cell? ⟨b,k*2+1,none⟩=some (.int .i64 (p.2:Int))):=by exact jgk
theorem VO {α:Type} (f:α->Bool) {l:List α} {k:Nat} {x:α} (h:l[k]?=some x):(l.take (k+1)).all f=((l.take k).all f&&f x):=by rw [List.take_add_one,h];simp
theorem jr1 {α:Type} (f:α->Bool) {l:List α} {k:Nat} {x:α} (h:l[k]?=some x) (hf:f x=false):l.all f=false:=by rw [List.all_eq_false];exact ⟨x,List.mem_of_getElem? h,by rw [hf];decide⟩
def jwz (w1 wr:World) (ps:List (Nat × Nat)) (vi:Value):Prop:=∃ k:Nat,k<=ps.length/\vi=.int .i64 k/\(ps.take k).all vD=true/\Below w1.heap.size w1 wr
theorem jik{P:Prop}(h:P:=by
 clear hcl;go_wp2_with fail
 refine (CC.out _).mono ?_;rintro e w2 ⟨rfl,rfl⟩;go_wp2;go_roundw;case rel=>exact ⟨k+1,by omega,by go_num,by rw [gZ.out,HA.out,Vr.out];rfl,HB.out.alloc HB.out.size _⟩
 case measure=>simp [intOf];omega):P:=h
theorem jiq{P:Prop}(h:P:=by
 have HE:Hid (V=false):=FZ.out Vr.out;clear hcl;go_wp2_with fail
 refine (CC.out _).mono ?_;rintro e w2 ⟨rfl,rfl⟩;go_wp2;go_ret;exact ⟨by rw [HE.out];rfl,q01 B1.out (HB.out.alloc HB.out.size _)⟩):P:=h
theorem Ma (s:ByteArray) (w:jIq) (hs:s.size<=10000000000) : Calls Tryz.prog 75 #[.string s] w (dP (.bool (DF s)) w):=by
 have PO:=hid (wT s w (by omega));obtain ⟨V,hV⟩:∃ V,V=DF s:=⟨_,rfl⟩;rw [<- hV];have HV:Hid (V=(pts s).all vD):=hV;have hpl:(pts s).length<=s.size:=by have:=IZ s s.size 0;unfold pts;simpa using this
 have Xz:=hid (xS s s.size 0);change Hid (∀ p∈pts s,p.1<=1114111) at Xz;clear hV;generalize pts s=ps at *;go_enter Tryz.func75,Tryz.ntmps75;go_wp2_with fail
 refine PO.out.mono ?_;rintro e w1 ⟨v1,rfl,ho1,b1⟩;obtain ⟨a,cap,rfl,hcap,hmx,hcs⟩:=Qk ho1;have Jt:=hid hcs;have B1:=hid b1;have HZ:Hid ((ps.take 0).all vD=true):=rfl;clear hcs ho1 PO b1;unfold maxLen at hmx;go_wp2
 go_loopw [8] (fun vi wr=>jwz w1 wr ps vi) (fun i _=>ps.length-(intOf i).toNat)
 case atStart=>exact ⟨0,jG6 _,rfl,HZ.out,jFj _ _⟩
 case round=>
  obtain ⟨k,hk,rfl,hall,hbel⟩:=hrel;have HA:=hid hall;have HB:=hid hbel;clear hall;by_cases hlt:k<ps.length
  ·obtain ⟨p,hp⟩:∃ p,ps[k]?=some p:=⟨_,jF9 hlt⟩;obtain ⟨b,rfl,hbl,hc⟩:=Jt.out (by omega);obtain ⟨k1,k2⟩:=hc k p hp;have c1:wr.cell? ⟨b,k*2,none⟩=some (.int .i64 (p.1:Int)):=by rw [hbel.cell (p:=⟨b,k*2,none⟩) hbl];exact k1
   have c2:wr.cell? ⟨b,k*2+1,none⟩=some (.int .i64 (p.2:Int)):=by rw [hbel.cell (p:=⟨b,k*2+1,none⟩) hbl];exact k2
   have hd:=Xz.out p (jG7 hp);have gZ:=hid (VO vD hp);have FZ:=hid (fun hf=>HV.out.trans (jr1 vD hp hf));obtain ⟨d1,d2⟩:=p;simp only at hd c1 c2;have CC:=hid (fun w=>L8 d1 w hd);have Vr:=hid (Y2 d1 d2);clear hp hc k1 k2 hbel;cases hcl:VN d1 with
   | false=>
    rw [hcl] at CC Vr;exact jiq
   | true=>
    rw [hcl] at CC Vr;cases hq1:((d1:Int)==65533) with
    | false=>
     rw [hq1] at Vr;exact jik
    | true=>
     cases hq2:((d2:Int)==1) with
     | false=>
      rw [hq1,hq2] at Vr;exact jik
     | true=>
      rw [hq1,hq2] at Vr;exact jiq
  ·have HE:Hid (V=true):=by
    show V=true;have:=HA.out;rw [List.take_of_length_le (by omega)] at this;rw [HV.out,this]
   go_wp2;go_ret;exact ⟨by rw [HE.out];rfl,q01 B1.out HB.out⟩
theorem mq (s:ByteArray) (w:jIq) (hs:s.size<=1000000000) : Calls Tryz.prog 75 #[.string s] w (dP (.bool (DF s)) w):=Ma s w (by omega)
open Go.RowKit
theorem zL (s:ByteArray):xC s=true↔∀ j,j<s.size->bt s j≠10:=by
 unfold xC;rw [List.all_eq_true];constructor
 ·intro h j hj hc;have h1:=h s[j] (jG7 (Cu s j hj));rw [<- jh s j hj] at hc;have:s[j]=10:=by rw [<- UInt8.toNat_inj];exact hc
  rw [this] at h1;simp at h1
 ·intro h c hc;obtain ⟨j,hj,rfl⟩:=List.getElem_of_mem hc;have hj':j<s.size:=by simpa using hj
  have h1:=h j hj';rw [<- jh s j hj'] at h1;have h2:s.data.toList[j]=s[j]:=by have:=Cu s j hj';rw [jF9 hj] at this;exact Option.some.inj this
  rw [h2];simp;intro h3;rw [h3] at h1;exact h1 rfl
def NG (s:ByteArray) (vi:jIz):Prop:=∃ k:Nat,k<=s.size/\vi=.int .i64 k/\∀ j,j<k->bt s j≠10
theorem jix{P:Prop}(h:P:=by
 go_wp2_with fail
 refine VA.out.mono ?_;rintro e w1 ⟨rfl,b1⟩;have HB:=hid b1;have R0:Hid (NG s (.int .i64 0)):=⟨0,Nat.zero_le _,rfl,fun j hj=>by omega⟩;clear VA b1;go_wp2
 go_loop [3] (fun i=>NG s i) (fun i=>s.size-(intOf i).toNat)
 case atStart=>exact R0.out
 case round=>
  clear R0;obtain ⟨k,hk,rfl,hall⟩:=hrel;have HA:=hid hall;clear hall;by_cases hlt:k<s.size
  ·have eb:=jh s k hlt;by_cases hc:bt s k=10
   ·have HE:Hid (V=false):=by
     show V=false;rw [HL.out];have h1:xC s=false:=by
      cases h2:xC s
      ·rfl
      ·exact absurd hc (HN.out.1 h2 k hlt)
     rw [h1];rfl
    have hq:(((bt s k:Nat):Int)==10)=true:=by rw [hc];rfl
    rw [<- eb] at hq;clear hc eb;go_wp2;go_ret;exact ⟨by rw [HE.out];rfl,HB.out⟩
   ·have HC:=hid hc;have hq:(((bt s k:Nat):Int)==10)=false:=by rw [beq_eq_false_iff_ne];omega
    rw [<- eb] at hq;clear hc eb;go_wp2
    go_round
    case rel=>
     refine ⟨k+1,by omega,by go_num,fun j hj=>?_⟩;rcases Nat.lt_or_ge j k with h | h
     ·exact HA.out j h
     ·have:j=k:=by omega
      subst this;exact HC.out
    case measure=>simp [intOf];omega
  ·have HE:Hid (V=true):=by
    show V=true;rw [HL.out,HN.out.2 (fun j hj=>HA.out j (by omega))];rfl
   go_wp2;go_ret;exact ⟨by rw [HE.out];rfl,HB.out⟩):P:=h
theorem jiz{P:Prop}(h:P:=by
 go_wp2_with fail
 refine VA.out.mono ?_;rintro e w1 ⟨rfl,b1⟩;have HB:=hid b1;go_wp2;go_ret;exact ⟨by rw [HL.out];rfl,HB.out⟩):P:=h
theorem VP (s:ByteArray) (w:jIq) (hs:s.size<=1000000000) : Calls Tryz.prog 73 #[.string s] w (dP (.bool (dG s)) w):=by
 have VA:=hid (mq s w hs);have HL:Hid (dG s=(DF s&&xC s)):=rfl;have HN:=hid (zL s);obtain ⟨V,hV⟩:∃ V,V=dG s:=⟨_,rfl⟩;rw [<- hV] at HL ⊢;clear hV;cases hv:DF s with
 | false=>
  rw [hv] at VA HL;clear hv;go_enter Tryz.func73,Tryz.ntmps73;exact jiz
 | true=>
  rw [hv] at VA HL;clear hv;go_enter Tryz.func73,Tryz.ntmps73;exact jix
theorem AO (s:ByteArray) (w:jIq) (hs:s.size<=1000000000) : Calls Tryz.prog 159 #[.string s] w (dP (.bool (dG s)) w):=by
 have VA:=hid (mq s w hs);have HL:Hid (dG s=(DF s&&xC s)):=rfl;have HN:=hid (zL s);obtain ⟨V,hV⟩:∃ V,V=dG s:=⟨_,rfl⟩;rw [<- hV] at HL ⊢;clear hV;cases hv:DF s with
 | false=>
  rw [hv] at VA HL;clear hv;go_enter Tryz.func159,Tryz.ntmps159;exact jiz
 | true=>
  rw [hv] at VA HL;clear hv;go_enter Tryz.func159,Tryz.ntmps159;exact jix
theorem qh (s:ByteArray) (w:jIq) (hs:s.size<=1000000000) : Calls Tryz.prog 74 #[.string s] w fun e w'=>e=.returned (.bool (trimS s))/\w=w':=by
 rcases fA s with rfl | ⟨hne,hp,hie,hes⟩
 ·go_enter Tryz.func74,Tryz.ntmps74;go_wp2;go_ret;exact ⟨rfl,rfl⟩
 ·refine jg8 ?_;intro hv e0 e1;generalize bt s 0=b0 at *;generalize bt s (s.size-1)=b1 at *;have hsub:((s.size:Int)-1).toNat=s.size-1:=by omega
  clear hv hes;go_enter Tryz.func74,Tryz.ntmps74;go_wp2;all_goals
   go_ret;refine ⟨wW ?_,rfl⟩;exact Vm
def jj0 (s b:ByteArray) (w:jIq) (vi:jIz) (wr:jIq):Prop:=∃ k q:Nat,k<=s.size/\vi=.int .i64 k/\(∀ j i,j<k->i<b.size->bt s j≠bt b i)/\wr=w.drewN q
def VQ (s b:ByteArray) (w:jIq) (k:Nat) (vi:jIz) (wr:jIq):Prop:=∃ i q:Nat,i<=b.size/\vi=.int .i64 i/\(∀ j,j<i->bt s k≠bt b j)/\wr=w.drewN q
theorem Mc (s b:ByteArray):mZ s b.data.toList=true↔∃ j i,j<s.size/\i<b.size/\bt s j=bt b i:=by
 unfold mZ;rw [List.any_eq_true];constructor
 ·rintro ⟨c,hc,hb⟩;rw [List.contains_iff_mem] at hb;obtain ⟨j,hj,rfl⟩:=List.getElem_of_mem hc;obtain ⟨i,hi,he⟩:=List.getElem_of_mem hb;have hj':j<s.size:=by simpa using hj
  have hi':i<b.size:=by simpa using hi
  refine ⟨j,i,hj',hi',?_⟩;rw [<- jh s j hj',<- jh b i hi'];exact congrArg UInt8.toNat he.symm
 ·rintro ⟨j,i,hj,hi,he⟩;refine ⟨s[j],jG7 (Cu s j hj),?_⟩;rw [List.contains_iff_mem];rw [<- jh s j hj,<- jh b i hi,UInt8.toNat_inj] at he;rw [he];exact jG7 (Cu b i hi)
theorem uh (w:jIq) (q:Nat):Below w.heap.size w (w.drewN q):=ig (jFj _ _) q
theorem jw (s b:ByteArray) (w:jIq) (hs:s.size<=1000000000) (hb:b.size<=1000000000) : Calls Tryz.prog 161 #[.string s,.string b] w (dP (.bool (mZ s b.data.toList)) w):=by
 have HI:=hid (Mc s b);obtain ⟨V,hV⟩:∃ V,V=mZ s b.data.toList:=⟨_,rfl⟩;rw [<- hV] at HI ⊢;clear hV;have R0:Hid (jj0 s b w (.int .i64 0) w):=⟨0,0,jG6 _,rfl,fun j i hj=>by omega,rfl⟩;go_enter Tryz.func161,Tryz.ntmps161;go_wp2
 go_loopw [5] (fun vi wr=>jj0 s b w vi wr) (fun i _=>s.size-(intOf i).toNat)
 case atStart=>exact R0.out
 case round=>
  clear R0;obtain ⟨k,q,hk,rfl,hall,rfl⟩:=hrel;have Bj:=hid hall;clear hall;by_cases hlt:k<s.size
  ·have R1:Hid (VQ s b w k (.int .i64 0) (w.drewN q)):=⟨0,q,jG6 _,rfl,fun j hj=>by omega,rfl⟩;go_wp2
   go_loopw [6] (fun vi wr=>VQ s b w k vi wr) (fun i _=>b.size-(intOf i).toNat)
   case atStart=>exact R1.out
   case round=>
    clear R1;obtain ⟨i,q2,hi,rfl,Jd,rfl⟩:=hrel;have Y3:=hid Jd;clear Jd;by_cases hlt2:i<b.size
    ·have eb:=jh s k hlt;have ec:=jh b i hlt2;by_cases hc:bt s k=bt b i
     ·have HE:Hid (V=true):=HI.out.2 ⟨k,i,hlt,hlt2,hc⟩;have hq:(((bt s k:Nat):Int)==((bt b i:Nat):Int))=true:=by rw [hc];simp
      rw [<- eb,<- ec] at hq;clear hc eb ec;go_upto_region 7 with (fail)
      go_region
      go_wp2;go_ret;exact ⟨by rw [HE.out];rfl,uh w (q2+1)⟩
     ·have HC:=hid hc;have hq:(((bt s k:Nat):Int)==((bt b i:Nat):Int))=false:=by rw [beq_eq_false_iff_ne];omega
      rw [<- eb,<- ec] at hq;clear hc eb ec;go_upto_region 7 with (fail)
      go_region
      go_wp2;go_roundw;case rel=>
       refine ⟨i+1,q2+1,by omega,by go_num,fun j hj=>?_,rfl⟩;rcases Nat.lt_or_ge j i with h | h
       ·exact Y3.out j h
       ·have:j=i:=by omega
        subst this;exact HC.out
      case measure=>simp [intOf];omega
    ·go_wp2;go_roundw;case rel=>
      refine ⟨k+1,q2,by omega,by go_num,fun j i' hj hi'=>?_,rfl⟩;rcases Nat.lt_or_ge j k with h | h
      ·exact Bj.out j i' h hi'
      ·have:j=k:=by omega
       subst this;exact Y3.out i' (by omega)
     case measure=>simp [intOf];omega
  ·have HE:Hid (V=false):=by
    show V=false;cases hV:V with
    | false=>rfl
    | true=>
     obtain ⟨j,i,hj,hi,he⟩:=HI.out.1 hV;exact absurd he (Bj.out j i (by omega) hi)
   go_wp2;go_ret;exact ⟨by rw [HE.out];rfl,uh w q⟩
theorem Y4 (n:Int) (ks:List Int) (g cap:Nat) (w:jIq) (hl:ks.length<=1000) (hc:∀ j k,ks[j]?=some k->w.cell? ⟨g,j,none⟩=some (.int .i64 k)) : Calls Tryz.prog 130 #[.int .i64 n,.slice (some ⟨g,0,none⟩) ks.length cap] w fun e w'=>e=.returned (.bool (ks.contains n))/\w=w':=by
 have HC:=hid hc;have R0:Hid (Og n ks (.int .i64 0)):=⟨0,jG6 _,rfl,by simp⟩;obtain ⟨V,hV⟩:∃ V,V=ks.contains n:=⟨_,rfl⟩;rw [<- hV];have HV:=hid hV;clear hc hV;go_enter Tryz.func130,Tryz.ntmps130;go_wp2
 go_loop [5] (fun i=>Og n ks i) (fun i=>ks.length-(intOf i).toNat)
 case atStart=>exact R0.out
 case round=>
  clear R0;obtain ⟨k,hk,rfl,hno⟩:=hrel;have HN:=hid hno;clear hno;by_cases hlt:k<ks.length
  ·obtain ⟨x,hx⟩:∃ x,ks[k]?=some x:=⟨_,jF9 hlt⟩;have hcell:=HC.out k x hx;have HT:Hid ((ks.take (k+1)).contains n=((ks.take k).contains n||(x==n))):=by
    show _=_;have e:(x==n)=(n==x):=by rw [jFz,beq_iff_eq,beq_iff_eq];exact eq_comm
    rw [e,jGz,hx,jFz];simp
   have HX:=hid hx;clear hx;cases hnx:(x==n)
   ·exact jhx
   ·have HE:Hid (V=true):=by
     show V=true;rw [HV.out,List.contains_iff_mem];have:x=n:=by simpa using hnx
     rw [<- this];exact jG7 HX.out
    exact Oh
  ·exact VH
theorem oL (a:At) (ac ap:Option Addr) (cc cp:Nat) (w:jIq) (hc:a.cls.length<=maxLen) (hp:a.aF.length<=maxLen) : Calls Tryz.prog 131 #[.agg #[.string a.id,.slice ac a.cls.length cc,.slice ap a.aF.length cp]] w (dP (.bool a.none) w):=by
 obtain ⟨id,cls,aF⟩:=a;unfold maxLen at hc hp;dsimp only at hc hp ⊢;have HV:Hid (At.none ⟨id,cls,aF⟩=(bq id&&cls.isEmpty&&aF.isEmpty)):=rfl;have e1:=jT cls;have e2:=jT aF;have e3:=oQ id;obtain ⟨V,hV⟩:∃ V,V=At.none ⟨id,cls,aF⟩:=⟨_,rfl⟩;rw [<- hV] at HV ⊢;clear hV;generalize bq id=b3 at *;generalize cls.isEmpty=b1 at *;generalize aF.isEmpty=b2 at *;cases b3<;>cases b1<;>cases b2
 all_goals
  go_enter Tryz.func131,Tryz.ntmps131;go_wp2;exact VG
open Go.RowKit
theorem uj (c:Nat) (w:jIq) (hc:c<256) : Calls Tryz.prog 76 #[.int .u8 (c:Int)] w fun e w'=>e=.returned (.bool (eD c))/\w=w':=by
 go_enter Tryz.func76,Tryz.ntmps76;go_wp2;all_goals
  go_ret;refine ⟨wW ?_,rfl⟩;unfold eD nN;rw [jFz];simp;omega
theorem Ei (c:Nat) (w:jIq) (hc:c<256) : Calls Tryz.prog 101 #[.int .u8 (c:Int)] w fun e w'=>e=.returned (.bool (Iw c))/\w=w':=by
 have LT:=hid (fun w=>uj c w hc);have HL:Hid (eD c=true↔(97<=c/\c<=122)\/(65<=c/\c<=90)):=by show _↔_;unfold eD nN;simp
 cases hl:eD c with
 | true=>
  rw [hl] at LT;have hv:Iw c=true:=by unfold Iw;rw [hl];simp
  rw [hv];clear hl hv;go_enter Tryz.func101,Tryz.ntmps101;go_wp2_with fail
  refine (LT.out _).mono ?_;rintro e w1 ⟨rfl,rfl⟩;go_wp2;go_ret;exact ⟨rfl,rfl⟩
 | false=>
  rw [hl] at LT;have HV:Hid (Iw c=((decide (c=45)||decide (c=95)||decide (c=46)||decide (c=58))||nN c 48 57)):=by show _=_;unfold Iw;rw [hl];simp
  generalize Iw c=V at *;clear hl;go_enter Tryz.func101,Tryz.ntmps101;go_wp2_with fail
  refine (LT.out _).mono ?_;rintro e w1 ⟨rfl,rfl⟩;go_wp2;all_goals
   go_ret;refine ⟨wW ?_,rfl⟩;rw [HV.out]
   (try simp only [beq_iff_eq,beq_eq_false_iff_ne,ne_eq] at *)
   rw [jFz];unfold nN;simp
   (try omega)
theorem Ql (s:ByteArray) (w:jIq) (hs:s.size<=1000000000) : Calls Tryz.prog 77 #[.string s,.int .i64 0] w fun e w'=>e=.returned (.int .i64 (ug s:Nat))/\w=w':=by
 obtain ⟨V,hV⟩:∃ V,V=ug s:=⟨_,rfl⟩;rw [<- hV];have HV:=hid hV;clear hV;go_enter Tryz.func77,Tryz.ntmps77;go_wp2
 go_loop [1] (fun vi=>∃ k:Nat,k<=s.size/\vi=.int .i64 k/\∀ j x,j<k->s.data.toList[j]?=some x->iJ x=true) (fun i=>s.size-(intOf i).toNat)
 case atStart=>exact ⟨0,jG6 _,rfl,fun j x hj=>by omega⟩
 case round=>
  obtain ⟨k,hk,rfl,hall⟩:=hrel;have HA:=hid hall;clear hall;by_cases hlt:k<s.size
  ·have hgl:=UInt8.toNat_lt s[k];have IN:=hid (fun w=>Ei s[k].toNat w hgl);have HG:=hid (Cu s k hlt);cases hn:Iw s[k].toNat with
   | true=>
    rw [hn] at IN;have HN:=hid hn;clear hn;go_wp2_with fail
    refine (IN.out _).mono ?_;rintro e w1 ⟨rfl,rfl⟩;go_wp2
    go_round
    case rel=>
     refine ⟨k+1,by omega,by go_num,fun j x hj hx=>?_⟩;exact NV
    case measure=>simp [intOf];omega
   | false=>
    rw [hn] at IN;have hw:V=k:=by exact jh8
    exact NW
  ·exact jh7
theorem QS (s:ByteArray) (w:jIq) (hs:s.size<=1000000000) : Calls Tryz.prog 42 #[.string s] w fun e w'=>e=.returned (.bool (dU s))/\w=w':=by
 by_cases h0:s.size=0
 ·have hv:dU s=false:=by unfold dU;simp [h0]
  rw [hv];have e0:decide ((1:Int)<=(s.size:Int))=false:=by simp;omega
  clear hv h0;go_enter Tryz.func42,Tryz.ntmps42;go_wp2;go_ret;exact ⟨rfl,rfl⟩
 have e0:decide ((1:Int)<=(s.size:Int))=true:=by simp;omega
 by_cases h60:60<s.size
 ·have hv:dU s=false:=by unfold dU;simp;omega
  rw [hv];have e1:decide ((s.size:Int)<=(60:Int))=false:=by simp;omega
  clear hv;go_enter Tryz.func42,Tryz.ntmps42;go_wp2;go_ret;exact ⟨rfl,rfl⟩
 have e1:decide ((s.size:Int)<=(60:Int))=true:=by simp;omega
 have hp:0<s.size:=by omega
 have hg:=Cu s 0 hp;obtain ⟨c,hc⟩:∃ c,s[0]=c:=⟨_,rfl⟩;rw [hc] at hg;have hcl:=UInt8.toNat_lt c;have LT:=hid (fun w=>uj c.toNat w hcl);have WE:=hid (fun w=>Ql s w hs);have hl:s.data.toList=c::s.data.toList.tail:=by
  cases h:s.data.toList with
  | nil=>rw [h] at hg;simp at hg
  | cons a l=>rw [h] at hg;simp at hg;rw [hg];rfl
 have hv:dU s=(eD c.toNat&&decide (ug s=s.size)):=by exact jhk
 have HV:=hid hv;generalize dU s=V at *;generalize ug s=E at *;clear hv hl hg;cases hlt:eD c.toNat with
 | false=>
  rw [hlt] at LT;rw [hlt] at HV;go_enter Tryz.func42,Tryz.ntmps42;exact jhj
 | true=>
  rw [hlt] at LT;rw [hlt] at HV;go_enter Tryz.func42,Tryz.ntmps42;exact jh9
open Go.RowKit
theorem jj1{P:Prop}(h:P:=by
 by_cases hyx:y=x
 ·subst hyx;go_wp2;go_ret;exact ⟨by rw [HT.out (by rw [gZ.out];simp)];rfl,rfl⟩
 ·have e1:=yN hyx;go_wp2
  go_round
  case rel=>exact ⟨k+1,by omega,by go_num,by rw [gZ.out];simp [hyx]⟩
  case measure=>simp [intOf];omega):P:=h
theorem jj2{P:Prop}(h:P:=by
 have hA:=HA.out;rw [hkl,List.take_length] at hA;have HA2:=hid hA;clear hA HA hkl;go_wp2;go_ret;exact ⟨by rw [HA2.out];rfl,rfl⟩):P:=h
theorem um (l:List ByteArray) (x:ByteArray) (v:jIz) (w:jIq) (hs:ES w 1 v l.length (l.map Value.string)) : Calls Tryz.prog 158 #[v,.string x] w fun e w'=>e=.returned (.bool (q22 l x))/\w=w':=by
 obtain ⟨-,a,cap,rfl,hcap,hmx,hcs⟩:=hs;have Jt:=hid hcs;have HZ:Hid (q22 (l.take 0) x=false):=rfl;clear hcs;unfold maxLen at hmx;go_enter Tryz.func158,Tryz.ntmps158;go_wp2
 go_loop [5] (fun vi=>∃ k:Nat,k<=l.length/\vi=.int .i64 k/\q22 (l.take k) x=false) (fun i=>l.length-(intOf i).toNat)
 case atStart=>exact ⟨0,jG6 _,rfl,HZ.out⟩
 case round=>
  obtain ⟨k,hk,rfl,hany⟩:=hrel;have HA:=hid hany;clear hany;by_cases hlt:k<l.length
  ·obtain ⟨y,hy⟩:∃ y,l[k]?=some y:=⟨_,jF9 hlt⟩;rcases Jt.out with h0 | ⟨b,off,rfl,hc⟩
   ·omega
   have c0:w.cell? ⟨b,off+k,none⟩=some (.string y):=hc k _ (by simp [hy]);have hsn:=uM l k y x hy;rw [HA.out] at hsn;have gZ:=hid hsn;have HT:=hid (uN l (k+1) x);clear hy hc hsn;exact jj1
  ·have hkl:k=l.length:=by omega
   exact jj2
theorem Je (l:List Pr) (x:ByteArray) (b off n cap:Nat) (w:jIq) (hn:n<=l.length) (hcap:n<=cap) (hmx:cap<=maxLen) (hc:∀ k p,l[k]?=some p->w.cell? ⟨b,off+k*2,none⟩=some (.string p.key)) : Calls Tryz.prog 160 #[.slice (some ⟨b,off,none⟩) n cap,.string x] w fun e w'=>e=.returned (.bool (q22 ((l.take n).map Pr.key) x))/\w=w':=by
 have Jt:=hid hc;obtain ⟨K,hK⟩:∃ K,K=(l.take n).map Pr.key:=⟨_,rfl⟩;rw [<- hK];have hkn:K.length=n:=by rw [hK];simp;omega
 have HKI:Hid (∀ k,k<n->∃ p,l[k]?=some p/\K[k]?=some p.key):=by intro k hk;obtain ⟨p,hp⟩:∃ p,l[k]?=some p:=⟨_,jF9 (by omega)⟩;refine ⟨p,hp,?_⟩;rw [hK,List.getElem?_map,List.getElem?_take,if_pos hk,hp];rfl
 have HZ:Hid (q22 (K.take 0) x=false):=rfl;clear hc hK;unfold maxLen at hmx;go_enter Tryz.func160,Tryz.ntmps160;go_wp2
 go_loop [5] (fun vi=>∃ k:Nat,k<=n/\vi=.int .i64 k/\q22 (K.take k) x=false) (fun i=>n-(intOf i).toNat)
 case atStart=>exact ⟨0,jG6 _,rfl,HZ.out⟩
 case round=>
  obtain ⟨k,hk,rfl,hany⟩:=hrel;have HA:=hid hany;clear hany;by_cases hlt:k<n
  ·obtain ⟨p,hp,hy⟩:=HKI.out k hlt;have c0:=Jt.out k p hp;obtain ⟨y,val⟩:=p;dsimp only at c0 hy;have hsn:=uM K k y x hy;rw [HA.out] at hsn;have gZ:=hid hsn;have HT:=hid (uN K (k+1) x);clear hy hp hsn;exact jj1
  ·have hkl:k=K.length:=by omega
   exact jj2
def jx0 (T:TypeId) (p:Nat) (cs:List jIz) (w:jIq) (l:List ByteArray) (E:Nat) (vi:jIz) (wr:jIq):Prop:=
 ∃ k:Nat,k<=l.length/\vi=.int .i64 k/\CB T p cs wr/\Below w.heap.size w wr/\uI (l.take k) (l.drop k)=E
def jx1 (T:TypeId) (p:Nat) (cs:List jIz) (w:jIq) (l:List Pr) (E:Nat) (vi:jIz) (wr:jIq):Prop:=
 ∃ k:Nat,k<=l.length/\vi=.int .i64 k/\CB T p cs wr/\Below w.heap.size w wr/\vC ((l.take k).map Pr.key) (l.drop k)=E
theorem CB.dN {T:TypeId} {p:Nat} {cs:List jIz} {w:jIq} (h:CB T p cs w) (q:Nat):CB T p cs (w.drewN q):=h
theorem qF{P:Prop}(h:P:=by
 go_wp2;go_ret;exact ⟨by rw [HV.out];rfl,B1.out⟩):P:=h
theorem Nu{P Q:Prop}(q:Q)(h:Nonempty Q->P:=by
 intro qQ;have b1:Below w.heap.size w w1:=by rw [hw1];exact (Below.refl _ _).alloc (Nat.le_refl _) _
 revert b1;exact qQ.elim fun x=>x):P:=h ⟨q⟩
theorem jj3{P:Prop}(h:P:=by
 clear hn;go_wp2_with fail
 refine (CN.out _).mono ?_;rintro e w3 ⟨rfl,rfl⟩;go_wp2;go_ret;exact ⟨by rw [HV.out];rfl,qp.out⟩):P:=h
theorem kK (a:At) (ac ap:Option Addr) (cc cp:Nat) (w:jIq) (h:AtR (·<w.heap.size) w a (.slice ac a.cls.length cc) (.slice ap a.aF.length cp)) (hs:a.short) : Calls Tryz.prog 135 #[.agg #[.string a.id,.slice ac a.cls.length cc,.slice ap a.aF.length cp]] w (dP (.int .i64 (a.err:Nat)) w):=by
 obtain ⟨sc,sp,si,sca,spa⟩:=hs;obtain ⟨id,cls,aF⟩:=a;dsimp only at sc sp si sca spa h ⊢;obtain ⟨a1,c1,hv1,hs1⟩:=Rd.ay h.cls;obtain ⟨rfl,rfl⟩:a1=ac/\c1=cc:=by simp at hv1;exact ⟨hv1.1.symm,hv1.2.symm⟩
 obtain ⟨a2,c2,hv2,hs2⟩:=Rd.ay h.aF;obtain ⟨rfl,rfl⟩:a2=ap/\c2=cp:=by simp at hv2;exact ⟨hv2.1.symm,hv2.2.symm⟩
 have l1:cls.length<=c1:=by simpa using hs1.le
 have l2:aF.length<=c2:=by simpa using hs2.le
 have m1:=hs1.max;have m2:=hs2.max;have H1:=hid hs1;have H2:=hid hs2;have SC:=hid sca;have SP:=hid spa;have NI:=hid (fun w=>QS id w (by omega));have HE:Hid (At.err ⟨id,cls,aF⟩=if bq id=false/\dU id=false then 6 else if uI [] cls≠0 then uI [] cls else if vC [] aF≠0 then vC [] aF else if 32<cls.length\/32<aF.length then 3 else 0):=rfl;obtain ⟨V,hV⟩:∃ V,V=At.err ⟨id,cls,aF⟩:=⟨_,rfl⟩;rw [<- hV] at HE ⊢;have hie:=oQ id;obtain ⟨w1,hw1⟩:∃ w1,w1=w.alloc (.cells #[.string id,.slice a1 cls.length c1,.slice a2 aF.length c2] 43):=⟨_,rfl⟩;have k1:CB 43 w.heap.size [.string id,.slice a1 cls.length c1,.slice a2 aF.length c2] w1:=by rw [hw1];exact CB.new _ _ _
 refine Nu ?_;intro b1;have p0:=k1.cell 0 _ rfl;have p1:=k1.cell 1 _ rfl;have K1:=hid k1;have B1:=hid b1;have R0:Hid (jx0 43 w.heap.size [.string id,.slice a1 cls.length c1,.slice a2 aF.length c2] w cls (uI [] cls) (.int .i64 0) w1):=⟨0,jG6 _,rfl,k1,b1,rfl⟩;have HM1:=hid m1;have HM2:=hid m2;unfold maxLen at m1 m2;clear hV sca spa hs1 hs2 hv1 hv2 h k1 b1;go_enter Tryz.func135,Tryz.ntmps135;go_upto_region 1 with (fail)
 rw [<- hw1];clear hw1
 go_cut [13] (fun s wx=>s=.bool (!bq id&&!dU id)/\w1=wx)
 case first=>
  clear R0 HE;cases he:bq id with
  | true=>
   rw [he] at hie;have BK:=hid he;clear he NI;go_wp2_with fail
   go_meet
   exact ⟨by rw [BK.out];rfl,rfl⟩
  | false=>
   rw [he] at hie;have BK:=hid he;clear he;cases hn:dU id
   all_goals
    rw [hn] at NI;have QK:=hid hn;clear hn;go_wp2_with fail
    refine (NI.out _).mono ?_;rintro e w2 ⟨rfl,rfl⟩;go_wp2_with fail
    go_meet
    exact ⟨by rw [BK.out,QK.out];rfl,rfl⟩
 case rest=>
  obtain ⟨rfl,rfl⟩:=hcut;clear NI;cases hbad:(!bq id&&!dU id) with
  | true=>
   have HV:Hid (V=6):=by show V=6;rw [HE.out,if_pos (by simpa using hbad)]
   clear hbad R0;exact qF
  | false=>
   have HE2:Hid (V=if uI [] cls≠0 then uI [] cls else if vC [] aF≠0 then vC [] aF else if 32<cls.length\/32<aF.length then 3 else 0):=by show V=_;rw [HE.out,if_neg (fun h=>by rw [h.1,h.2] at hbad;cases hbad)]
   clear hbad HE hie;obtain ⟨E1,hE1⟩:∃ E1,E1=uI [] cls:=⟨_,rfl⟩;obtain ⟨E2,hE2⟩:∃ E2,E2=vC [] aF:=⟨_,rfl⟩;rw [<- hE1] at HE2 R0;rw [<- hE2] at HE2;have jr0:=hid hE2;clear hE1 hE2 p0 p1;go_wp2
   go_loopw [3] (fun i wr=>jx0 43 w.heap.size [.string id,.slice a1 cls.length c1,.slice a2 aF.length c2] w cls E1 i wr) (fun i _=>cls.length-(intOf i).toNat)
   case atStart=>exact R0.out
   case round=>
    clear R0;obtain ⟨k,hk,rfl,hcb,hbl,bg⟩:=hrel;have xQ:=hid hcb;have qp:=hid hbl;have p1:=hcb.cell 1 _ rfl;by_cases hlt:k<cls.length
    ·obtain ⟨x,hx⟩:∃ x,cls[k]?=some x:=⟨_,jF9 hlt⟩;obtain ⟨b,off,ha,-,-,c0⟩:=jk H1.out hx;have c0:wr.cell? ⟨b,off+k,none⟩=some (.string x):=by rw [hbl.cell (p:=⟨b,off+k,none⟩) (nO c0)];exact c0
     have jx2:ES wr 1 (.slice a1 k c1) (cls.take k).length ((cls.take k).map Value.string):=by
      have hkl:(cls.take k).length=k:=by simp;omega
      rw [hkl];refine ⟨by simp;omega,_,_,rfl,by omega,HM1.out,.inr ⟨b,off,ha,fun j u hu=>?_⟩⟩;rw [List.getElem?_map,List.getElem?_take] at hu;split at hu
      ·rename_i hjk
       obtain ⟨y,hy⟩:∃ y,cls[j]?=some y:=⟨_,jF9 (by omega)⟩;rw [hy] at hu;obtain ⟨b',off',ha',-,-,c0'⟩:=jk H1.out hy;rw [ha] at ha';simp at ha';obtain ⟨rfl,rfl⟩:=ha';have c2':wr.cell? ⟨b,off+j,none⟩=some (.string y):=by rw [hbl.cell (p:=⟨b,off+j,none⟩) (nO c0')];exact c0'
       simp at hu;subst hu;exact c2'
      ·cases hu
     have hxs:=SC.out x (jG7 hx);have CN:=hid (fun w=>QS x w (by omega));have HTX:Hid (∀ m,Calls Tryz.prog 158 #[.slice a1 k c1,.string x] (wr.drewN m) fun e w'=>e=.returned (.bool (q22 (cls.take k) x))/\w'=wr.drewN m):=fun m=>(um (cls.take k) x _ (wr.drewN m) jx2).mono fun _ _ h=>⟨h.1,h.2.symm⟩
     subst ha;have bV:Hid (uI (cls.take k) (x::cls.drop (k+1))=E1):=by show _=_;rw [<- Gu cls k x hx];exact bg
     have QE:Hid (cls.take (k+1)=cls.take k++[x]):=by show _=_;rw [jGz,hx];rfl
     clear bg hx jx2 hcb hbl;cases hn:dU x with
     | false=>
      rw [hn] at CN;have HV:Hid (V=6):=by show V=6;have:=bV.out;rw [uI,if_pos hn] at this;rw [HE2.out,<- this];rfl
      exact jj3
     | true=>
      rw [hn] at CN;cases hb:q22 (cls.take k) x with
      | true=>
       rw [hb] at HTX;have HV:Hid (V=7):=by show V=7;have:=bV.out;rw [uI,if_neg (by rw [hn];decide),if_pos hb] at this;rw [HE2.out,<- this];rfl
       clear hn hb;go_wp2_with fail
       refine (CN.out _).mono ?_;rintro e w3 ⟨rfl,rfl⟩;go_upto_region 8 with (fail)
       go_quiet ((go_at_call 158;with_reducible exact Calls.quiet_of_same (HTX.out _)))
       go_wp2;go_ret;exact ⟨by rw [HV.out];rfl,ig qp.out _⟩
      | false=>
       rw [hb] at HTX;have JO:Hid (uI (cls.take (k+1)) (cls.drop (k+1))=E1):=by show _=_;have:=bV.out;rw [uI,if_neg (by rw [hn];decide),if_neg (by rw [hb];decide)] at this;rw [QE.out];exact this
       clear hn hb;go_wp2_with fail
       refine (CN.out _).mono ?_;rintro e w3 ⟨rfl,rfl⟩;go_upto_region 8 with (fail)
       go_quiet ((go_at_call 158;with_reducible exact Calls.quiet_of_same (HTX.out _)))
       go_wp2;go_roundw;case rel=>exact ⟨k+1,by omega,by go_num,xQ.out.dN _,ig qp.out _,JO.out⟩
       case measure=>simp [intOf];omega
    ·obtain rfl:k=cls.length:=by omega
     have L6:Hid (E1=0):=by show E1=0;rw [List.drop_length,uI] at bg;exact bg.symm
     have R2:Hid (jx1 43 w.heap.size [.string id,.slice a1 cls.length c1,.slice a2 aF.length c2] w aF E2 (.int .i64 0) wr):=⟨0,jG6 _,rfl,hcb,hbl,jr0.out.symm⟩;clear bg hcb hbl xQ qp hk hlt;go_wp2
     go_loopw [4] (fun i wr=>jx1 43 w.heap.size [.string id,.slice a1 cls.length c1,.slice a2 aF.length c2] w aF E2 i wr) (fun i _=>aF.length-(intOf i).toNat)
     case atStart=>exact R2.out
     case round=>
      clear R2 p1;obtain ⟨k,hk,rfl,hcb,hbl,bg⟩:=hrel;have xQ:=hid hcb;have qp:=hid hbl;have p2:=hcb.cell 2 _ rfl;by_cases hlt:k<aF.length
      ·obtain ⟨x,hx⟩:∃ x,aF[k]?=some x:=⟨_,jF9 hlt⟩;obtain ⟨b,off,ha,-,-,c0,c1'⟩:=jB H2.out hx;have hkeys:∀ j p,aF[j]?=some p->wr.cell? ⟨b,off+j*2,none⟩=some (.string p.key):=by
        intro j y hy;obtain ⟨b',off',ha',-,-,c0',-⟩:=jB H2.out hy;rw [ha] at ha';simp at ha';obtain ⟨rfl,rfl⟩:=ha';rw [hbl.cell (p:=⟨b,off+j*2,none⟩) (nO c0')];exact c0'
       have c0:wr.cell? ⟨b,off+k*2,none⟩=some (.string x.key):=hkeys k x hx;have c1':wr.cell? ⟨b,off+k*2+1,none⟩=some (.string x.val):=by rw [hbl.cell (p:=⟨b,off+k*2+1,none⟩) (nO c1')];exact c1'
       have hxs:=SP.out x (jG7 hx);have HX:=hid hx;have bV:Hid (vC ((aF.take k).map Pr.key) (x::aF.drop (k+1))=E2):=by show _=_;rw [<- Gu aF k x hx];exact bg
       have HKEY:=hid hkeys;obtain ⟨key,val⟩:=x;dsimp only at c0 c1' hxs;have CN:=hid (fun w=>QS key w (by omega));have CV:=hid (AO val wr (by omega));have QE:Hid ((aF.take (k+1)).map Pr.key=(aF.take k).map Pr.key++[key]):=by show _=_;rw [jGz,HX.out];simp
       subst ha;clear bg hx hcb hbl hkeys;cases hn:dU key with
       | false=>
        rw [hn] at CN;have HV:Hid (V=6):=by show V=6;have:=bV.out;rw [vC,if_pos hn] at this;rw [HE2.out,L6.out,<- this];rfl
        exact jj3
       | true=>
        rw [hn] at CN;cases hln:dG val with
        | false=>
         rw [hln] at CV;have HV:Hid (V=17):=by exact ji3
         clear hn hln;go_wp2_with fail
         refine (CN.out _).mono ?_;rintro e w3 ⟨rfl,rfl⟩;go_wp2_with fail
         refine CV.out.mono ?_;rintro e w4 ⟨rfl,b4⟩;have B4:=hid (q01 qp.out b4);go_wp2;go_ret;exact ⟨by rw [HV.out];rfl,B4.out⟩
        | true=>
         rw [hln] at CV;have HKX:Hid (∀ w4,Below wr.heap.size wr w4->∀ m,Calls Tryz.prog 160 #[.slice (some ⟨b,off,none⟩) k c2,.string key] (w4.drewN m) fun e w'=>e=.returned (.bool (q22 ((aF.take k).map Pr.key) key))/\w'=w4.drewN m):=fun w4 h4 m=>
          (Je aF key b off k c2 (w4.drewN m) (by omega) (by omega) HM2.out (fun j p hp=>by
           have:=HKEY.out j p hp;show w4.cell? _=_;rw [h4.cell (p:=⟨b,off+j*2,none⟩) (nO this)];exact this)).mono fun _ _ h=>⟨h.1,h.2.symm⟩
         cases hb:q22 ((aF.take k).map Pr.key) key with
         | true=>
          rw [hb] at HKX;have HV:Hid (V=7):=by exact ji1
          clear hn hln hb;go_wp2_with fail
          refine (CN.out _).mono ?_;rintro e w3 ⟨rfl,rfl⟩;go_wp2_with fail
          refine CV.out.mono ?_;rintro e w4 ⟨rfl,b4⟩;have B4:=hid (q01 qp.out b4);have HKM:=hid (HKX.out w4 b4);have p2:=(xQ.out.below b4).cell 2 _ rfl;have c0:w4.cell? ⟨b,off+k*2,none⟩=some (.string key):=by rw [b4.cell (p:=⟨b,off+k*2,none⟩) (nO c0)];exact c0
          clear b4 HKX c1';go_upto_region 17 with (fail)
          go_quiet ((go_at_call 160;with_reducible exact Calls.quiet_of_same (HKM.out _)))
          go_wp2;go_ret;exact ⟨by rw [HV.out];rfl,ig B4.out _⟩
         | false=>
          rw [hb] at HKX;refine ji0 ?_;intro JO;clear hn hln hb;go_wp2_with fail
          refine (CN.out _).mono ?_;rintro e w3 ⟨rfl,rfl⟩;go_wp2_with fail
          refine CV.out.mono ?_;rintro e w4 ⟨rfl,b4⟩;have B4:=hid (q01 qp.out b4);have HKM:=hid (HKX.out w4 b4);have HC4:=hid (xQ.out.below b4);have p2:=HC4.out.cell 2 _ rfl;have c0:w4.cell? ⟨b,off+k*2,none⟩=some (.string key):=by rw [b4.cell (p:=⟨b,off+k*2,none⟩) (nO c0)];exact c0
          clear b4 HKX c1';go_upto_region 17 with (fail)
          go_quiet ((go_at_call 160;with_reducible exact Calls.quiet_of_same (HKM.out _)))
          go_wp2;go_roundw;case rel=>exact ⟨k+1,by omega,by go_num,HC4.out.dN _,ig B4.out _,JO.out⟩
          case measure=>simp [intOf];omega
      ·obtain rfl:k=aF.length:=by omega
       have HV:Hid (V=if 32<cls.length\/32<aF.length then 3 else 0):=by show V=_;rw [List.drop_length,vC] at bg;rw [HE2.out,L6.out,<- bg];rfl
       have p1:=hcb.cell 1 _ rfl;clear bg hcb hbl hk hlt;by_cases h1:32<cls.length
       ·have q1:decide ((32:Int)<(cls.length:Int))=true:=by simp;omega
        go_wp2;go_ret;exact ⟨by rw [HV.out,if_pos (.inl h1)];rfl,qp.out⟩
       ·have q1:decide ((32:Int)<(cls.length:Int))=false:=by simp;omega
        by_cases h2:32<aF.length
        ·have q2:decide ((32:Int)<(aF.length:Int))=true:=by simp;omega
         go_wp2;go_ret;exact ⟨by rw [HV.out,if_pos (.inr h2)];rfl,qp.out⟩
        ·have q2:decide ((32:Int)<(aF.length:Int))=false:=by simp;omega
         go_wp2;go_ret;exact ⟨by rw [HV.out,if_neg (by omega)];rfl,qp.out⟩
end Go.Proofs.YtklhajbpfelliaaGreatDoor

