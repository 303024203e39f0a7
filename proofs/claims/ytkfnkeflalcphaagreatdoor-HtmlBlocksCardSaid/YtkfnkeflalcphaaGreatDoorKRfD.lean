/- Contracts of attr.Empty, tree.oneOf, anyKind, inlineFields. The contract of attr.Check: the first error of attributes. publisherref04.count, sizes, Size, Depth; tree.sizeOfLine, sizeOfBlocks, Size, Depth. Size and Depth of documents, of tree and of the reference. Contracts of publisherref01.clean, Digit, Valid. Contracts of publisherref04.line, trimmed, has, in, noAttr and of publisherref03.line. Contracts of publisherref03.letter, part, word, Name. Contracts of publisherref03.hasText, hasKey, Check. -/
import Derived.Test.YtkfnkeflalcphaaGreatDoorKPlParse
import Derived.Test.YtkfnkeflalcphaaGreatDoorKSmall
set_option maxHeartbeats 8000000
set_option maxRecDepth 100000
open Go.Lib (hid)
namespace Go.Proofs.YtkfnkeflalcphaaGreatDoor
open List renaming getElem?_eq_getElem->jD6,mem_of_getElem?->jE4,take_add_one->jEk
open Go.RowKit.Below renaming refl->jD7
open Nat renaming le_refl->jD8,zero_le->jE3
open Bool renaming eq_iff_iff->jDk
open Go renaming World->jG9,Value->jGk
open Go.RowKit
set_option linter.unusedVariables false
set_option linter.unusedSimpArgs false
def eX (v:jGk) (w:jG9) (e:Ending) (w':jG9):Prop:=e=.returned v/\Below w.heap.size w w'
theorem jR {α:Type} (l:List α):(((l.length:Nat):Int)==0)=l.isEmpty:=by
 cases l with
 | nil=>rfl
 | cons x l=>simp;omega
theorem U8{P:Prop}(h:P:=by
 go_ret;exact ⟨by rw [HV.out];rfl,(Below.refl _ _).alloc (Nat.le_refl _) _⟩):P:=h
theorem qM (a:At) (ac ap:Option Addr) (cc cp:Nat) (w:jG9) (hc:a.cls.length<=maxLen) (hp:a.aD.length<=maxLen) : Calls Tryz.prog 165 #[.agg #[.string a.id,.slice ac a.cls.length cc,.slice ap a.aD.length cp]] w (eX (.bool a.none) w):=by
 obtain ⟨id,cls,aD⟩:=a;dsimp only at hc hp ⊢;have h1:=oN id;have h2:=jR cls;have h3:=jR aD;have HV:Hid (At.none ⟨id,cls,aD⟩=(aW id&&cls.isEmpty&&aD.isEmpty)):=rfl;generalize At.none ⟨id,cls,aD⟩=V at *;generalize aW id=b1 at *;generalize cls.isEmpty=b2 at *;generalize aD.isEmpty=b3 at *;cases b1<;>cases b2<;>cases b3
 all_goals
  go_enter Tryz.func165,Tryz.ntmps165;go_wp2;exact U8
def ND (n:Int) (ks:List Int) (vi:jGk):Prop:=∃ k:Nat,k<=ks.length/\vi=.int .i64 k/\(ks.take k).contains n=false
theorem U9{P:Prop}(h:P:=by
 have HE:Hid (V=false):=by
  show V=false;rw [HV.out];have:=HN.out
  rwa [List.take_of_length_le (by omega)] at this
 go_wp2;go_ret;exact ⟨by rw [HE.out];rfl,rfl⟩):P:=h
theorem NG{P:Prop}(h:P:=by
 go_wp2;go_ret;exact ⟨by rw [HE.out];rfl,rfl⟩):P:=h
theorem jg4{P:Prop}(h:P:=by
 rw [hnx] at HT;go_wp2
 go_round
 case rel=>exact ⟨k+1,by omega,by go_num,by rw [HT.out,HN.out];rfl⟩
 case measure=>simp [intOf];omega):P:=h
theorem lg (n:Int) (ks:List Int) (g cap:Nat) (w:jG9) (hl:ks.length<=1000) (hc:∀ j k,ks[j]?=some k->w.cell? ⟨g,j,none⟩=some (.int .i64 k)) : Calls Tryz.prog 161 #[.int .i64 n,.slice (some ⟨g,0,none⟩) ks.length cap] w fun e w'=>e=.returned (.bool (ks.contains n))/\w=w':=by
 have HC:=hid hc;have R0:Hid (ND n ks (.int .i64 0)):=⟨0,jE3 _,rfl,by simp⟩;obtain ⟨V,hV⟩:∃ V,V=ks.contains n:=⟨_,rfl⟩;rw [<- hV];have HV:=hid hV;clear hc hV;go_enter Tryz.func161,Tryz.ntmps161;go_wp2
 go_loop [9] (fun i=>ND n ks i) (fun i=>ks.length-(intOf i).toNat)
 case atStart=>exact R0.out
 case round=>
  clear R0;obtain ⟨k,hk,rfl,hno⟩:=hrel;have HN:=hid hno;clear hno;by_cases hlt:k<ks.length
  ·obtain ⟨x,hx⟩:∃ x,ks[k]?=some x:=⟨_,jD6 hlt⟩;have hcell:=HC.out k x hx;have HT:Hid ((ks.take (k+1)).contains n=((ks.take k).contains n||(n==x))):=by
    show _=_;rw [jEk,hx,jDk];simp
   have HX:=hid hx;clear hx;cases hnx:(n==x)
   ·exact jg4
   ·have HE:Hid (V=true):=by
     show V=true;rw [HV.out,List.contains_iff_mem];have:n=x:=by simpa using hnx
     rw [this];exact jE4 HX.out
    exact NG
  ·exact U9
def jg5 (l:List aj) (ks:List Int) (vi:jGk):Prop:=∃ k:Nat,k<=l.length/\vi=.int .i64 k/\aj.cZ ks (l.take k)=false
theorem aj.Iu (ks:List Int):∀ (l m:List aj),aj.cZ ks (l++m)=(aj.cZ ks l||aj.cZ ks m)
 | [],m=>by rw [List.nil_append,aj.cZ];rfl
 | x::l,m=>by rw [List.cons_append,aj.cZ,aj.cZ,aj.Iu ks l m,Bool.or_assoc]
theorem aj.DR (ks:List Int) {l:List aj} {k:Nat} {x:aj} (hx:l[k]?=some x):aj.cZ ks (l.take (k+1))=(aj.cZ ks (l.take k)||x.KZ ks):=by rw [jEk,hx,aj.Iu,Option.toList_some,aj.cZ,aj.cZ,Bool.or_false]
theorem aj.Ak (ks:List Int):∀ {l:List aj} {k:Nat} {x:aj},l[k]?=some x->x.KZ ks=true->aj.cZ ks l=true
 | [],_,_,h,_=>by simp at h
 | y::l,0,x,h,hx=>by simp at h;subst h;rw [aj.cZ,hx];rfl
 | y::l,k+1,x,h,hx=>by rw [aj.cZ,aj.Ak ks (l:=l) (k:=k) (by simpa using h) hx,Bool.or_true]
theorem F8{P Q:Prop}(q:Q)(h:Nonempty Q->P:=by
 intro qQ;have hmx:=hs.max;unfold maxLen at hmx;have HS:=hid hs;have IH:=hid ih;revert hmx HS IH;exact qQ.elim fun x=>x):P:=h ⟨q⟩
theorem Al{P Q:Prop}(q:Q)(h:Nonempty Q->P:=by
 intro qQ;have HE:Hid (V=true):=by show V=true;rw [HV.out];exact HG.out (by rw [HX.out];rfl)
 revert HE;exact qQ.elim fun x=>x):P:=h ⟨q⟩
theorem vD (n:Nat):∀ (l:List aj) (ok:Nat->Prop) (v:Value) (ks:List Int) (g cap:Nat) (w:World),aj.aY l<=n->Rd ok w (bG l) [v]->ks.length<=1000->(∀ j k,ks[j]?=some k->w.cell? ⟨g,j,none⟩=some (.int .i64 k)) -> Calls Tryz.prog 203 #[v,.slice (some ⟨g,0,none⟩) ks.length cap] w fun e w'=>e=.returned (.bool (aj.cZ ks l))/\w=w':=by
 induction n using Nat.strongRecOn with
 | _ n ih=>
  intro l ok v ks g cap w hn hrd hks hc;obtain ⟨a,cp,hv,hs⟩:=Rd.ay hrd;obtain rfl:v=.slice a l.length cp:=by simpa using hv
  have hcap:l.length<=cp:=by simpa using hs.le
  refine F8 ?_;intro hmx HS IH;have HC:=hid hc;have OO:=hid (fun n=>lg n ks g cap w hks hc);have R0:Hid (jg5 l ks (.int .i64 0)):=⟨0,Nat.zero_le _,rfl,by rw [List.take_zero,aj.cZ]⟩;obtain ⟨V,hV⟩:∃ V,V=aj.cZ ks l:=⟨_,rfl⟩;rw [<- hV];have HV:=hid hV;clear hs hv hrd ih hc hV;go_enter Tryz.func203,Tryz.ntmps203;go_wp2
  go_loop [8] (fun i=>jg5 l ks i) (fun i=>l.length-(intOf i).toNat)
  case atStart=>exact R0.out
  case round=>
   clear R0;obtain ⟨k,hk,rfl,hno⟩:=hrel;have HN:=hid hno;clear hno;by_cases hlt:k<l.length
   ·obtain ⟨x,hx⟩:∃ x,l[k]?=some x:=⟨_,List.getElem?_eq_getElem hlt⟩;have hsn:=aj.DR ks hx;have HG:=hid (aj.Ak ks hx);obtain ⟨kd,t,d,ti,at_,ar,ci,kids⟩:=x;obtain ⟨b,off,vc,vp,va,vi,vk,rfl,hok,hbl,hcl,hR⟩:=L9 HS.out hx;obtain ⟨c0,-,-,-,-,-,-,-,-,c9⟩:=hcl;have hsz:=aj.bE l k _ hx;rw [aj.sz] at hsz;have AK:=hid (IH.out (aj.aY kids) (by omega) kids ok vk ks g cap w (Nat.le_refl _) hR.kids hks HC.out);obtain ⟨ak,nk,ck,rfl⟩:=Rd.zK hR.kids;have OK:=hid (OO.out kd);have HX:Hid ((aj.mk kd t d ti at_ ar ci kids).KZ ks=(ks.contains kd||aj.cZ ks kids)):=by show _=_;rw [aj.KZ]
    have gV:=hid hsn;clear hx hR hsn;cases h1:ks.contains kd with
    | true=>
     rw [h1] at OK HX;refine Al ?_;intro HE;clear h1;go_wp2_with fail
     refine OK.out.mono ?_;rintro e w1 ⟨rfl,rfl⟩;exact NG
    | false=>
     rw [h1] at OK HX;cases h2:aj.cZ ks kids with
     | true=>
      rw [h2] at AK HX;refine Al ?_;intro HE;clear h1 h2;go_wp2_with fail
      refine OK.out.mono ?_;rintro e w1 ⟨rfl,rfl⟩;go_wp2_with fail
      refine AK.out.mono ?_;rintro e w1 ⟨rfl,rfl⟩;exact NG
     | false=>
      rw [h2] at AK HX;clear h1 h2;go_wp2_with fail
      refine OK.out.mono ?_;rintro e w1 ⟨rfl,rfl⟩;go_wp2_with fail
      refine AK.out.mono ?_;rintro e w1 ⟨rfl,rfl⟩;go_wp2
      go_round
      case rel=>exact ⟨k+1,by omega,by go_num,by rw [gV.out,HN.out,HX.out];rfl⟩
      case measure=>simp [intOf];omega
   ·exact U9
open Go.RowKit
theorem nO (l:List ByteArray) (x:ByteArray):dS l.reverse x=dS l x:=by rw [Bool.eq_iff_iff,xZ,xZ,List.mem_reverse]
theorem fA.cleared {w:World} {b n:Nat} {S:List ByteArray} (h:fA w b n S) (ty:TypeId) : ∃ w',(Builtin.clear_ #[127] ty #[.map (some b)]).run Tryz.prog w=.ok (.tuple #[]) w'/\fA w' b 0 []/\w.grownBy w' (some b):=by
 obtain ⟨D,⟨es,clock,hb,F,hsz,hD⟩,hat⟩:=h;have hr:∃ clock',(Builtin.clear_ #[127] ty #[.map (some b)]).run Tryz.prog w=.ok (.tuple #[]) { w with heap:=w.heap.setIfInBounds b (.map #[] clock') }:=by refine ⟨clock,?_⟩;simp [Builtin.clear_,run_underlying Tryz.underlying127,MapKept.run_getObj_map hb,MapKept.run_setObj_map _ hb,Result.andThen]
 obtain ⟨clock',hrun⟩:=hr;have hs:=MapKept.heap_set (o':=.map #[] clock') hb;refine ⟨_,hrun,⟨.map [],⟨#[],clock',hs.1,⟨by simp,MapKept.stamped_empty clock',by simp⟩,Nat.le_refl _,rfl⟩,fun s=>rfl⟩,rfl,rfl,rfl,?_,fun i _ hne=>hs.2 i (fun e=>hne (by rw [e]))⟩;simp
def Qc (T:TypeId) (p:Nat) (cs:List Value) (w:World) (mb n:Nat) (S:List ByteArray) (wr:World):Prop:=CB T p cs wr/\fA wr mb n S/\Below w.heap.size w wr/\w.heap.size<=mb/\p≠mb/\w.heap.size<=p
theorem Qc.put {T:TypeId} {p:Nat} {cs:List Value} {w:World} {mb n n':Nat} {S S':List ByteArray} {wr w':World} (h:Qc T p cs w mb n S wr) (hg:wr.grownBy w' (some mb)) (hs:fA w' mb n' S'):Qc T p cs w mb n' S' w':=
 ⟨(hg.block p h.1.lt (fun e=>h.2.2.2.2.1 (by injection e))).trans h.1,hs,h.2.2.1.grown hg h.2.2.1.size (fun j hj=>by cases hj;exact h.2.2.2.1),h.2.2.2⟩
theorem Qc.alloc {T:TypeId} {p:Nat} {cs:List Value} {w:World} {mb n:Nat} {S:List ByteArray} {wr:World} (h:Qc T p cs w mb n S wr) (o:Obj):Qc T p cs w mb n S (wr.alloc o):=
 ⟨h.1.below ((Below.refl _ _).alloc (Nat.le_refl _) _),h.2.1.below ((Below.refl _ _).alloc (Nat.le_refl _) _),h.2.2.1.alloc h.2.2.1.size _,h.2.2.2⟩
theorem Qc.drewN {T:TypeId} {p:Nat} {cs:List Value} {w:World} {mb n:Nat} {S:List ByteArray} {wr:World} (h:Qc T p cs w mb n S wr) (q:Nat):Qc T p cs w mb n S (wr.drewN q):=
 ⟨h.1,h.2.1,iR h.2.2.1 q,h.2.2.2⟩
def Va (T:TypeId) (p:Nat) (cs:List Value) (w:World) (mb:Nat) (l:List ByteArray) (E:Nat) (vi:Value) (wr:World):Prop:=
 ∃ k:Nat,k<=l.length/\vi=.int .i64 k/\Qc T p cs w mb k (l.take k).reverse wr/\uz (l.take k) (l.drop k)=E
def Vb (T:TypeId) (p:Nat) (cs:List Value) (w:World) (mb:Nat) (l:List Pr) (E:Nat) (vi:Value) (wr:World):Prop:=
 ∃ k:Nat,k<=l.length/\vi=.int .i64 k/\Qc T p cs w mb k ((l.take k).map Pr.key).reverse wr/\uH ((l.take k).map Pr.key) (l.drop k)=E
theorem QS{P:Prop}(h:P:=by
 go_wp2;go_roundw;case rel=>exact ⟨k+1,by omega,by go_num,by rw [Wi.out,List.reverse_append];exact HN'.out,Oe.out⟩
 case measure=>simp [intOf];omega):P:=h
theorem Zf{P:Prop}(h:P:=by
 rw [<- hwi];clear hwi Ja;go_wp2_with fail
 refine (CN.out _).mono ?_;rintro e w3 ⟨rfl,rfl⟩;go_wp2_with fail
 refine (CV.out _).mono ?_;rintro e w3 ⟨rfl,q,rfl⟩;go_wp2;go_ret;exact ⟨by rw [HV.out];rfl,iR HEI.out.2.2.1 q⟩):P:=h
theorem QO{P:Prop}(h:P:=by
 go_wp2;go_ret;exact ⟨by rw [HV.out];rfl,iR HEI.out.2.2.1 q⟩):P:=h
theorem jg6{P Q:Prop}(q:Q)(h:Nonempty Q->P:=by
 intro qQ;have Oe:Hid (uH ((aD.take (k+1)).map Pr.key) (aD.drop (k+1))=E2):=by show _=_;have:=bX.out;rw [uH,if_neg (by rw [hn];decide),if_neg (by rw [hln];decide),if_neg (by rw [hb];decide)] at this;rw [Wi.out];exact this
 revert Oe;exact qQ.elim fun x=>x):P:=h ⟨q⟩
theorem Ze{P:Prop}(h:P:=by
 rw [<- hwi];clear hwi Ja;go_wp2_with fail
 refine (CN.out _).mono ?_;rintro e w3 ⟨rfl,rfl⟩;go_wp2;go_ret;exact ⟨by rw [HV.out];rfl,HEI.out.2.2.1⟩):P:=h
theorem jg7{P:Prop}(h:P:=by
 show V=7;have:=bX.out;rw [uH,if_neg (by rw [hn];decide),if_neg (by rw [hln];decide),if_pos hb] at this;rw [HE2.out,Li.out,<- this];rfl):P:=h
theorem jg8{P:Prop}(h:P:=by
 go_wp2_with fail
 refine (CN.out _).mono ?_;rintro e w3 ⟨rfl,rfl⟩;go_wp2;go_ret;exact ⟨by rw [HV.out];rfl,Zd.out.2.2.1⟩):P:=h
theorem jg9{P:Prop}(h:P:=by
 show V=17;have:=bX.out;rw [uH,if_neg (by rw [hn];decide),if_pos hln] at this;rw [HE2.out,Li.out,<- this];rfl):P:=h
theorem gW (a:At) (ac ap:Option Addr) (cc cp:Nat) (w:jG9) (h:AtR (·<w.heap.size) w a (.slice ac a.cls.length cc) (.slice ap a.aD.length cp)) (hs:a.short) : Calls Tryz.prog 95 #[.agg #[.string a.id,.slice ac a.cls.length cc,.slice ap a.aD.length cp]] w (eX (.int .i64 (a.err:Nat)) w):=by
 obtain ⟨sc,sp,si,sca,spa⟩:=hs;obtain ⟨id,cls,aD⟩:=a;dsimp only at sc sp si sca spa h ⊢;obtain ⟨a1,c1,hv1,hs1⟩:=Rd.ay h.cls;obtain ⟨rfl,rfl⟩:a1=ac/\c1=cc:=by simp at hv1;exact ⟨hv1.1.symm,hv1.2.symm⟩
 obtain ⟨a2,c2,hv2,hs2⟩:=Rd.ay h.aD;obtain ⟨rfl,rfl⟩:a2=ap/\c2=cp:=by simp at hv2;exact ⟨hv2.1.symm,hv2.2.symm⟩
 have l1:cls.length<=c1:=by simpa using hs1.le
 have l2:aD.length<=c2:=by simpa using hs2.le
 have m1:=hs1.max;have m2:=hs2.max;unfold maxLen at m1 m2;have H1:=hid hs1;have H2:=hid hs2;have SC:=hid sca;have SP:=hid spa;have NI:=hid (fun w=>P9 id w (by omega));have HE:Hid (At.err ⟨id,cls,aD⟩=if aW id=false/\dZ id=false then 6 else if uz [] cls≠0 then uz [] cls else if uH [] aD≠0 then uH [] aD else if 32<cls.length\/32<aD.length then 3 else 0):=rfl;obtain ⟨V,hV⟩:∃ V,V=At.err ⟨id,cls,aD⟩:=⟨_,rfl⟩;rw [<- hV] at HE ⊢;clear hV sca spa hs1 hs2 hv1 hv2 h;by_cases hbad:aW id=false/\dZ id=false
 ·have HV:Hid (V=6):=by show V=6;rw [HE.out,if_pos hbad]
  rw [hbad.2] at NI;have hie:id.toList.isEmpty=false:=by rw [oN];exact hbad.1
  clear hbad HE;go_enter Tryz.func95,Tryz.ntmps95;go_wp2_with (go_at_call 52;refine (NI.out _).mono ?_;rintro e w1 ⟨rfl,rfl⟩)
  exact U8
 have hgood:id.toList.isEmpty=true\/(id.toList.isEmpty=false/\dZ id=true):=by
  rw [oN];cases h1:aW id
  ·right;refine ⟨rfl,?_⟩;cases h2:dZ id
   ·exact absurd ⟨h1,h2⟩ hbad
   ·rfl
  ·left;rfl
 have HE2:Hid (V=if uz [] cls≠0 then uz [] cls else if uH [] aD≠0 then uH [] aD else if 32<cls.length\/32<aD.length then 3 else 0):=by show V=_;rw [HE.out,if_neg hbad]
 obtain ⟨w1,hw1⟩:∃ w1,w1=(w.alloc (.cells #[.string id,.slice a1 cls.length c1,.slice a2 aD.length c2] 45)).alloc (.map #[] 0):=⟨_,rfl⟩;have R0:Hid (Va 45 w.heap.size [.string id,.slice a1 cls.length c1,.slice a2 aD.length c2] w (w.heap.size+1) cls (uz [] cls) (.int .i64 0) w1):=by
  refine ⟨0,jE3 _,rfl,⟨?_,?_,?_,by omega,by omega,jD8 _⟩,rfl⟩
  ·rw [hw1];exact (CB.new _ _ w).below ((jD7 _ _).alloc (jD8 _) _)
  ·rw [hw1];have:=fA.made (w.alloc (.cells #[.string id,.slice a1 cls.length c1,.slice a2 aD.length c2] 45))
   rwa [World.size_alloc] at this
  ·rw [hw1];exact ((jD7 _ _).alloc (jD8 _) _).alloc (by simp) _
 have HW1:=hid hw1;obtain ⟨E1,hE1⟩:∃ E1,E1=uz [] cls:=⟨_,rfl⟩;obtain ⟨E2,hE2⟩:∃ E2,E2=uH [] aD:=⟨_,rfl⟩;rw [<- hE1] at HE2 R0;rw [<- hE2] at HE2;have jp0:=hid hE2;clear hbad HE hw1 hE1 hE2;have hmm:=@run_makeMap Tryz.prog;rcases hgood with hie | ⟨hie,hnm⟩
 case' inl=>
  clear NI;go_enter Tryz.func95,Tryz.ntmps95;go_wp2;rw [<- HW1.out];clear hmm
 case' inr=>
  rw [hnm] at NI;clear hnm;go_enter Tryz.func95,Tryz.ntmps95;go_wp2_with (go_at_call 52;refine (NI.out _).mono ?_;rintro e w1 ⟨rfl,rfl⟩)
  rw [<- HW1.out];clear hmm
 all_goals
  go_loopw [21] (fun i wr=>Va 45 w.heap.size [.string id,.slice a1 cls.length c1,.slice a2 aD.length c2] w (w.heap.size+1) cls E1 i wr) (fun i _=>cls.length-(intOf i).toNat)
  case atStart=>exact R0.out
  case round=>
   clear R0;obtain ⟨k,hk,rfl,uq,bq⟩:=hrel;have Zd:=hid uq;by_cases hlt:k<cls.length
   ·obtain ⟨x,hx⟩:∃ x,cls[k]?=some x:=⟨_,jD6 hlt⟩;obtain ⟨b,off,rfl,-,-,c0⟩:=jf H1.out hx;have c0:wr.cell? ⟨b,off+k,none⟩=some (.string x):=by rw [uq.2.2.1.cell (p:=⟨b,off+k,none⟩) (qw c0)];exact c0
    have hxs:=SC.out x (jE4 hx);have CN:=hid (fun w=>P9 x w (by omega));have hlk:=uq.2.1.look x (by unfold maxLen;omega);obtain ⟨w',hup,hS',hg⟩:=uq.2.1.put x (by unfold maxLen;omega) (by unfold maxLen;omega);have HN':=hid (uq.put hg hS');rw [nO] at hlk;rw [I9 cls k x hx,uz] at bq;have Wi:Hid (cls.take (k+1)=cls.take k++[x]):=by show _=_;rw [jEk,hx];rfl
    have bX:=hid bq;clear bq hS' hg uq hx;cases hn:dZ x with
    | false=>
     rw [hn] at CN;have HV:Hid (V=6):=by show V=6;have:=bX.out;rw [if_pos hn] at this;rw [HE2.out,<- this];rfl
     clear hn hup;exact jg8
    | true=>
     rw [hn] at CN;cases hb:dS (cls.take k) x with
     | true=>
      rw [hb] at hlk;have HV:Hid (V=7):=by show V=7;have:=bX.out;rw [if_neg (by rw [hn];decide),if_pos hb] at this;rw [HE2.out,<- this];rfl
      clear hn hb hup;exact jg8
     | false=>
      rw [hb] at hlk;have Oe:Hid (uz (cls.take (k+1)) (cls.drop (k+1))=E1):=by show _=_;have:=bX.out;rw [if_neg (by rw [hn];decide),if_neg (by rw [hb];decide)] at this;rw [Wi.out];exact this
      clear hn hb;go_wp2_with fail
      refine (CN.out _).mono ?_;rintro e w3 ⟨rfl,rfl⟩;exact QS
   ·obtain rfl:k=cls.length:=by omega
    have Li:Hid (E1=0):=by show E1=0;rw [List.drop_length,uz] at bq;exact bq.symm
    obtain ⟨w2,hcl,hS2,hg2⟩:∃ w2,(∀ ty,(Builtin.clear_ #[127] ty #[.map (some (w.heap.size+1))]).run Tryz.prog wr=.ok (.tuple #[]) w2)/\fA w2 (w.heap.size+1) 0 []/\wr.grownBy w2 (some (w.heap.size+1)):=by obtain ⟨w2,h1,h2,h3⟩:=uq.2.1.cleared 0;exact ⟨w2,fun ty=>h1,h2,h3⟩
    have R2:Hid (Vb 45 w.heap.size [.string id,.slice a1 cls.length c1,.slice a2 aD.length c2] w (w.heap.size+1) aD E2 (.int .i64 0) w2):=⟨0,jE3 _,rfl,uq.put hg2 hS2,jp0.out.symm⟩;have p2:w2.cell? ⟨w.heap.size,2,none⟩=some (.slice a2 aD.length c2):=(uq.put hg2 hS2).1.cell 2 _ rfl;clear bq uq Zd hS2 hg2 hk hlt;go_wp2
    go_loopw [38] (fun i wr=>Vb 45 w.heap.size [.string id,.slice a1 cls.length c1,.slice a2 aD.length c2] w (w.heap.size+1) aD E2 i wr) (fun i _=>aD.length-(intOf i).toNat)
    case atStart=>exact R2.out
    case round=>
     clear R2 hcl p2;obtain ⟨k,hk,rfl,uq,bq⟩:=hrel;have Zd:=hid uq;by_cases hlt:k<aD.length
     ·obtain ⟨x,hx⟩:∃ x,aD[k]?=some x:=⟨_,jD6 hlt⟩;obtain ⟨b,off,rfl,-,-,c0,c1'⟩:=lU H2.out hx;have c0:wr.cell? ⟨b,off+k*2,none⟩=some (.string x.key):=by rw [uq.2.2.1.cell (p:=⟨b,off+k*2,none⟩) (qw c0)];exact c0
      have c1':wr.cell? ⟨b,off+k*2+1,none⟩=some (.string x.val):=by rw [uq.2.2.1.cell (p:=⟨b,off+k*2+1,none⟩) (qw c1')];exact c1'
      have hxs:=SP.out x (jE4 hx);have HX:=hid hx;have bX:Hid (uH ((aD.take k).map Pr.key) (x::aD.drop (k+1))=E2):=by show _=_;rw [<- I9 aD k x hx];exact bq
      obtain ⟨key,val⟩:=x;dsimp only at c0 c1' hxs;have CN:=hid (fun w=>P9 key w (by omega));have CV:=hid (fun w=>Du val w (by omega));have Wi:Hid ((aD.take (k+1)).map Pr.key=(aD.take k).map Pr.key++[key]):=by show _=_;rw [jEk,HX.out];simp
      obtain ⟨wi,hwi⟩:∃ wi,wi=wr.alloc (.cells #[.string key,.string val] 61):=⟨_,rfl⟩;have Ja:=uq.alloc (.cells #[.string key,.string val] 61);rw [<- hwi] at Ja;have i0:wi.cell? ⟨wr.heap.size,0,none⟩=some (.string key):=by rw [hwi];exact F5 wr [.string key,.string val] _ 0 _ rfl
      have i1:wi.cell? ⟨wr.heap.size,1,none⟩=some (.string val):=by rw [hwi];exact F5 wr [.string key,.string val] _ 1 _ rfl
      have HEI:=hid Ja;clear bq uq hx;cases hn:dZ key with
      | false=>
       rw [hn] at CN;have HV:Hid (V=6):=by show V=6;have:=bX.out;rw [uH,if_pos hn] at this;rw [HE2.out,Li.out,<- this];rfl
       clear hn;go_upto_region 17 with (fail)
       exact Ze
      | true=>
       rw [hn] at CN;cases hln:dG val with
       | false=>
        rw [hln] at CV;have HV:Hid (V=17):=by exact jg9
        clear hn hln;go_upto_region 17 with (fail)
        exact Zf
       | true=>
        rw [hln] at CV;have HLK:=hid (fun q=>(Ja.drewN q).2.1.look key (by unfold maxLen;omega));have jk2:=hid (fun q=>(Ja.drewN q).2.1.put key (by unfold maxLen;omega) (by unfold maxLen;omega));cases hb:dS ((aD.take k).map Pr.key) key with
        | true=>
         have HV:Hid (V=7):=by exact jg7
         have HB:=hid hb;clear hn hln hb;go_upto_region 17 with (fail)
         rw [<- hwi];clear hwi Ja;go_wp2_with fail
         refine (CN.out _).mono ?_;rintro e w3 ⟨rfl,rfl⟩;go_wp2_with fail
         refine (CV.out _).mono ?_;rintro e w3 ⟨rfl,q,rfl⟩;have hlk:=HLK.out q;rw [nO,HB.out] at hlk;exact QO
        | false=>
         refine jg6 ?_;intro Oe;have HB:=hid hb;clear hn hln hb;go_upto_region 17 with (fail)
         rw [<- hwi];clear hwi Ja;go_wp2_with fail
         refine (CN.out _).mono ?_;rintro e w3 ⟨rfl,rfl⟩;go_wp2_with fail
         refine (CV.out _).mono ?_;rintro e w3 ⟨rfl,q,rfl⟩;have hlk:=HLK.out q;rw [nO,HB.out] at hlk;obtain ⟨w',hup,hS',hg⟩:=jk2.out q;have HN':=hid ((HEI.out.drewN q).put hg hS');clear hS' hg;exact QS
     ·obtain rfl:k=aD.length:=by omega
      have HV:Hid (V=if 32<cls.length\/32<aD.length then 3 else 0):=by show V=_;rw [List.drop_length,uH] at bq;rw [HE2.out,Li.out,<- bq];rfl
      have p1:wr.cell? ⟨w.heap.size,1,none⟩=some (.slice a1 cls.length c1):=uq.1.cell 1 _ rfl;have p2:wr.cell? ⟨w.heap.size,2,none⟩=some (.slice a2 aD.length c2):=uq.1.cell 2 _ rfl;clear bq uq hk hlt;by_cases h1:32<cls.length
      ·have q1:decide ((32:Int)<(cls.length:Int))=true:=by simp;omega
       go_wp2;go_ret;exact ⟨by rw [HV.out,if_pos (.inl h1)];rfl,Zd.out.2.2.1⟩
      ·have q1:decide ((32:Int)<(cls.length:Int))=false:=by simp;omega
       by_cases h2:32<aD.length
       ·have q2:decide ((32:Int)<(aD.length:Int))=true:=by simp;omega
        go_wp2;go_ret;exact ⟨by rw [HV.out,if_pos (.inr h2)];rfl,Zd.out.2.2.1⟩
       ·have q2:decide ((32:Int)<(aD.length:Int))=false:=by simp;omega
        go_wp2;go_ret;exact ⟨by rw [HV.out,if_neg (by omega)];rfl,Zd.out.2.2.1⟩
open Go.RowKit
theorem aj.Vd (l:List aj) (k:Nat) (x:aj) (h:l[k]?=some x):aj.aY (l.take k)+x.sz<=aj.aY l:=by
 have h1:aj.aY (l.take (k+1))<=aj.aY l:=by have:=aj.EU (l.take (k+1)) (l.drop (k+1));rw [List.take_append_drop] at this;omega
 rw [aj.sZ h] at h1;exact h1
theorem ah.Py (l:List ah) (k:Nat) (x:ah) (h:l[k]?=some x):ah.dA (l.take k)+x.all<=ah.dA l:=by
 have h1:ah.dA (l.take (k+1))<=ah.dA l:=by have:=ah.Iw (l.take (k+1)) (l.drop (k+1));rw [List.take_append_drop] at this;omega
 rw [ah.uT h] at h1;exact h1
theorem ah.Yz (x:ah):1<=x.all:=by cases x;rw [ah.all];omega
theorem ah.NH:∀ (l:List ah),l.length<=ah.dA l
 | []=>by simp
 | x::l=>by have:=ah.NH l;have:=x.Yz;rw [ah.dA];simp;omega
theorem jz6 {P:Program} {f:FuncId} {args:Array jGk} {w:jG9} {a n:Nat} {v:jGk} (h:Calls P f args (w.drewN (a+n)) fun e w'=>e=.returned v/\w.drewN (a+n)=w') : Calls P f args (w.drewN (a+n)) fun e w''=>e=.returned v/\∃ m,w''=w.drewN (a+m):=h.mono fun _ _ ⟨he,hm⟩=>⟨he,n,hm.symm⟩
theorem jz7 {P:Program} {f:FuncId} {args:Array jGk} {w:jG9} {a n:Nat} {v:jGk} (h:Calls P f args (w.drewN (a+n)) (Dr v (w.drewN (a+n)))) : Calls P f args (w.drewN (a+n)) fun e w''=>e=.returned v/\∃ m,w''=w.drewN (a+m):=h.mono fun _ _ ⟨he,m,hm⟩=>⟨he,n+m,by rw [hm,World.drewN_drewN,Nat.add_assoc]⟩
def jgj (l:List aj) (vn vi:jGk):Prop:=∃ k n:Nat,k<=l.length/\vi=.int .i64 k/\vn=.int .i64 n/\n=aj.aY (l.take k)+(l.length-k)
def jgk (l:List ah) (w:jG9) (vn vi:jGk) (wr:jG9):Prop:=∃ k n q:Nat,k<=l.length/\vi=.int .i64 k/\vn=.int .i64 n/\n=ah.dA (l.take k)+(l.length-k)/\wr=w.drewN q
theorem Am (n:Nat):∀ (l:List aj) (ok:Nat->Prop) (v:jGk) (w:jG9),aj.aY l<=n->n<=1000000->Rd ok w (bG l) [v] -> Calls Tryz.prog 186 #[v] w fun e w'=>e=.returned (.int .i64 (aj.aY l:Nat))/\w=w':=by
 induction n using Nat.strongRecOn with
 | _ n ih=>
  intro l ok v w hn hnm h1;obtain ⟨a,cap,hv,hs⟩:=Rd.ay h1;obtain rfl:v=.slice a l.length cap:=by simpa using hv
  refine vP ?_;intro hcap hmx HS;have IH:=hid ih;have R0:Hid (jgj l (.int .i64 (l.length:Int)) (.int .i64 0)):=⟨0,l.length,jE3 _,rfl,rfl,by rw [List.take_zero,aj.aY];simp⟩;clear hs hv h1 ih;go_enter Tryz.func186,Tryz.ntmps186;go_wp2
  go_loop [3,9] (fun vn vi=>jgj l vn vi) (fun _ i=>l.length-(intOf i).toNat)
  case atStart=>exact R0.out
  case round=>
   clear R0;obtain ⟨k,m,hk,rfl,rfl,hm⟩:=hrel;by_cases hlt:k<l.length
   ·refine iX ?_;intro x hx;have hsz:=aj.Vd l k _ hx;have hsn:=aj.sZ hx;obtain ⟨kd,t,d,ti,at_,ar,ci,ks⟩:=x;obtain ⟨g,off,vc,vp,va,vi,vk,rfl,hok,hbl,hc,hR⟩:=L9 HS.out hx;rw [aj.sz] at hsz hsn;obtain ⟨ak,nk,ck,rfl⟩:=Rd.zK hR.kids;have p9:=hc.c9;have CK:=hid (IH.out (aj.aY ks) (by omega) ks ok (.slice ak nk ck) w (jD8 _) (by omega) hR.kids);have HM:Hid (m+aj.aY ks=aj.aY (l.take (k+1))+(l.length-(k+1))):=by show _=_;omega
    have hlm:l.length-k<=1000000:=by have:=aj.fF l;omega
    have hmb:m+aj.aY ks<=3000000:=by omega
    generalize aj.aY ks=K at *;clear hc hR hx hm hsn hsz hlm;go_wp2_with fail
    refine CK.out.mono ?_;rintro e w1 ⟨rfl,rfl⟩;go_wp2
    go_round
    case rel=>exact ⟨k+1,m+K,by omega,by go_num,by go_num,HM.out⟩
    case measure=>simp [intOf];omega
   ·obtain rfl:k=l.length:=by omega
    have hv:m=aj.aY l:=by rw [hm,List.take_length];omega
    have HV:=hid hv;clear hv hm;go_wp2;go_ret;exact ⟨by rw [<- HV.out];rfl,rfl⟩
theorem uU (n:Nat):∀ (l:List ah) (ok:Nat->Prop) (v:jGk) (w:jG9),ah.dA l<=n->n<=1000000->Rd ok w (nN l) [v] -> Calls Tryz.prog 146 #[v] w (Dr (.int .i64 (ah.dA l:Nat)) w):=by
 induction n using Nat.strongRecOn with
 | _ n ih=>
  intro l ok v w hn hnm h1;obtain ⟨a,cap,hv,hs⟩:=Rd.ay h1;obtain rfl:v=.slice a l.length cap:=by simpa using hv
  refine vP ?_;intro hcap hmx HS;have IH:=hid ih;have R0:Hid (jgk l w (.int .i64 (l.length:Int)) (.int .i64 0) w):=⟨0,l.length,0,jE3 _,rfl,rfl,by rw [List.take_zero,ah.dA];simp,rfl⟩;clear hs hv h1 ih;go_enter Tryz.func146,Tryz.ntmps146;go_wp2
  go_loopw [3,9] (fun vn vi wr=>jgk l w vn vi wr) (fun _ i _=>l.length-(intOf i).toNat)
  case atStart=>exact R0.out
  case round=>
   clear R0;obtain ⟨k,m,q,hk,rfl,rfl,hm,rfl⟩:=hrel;by_cases hlt:k<l.length
   ·refine iX ?_;intro x hx;have hsz:=ah.Py l k _ hx;have hsn:=ah.uT hx;obtain ⟨kd,lv,i,t,d,ti,at_,li,ks⟩:=x;obtain ⟨g,off,vc,vp,vl,vk,rfl,hok,hbl,hc,hR⟩:=Gr HS.out hx;rw [ah.all] at hsz hsn;obtain ⟨ak,nk,ck,rfl⟩:=Rd.zK hR.kids;obtain ⟨al,nl,cl,rfl⟩:=Rd.zK hR.line;have p9:=hc.c9;have sj:=hc.c10;have hst:∀ q,vM ok ok w (w.drewN q):=fun q b h _=>⟨h,rfl⟩
    have CL:=hid (fun q=>Am _ li ok (.slice al nl cl) (w.drewN q) (jD8 _) (by omega) (Rd.keep (hst q) _ _ hR.line));have CK:=hid (fun q=>IH.out (ah.dA ks) (by omega) ks ok (.slice ak nk ck) (w.drewN q) (jD8 _) (by omega) (Rd.keep (hst q) _ _ hR.kids));have HM:Hid (m+(aj.aY li+ah.dA ks)=ah.dA (l.take (k+1))+(l.length-(k+1))):=by show _=_;omega
    have hlm:l.length-k<=1000000:=by have:=ah.NH l;omega
    have hmb:m+(aj.aY li+ah.dA ks)<=3000000:=by omega
    generalize aj.aY li=L at *;generalize ah.dA ks=K at *;have s1:IntKind.i64.wrap ((L:Int)+(K:Int))=(L:Int)+(K:Int):=ji (by omega) (by omega);have s2:IntKind.i64.wrap ((m:Int)+((L:Int)+(K:Int)))=(m:Int)+((L:Int)+(K:Int)):=ji (by omega) (by omega);clear hc hR hx hm hsn hsz hlm hst;go_wp2_with fail
    go_quiet ((first | (go_at_call 186;exact jz6 (CL.out _)) | (go_at_call 146;exact jz7 (CK.out _))))
    clear s1 s2;go_wp2;go_roundw;case rel=>exact ⟨k+1,m+(L+K),_,by omega,by go_num,by go_num,HM.out,rfl⟩
    case measure=>simp [intOf];omega
   ·obtain rfl:k=l.length:=by omega
    have hv:m=ah.dA l:=by rw [hm,List.take_length];omega
    have HV:=hid hv;clear hv hm;go_wp2;go_ret;exact ⟨by rw [<- HV.out];rfl,q,rfl⟩
open Go.RowKit
theorem Od (l:List ah) (am ab:Option Addr) (nm cm nb cb:Nat) (w:jG9) (hn:ah.dA l<=1000000) (h:Rd (·<w.heap.size) w (nN l) [.slice ab nb cb]) : Calls Tryz.prog 92 #[.agg #[.slice am nm cm,.slice ab nb cb]] w (eX (.int .i64 (ah.dA l:Nat)) w):=by
 have hb0:Below w.heap.size w (w.alloc (.cells #[.slice am nm cm,.slice ab nb cb] 26)):=(jD7 _ _).alloc (jD8 _) _;have SZ:=hid (uU _ l _ _ _ (jD8 _) hn (h.up hb0));have HB:=hid hb0;generalize ah.dA l=N at *;clear h hb0;go_enter Tryz.func92,Tryz.ntmps92;go_wp2_with fail
 refine SZ.out.mono ?_;rintro e w1 ⟨rfl,q,rfl⟩;go_wp2;go_ret;exact ⟨rfl,iR HB.out q⟩
open Go.RowKit
def Ve (c:Nat):Bool:=decide (c=10)||(decide (32<=c)&&!decide (c=127))
theorem Lj (c:Nat) (w:jG9) (hc:c<=1114111) : Calls Tryz.prog 108 #[.int .i64 (c:Int)] w fun e w'=>e=.returned (.bool (Ve c))/\w=w':=by
 go_enter Tryz.func108,Tryz.ntmps108;go_wp2;all_goals
  go_ret;refine ⟨wF ?_,rfl⟩;unfold Ve
  (try simp only [beq_iff_eq,beq_eq_false_iff_ne,ne_eq,bne_iff_ne,bne_eq_false_iff_eq] at *)
  rw [jDk];simp;omega
theorem Ll (c:Nat) (w:jG9) (hc:c<=1114111) : Calls Tryz.prog 219 #[.int .i64 (c:Int)] w fun e w'=>e=.returned (.bool (D8 c))/\w=w':=by
 go_enter Tryz.func219,Tryz.ntmps219;go_wp2;all_goals
  go_ret;refine ⟨wF ?_,rfl⟩;unfold D8
  (try unfold nI)
  rw [jDk];simp;omega
theorem jgq (a b:Nat):decide (a=b)=((a:Int)==(b:Int)):=by rw [jDk];simp;omega
theorem YA (a b:Nat):uS (a,b)=(Ve a&&!(((a:Int)==65533)&&((b:Int)==1))):=by unfold uS Ve;rw [jgq a 65533,jgq b 1];rfl
theorem Pz {w1:jG9} {B:Nat} {v1:jGk} {ps:List (Nat × Nat)} (ho1:w1.ownsRow B 138 2 v1 ps.length (mD ps).flatten) : ∃ a cap,v1=.slice a ps.length cap/\ps.length<=cap/\cap<=maxLen/\(0<ps.length->∃ b,a=some ⟨b,0,none⟩/\b<w1.heap.size/\∀ k p,ps[k]?=some p->w1.cell? ⟨b,k*2,none⟩=some (.int .i64 (p.1:Int))/\w1.cell? ⟨b,k*2+1,none⟩=some (.int .i64 (p.2:Int))):=by exact jf2
theorem Vf {α:Type} (f:α->Bool) {l:List α} {k:Nat} {x:α} (h:l[k]?=some x):(l.take (k+1)).all f=((l.take k).all f&&f x):=by rw [jEk,h];simp
theorem jp2 {α:Type} (f:α->Bool) {l:List α} {k:Nat} {x:α} (h:l[k]?=some x) (hf:f x=false):l.all f=false:=by rw [List.all_eq_false];exact ⟨x,jE4 h,by rw [hf];decide⟩
def jux (w1 wr:jG9) (ps:List (Nat × Nat)) (vi:jGk):Prop:=∃ k:Nat,k<=ps.length/\vi=.int .i64 k/\(ps.take k).all uS=true/\Below w1.heap.size w1 wr
theorem jgx{P:Prop}(h:P:=by
 clear hcl;go_wp2_with fail
 refine (CC.out _).mono ?_;rintro e w2 ⟨rfl,rfl⟩;go_wp2;go_roundw;case rel=>exact ⟨k+1,by omega,by go_num,by rw [gV.out,HA.out,UH.out];rfl,HB.out.alloc HB.out.size _⟩
 case measure=>simp [intOf];omega):P:=h
theorem jgz{P:Prop}(h:P:=by
 have HE:Hid (V=false):=Js.out UH.out;clear hcl;go_wp2_with fail
 refine (CC.out _).mono ?_;rintro e w2 ⟨rfl,rfl⟩;go_wp2;go_ret;exact ⟨by rw [HE.out];rfl,q01 B1.out (HB.out.alloc HB.out.size _)⟩):P:=h
theorem Lm (s:ByteArray) (w:jG9) (hs:s.size<=10000000000) : Calls Tryz.prog 64 #[.string s] w (eX (.bool (dM s)) w):=by
 have PO:=hid (wo s w (by omega));obtain ⟨V,hV⟩:∃ V,V=dM s:=⟨_,rfl⟩;rw [<- hV];have HV:Hid (V=(pts s).all uS):=hV;have hpl:(pts s).length<=s.size:=by have:=Ik s s.size 0;unfold pts;simpa using this
 have WW:=hid (xB s s.size 0);change Hid (∀ p∈pts s,p.1<=1114111) at WW;clear hV;generalize pts s=ps at *;go_enter Tryz.func64,Tryz.ntmps64;go_wp2_with fail
 refine PO.out.mono ?_;rintro e w1 ⟨v1,rfl,ho1,b1⟩;obtain ⟨a,cap,rfl,hcap,hmx,hcs⟩:=Pz ho1;have I8:=hid hcs;have B1:=hid b1;have HZ:Hid ((ps.take 0).all uS=true):=rfl;clear hcs ho1 PO b1;unfold maxLen at hmx;go_wp2
 go_loopw [8] (fun vi wr=>jux w1 wr ps vi) (fun i _=>ps.length-(intOf i).toNat)
 case atStart=>exact ⟨0,jE3 _,rfl,HZ.out,jD7 _ _⟩
 case round=>
  obtain ⟨k,hk,rfl,hall,hbel⟩:=hrel;have HA:=hid hall;have HB:=hid hbel;clear hall;by_cases hlt:k<ps.length
  ·obtain ⟨p,hp⟩:∃ p,ps[k]?=some p:=⟨_,jD6 hlt⟩;obtain ⟨b,rfl,hbl,hc⟩:=I8.out (by omega);obtain ⟨k1,k2⟩:=hc k p hp;have c1:wr.cell? ⟨b,k*2,none⟩=some (.int .i64 (p.1:Int)):=by rw [hbel.cell (p:=⟨b,k*2,none⟩) hbl];exact k1
   have c2:wr.cell? ⟨b,k*2+1,none⟩=some (.int .i64 (p.2:Int)):=by rw [hbel.cell (p:=⟨b,k*2+1,none⟩) hbl];exact k2
   have hd:=WW.out p (jE4 hp);have gV:=hid (Vf uS hp);have Js:=hid (fun hf=>HV.out.trans (jp2 uS hp hf));obtain ⟨d1,d2⟩:=p;simp only at hd c1 c2;have CC:=hid (fun w=>Lj d1 w hd);have UH:=hid (YA d1 d2);clear hp hc k1 k2 hbel;cases hcl:Ve d1 with
   | false=>
    rw [hcl] at CC UH;exact jgz
   | true=>
    rw [hcl] at CC UH;cases hq1:((d1:Int)==65533) with
    | false=>
     rw [hq1] at UH;exact jgx
    | true=>
     cases hq2:((d2:Int)==1) with
     | false=>
      rw [hq1,hq2] at UH;exact jgx
     | true=>
      rw [hq1,hq2] at UH;exact jgz
  ·have HE:Hid (V=true):=by
    show V=true;have:=HA.out;rw [List.take_of_length_le (by omega)] at this;rw [HV.out,this]
   go_wp2;go_ret;exact ⟨by rw [HE.out];rfl,q01 B1.out HB.out⟩
theorem rM (s:ByteArray) (w:jG9) (hs:s.size<=1000000000) : Calls Tryz.prog 64 #[.string s] w (eX (.bool (dM s)) w):=Lm s w (by omega)
open Go.RowKit
theorem Iy (s:ByteArray):Ii s=true↔∀ j,j<s.size->bt s j≠10:=by
 unfold Ii;rw [List.all_eq_true];constructor
 ·intro h j hj hc;have h1:=h s[j] (jE4 (Cc s j hj));rw [<- jk s j hj] at hc;have:s[j]=10:=by rw [<- UInt8.toNat_inj];exact hc
  rw [this] at h1;simp at h1
 ·intro h c hc;obtain ⟨j,hj,rfl⟩:=List.getElem_of_mem hc;have hj':j<s.size:=by simpa using hj
  have h1:=h j hj';rw [<- jk s j hj'] at h1;have h2:s.data.toList[j]=s[j]:=by have:=Cc s j hj';rw [jD6 hj] at this;exact Option.some.inj this
  rw [h2];simp;intro h3;rw [h3] at h1;exact h1 rfl
def jh0 (s:ByteArray) (vi:jGk):Prop:=∃ k:Nat,k<=s.size/\vi=.int .i64 k/\∀ j,j<k->bt s j≠10
theorem jh1{P:Prop}(h:P:=by
 go_wp2_with fail
 refine VA.out.mono ?_;rintro e w1 ⟨rfl,b1⟩;have HB:=hid b1;have R0:Hid (jh0 s (.int .i64 0)):=⟨0,Nat.zero_le _,rfl,fun j hj=>by omega⟩;clear VA b1;go_wp2
 go_loop [3] (fun i=>jh0 s i) (fun i=>s.size-(intOf i).toNat)
 case atStart=>exact R0.out
 case round=>
  clear R0;obtain ⟨k,hk,rfl,hall⟩:=hrel;have HA:=hid hall;clear hall;by_cases hlt:k<s.size
  ·have eb:=jk s k hlt;by_cases hc:bt s k=10
   ·have HE:Hid (V=false):=by
     show V=false;rw [HL.out];have h1:Ii s=false:=by
      cases h2:Ii s
      ·rfl
      ·exact absurd hc (HN.out.1 h2 k hlt)
     rw [h1];rfl
    have hq:(((bt s k:Nat):Int)==10)=true:=by rw [hc];rfl
    rw [<- eb] at hq;clear hc eb;go_wp2;go_ret;exact ⟨by rw [HE.out];rfl,HB.out⟩
   ·have HC:=hid hc;have hq:(((bt s k:Nat):Int)==10)=false:=by rw [beq_eq_false_iff_ne];omega
    rw [<- eb] at hq;clear hc eb;go_wp2
    go_round
    case rel=>
     refine ⟨k+1,by omega,by go_num,fun j hj=>?_⟩;rcases Nat.lt_or_ge j k with h | h
     ·exact HA.out j h
     ·have:j=k:=by omega
      subst this;exact HC.out
    case measure=>simp [intOf];omega
  ·have HE:Hid (V=true):=by
    show V=true;rw [HL.out,HN.out.2 (fun j hj=>HA.out j (by omega))];rfl
   go_wp2;go_ret;exact ⟨by rw [HE.out];rfl,HB.out⟩):P:=h
theorem jh2{P:Prop}(h:P:=by
 go_wp2_with fail
 refine VA.out.mono ?_;rintro e w1 ⟨rfl,b1⟩;have HB:=hid b1;go_wp2;go_ret;exact ⟨by rw [HL.out];rfl,HB.out⟩):P:=h
theorem V7 (s:ByteArray) (w:jG9) (hs:s.size<=1000000000) : Calls Tryz.prog 111 #[.string s] w (eX (.bool (dG s)) w):=by
 have VA:=hid (rM s w hs);have HL:Hid (dG s=(dM s&&Ii s)):=rfl;have HN:=hid (Iy s);obtain ⟨V,hV⟩:∃ V,V=dG s:=⟨_,rfl⟩;rw [<- hV] at HL ⊢;clear hV;cases hv:dM s with
 | false=>
  rw [hv] at VA HL;clear hv;go_enter Tryz.func111,Tryz.ntmps111;exact jh2
 | true=>
  rw [hv] at VA HL;clear hv;go_enter Tryz.func111,Tryz.ntmps111;exact jh1
theorem Ao (s:ByteArray) (w:jG9) (hs:s.size<=1000000000) : Calls Tryz.prog 213 #[.string s] w (eX (.bool (dG s)) w):=by
 have VA:=hid (rM s w hs);have HL:Hid (dG s=(dM s&&Ii s)):=rfl;have HN:=hid (Iy s);obtain ⟨V,hV⟩:∃ V,V=dG s:=⟨_,rfl⟩;rw [<- hV] at HL ⊢;clear hV;cases hv:dM s with
 | false=>
  rw [hv] at VA HL;clear hv;go_enter Tryz.func213,Tryz.ntmps213;exact jh2
 | true=>
  rw [hv] at VA HL;clear hv;go_enter Tryz.func213,Tryz.ntmps213;exact jh1
theorem uV (s:ByteArray) (w:jG9) (hs:s.size<=1000000000) : Calls Tryz.prog 112 #[.string s] w fun e w'=>e=.returned (.bool (trimS s))/\w=w':=by
 rcases fq s with rfl | ⟨hne,hp,hie,hes⟩
 ·go_enter Tryz.func112,Tryz.ntmps112;go_wp2;go_ret;exact ⟨rfl,rfl⟩
 ·refine jez ?_;intro hv e0 e1;generalize bt s 0=b0 at *;generalize bt s (s.size-1)=b1 at *;have hsub:((s.size:Int)-1).toNat=s.size-1:=by omega
  clear hv hes;go_enter Tryz.func112,Tryz.ntmps112;go_wp2;all_goals
   go_ret;refine ⟨wF ?_,rfl⟩;exact Uy
def jh3 (s b:ByteArray) (w:jG9) (vi:jGk) (wr:jG9):Prop:=∃ k q:Nat,k<=s.size/\vi=.int .i64 k/\(∀ j i,j<k->i<b.size->bt s j≠bt b i)/\wr=w.drewN q
def Vg (s b:ByteArray) (w:jG9) (k:Nat) (vi:jGk) (wr:jG9):Prop:=∃ i q:Nat,i<=b.size/\vi=.int .i64 i/\(∀ j,j<i->bt s k≠bt b j)/\wr=w.drewN q
theorem Lr (s b:ByteArray):mV s b.data.toList=true↔∃ j i,j<s.size/\i<b.size/\bt s j=bt b i:=by
 unfold mV;rw [List.any_eq_true];constructor
 ·rintro ⟨c,hc,hb⟩;rw [List.contains_iff_mem] at hb;obtain ⟨j,hj,rfl⟩:=List.getElem_of_mem hc;obtain ⟨i,hi,he⟩:=List.getElem_of_mem hb;have hj':j<s.size:=by simpa using hj
  have hi':i<b.size:=by simpa using hi
  refine ⟨j,i,hj',hi',?_⟩;rw [<- jk s j hj',<- jk b i hi'];exact congrArg UInt8.toNat he.symm
 ·rintro ⟨j,i,hj,hi,he⟩;refine ⟨s[j],jE4 (Cc s j hj),?_⟩;rw [List.contains_iff_mem];rw [<- jk s j hj,<- jk b i hi,UInt8.toNat_inj] at he;rw [he];exact jE4 (Cc b i hi)
theorem tT (w:jG9) (q:Nat):Below w.heap.size w (w.drewN q):=iR (jD7 _ _) q
theorem jo (s b:ByteArray) (w:jG9) (hs:s.size<=1000000000) (hb:b.size<=1000000000) : Calls Tryz.prog 215 #[.string s,.string b] w (eX (.bool (mV s b.data.toList)) w):=by
 have HI:=hid (Lr s b);obtain ⟨V,hV⟩:∃ V,V=mV s b.data.toList:=⟨_,rfl⟩;rw [<- hV] at HI ⊢;clear hV;have R0:Hid (jh3 s b w (.int .i64 0) w):=⟨0,0,jE3 _,rfl,fun j i hj=>by omega,rfl⟩;go_enter Tryz.func215,Tryz.ntmps215;go_wp2
 go_loopw [5] (fun vi wr=>jh3 s b w vi wr) (fun i _=>s.size-(intOf i).toNat)
 case atStart=>exact R0.out
 case round=>
  clear R0;obtain ⟨k,q,hk,rfl,hall,rfl⟩:=hrel;have Fw:=hid hall;clear hall;by_cases hlt:k<s.size
  ·have R1:Hid (Vg s b w k (.int .i64 0) (w.drewN q)):=⟨0,q,jE3 _,rfl,fun j hj=>by omega,rfl⟩;go_wp2
   go_loopw [6] (fun vi wr=>Vg s b w k vi wr) (fun i _=>b.size-(intOf i).toNat)
   case atStart=>exact R1.out
   case round=>
    clear R1;obtain ⟨i,q2,hi,rfl,Iz,rfl⟩:=hrel;have YB:=hid Iz;clear Iz;by_cases hlt2:i<b.size
    ·have eb:=jk s k hlt;have ec:=jk b i hlt2;by_cases hc:bt s k=bt b i
     ·have HE:Hid (V=true):=HI.out.2 ⟨k,i,hlt,hlt2,hc⟩;have hq:(((bt s k:Nat):Int)==((bt b i:Nat):Int))=true:=by rw [hc];simp
      rw [<- eb,<- ec] at hq;clear hc eb ec;go_upto_region 7 with (fail)
      go_region
      go_wp2;go_ret;exact ⟨by rw [HE.out];rfl,tT w (q2+1)⟩
     ·have HC:=hid hc;have hq:(((bt s k:Nat):Int)==((bt b i:Nat):Int))=false:=by rw [beq_eq_false_iff_ne];omega
      rw [<- eb,<- ec] at hq;clear hc eb ec;go_upto_region 7 with (fail)
      go_region
      go_wp2;go_roundw;case rel=>
       refine ⟨i+1,q2+1,by omega,by go_num,fun j hj=>?_,rfl⟩;rcases Nat.lt_or_ge j i with h | h
       ·exact YB.out j h
       ·have:j=i:=by omega
        subst this;exact HC.out
      case measure=>simp [intOf];omega
    ·go_wp2;go_roundw;case rel=>
      refine ⟨k+1,q2,by omega,by go_num,fun j i' hj hi'=>?_,rfl⟩;rcases Nat.lt_or_ge j k with h | h
      ·exact Fw.out j i' h hi'
      ·have:j=k:=by omega
       subst this;exact YB.out i' (by omega)
     case measure=>simp [intOf];omega
  ·have HE:Hid (V=false):=by
    show V=false;cases hV:V with
    | false=>rfl
    | true=>
     obtain ⟨j,i,hj,hi,he⟩:=HI.out.1 hV;exact absurd he (Fw.out j i (by omega) hi)
   go_wp2;go_ret;exact ⟨by rw [HE.out];rfl,tT w q⟩
theorem YC (n:Int) (ks:List Int) (g cap:Nat) (w:jG9) (hl:ks.length<=1000) (hc:∀ j k,ks[j]?=some k->w.cell? ⟨g,j,none⟩=some (.int .i64 k)) : Calls Tryz.prog 175 #[.int .i64 n,.slice (some ⟨g,0,none⟩) ks.length cap] w fun e w'=>e=.returned (.bool (ks.contains n))/\w=w':=by
 have HC:=hid hc;have R0:Hid (ND n ks (.int .i64 0)):=⟨0,jE3 _,rfl,by simp⟩;obtain ⟨V,hV⟩:∃ V,V=ks.contains n:=⟨_,rfl⟩;rw [<- hV];have HV:=hid hV;clear hc hV;go_enter Tryz.func175,Tryz.ntmps175;go_wp2
 go_loop [5] (fun i=>ND n ks i) (fun i=>ks.length-(intOf i).toNat)
 case atStart=>exact R0.out
 case round=>
  clear R0;obtain ⟨k,hk,rfl,hno⟩:=hrel;have HN:=hid hno;clear hno;by_cases hlt:k<ks.length
  ·obtain ⟨x,hx⟩:∃ x,ks[k]?=some x:=⟨_,jD6 hlt⟩;have hcell:=HC.out k x hx;have HT:Hid ((ks.take (k+1)).contains n=((ks.take k).contains n||(x==n))):=by
    show _=_;have e:(x==n)=(n==x):=by rw [jDk,beq_iff_eq,beq_iff_eq];exact eq_comm
    rw [e,jEk,hx,jDk];simp
   have HX:=hid hx;clear hx;cases hnx:(x==n)
   ·exact jg4
   ·have HE:Hid (V=true):=by
     show V=true;rw [HV.out,List.contains_iff_mem];have:x=n:=by simpa using hnx
     rw [<- this];exact jE4 HX.out
    exact NG
  ·exact U9
theorem oI (a:At) (ac ap:Option Addr) (cc cp:Nat) (w:jG9) (hc:a.cls.length<=maxLen) (hp:a.aD.length<=maxLen) : Calls Tryz.prog 176 #[.agg #[.string a.id,.slice ac a.cls.length cc,.slice ap a.aD.length cp]] w (eX (.bool a.none) w):=by
 obtain ⟨id,cls,aD⟩:=a;unfold maxLen at hc hp;dsimp only at hc hp ⊢;have HV:Hid (At.none ⟨id,cls,aD⟩=(aW id&&cls.isEmpty&&aD.isEmpty)):=rfl;have e1:=jR cls;have e2:=jR aD;have e3:=oN id;obtain ⟨V,hV⟩:∃ V,V=At.none ⟨id,cls,aD⟩:=⟨_,rfl⟩;rw [<- hV] at HV ⊢;clear hV;generalize aW id=b3 at *;generalize cls.isEmpty=b1 at *;generalize aD.isEmpty=b2 at *;cases b3<;>cases b1<;>cases b2
 all_goals
  go_enter Tryz.func176,Tryz.ntmps176;go_wp2;exact U8
open Go.RowKit
theorem tV (c:Nat) (w:jG9) (hc:c<256) : Calls Tryz.prog 113 #[.int .u8 (c:Int)] w fun e w'=>e=.returned (.bool (dY c))/\w=w':=by
 go_enter Tryz.func113,Tryz.ntmps113;go_wp2;all_goals
  go_ret;refine ⟨wF ?_,rfl⟩;unfold dY nI;rw [jDk];simp;omega
theorem DU (c:Nat) (w:jG9) (hc:c<256) : Calls Tryz.prog 152 #[.int .u8 (c:Int)] w fun e w'=>e=.returned (.bool (H8 c))/\w=w':=by
 have LT:=hid (fun w=>tV c w hc);have HL:Hid (dY c=true↔(97<=c/\c<=122)\/(65<=c/\c<=90)):=by show _↔_;unfold dY nI;simp
 cases hl:dY c with
 | true=>
  rw [hl] at LT;have hv:H8 c=true:=by unfold H8;rw [hl];simp
  rw [hv];clear hl hv;go_enter Tryz.func152,Tryz.ntmps152;go_wp2_with fail
  refine (LT.out _).mono ?_;rintro e w1 ⟨rfl,rfl⟩;go_wp2;go_ret;exact ⟨rfl,rfl⟩
 | false=>
  rw [hl] at LT;have HV:Hid (H8 c=((decide (c=45)||decide (c=95)||decide (c=46)||decide (c=58))||nI c 48 57)):=by show _=_;unfold H8;rw [hl];simp
  generalize H8 c=V at *;clear hl;go_enter Tryz.func152,Tryz.ntmps152;go_wp2_with fail
  refine (LT.out _).mono ?_;rintro e w1 ⟨rfl,rfl⟩;go_wp2;all_goals
   go_ret;refine ⟨wF ?_,rfl⟩;rw [HV.out]
   (try simp only [beq_iff_eq,beq_eq_false_iff_ne,ne_eq] at *)
   rw [jDk];unfold nI;simp
   (try omega)
theorem PD (s:ByteArray) (w:jG9) (hs:s.size<=1000000000) : Calls Tryz.prog 114 #[.string s,.int .i64 0] w fun e w'=>e=.returned (.int .i64 (tQ s:Nat))/\w=w':=by
 obtain ⟨V,hV⟩:∃ V,V=tQ s:=⟨_,rfl⟩;rw [<- hV];have HV:=hid hV;clear hV;go_enter Tryz.func114,Tryz.ntmps114;go_wp2
 go_loop [1] (fun vi=>∃ k:Nat,k<=s.size/\vi=.int .i64 k/\∀ j x,j<k->s.data.toList[j]?=some x->iA x=true) (fun i=>s.size-(intOf i).toNat)
 case atStart=>exact ⟨0,jE3 _,rfl,fun j x hj=>by omega⟩
 case round=>
  obtain ⟨k,hk,rfl,hall⟩:=hrel;have HA:=hid hall;clear hall;by_cases hlt:k<s.size
  ·have hgl:=UInt8.toNat_lt s[k];have IN:=hid (fun w=>DU s[k].toNat w hgl);have HG:=hid (Cc s k hlt);cases hn:H8 s[k].toNat with
   | true=>
    rw [hn] at IN;have HN:=hid hn;clear hn;go_wp2_with fail
    refine (IN.out _).mono ?_;rintro e w1 ⟨rfl,rfl⟩;go_wp2
    go_round
    case rel=>
     refine ⟨k+1,by omega,by go_num,fun j x hj hx=>?_⟩;exact Nu
    case measure=>simp [intOf];omega
   | false=>
    rw [hn] at IN;have hw:V=k:=by exact jfz
    exact Nv
  ·exact jfx
theorem V8 (s:ByteArray) (w:jG9) (hs:s.size<=1000000000) : Calls Tryz.prog 70 #[.string s] w fun e w'=>e=.returned (.bool (dZ s))/\w=w':=by
 by_cases h0:s.size=0
 ·have hv:dZ s=false:=by unfold dZ;simp [h0]
  rw [hv];have e0:decide ((1:Int)<=(s.size:Int))=false:=by simp;omega
  clear hv h0;go_enter Tryz.func70,Tryz.ntmps70;go_wp2;go_ret;exact ⟨rfl,rfl⟩
 have e0:decide ((1:Int)<=(s.size:Int))=true:=by simp;omega
 by_cases h60:60<s.size
 ·have hv:dZ s=false:=by unfold dZ;simp;omega
  rw [hv];have e1:decide ((s.size:Int)<=(60:Int))=false:=by simp;omega
  clear hv;go_enter Tryz.func70,Tryz.ntmps70;go_wp2;go_ret;exact ⟨rfl,rfl⟩
 have e1:decide ((s.size:Int)<=(60:Int))=true:=by simp;omega
 have hp:0<s.size:=by omega
 have hg:=Cc s 0 hp;obtain ⟨c,hc⟩:∃ c,s[0]=c:=⟨_,rfl⟩;rw [hc] at hg;have hcl:=UInt8.toNat_lt c;have LT:=hid (fun w=>tV c.toNat w hcl);have WE:=hid (fun w=>PD s w hs);have hl:s.data.toList=c::s.data.toList.tail:=by
  cases h:s.data.toList with
  | nil=>rw [h] at hg;simp at hg
  | cons a l=>rw [h] at hg;simp at hg;rw [hg];rfl
 have hv:dZ s=(dY c.toNat&&decide (tQ s=s.size)):=by exact jg2
 have HV:=hid hv;generalize dZ s=V at *;generalize tQ s=E at *;clear hv hl hg;cases hlt:dY c.toNat with
 | false=>
  rw [hlt] at LT;rw [hlt] at HV;go_enter Tryz.func70,Tryz.ntmps70;exact jg1
 | true=>
  rw [hlt] at LT;rw [hlt] at HV;go_enter Tryz.func70,Tryz.ntmps70;exact jg0
open Go.RowKit
theorem jh4{P:Prop}(h:P:=by
 by_cases hyx:y=x
 ·subst hyx;go_wp2;go_ret;exact ⟨by rw [HT.out (by rw [gV.out];simp)];rfl,rfl⟩
 ·have e1:=Ee hyx;go_wp2
  go_round
  case rel=>exact ⟨k+1,by omega,by go_num,by rw [gV.out];simp [hyx]⟩
  case measure=>simp [intOf];omega):P:=h
theorem jh5{P:Prop}(h:P:=by
 have hA:=HA.out;rw [hkl,List.take_length] at hA;have HA2:=hid hA;clear hA HA hkl;go_wp2;go_ret;exact ⟨by rw [HA2.out];rfl,rfl⟩):P:=h
theorem tX (l:List ByteArray) (x:ByteArray) (v:jGk) (w:jG9) (hs:EF w 1 v l.length (l.map Value.string)) : Calls Tryz.prog 212 #[v,.string x] w fun e w'=>e=.returned (.bool (dS l x))/\w=w':=by
 obtain ⟨-,a,cap,rfl,hcap,hmx,hcs⟩:=hs;have I8:=hid hcs;have HZ:Hid (dS (l.take 0) x=false):=rfl;clear hcs;unfold maxLen at hmx;go_enter Tryz.func212,Tryz.ntmps212;go_wp2
 go_loop [5] (fun vi=>∃ k:Nat,k<=l.length/\vi=.int .i64 k/\dS (l.take k) x=false) (fun i=>l.length-(intOf i).toNat)
 case atStart=>exact ⟨0,jE3 _,rfl,HZ.out⟩
 case round=>
  obtain ⟨k,hk,rfl,hany⟩:=hrel;have HA:=hid hany;clear hany;by_cases hlt:k<l.length
  ·obtain ⟨y,hy⟩:∃ y,l[k]?=some y:=⟨_,jD6 hlt⟩;rcases I8.out with h0 | ⟨b,off,rfl,hc⟩
   ·omega
   have c0:w.cell? ⟨b,off+k,none⟩=some (.string y):=hc k _ (by simp [hy]);have hsn:=Cg l k y x hy;rw [HA.out] at hsn;have gV:=hid hsn;have HT:=hid (Ch l (k+1) x);clear hy hc hsn;exact jh4
  ·have hkl:k=l.length:=by omega
   exact jh5
theorem IE (l:List Pr) (x:ByteArray) (b off n cap:Nat) (w:jG9) (hn:n<=l.length) (hcap:n<=cap) (hmx:cap<=maxLen) (hc:∀ k p,l[k]?=some p->w.cell? ⟨b,off+k*2,none⟩=some (.string p.key)) : Calls Tryz.prog 214 #[.slice (some ⟨b,off,none⟩) n cap,.string x] w fun e w'=>e=.returned (.bool (dS ((l.take n).map Pr.key) x))/\w=w':=by
 have I8:=hid hc;obtain ⟨K,hK⟩:∃ K,K=(l.take n).map Pr.key:=⟨_,rfl⟩;rw [<- hK];have hkn:K.length=n:=by rw [hK];simp;omega
 have HKI:Hid (∀ k,k<n->∃ p,l[k]?=some p/\K[k]?=some p.key):=by intro k hk;obtain ⟨p,hp⟩:∃ p,l[k]?=some p:=⟨_,jD6 (by omega)⟩;refine ⟨p,hp,?_⟩;rw [hK,List.getElem?_map,List.getElem?_take,if_pos hk,hp];rfl
 have HZ:Hid (dS (K.take 0) x=false):=rfl;clear hc hK;unfold maxLen at hmx;go_enter Tryz.func214,Tryz.ntmps214;go_wp2
 go_loop [5] (fun vi=>∃ k:Nat,k<=n/\vi=.int .i64 k/\dS (K.take k) x=false) (fun i=>n-(intOf i).toNat)
 case atStart=>exact ⟨0,jE3 _,rfl,HZ.out⟩
 case round=>
  obtain ⟨k,hk,rfl,hany⟩:=hrel;have HA:=hid hany;clear hany;by_cases hlt:k<n
  ·obtain ⟨p,hp,hy⟩:=HKI.out k hlt;have c0:=I8.out k p hp;obtain ⟨y,val⟩:=p;dsimp only at c0 hy;have hsn:=Cg K k y x hy;rw [HA.out] at hsn;have gV:=hid hsn;have HT:=hid (Ch K (k+1) x);clear hy hp hsn;exact jh4
  ·have hkl:k=K.length:=by omega
   exact jh5
def juz (T:TypeId) (p:Nat) (cs:List jGk) (w:jG9) (l:List ByteArray) (E:Nat) (vi:jGk) (wr:jG9):Prop:=
 ∃ k:Nat,k<=l.length/\vi=.int .i64 k/\CB T p cs wr/\Below w.heap.size w wr/\uz (l.take k) (l.drop k)=E
def jv0 (T:TypeId) (p:Nat) (cs:List jGk) (w:jG9) (l:List Pr) (E:Nat) (vi:jGk) (wr:jG9):Prop:=
 ∃ k:Nat,k<=l.length/\vi=.int .i64 k/\CB T p cs wr/\Below w.heap.size w wr/\uH ((l.take k).map Pr.key) (l.drop k)=E
theorem CB.dN {T:TypeId} {p:Nat} {cs:List jGk} {w:jG9} (h:CB T p cs w) (q:Nat):CB T p cs (w.drewN q):=h
theorem su{P:Prop}(h:P:=by
 go_wp2;go_ret;exact ⟨by rw [HV.out];rfl,B1.out⟩):P:=h
theorem Ng{P Q:Prop}(q:Q)(h:Nonempty Q->P:=by
 intro qQ;have b1:Below w.heap.size w w1:=by rw [hw1];exact (Below.refl _ _).alloc (Nat.le_refl _) _
 revert b1;exact qQ.elim fun x=>x):P:=h ⟨q⟩
theorem jh6{P:Prop}(h:P:=by
 clear hn;go_wp2_with fail
 refine (CN.out _).mono ?_;rintro e w3 ⟨rfl,rfl⟩;go_wp2;go_ret;exact ⟨by rw [HV.out];rfl,rR.out⟩):P:=h
theorem kG (a:At) (ac ap:Option Addr) (cc cp:Nat) (w:jG9) (h:AtR (·<w.heap.size) w a (.slice ac a.cls.length cc) (.slice ap a.aD.length cp)) (hs:a.short) : Calls Tryz.prog 180 #[.agg #[.string a.id,.slice ac a.cls.length cc,.slice ap a.aD.length cp]] w (eX (.int .i64 (a.err:Nat)) w):=by
 obtain ⟨sc,sp,si,sca,spa⟩:=hs;obtain ⟨id,cls,aD⟩:=a;dsimp only at sc sp si sca spa h ⊢;obtain ⟨a1,c1,hv1,hs1⟩:=Rd.ay h.cls;obtain ⟨rfl,rfl⟩:a1=ac/\c1=cc:=by simp at hv1;exact ⟨hv1.1.symm,hv1.2.symm⟩
 obtain ⟨a2,c2,hv2,hs2⟩:=Rd.ay h.aD;obtain ⟨rfl,rfl⟩:a2=ap/\c2=cp:=by simp at hv2;exact ⟨hv2.1.symm,hv2.2.symm⟩
 have l1:cls.length<=c1:=by simpa using hs1.le
 have l2:aD.length<=c2:=by simpa using hs2.le
 have m1:=hs1.max;have m2:=hs2.max;have H1:=hid hs1;have H2:=hid hs2;have SC:=hid sca;have SP:=hid spa;have NI:=hid (fun w=>V8 id w (by omega));have HE:Hid (At.err ⟨id,cls,aD⟩=if aW id=false/\dZ id=false then 6 else if uz [] cls≠0 then uz [] cls else if uH [] aD≠0 then uH [] aD else if 32<cls.length\/32<aD.length then 3 else 0):=rfl;obtain ⟨V,hV⟩:∃ V,V=At.err ⟨id,cls,aD⟩:=⟨_,rfl⟩;rw [<- hV] at HE ⊢;have hie:=oN id;obtain ⟨w1,hw1⟩:∃ w1,w1=w.alloc (.cells #[.string id,.slice a1 cls.length c1,.slice a2 aD.length c2] 45):=⟨_,rfl⟩;have k1:CB 45 w.heap.size [.string id,.slice a1 cls.length c1,.slice a2 aD.length c2] w1:=by rw [hw1];exact CB.new _ _ _
 refine Ng ?_;intro b1;have p0:=k1.cell 0 _ rfl;have p1:=k1.cell 1 _ rfl;have K1:=hid k1;have B1:=hid b1;have R0:Hid (juz 45 w.heap.size [.string id,.slice a1 cls.length c1,.slice a2 aD.length c2] w cls (uz [] cls) (.int .i64 0) w1):=⟨0,jE3 _,rfl,k1,b1,rfl⟩;have HM1:=hid m1;have HM2:=hid m2;unfold maxLen at m1 m2;clear hV sca spa hs1 hs2 hv1 hv2 h k1 b1;go_enter Tryz.func180,Tryz.ntmps180;go_upto_region 1 with (fail)
 rw [<- hw1];clear hw1
 go_cut [13] (fun s wx=>s=.bool (!aW id&&!dZ id)/\w1=wx)
 case first=>
  clear R0 HE;cases he:aW id with
  | true=>
   rw [he] at hie;have Gl:=hid he;clear he NI;go_wp2_with fail
   go_meet
   exact ⟨by rw [Gl.out];rfl,rfl⟩
  | false=>
   rw [he] at hie;have Gl:=hid he;clear he;cases hn:dZ id
   all_goals
    rw [hn] at NI;have Qh:=hid hn;clear hn;go_wp2_with fail
    refine (NI.out _).mono ?_;rintro e w2 ⟨rfl,rfl⟩;go_wp2_with fail
    go_meet
    exact ⟨by rw [Gl.out,Qh.out];rfl,rfl⟩
 case rest=>
  obtain ⟨rfl,rfl⟩:=hcut;clear NI;cases hbad:(!aW id&&!dZ id) with
  | true=>
   have HV:Hid (V=6):=by show V=6;rw [HE.out,if_pos (by simpa using hbad)]
   clear hbad R0;exact su
  | false=>
   have HE2:Hid (V=if uz [] cls≠0 then uz [] cls else if uH [] aD≠0 then uH [] aD else if 32<cls.length\/32<aD.length then 3 else 0):=by show V=_;rw [HE.out,if_neg (fun h=>by rw [h.1,h.2] at hbad;cases hbad)]
   clear hbad HE hie;obtain ⟨E1,hE1⟩:∃ E1,E1=uz [] cls:=⟨_,rfl⟩;obtain ⟨E2,hE2⟩:∃ E2,E2=uH [] aD:=⟨_,rfl⟩;rw [<- hE1] at HE2 R0;rw [<- hE2] at HE2;have jp0:=hid hE2;clear hE1 hE2 p0 p1;go_wp2
   go_loopw [3] (fun i wr=>juz 45 w.heap.size [.string id,.slice a1 cls.length c1,.slice a2 aD.length c2] w cls E1 i wr) (fun i _=>cls.length-(intOf i).toNat)
   case atStart=>exact R0.out
   case round=>
    clear R0;obtain ⟨k,hk,rfl,hcb,hbl,bq⟩:=hrel;have AX:=hid hcb;have rR:=hid hbl;have p1:=hcb.cell 1 _ rfl;by_cases hlt:k<cls.length
    ·obtain ⟨x,hx⟩:∃ x,cls[k]?=some x:=⟨_,jD6 hlt⟩;obtain ⟨b,off,ha,-,-,c0⟩:=jf H1.out hx;have c0:wr.cell? ⟨b,off+k,none⟩=some (.string x):=by rw [hbl.cell (p:=⟨b,off+k,none⟩) (qw c0)];exact c0
     have jv1:EF wr 1 (.slice a1 k c1) (cls.take k).length ((cls.take k).map Value.string):=by
      have hkl:(cls.take k).length=k:=by simp;omega
      rw [hkl];refine ⟨by simp;omega,_,_,rfl,by omega,HM1.out,.inr ⟨b,off,ha,fun j u hu=>?_⟩⟩;rw [List.getElem?_map,List.getElem?_take] at hu;split at hu
      ·rename_i hjk
       obtain ⟨y,hy⟩:∃ y,cls[j]?=some y:=⟨_,jD6 (by omega)⟩;rw [hy] at hu;obtain ⟨b',off',ha',-,-,c0'⟩:=jf H1.out hy;rw [ha] at ha';simp at ha';obtain ⟨rfl,rfl⟩:=ha';have c2':wr.cell? ⟨b,off+j,none⟩=some (.string y):=by rw [hbl.cell (p:=⟨b,off+j,none⟩) (qw c0')];exact c0'
       simp at hu;subst hu;exact c2'
      ·cases hu
     have hxs:=SC.out x (jE4 hx);have CN:=hid (fun w=>V8 x w (by omega));have HTX:Hid (∀ m,Calls Tryz.prog 212 #[.slice a1 k c1,.string x] (wr.drewN m) fun e w'=>e=.returned (.bool (dS (cls.take k) x))/\w'=wr.drewN m):=fun m=>(tX (cls.take k) x _ (wr.drewN m) jv1).mono fun _ _ h=>⟨h.1,h.2.symm⟩
     subst ha;have bX:Hid (uz (cls.take k) (x::cls.drop (k+1))=E1):=by show _=_;rw [<- I9 cls k x hx];exact bq
     have Wi:Hid (cls.take (k+1)=cls.take k++[x]):=by show _=_;rw [jEk,hx];rfl
     clear bq hx jv1 hcb hbl;cases hn:dZ x with
     | false=>
      rw [hn] at CN;have HV:Hid (V=6):=by show V=6;have:=bX.out;rw [uz,if_pos hn] at this;rw [HE2.out,<- this];rfl
      exact jh6
     | true=>
      rw [hn] at CN;cases hb:dS (cls.take k) x with
      | true=>
       rw [hb] at HTX;have HV:Hid (V=7):=by show V=7;have:=bX.out;rw [uz,if_neg (by rw [hn];decide),if_pos hb] at this;rw [HE2.out,<- this];rfl
       clear hn hb;go_wp2_with fail
       refine (CN.out _).mono ?_;rintro e w3 ⟨rfl,rfl⟩;go_upto_region 8 with (fail)
       go_quiet ((go_at_call 212;with_reducible exact Calls.quiet_of_same (HTX.out _)))
       go_wp2;go_ret;exact ⟨by rw [HV.out];rfl,iR rR.out _⟩
      | false=>
       rw [hb] at HTX;have Oe:Hid (uz (cls.take (k+1)) (cls.drop (k+1))=E1):=by show _=_;have:=bX.out;rw [uz,if_neg (by rw [hn];decide),if_neg (by rw [hb];decide)] at this;rw [Wi.out];exact this
       clear hn hb;go_wp2_with fail
       refine (CN.out _).mono ?_;rintro e w3 ⟨rfl,rfl⟩;go_upto_region 8 with (fail)
       go_quiet ((go_at_call 212;with_reducible exact Calls.quiet_of_same (HTX.out _)))
       go_wp2;go_roundw;case rel=>exact ⟨k+1,by omega,by go_num,AX.out.dN _,iR rR.out _,Oe.out⟩
       case measure=>simp [intOf];omega
    ·obtain rfl:k=cls.length:=by omega
     have Li:Hid (E1=0):=by show E1=0;rw [List.drop_length,uz] at bq;exact bq.symm
     have R2:Hid (jv0 45 w.heap.size [.string id,.slice a1 cls.length c1,.slice a2 aD.length c2] w aD E2 (.int .i64 0) wr):=⟨0,jE3 _,rfl,hcb,hbl,jp0.out.symm⟩;clear bq hcb hbl AX rR hk hlt;go_wp2
     go_loopw [4] (fun i wr=>jv0 45 w.heap.size [.string id,.slice a1 cls.length c1,.slice a2 aD.length c2] w aD E2 i wr) (fun i _=>aD.length-(intOf i).toNat)
     case atStart=>exact R2.out
     case round=>
      clear R2 p1;obtain ⟨k,hk,rfl,hcb,hbl,bq⟩:=hrel;have AX:=hid hcb;have rR:=hid hbl;have p2:=hcb.cell 2 _ rfl;by_cases hlt:k<aD.length
      ·obtain ⟨x,hx⟩:∃ x,aD[k]?=some x:=⟨_,jD6 hlt⟩;obtain ⟨b,off,ha,-,-,c0,c1'⟩:=lU H2.out hx;have hkeys:∀ j p,aD[j]?=some p->wr.cell? ⟨b,off+j*2,none⟩=some (.string p.key):=by
        intro j y hy;obtain ⟨b',off',ha',-,-,c0',-⟩:=lU H2.out hy;rw [ha] at ha';simp at ha';obtain ⟨rfl,rfl⟩:=ha';rw [hbl.cell (p:=⟨b,off+j*2,none⟩) (qw c0')];exact c0'
       have c0:wr.cell? ⟨b,off+k*2,none⟩=some (.string x.key):=hkeys k x hx;have c1':wr.cell? ⟨b,off+k*2+1,none⟩=some (.string x.val):=by rw [hbl.cell (p:=⟨b,off+k*2+1,none⟩) (qw c1')];exact c1'
       have hxs:=SP.out x (jE4 hx);have HX:=hid hx;have bX:Hid (uH ((aD.take k).map Pr.key) (x::aD.drop (k+1))=E2):=by show _=_;rw [<- I9 aD k x hx];exact bq
       have HKEY:=hid hkeys;obtain ⟨key,val⟩:=x;dsimp only at c0 c1' hxs;have CN:=hid (fun w=>V8 key w (by omega));have CV:=hid (Ao val wr (by omega));have Wi:Hid ((aD.take (k+1)).map Pr.key=(aD.take k).map Pr.key++[key]):=by show _=_;rw [jEk,HX.out];simp
       subst ha;clear bq hx hcb hbl hkeys;cases hn:dZ key with
       | false=>
        rw [hn] at CN;have HV:Hid (V=6):=by show V=6;have:=bX.out;rw [uH,if_pos hn] at this;rw [HE2.out,Li.out,<- this];rfl
        exact jh6
       | true=>
        rw [hn] at CN;cases hln:dG val with
        | false=>
         rw [hln] at CV;have HV:Hid (V=17):=by exact jg9
         clear hn hln;go_wp2_with fail
         refine (CN.out _).mono ?_;rintro e w3 ⟨rfl,rfl⟩;go_wp2_with fail
         refine CV.out.mono ?_;rintro e w4 ⟨rfl,b4⟩;have B4:=hid (q01 rR.out b4);go_wp2;go_ret;exact ⟨by rw [HV.out];rfl,B4.out⟩
        | true=>
         rw [hln] at CV;have HKX:Hid (∀ w4,Below wr.heap.size wr w4->∀ m,Calls Tryz.prog 214 #[.slice (some ⟨b,off,none⟩) k c2,.string key] (w4.drewN m) fun e w'=>e=.returned (.bool (dS ((aD.take k).map Pr.key) key))/\w'=w4.drewN m):=fun w4 h4 m=>
          (IE aD key b off k c2 (w4.drewN m) (by omega) (by omega) HM2.out (fun j p hp=>by
           have:=HKEY.out j p hp;show w4.cell? _=_;rw [h4.cell (p:=⟨b,off+j*2,none⟩) (qw this)];exact this)).mono fun _ _ h=>⟨h.1,h.2.symm⟩
         cases hb:dS ((aD.take k).map Pr.key) key with
         | true=>
          rw [hb] at HKX;have HV:Hid (V=7):=by exact jg7
          clear hn hln hb;go_wp2_with fail
          refine (CN.out _).mono ?_;rintro e w3 ⟨rfl,rfl⟩;go_wp2_with fail
          refine CV.out.mono ?_;rintro e w4 ⟨rfl,b4⟩;have B4:=hid (q01 rR.out b4);have HKM:=hid (HKX.out w4 b4);have p2:=(AX.out.below b4).cell 2 _ rfl;have c0:w4.cell? ⟨b,off+k*2,none⟩=some (.string key):=by rw [b4.cell (p:=⟨b,off+k*2,none⟩) (qw c0)];exact c0
          clear b4 HKX c1';go_upto_region 17 with (fail)
          go_quiet ((go_at_call 214;with_reducible exact Calls.quiet_of_same (HKM.out _)))
          go_wp2;go_ret;exact ⟨by rw [HV.out];rfl,iR B4.out _⟩
         | false=>
          rw [hb] at HKX;refine jg6 ?_;intro Oe;clear hn hln hb;go_wp2_with fail
          refine (CN.out _).mono ?_;rintro e w3 ⟨rfl,rfl⟩;go_wp2_with fail
          refine CV.out.mono ?_;rintro e w4 ⟨rfl,b4⟩;have B4:=hid (q01 rR.out b4);have HKM:=hid (HKX.out w4 b4);have HC4:=hid (AX.out.below b4);have p2:=HC4.out.cell 2 _ rfl;have c0:w4.cell? ⟨b,off+k*2,none⟩=some (.string key):=by rw [b4.cell (p:=⟨b,off+k*2,none⟩) (qw c0)];exact c0
          clear b4 HKX c1';go_upto_region 17 with (fail)
          go_quiet ((go_at_call 214;with_reducible exact Calls.quiet_of_same (HKM.out _)))
          go_wp2;go_roundw;case rel=>exact ⟨k+1,by omega,by go_num,HC4.out.dN _,iR B4.out _,Oe.out⟩
          case measure=>simp [intOf];omega
      ·obtain rfl:k=aD.length:=by omega
       have HV:Hid (V=if 32<cls.length\/32<aD.length then 3 else 0):=by show V=_;rw [List.drop_length,uH] at bq;rw [HE2.out,Li.out,<- bq];rfl
       have p1:=hcb.cell 1 _ rfl;clear bq hcb hbl hk hlt;by_cases h1:32<cls.length
       ·have q1:decide ((32:Int)<(cls.length:Int))=true:=by simp;omega
        go_wp2;go_ret;exact ⟨by rw [HV.out,if_pos (.inl h1)];rfl,rR.out⟩
       ·have q1:decide ((32:Int)<(cls.length:Int))=false:=by simp;omega
        by_cases h2:32<aD.length
        ·have q2:decide ((32:Int)<(aD.length:Int))=true:=by simp;omega
         go_wp2;go_ret;exact ⟨by rw [HV.out,if_pos (.inr h2)];rfl,rR.out⟩
        ·have q2:decide ((32:Int)<(aD.length:Int))=false:=by simp;omega
         go_wp2;go_ret;exact ⟨by rw [HV.out,if_neg (by omega)];rfl,rR.out⟩
end Go.Proofs.YtkfnkeflalcphaaGreatDoor

