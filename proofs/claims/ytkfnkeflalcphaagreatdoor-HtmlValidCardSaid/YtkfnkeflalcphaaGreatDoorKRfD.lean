/- Contracts of attr.Empty, tree.oneOf, anyKind, inlineFields. The contract of attr.Check: the first error of attributes. publisherref04.count, sizes, Size, Depth; tree.sizeOfLine, sizeOfBlocks, Size, Depth. Size and Depth of documents, of tree and of the reference. Contracts of publisherref01.clean, Digit, Valid. Contracts of publisherref04.line, trimmed, has, in, noAttr and of publisherref03.line. Contracts of publisherref03.letter, part, word, Name. Contracts of publisherref03.hasText, hasKey, Check. -/
import Derived.Test.YtkfnkeflalcphaaGreatDoorKChA
import Derived.Test.YtkfnkeflalcphaaGreatDoorKSmall
import Derived.Test.YtkfnkeflalcphaaGreatDoorKInlsW
set_option maxHeartbeats 8000000
set_option maxRecDepth 100000
open Go.Lib (hid)
namespace Go.Proofs.YtkfnkeflalcphaaGreatDoor
open List renaming getElem?_eq_getElem->jnj,mem_of_getElem?->jo8,take_of_length_le->joz,take_add_one->jp0
open Go.RowKit.Below renaming refl->jnk
open Nat renaming le_refl->jnq,zero_le->jo7
open Bool renaming eq_iff_iff->jo0
open Go renaming World->jqz,Value->jr1
open Go.RowKit
set_option linter.unusedVariables false
set_option linter.unusedSimpArgs false
def bX (v:jr1) (w:jqz) (e:Ending) (w':jqz):Prop:=e=.returned v/\Below w.heap.size w w'
theorem vX {α:Type} (l:List α):(((l.length:Nat):Int)==0)=l.isEmpty:=by
 cases l with
 | nil=>rfl
 | cons x l=>simp;omega
theorem pR (a:At) (ac ap:Option Addr) (cc cp:Nat) (w:jqz) (hc:a.cls.length<=maxLen) (hp:a.aP.length<=maxLen) : Calls Tryz.prog 165 #[.agg #[.string a.id,.slice ac a.cls.length cc,.slice ap a.aP.length cp]] w (bX (.bool a.none) w):=by
 obtain ⟨id,cls,aP⟩:=a;dsimp only at hc hp ⊢;have h1:=dF id;have h2:=vX cls;have h3:=vX aP;have HV:Hid (At.none ⟨id,cls,aP⟩=(q01 id&&cls.isEmpty&&aP.isEmpty)):=rfl;generalize At.none ⟨id,cls,aP⟩=V at *;generalize q01 id=b1 at *;generalize cls.isEmpty=b2 at *;generalize aP.isEmpty=b3 at *;cases b1<;>cases b2<;>cases b3
 all_goals
  go_enter Tryz.func165,Tryz.ntmps165;go_wp2;go_ret;exact ⟨by rw [HV.out];rfl,(jnk _ _).alloc (jnq _) _⟩
def V4 (n:Int) (ks:List Int) (vi:jr1):Prop:=∃ k:Nat,k<=ks.length/\vi=.int .i64 k/\(ks.take k).contains n=false
theorem kZ (n:Int) (ks:List Int) (g cap:Nat) (w:jqz) (hl:ks.length<=1000) (hc:∀ j k,ks[j]?=some k->w.cell? ⟨g,j,none⟩=some (.int .i64 k)) : Calls Tryz.prog 161 #[.int .i64 n,.slice (some ⟨g,0,none⟩) ks.length cap] w fun e w'=>e=.returned (.bool (ks.contains n))/\w=w':=by
 have HC:=hid hc;have R0:Hid (V4 n ks (.int .i64 0)):=⟨0,jo7 _,rfl,by simp⟩;obtain ⟨V,hV⟩:∃ V,V=ks.contains n:=⟨_,rfl⟩;rw [<- hV];have HV:=hid hV;clear hc hV;go_enter Tryz.func161,Tryz.ntmps161;go_wp2
 go_loop [9] (fun i=>V4 n ks i) (fun i=>ks.length-(intOf i).toNat)
 case atStart=>exact R0.out
 case round=>
  clear R0;obtain ⟨k,hk,rfl,hno⟩:=hrel;have HN:=hid hno;clear hno;by_cases hlt:k<ks.length
  ·obtain ⟨x,hx⟩:∃ x,ks[k]?=some x:=⟨_,jnj hlt⟩;have hcell:=HC.out k x hx;have HT:Hid ((ks.take (k+1)).contains n=((ks.take k).contains n||(n==x))):=by
    show _=_;rw [jp0,hx,jo0];simp
   have HX:=hid hx;clear hx;cases hnx:(n==x)
   ·rw [hnx] at HT;go_wp2
    go_round
    case rel=>exact ⟨k+1,by omega,by go_num,by rw [HT.out,HN.out];rfl⟩
    case measure=>simp [intOf];omega
   ·have HE:Hid (V=true):=by
     show V=true;rw [HV.out,List.contains_iff_mem];have:n=x:=by simpa using hnx
     rw [this];exact jo8 HX.out
    go_wp2;go_ret;exact ⟨by rw [HE.out];rfl,rfl⟩
  ·have HE:Hid (V=false):=by
    show V=false;rw [HV.out];have:=HN.out
    rwa [joz (by omega)] at this
   go_wp2;go_ret;exact ⟨by rw [HE.out];rfl,rfl⟩
def V5 (l:List aj) (ks:List Int) (vi:jr1):Prop:=∃ k:Nat,k<=l.length/\vi=.int .i64 k/\aj.eF ks (l.take k)=false
theorem aj.Gr (ks:List Int):∀ (l m:List aj),aj.eF ks (l++m)=(aj.eF ks l||aj.eF ks m)
 | [],m=>by rw [List.nil_append,aj.eF];rfl
 | x::l,m=>by rw [List.cons_append,aj.eF,aj.eF,aj.Gr ks l m,Bool.or_assoc]
theorem aj.Mv (ks:List Int) {l:List aj} {k:Nat} {x:aj} (hx:l[k]?=some x):aj.eF ks (l.take (k+1))=(aj.eF ks (l.take k)||x.Qt ks):=by rw [jp0,hx,aj.Gr,Option.toList_some,aj.eF,aj.eF,Bool.or_false]
theorem aj.Gs (ks:List Int):∀ {l:List aj} {k:Nat} {x:aj},l[k]?=some x->x.Qt ks=true->aj.eF ks l=true
 | [],_,_,h,_=>by simp at h
 | y::l,0,x,h,hx=>by simp at h;subst h;rw [aj.eF,hx];rfl
 | y::l,k+1,x,h,hx=>by rw [aj.eF,aj.Gs ks (l:=l) (k:=k) (by simpa using h) hx,Bool.or_true]
theorem tN (n:Nat):∀ (l:List aj) (ok:Nat->Prop) (v:jr1) (ks:List Int) (g cap:Nat) (w:jqz),aj.aW l<=n->Rd ok w (bq l) [v]->ks.length<=1000->(∀ j k,ks[j]?=some k->w.cell? ⟨g,j,none⟩=some (.int .i64 k)) -> Calls Tryz.prog 203 #[v,.slice (some ⟨g,0,none⟩) ks.length cap] w fun e w'=>e=.returned (.bool (aj.eF ks l))/\w=w':=by
 induction n using Nat.strongRecOn with
 | _ n ih=>
  intro l ok v ks g cap w hn hrd hks hc;obtain ⟨a,cp,hv,hs⟩:=Rd.aC hrd;obtain rfl:v=.slice a l.length cp:=by simpa using hv
  have hcap:l.length<=cp:=by simpa using hs.le
  have hmx:=hs.max;unfold maxLen at hmx;have HS:=hid hs;have IH:=hid ih;have HC:=hid hc;have OO:=hid (fun n=>kZ n ks g cap w hks hc);have R0:Hid (V5 l ks (.int .i64 0)):=⟨0,jo7 _,rfl,by rw [List.take_zero,aj.eF]⟩;obtain ⟨V,hV⟩:∃ V,V=aj.eF ks l:=⟨_,rfl⟩;rw [<- hV];have HV:=hid hV;clear hs hv hrd ih hc hV;go_enter Tryz.func203,Tryz.ntmps203;go_wp2
  go_loop [8] (fun i=>V5 l ks i) (fun i=>l.length-(intOf i).toNat)
  case atStart=>exact R0.out
  case round=>
   clear R0;obtain ⟨k,hk,rfl,hno⟩:=hrel;have HN:=hid hno;clear hno;by_cases hlt:k<l.length
   ·obtain ⟨x,hx⟩:∃ x,l[k]?=some x:=⟨_,jnj hlt⟩;have hsn:=aj.Mv ks hx;have HG:=hid (aj.Gs ks hx);obtain ⟨kd,t,d,ti,at_,ar,ci,kids⟩:=x;obtain ⟨b,off,vc,vp,va,vi,vk,rfl,hok,hbl,hcl,hR⟩:=jl HS.out hx;obtain ⟨c0,-,-,-,-,-,-,-,-,c9⟩:=hcl;have hsz:=aj.aZ l k _ hx;rw [aj.sz] at hsz;have AK:=hid (IH.out (aj.aW kids) (by omega) kids ok vk ks g cap w (jnq _) hR.kids hks HC.out);obtain ⟨ak,nk,ck,rfl⟩:=Rd.Na hR.kids;have OK:=hid (OO.out kd);have HX:Hid ((aj.mk kd t d ti at_ ar ci kids).Qt ks=(ks.contains kd||aj.eF ks kids)):=by show _=_;rw [aj.Qt]
    have rX:=hid hsn;clear hx hR hsn;cases h1:ks.contains kd with
    | true=>
     rw [h1] at OK HX;have HE:Hid (V=true):=by show V=true;rw [HV.out];exact HG.out (by rw [HX.out];rfl)
     clear h1;go_wp2_with fail
     refine OK.out.mono ?_;rintro e w1 ⟨rfl,rfl⟩;go_wp2;go_ret;exact ⟨by rw [HE.out];rfl,rfl⟩
    | false=>
     rw [h1] at OK HX;cases h2:aj.eF ks kids with
     | true=>
      rw [h2] at AK HX;have HE:Hid (V=true):=by show V=true;rw [HV.out];exact HG.out (by rw [HX.out];rfl)
      clear h1 h2;go_wp2_with fail
      refine OK.out.mono ?_;rintro e w1 ⟨rfl,rfl⟩;go_wp2_with fail
      refine AK.out.mono ?_;rintro e w1 ⟨rfl,rfl⟩;go_wp2;go_ret;exact ⟨by rw [HE.out];rfl,rfl⟩
     | false=>
      rw [h2] at AK HX;clear h1 h2;go_wp2_with fail
      refine OK.out.mono ?_;rintro e w1 ⟨rfl,rfl⟩;go_wp2_with fail
      refine AK.out.mono ?_;rintro e w1 ⟨rfl,rfl⟩;go_wp2
      go_round
      case rel=>exact ⟨k+1,by omega,by go_num,by rw [rX.out,HN.out,HX.out];rfl⟩
      case measure=>simp [intOf];omega
   ·have HE:Hid (V=false):=by
     show V=false;rw [HV.out];have:=HN.out
     rwa [joz (by omega)] at this
    go_wp2;go_ret;exact ⟨by rw [HE.out];rfl,rfl⟩
open Go.RowKit
theorem lq (l:List ByteArray) (x:ByteArray):hasB l.reverse x=hasB l x:=by rw [jo0,qP,qP,List.mem_reverse]
theorem dx.cleared {w:jqz} {b n:Nat} {S:List ByteArray} (h:dx w b n S) (ty:TypeId) : ∃ w',(Builtin.clear_ #[127] ty #[.map (some b)]).run Tryz.prog w=.ok (.tuple #[]) w'/\dx w' b 0 []/\w.grownBy w' (some b):=by
 obtain ⟨D,⟨es,clock,hb,F,hsz,hD⟩,hat⟩:=h;have hr:∃ clock',(Builtin.clear_ #[127] ty #[.map (some b)]).run Tryz.prog w=.ok (.tuple #[]) { w with heap:=w.heap.setIfInBounds b (.map #[] clock') }:=by refine ⟨clock,?_⟩;simp [Builtin.clear_,run_underlying Tryz.underlying127,MapKept.run_getObj_map hb,MapKept.run_setObj_map _ hb,Result.andThen]
 obtain ⟨clock',hrun⟩:=hr;have hs:=MapKept.heap_set (o':=.map #[] clock') hb;refine ⟨_,hrun,⟨.map [],⟨#[],clock',hs.1,⟨by simp,MapKept.stamped_empty clock',by simp⟩,jnq _,rfl⟩,fun s=>rfl⟩,rfl,rfl,rfl,?_,fun i _ hne=>hs.2 i (fun e=>hne (by rw [e]))⟩;simp
def MV (T:TypeId) (p:Nat) (cs:List jr1) (w:jqz) (mb n:Nat) (S:List ByteArray) (wr:jqz):Prop:=CB T p cs wr/\dx wr mb n S/\Below w.heap.size w wr/\w.heap.size<=mb/\p≠mb/\w.heap.size<=p
theorem MV.put {T:TypeId} {p:Nat} {cs:List jr1} {w:jqz} {mb n n':Nat} {S S':List ByteArray} {wr w':jqz} (h:MV T p cs w mb n S wr) (hg:wr.grownBy w' (some mb)) (hs:dx w' mb n' S'):MV T p cs w mb n' S' w':=
 ⟨(hg.block p h.1.lt (fun e=>h.2.2.2.2.1 (by injection e))).trans h.1,hs,h.2.2.1.grown hg h.2.2.1.size (fun j hj=>by cases hj;exact h.2.2.2.1),h.2.2.2⟩
theorem MV.alloc {T:TypeId} {p:Nat} {cs:List jr1} {w:jqz} {mb n:Nat} {S:List ByteArray} {wr:jqz} (h:MV T p cs w mb n S wr) (o:Obj):MV T p cs w mb n S (wr.alloc o):=
 ⟨h.1.below ((jnk _ _).alloc (jnq _) _),h.2.1.below ((jnk _ _).alloc (jnq _) _),h.2.2.1.alloc h.2.2.1.size _,h.2.2.2⟩
theorem MV.drewN {T:TypeId} {p:Nat} {cs:List jr1} {w:jqz} {mb n:Nat} {S:List ByteArray} {wr:jqz} (h:MV T p cs w mb n S wr) (q:Nat):MV T p cs w mb n S (wr.drewN q):=
 ⟨h.1,h.2.1,gG h.2.2.1 q,h.2.2.2⟩
def QE (T:TypeId) (p:Nat) (cs:List jr1) (w:jqz) (mb:Nat) (l:List ByteArray) (E:Nat) (vi:jr1) (wr:jqz):Prop:=
 ∃ k:Nat,k<=l.length/\vi=.int .i64 k/\MV T p cs w mb k (l.take k).reverse wr/\dQ (l.take k) (l.drop k)=E
def QF (T:TypeId) (p:Nat) (cs:List jr1) (w:jqz) (mb:Nat) (l:List Pr) (E:Nat) (vi:jr1) (wr:jqz):Prop:=
 ∃ k:Nat,k<=l.length/\vi=.int .i64 k/\MV T p cs w mb k ((l.take k).map Pr.key).reverse wr/\dI ((l.take k).map Pr.key) (l.drop k)=E
theorem gT (a:At) (ac ap:Option Addr) (cc cp:Nat) (w:jqz) (h:AtR (·<w.heap.size) w a (.slice ac a.cls.length cc) (.slice ap a.aP.length cp)) (hs:a.short) : Calls Tryz.prog 95 #[.agg #[.string a.id,.slice ac a.cls.length cc,.slice ap a.aP.length cp]] w (bX (.int .i64 (a.err:Nat)) w):=by
 obtain ⟨sc,sp,si,sca,spa⟩:=hs;obtain ⟨id,cls,aP⟩:=a;dsimp only at sc sp si sca spa h ⊢;obtain ⟨a1,c1,hv1,hs1⟩:=Rd.aC h.cls;obtain ⟨rfl,rfl⟩:a1=ac/\c1=cc:=by simp at hv1;exact ⟨hv1.1.symm,hv1.2.symm⟩
 obtain ⟨a2,c2,hv2,hs2⟩:=Rd.aC h.aP;obtain ⟨rfl,rfl⟩:a2=ap/\c2=cp:=by simp at hv2;exact ⟨hv2.1.symm,hv2.2.symm⟩
 have l1:cls.length<=c1:=by simpa using hs1.le
 have l2:aP.length<=c2:=by simpa using hs2.le
 have m1:=hs1.max;have m2:=hs2.max;unfold maxLen at m1 m2;have H1:=hid hs1;have H2:=hid hs2;have SC:=hid sca;have SP:=hid spa;have NI:=hid (fun w=>q22 id w (by omega));have HE:Hid (At.err ⟨id,cls,aP⟩=if q01 id=false/\iU id=false then 6 else if dQ [] cls≠0 then dQ [] cls else if dI [] aP≠0 then dI [] aP else if 32<cls.length\/32<aP.length then 3 else 0):=rfl;obtain ⟨V,hV⟩:∃ V,V=At.err ⟨id,cls,aP⟩:=⟨_,rfl⟩;rw [<- hV] at HE ⊢;clear hV sca spa hs1 hs2 hv1 hv2 h;by_cases hbad:q01 id=false/\iU id=false
 ·have HV:Hid (V=6):=by show V=6;rw [HE.out,if_pos hbad]
  rw [hbad.2] at NI;have hie:id.toList.isEmpty=false:=by rw [dF];exact hbad.1
  clear hbad HE;go_enter Tryz.func95,Tryz.ntmps95;go_wp2_with (go_at_call 52;refine (NI.out _).mono ?_;rintro e w1 ⟨rfl,rfl⟩)
  go_ret;exact ⟨by rw [HV.out];rfl,(jnk _ _).alloc (jnq _) _⟩
 have hgood:id.toList.isEmpty=true\/(id.toList.isEmpty=false/\iU id=true):=by
  rw [dF];cases h1:q01 id
  ·right;refine ⟨rfl,?_⟩;cases h2:iU id
   ·exact absurd ⟨h1,h2⟩ hbad
   ·rfl
  ·left;rfl
 have HE2:Hid (V=if dQ [] cls≠0 then dQ [] cls else if dI [] aP≠0 then dI [] aP else if 32<cls.length\/32<aP.length then 3 else 0):=by show V=_;rw [HE.out,if_neg hbad]
 obtain ⟨w1,hw1⟩:∃ w1,w1=(w.alloc (.cells #[.string id,.slice a1 cls.length c1,.slice a2 aP.length c2] 45)).alloc (.map #[] 0):=⟨_,rfl⟩;have R0:Hid (QE 45 w.heap.size [.string id,.slice a1 cls.length c1,.slice a2 aP.length c2] w (w.heap.size+1) cls (dQ [] cls) (.int .i64 0) w1):=by
  refine ⟨0,jo7 _,rfl,⟨?_,?_,?_,by omega,by omega,jnq _⟩,rfl⟩
  ·rw [hw1];exact (CB.new _ _ w).below ((jnk _ _).alloc (jnq _) _)
  ·rw [hw1];have:=dx.made (w.alloc (.cells #[.string id,.slice a1 cls.length c1,.slice a2 aP.length c2] 45))
   rwa [World.size_alloc] at this
  ·rw [hw1];exact ((jnk _ _).alloc (jnq _) _).alloc (by simp) _
 have HW1:=hid hw1;obtain ⟨E1,hE1⟩:∃ E1,E1=dQ [] cls:=⟨_,rfl⟩;obtain ⟨E2,hE2⟩:∃ E2,E2=dI [] aP:=⟨_,rfl⟩;rw [<- hE1] at HE2 R0;rw [<- hE2] at HE2;have jj1:=hid hE2;clear hbad HE hw1 hE1 hE2;have hmm:=@run_makeMap Tryz.prog;rcases hgood with hie | ⟨hie,hnm⟩
 case' inl=>
  clear NI;go_enter Tryz.func95,Tryz.ntmps95;go_wp2;rw [<- HW1.out];clear hmm
 case' inr=>
  rw [hnm] at NI;clear hnm;go_enter Tryz.func95,Tryz.ntmps95;go_wp2_with (go_at_call 52;refine (NI.out _).mono ?_;rintro e w1 ⟨rfl,rfl⟩)
  rw [<- HW1.out];clear hmm
 all_goals
  go_loopw [21] (fun i wr=>QE 45 w.heap.size [.string id,.slice a1 cls.length c1,.slice a2 aP.length c2] w (w.heap.size+1) cls E1 i wr) (fun i _=>cls.length-(intOf i).toNat)
  case atStart=>exact R0.out
  case round=>
   clear R0;obtain ⟨k,hk,rfl,rY,bJ⟩:=hrel;have RQ:=hid rY;by_cases hlt:k<cls.length
   ·obtain ⟨x,hx⟩:∃ x,cls[k]?=some x:=⟨_,jnj hlt⟩;obtain ⟨b,off,rfl,-,-,c0⟩:=qL H1.out hx;have c0:wr.cell? ⟨b,off+k,none⟩=some (.string x):=by rw [rY.2.2.1.cell (p:=⟨b,off+k,none⟩) (EM c0)];exact c0
    have hxs:=SC.out x (jo8 hx);have CN:=hid (fun w=>q22 x w (by omega));have hlk:=rY.2.1.look x (by unfold maxLen;omega);obtain ⟨w',hup,hS',hg⟩:=rY.2.1.put x (by unfold maxLen;omega) (by unfold maxLen;omega);have ZR:=hid (rY.put hg hS');rw [lq] at hlk;rw [RO cls k x hx,dQ] at bJ;have Ho:Hid (cls.take (k+1)=cls.take k++[x]):=by show _=_;rw [jp0,hx];rfl
    have fK:=hid bJ;clear bJ hS' hg rY hx;cases hn:iU x with
    | false=>
     rw [hn] at CN;have HV:Hid (V=6):=by show V=6;have:=fK.out;rw [if_pos hn] at this;rw [HE2.out,<- this];rfl
     clear hn hup;go_wp2_with fail
     refine (CN.out _).mono ?_;rintro e w3 ⟨rfl,rfl⟩;go_wp2;go_ret;exact ⟨by rw [HV.out];rfl,RQ.out.2.2.1⟩
    | true=>
     rw [hn] at CN;cases hb:hasB (cls.take k) x with
     | true=>
      rw [hb] at hlk;have HV:Hid (V=7):=by show V=7;have:=fK.out;rw [if_neg (by rw [hn];decide),if_pos hb] at this;rw [HE2.out,<- this];rfl
      clear hn hb hup;go_wp2_with fail
      refine (CN.out _).mono ?_;rintro e w3 ⟨rfl,rfl⟩;go_wp2;go_ret;exact ⟨by rw [HV.out];rfl,RQ.out.2.2.1⟩
     | false=>
      rw [hb] at hlk;have uZ:Hid (dQ (cls.take (k+1)) (cls.drop (k+1))=E1):=by show _=_;have:=fK.out;rw [if_neg (by rw [hn];decide),if_neg (by rw [hb];decide)] at this;rw [Ho.out];exact this
      clear hn hb;go_wp2_with fail
      refine (CN.out _).mono ?_;rintro e w3 ⟨rfl,rfl⟩;go_wp2;go_roundw;case rel=>exact ⟨k+1,by omega,by go_num,by rw [Ho.out,List.reverse_append];exact ZR.out,uZ.out⟩
      case measure=>simp [intOf];omega
   ·obtain rfl:k=cls.length:=by omega
    have Uq:Hid (E1=0):=by show E1=0;rw [List.drop_length,dQ] at bJ;exact bJ.symm
    obtain ⟨w2,hcl,hS2,hg2⟩:∃ w2,(∀ ty,(Builtin.clear_ #[127] ty #[.map (some (w.heap.size+1))]).run Tryz.prog wr=.ok (.tuple #[]) w2)/\dx w2 (w.heap.size+1) 0 []/\wr.grownBy w2 (some (w.heap.size+1)):=by obtain ⟨w2,h1,h2,h3⟩:=rY.2.1.cleared 0;exact ⟨w2,fun ty=>h1,h2,h3⟩
    have R2:Hid (QF 45 w.heap.size [.string id,.slice a1 cls.length c1,.slice a2 aP.length c2] w (w.heap.size+1) aP E2 (.int .i64 0) w2):=⟨0,jo7 _,rfl,rY.put hg2 hS2,jj1.out.symm⟩;have p2:w2.cell? ⟨w.heap.size,2,none⟩=some (.slice a2 aP.length c2):=(rY.put hg2 hS2).1.cell 2 _ rfl;clear bJ rY RQ hS2 hg2 hk hlt;go_wp2
    go_loopw [38] (fun i wr=>QF 45 w.heap.size [.string id,.slice a1 cls.length c1,.slice a2 aP.length c2] w (w.heap.size+1) aP E2 i wr) (fun i _=>aP.length-(intOf i).toNat)
    case atStart=>exact R2.out
    case round=>
     clear R2 hcl p2;obtain ⟨k,hk,rfl,rY,bJ⟩:=hrel;have RQ:=hid rY;by_cases hlt:k<aP.length
     ·obtain ⟨x,hx⟩:∃ x,aP[k]?=some x:=⟨_,jnj hlt⟩;obtain ⟨b,off,rfl,-,-,c0,c1'⟩:=iW H2.out hx;have c0:wr.cell? ⟨b,off+k*2,none⟩=some (.string x.key):=by rw [rY.2.2.1.cell (p:=⟨b,off+k*2,none⟩) (EM c0)];exact c0
      have c1':wr.cell? ⟨b,off+k*2+1,none⟩=some (.string x.val):=by rw [rY.2.2.1.cell (p:=⟨b,off+k*2+1,none⟩) (EM c1')];exact c1'
      have hxs:=SP.out x (jo8 hx);have HX:=hid hx;have fK:Hid (dI ((aP.take k).map Pr.key) (x::aP.drop (k+1))=E2):=by show _=_;rw [<- RO aP k x hx];exact bJ
      obtain ⟨key,val⟩:=x;dsimp only at c0 c1' hxs;have CN:=hid (fun w=>q22 key w (by omega));have CV:=hid (fun w=>Aj val w (by omega));have Ho:Hid ((aP.take (k+1)).map Pr.key=(aP.take k).map Pr.key++[key]):=by show _=_;rw [jp0,HX.out];simp
      obtain ⟨wi,hwi⟩:∃ wi,wi=wr.alloc (.cells #[.string key,.string val] 61):=⟨_,rfl⟩;have D8:=rY.alloc (.cells #[.string key,.string val] 61);rw [<- hwi] at D8;have i0:wi.cell? ⟨wr.heap.size,0,none⟩=some (.string key):=by rw [hwi];exact GN wr [.string key,.string val] _ 0 _ rfl
      have i1:wi.cell? ⟨wr.heap.size,1,none⟩=some (.string val):=by rw [hwi];exact GN wr [.string key,.string val] _ 1 _ rfl
      have Rh:=hid D8;clear bJ rY hx;cases hn:iU key with
      | false=>
       rw [hn] at CN;have HV:Hid (V=6):=by show V=6;have:=fK.out;rw [dI,if_pos hn] at this;rw [HE2.out,Uq.out,<- this];rfl
       clear hn;go_upto_region 17 with (fail)
       rw [<- hwi];clear hwi D8;go_wp2_with fail
       refine (CN.out _).mono ?_;rintro e w3 ⟨rfl,rfl⟩;go_wp2;go_ret;exact ⟨by rw [HV.out];rfl,Rh.out.2.2.1⟩
      | true=>
       rw [hn] at CN;cases hln:fH val with
       | false=>
        rw [hln] at CV;have HV:Hid (V=17):=by show V=17;have:=fK.out;rw [dI,if_neg (by rw [hn];decide),if_pos hln] at this;rw [HE2.out,Uq.out,<- this];rfl
        clear hn hln;go_upto_region 17 with (fail)
        rw [<- hwi];clear hwi D8;go_wp2_with fail
        refine (CN.out _).mono ?_;rintro e w3 ⟨rfl,rfl⟩;go_wp2_with fail
        refine (CV.out _).mono ?_;rintro e w3 ⟨rfl,q,rfl⟩;go_wp2;go_ret;exact ⟨by rw [HV.out];rfl,gG Rh.out.2.2.1 q⟩
       | true=>
        rw [hln] at CV;have ZQ:=hid (fun q=>(D8.drewN q).2.1.look key (by unfold maxLen;omega));have WL:=hid (fun q=>(D8.drewN q).2.1.put key (by unfold maxLen;omega) (by unfold maxLen;omega));cases hb:hasB ((aP.take k).map Pr.key) key with
        | true=>
         have HV:Hid (V=7):=by show V=7;have:=fK.out;rw [dI,if_neg (by rw [hn];decide),if_neg (by rw [hln];decide),if_pos hb] at this;rw [HE2.out,Uq.out,<- this];rfl
         have HB:=hid hb;clear hn hln hb;go_upto_region 17 with (fail)
         rw [<- hwi];clear hwi D8;go_wp2_with fail
         refine (CN.out _).mono ?_;rintro e w3 ⟨rfl,rfl⟩;go_wp2_with fail
         refine (CV.out _).mono ?_;rintro e w3 ⟨rfl,q,rfl⟩;have hlk:=ZQ.out q;rw [lq,HB.out] at hlk;go_wp2;go_ret;exact ⟨by rw [HV.out];rfl,gG Rh.out.2.2.1 q⟩
        | false=>
         have uZ:Hid (dI ((aP.take (k+1)).map Pr.key) (aP.drop (k+1))=E2):=by show _=_;have:=fK.out;rw [dI,if_neg (by rw [hn];decide),if_neg (by rw [hln];decide),if_neg (by rw [hb];decide)] at this;rw [Ho.out];exact this
         have HB:=hid hb;clear hn hln hb;go_upto_region 17 with (fail)
         rw [<- hwi];clear hwi D8;go_wp2_with fail
         refine (CN.out _).mono ?_;rintro e w3 ⟨rfl,rfl⟩;go_wp2_with fail
         refine (CV.out _).mono ?_;rintro e w3 ⟨rfl,q,rfl⟩;have hlk:=ZQ.out q;rw [lq,HB.out] at hlk;obtain ⟨w',hup,hS',hg⟩:=WL.out q;have ZR:=hid ((Rh.out.drewN q).put hg hS');clear hS' hg;go_wp2;go_roundw;case rel=>exact ⟨k+1,by omega,by go_num,by rw [Ho.out,List.reverse_append];exact ZR.out,uZ.out⟩
         case measure=>simp [intOf];omega
     ·obtain rfl:k=aP.length:=by omega
      have HV:Hid (V=if 32<cls.length\/32<aP.length then 3 else 0):=by show V=_;rw [List.drop_length,dI] at bJ;rw [HE2.out,Uq.out,<- bJ];rfl
      have p1:wr.cell? ⟨w.heap.size,1,none⟩=some (.slice a1 cls.length c1):=rY.1.cell 1 _ rfl;have p2:wr.cell? ⟨w.heap.size,2,none⟩=some (.slice a2 aP.length c2):=rY.1.cell 2 _ rfl;clear bJ rY hk hlt;by_cases h1:32<cls.length
      ·have q1:decide ((32:Int)<(cls.length:Int))=true:=by simp;omega
       go_wp2;go_ret;exact ⟨by rw [HV.out,if_pos (.inl h1)];rfl,RQ.out.2.2.1⟩
      ·have q1:decide ((32:Int)<(cls.length:Int))=false:=by simp;omega
       by_cases h2:32<aP.length
       ·have q2:decide ((32:Int)<(aP.length:Int))=true:=by simp;omega
        go_wp2;go_ret;exact ⟨by rw [HV.out,if_pos (.inr h2)];rfl,RQ.out.2.2.1⟩
       ·have q2:decide ((32:Int)<(aP.length:Int))=false:=by simp;omega
        go_wp2;go_ret;exact ⟨by rw [HV.out,if_neg (by omega)];rfl,RQ.out.2.2.1⟩
open Go.RowKit
theorem aj.QG (l:List aj) (k:Nat) (x:aj) (h:l[k]?=some x):aj.aW (l.take k)+x.sz<=aj.aW l:=by
 have h1:aj.aW (l.take (k+1))<=aj.aW l:=by have:=aj.KS (l.take (k+1)) (l.drop (k+1));rw [List.take_append_drop] at this;omega
 rw [aj.yV h] at h1;exact h1
theorem ah.Mw (l:List ah) (k:Nat) (x:ah) (h:l[k]?=some x):ah.bS (l.take k)+x.all<=ah.bS l:=by
 have h1:ah.bS (l.take (k+1))<=ah.bS l:=by have:=ah.Gt (l.take (k+1)) (l.drop (k+1));rw [List.take_append_drop] at this;omega
 rw [ah.l9 h] at h1;exact h1
theorem ah.Ur (x:ah):1<=x.all:=by cases x;rw [ah.all];omega
theorem ah.KT:∀ (l:List ah),l.length<=ah.bS l
 | []=>by simp
 | x::l=>by have:=ah.KT l;have:=x.Ur;rw [ah.bS];simp;omega
theorem jj2 {P:Program} {f:FuncId} {args:Array jr1} {w:jqz} {a n:Nat} {v:jr1} (h:Calls P f args (w.drewN (a+n)) fun e w'=>e=.returned v/\w.drewN (a+n)=w') : Calls P f args (w.drewN (a+n)) fun e w''=>e=.returned v/\∃ m,w''=w.drewN (a+m):=h.mono fun _ _ ⟨he,hm⟩=>⟨he,n,hm.symm⟩
theorem jj3 {P:Program} {f:FuncId} {args:Array jr1} {w:jqz} {a n:Nat} {v:jr1} (h:Calls P f args (w.drewN (a+n)) (Dr v (w.drewN (a+n)))) : Calls P f args (w.drewN (a+n)) fun e w''=>e=.returned v/\∃ m,w''=w.drewN (a+m):=h.mono fun _ _ ⟨he,m,hm⟩=>⟨he,n+m,by rw [hm,World.drewN_drewN,Nat.add_assoc]⟩
def V6 (l:List aj) (vn vi:jr1):Prop:=∃ k n:Nat,k<=l.length/\vi=.int .i64 k/\vn=.int .i64 n/\n=aj.aW (l.take k)+(l.length-k)
def V7 (l:List ah) (w:jqz) (vn vi:jr1) (wr:jqz):Prop:=∃ k n q:Nat,k<=l.length/\vi=.int .i64 k/\vn=.int .i64 n/\n=ah.bS (l.take k)+(l.length-k)/\wr=w.drewN q
theorem yX (n:Nat):∀ (l:List aj) (ok:Nat->Prop) (v:jr1) (w:jqz),aj.aW l<=n->n<=1000000->Rd ok w (bq l) [v] -> Calls Tryz.prog 186 #[v] w fun e w'=>e=.returned (.int .i64 (aj.aW l:Nat))/\w=w':=by
 induction n using Nat.strongRecOn with
 | _ n ih=>
  intro l ok v w hn hnm h1;obtain ⟨a,cap,hv,hs⟩:=Rd.aC h1;obtain rfl:v=.slice a l.length cap:=by simpa using hv
  have hcap:l.length<=cap:=by simpa using hs.le
  have hmx:=hs.max;unfold maxLen at hmx;have HS:=hid hs;have IH:=hid ih;have R0:Hid (V6 l (.int .i64 (l.length:Int)) (.int .i64 0)):=⟨0,l.length,jo7 _,rfl,rfl,by rw [List.take_zero,aj.aW];simp⟩;clear hs hv h1 ih;go_enter Tryz.func186,Tryz.ntmps186;go_wp2
  go_loop [3,9] (fun vn vi=>V6 l vn vi) (fun _ i=>l.length-(intOf i).toNat)
  case atStart=>exact R0.out
  case round=>
   clear R0;obtain ⟨k,m,hk,rfl,rfl,hm⟩:=hrel;by_cases hlt:k<l.length
   ·obtain ⟨x,hx⟩:∃ x,l[k]?=some x:=⟨_,jnj hlt⟩;have hsz:=aj.QG l k _ hx;have hsn:=aj.yV hx;obtain ⟨kd,t,d,ti,at_,ar,ci,ks⟩:=x;obtain ⟨g,off,vc,vp,va,vi,vk,rfl,hok,hbl,hc,hR⟩:=jl HS.out hx;rw [aj.sz] at hsz hsn;obtain ⟨ak,nk,ck,rfl⟩:=Rd.Na hR.kids;have p9:=hc.c9;have CK:=hid (IH.out (aj.aW ks) (by omega) ks ok (.slice ak nk ck) w (jnq _) (by omega) hR.kids);have HM:Hid (m+aj.aW ks=aj.aW (l.take (k+1))+(l.length-(k+1))):=by show _=_;omega
    have hlm:l.length-k<=1000000:=by have:=aj.iZ l;omega
    have hmb:m+aj.aW ks<=3000000:=by omega
    generalize aj.aW ks=K at *;clear hc hR hx hm hsn hsz hlm;go_wp2_with fail
    refine CK.out.mono ?_;rintro e w1 ⟨rfl,rfl⟩;go_wp2
    go_round
    case rel=>exact ⟨k+1,m+K,by omega,by go_num,by go_num,HM.out⟩
    case measure=>simp [intOf];omega
   ·obtain rfl:k=l.length:=by omega
    have hv:m=aj.aW l:=by rw [hm,List.take_length];omega
    have HV:=hid hv;clear hv hm;go_wp2;go_ret;exact ⟨by rw [<- HV.out];rfl,rfl⟩
theorem tq (n:Nat):∀ (l:List ah) (ok:Nat->Prop) (v:jr1) (w:jqz),ah.bS l<=n->n<=1000000->Rd ok w (bZ l) [v] -> Calls Tryz.prog 146 #[v] w (Dr (.int .i64 (ah.bS l:Nat)) w):=by
 induction n using Nat.strongRecOn with
 | _ n ih=>
  intro l ok v w hn hnm h1;obtain ⟨a,cap,hv,hs⟩:=Rd.aC h1;obtain rfl:v=.slice a l.length cap:=by simpa using hv
  have hcap:l.length<=cap:=by simpa using hs.le
  have hmx:=hs.max;unfold maxLen at hmx;have HS:=hid hs;have IH:=hid ih;have R0:Hid (V7 l w (.int .i64 (l.length:Int)) (.int .i64 0) w):=⟨0,l.length,0,jo7 _,rfl,rfl,by rw [List.take_zero,ah.bS];simp,rfl⟩;clear hs hv h1 ih;go_enter Tryz.func146,Tryz.ntmps146;go_wp2
  go_loopw [3,9] (fun vn vi wr=>V7 l w vn vi wr) (fun _ i _=>l.length-(intOf i).toNat)
  case atStart=>exact R0.out
  case round=>
   clear R0;obtain ⟨k,m,q,hk,rfl,rfl,hm,rfl⟩:=hrel;by_cases hlt:k<l.length
   ·obtain ⟨x,hx⟩:∃ x,l[k]?=some x:=⟨_,jnj hlt⟩;have hsz:=ah.Mw l k _ hx;have hsn:=ah.l9 hx;obtain ⟨kd,lv,i,t,d,ti,at_,li,ks⟩:=x;obtain ⟨g,off,vc,vp,vl,vk,rfl,hok,hbl,hc,hR⟩:=iA HS.out hx;rw [ah.all] at hsz hsn;obtain ⟨ak,nk,ck,rfl⟩:=Rd.Na hR.kids;obtain ⟨al,nl,cl,rfl⟩:=Rd.Na hR.line;have p9:=hc.c9;have Nv:=hc.c10;have hst:∀ q,AJ ok ok w (w.drewN q):=fun q b h _=>⟨h,rfl⟩
    have CL:=hid (fun q=>yX _ li ok (.slice al nl cl) (w.drewN q) (jnq _) (by omega) (Rd.keep (hst q) _ _ hR.line));have CK:=hid (fun q=>IH.out (ah.bS ks) (by omega) ks ok (.slice ak nk ck) (w.drewN q) (jnq _) (by omega) (Rd.keep (hst q) _ _ hR.kids));have HM:Hid (m+(aj.aW li+ah.bS ks)=ah.bS (l.take (k+1))+(l.length-(k+1))):=by show _=_;omega
    have hlm:l.length-k<=1000000:=by have:=ah.KT l;omega
    have hmb:m+(aj.aW li+ah.bS ks)<=3000000:=by omega
    generalize aj.aW li=L at *;generalize ah.bS ks=K at *;have s1:IntKind.i64.wrap ((L:Int)+(K:Int))=(L:Int)+(K:Int):=jy (by omega) (by omega);have s2:IntKind.i64.wrap ((m:Int)+((L:Int)+(K:Int)))=(m:Int)+((L:Int)+(K:Int)):=jy (by omega) (by omega);clear hc hR hx hm hsn hsz hlm hst;go_wp2_with fail
    go_quiet ((first | (go_at_call 186;exact jj2 (CL.out _)) | (go_at_call 146;exact jj3 (CK.out _))))
    clear s1 s2;go_wp2;go_roundw;case rel=>exact ⟨k+1,m+(L+K),_,by omega,by go_num,by go_num,HM.out,rfl⟩
    case measure=>simp [intOf];omega
   ·obtain rfl:k=l.length:=by omega
    have hv:m=ah.bS l:=by rw [hm,List.take_length];omega
    have HV:=hid hv;clear hv hm;go_wp2;go_ret;exact ⟨by rw [<- HV.out];rfl,q,rfl⟩
open Go.RowKit
theorem Lp (l:List ah) (am ab:Option Addr) (nm cm nb cb:Nat) (w:jqz) (hn:ah.bS l<=1000000) (h:Rd (·<w.heap.size) w (bZ l) [.slice ab nb cb]) : Calls Tryz.prog 92 #[.agg #[.slice am nm cm,.slice ab nb cb]] w (bX (.int .i64 (ah.bS l:Nat)) w):=by
 have hb0:Below w.heap.size w (w.alloc (.cells #[.slice am nm cm,.slice ab nb cb] 26)):=(jnk _ _).alloc (jnq _) _;have SZ:=hid (tq _ l _ _ _ (jnq _) hn (h.up hb0));have HB:=hid hb0;generalize ah.bS l=N at *;clear h hb0;go_enter Tryz.func92,Tryz.ntmps92;go_wp2_with fail
 refine SZ.out.mono ?_;rintro e w1 ⟨rfl,q,rfl⟩;go_wp2;go_ret;exact ⟨rfl,gG HB.out q⟩
open Go.RowKit
def QH (c:Nat):Bool:=decide (c=10)||(decide (32<=c)&&!decide (c=127))
theorem Jm (c:Nat) (w:jqz) (hc:c<=1114111) : Calls Tryz.prog 108 #[.int .i64 (c:Int)] w fun e w'=>e=.returned (.bool (QH c))/\w=w':=by
 go_enter Tryz.func108,Tryz.ntmps108;go_wp2;all_goals
  go_ret;refine ⟨vP ?_,rfl⟩;unfold QH
  (try simp only [beq_iff_eq,beq_eq_false_iff_ne,ne_eq,bne_iff_ne,bne_eq_false_iff_eq] at *)
  rw [jo0];simp;omega
theorem V8 (a b:Nat):decide (a=b)=((a:Int)==(b:Int)):=by rw [jo0];simp;omega
theorem Us (a b:Nat):jX (a,b)=(QH a&&!(((a:Int)==65533)&&((b:Int)==1))):=by unfold jX QH;rw [V8 a 65533,V8 b 1];rfl
theorem Mx {w1:jqz} {B:Nat} {v1:jr1} {ps:List (Nat × Nat)} (ho1:w1.ownsRow B 138 2 v1 ps.length (mU ps).flatten) : ∃ a cap,v1=.slice a ps.length cap/\ps.length<=cap/\cap<=maxLen/\(0<ps.length->∃ b,a=some ⟨b,0,none⟩/\b<w1.heap.size/\∀ k p,ps[k]?=some p->w1.cell? ⟨b,k*2,none⟩=some (.int .i64 (p.1:Int))/\w1.cell? ⟨b,k*2+1,none⟩=some (.int .i64 (p.2:Int))):=by
 rcases ho1.2 with ⟨rfl,h0⟩ | ⟨g,cap,cur,rfl,hg,hh,hn,hm,_⟩
 ·exact ⟨none,0,by rw [h0],by omega,jo7 _,fun h=>by omega⟩
 ·refine ⟨_,cap,rfl,hn,hm,fun _=>⟨g,rfl,(ho1.lt g rfl).2,fun k p hk=>?_⟩⟩;have hr:(mU ps)[k]?=some (BK p):=by simp [mU,hk]
  have h0:=ho1.cells rfl _ _ (flat_get 2 _ (Gl ps) k 0 _ (.int .i64 (p.1:Int)) hr rfl);have h1:=ho1.cells rfl _ _ (flat_get 2 _ (Gl ps) k 1 _ (.int .i64 (p.2:Int)) hr rfl);have e:∀ j,((⟨g,0,none⟩:Addr).add j)=⟨g,j,none⟩:=fun j=>by unfold Addr.add;split<;>simp_all
  rw [e] at h0 h1;exact ⟨h0,h1⟩
theorem QI {α:Type} (f:α->Bool) {l:List α} {k:Nat} {x:α} (h:l[k]?=some x):(l.take (k+1)).all f=((l.take k).all f&&f x):=by rw [jp0,h];simp
theorem YI {α:Type} (f:α->Bool) {l:List α} {k:Nat} {x:α} (h:l[k]?=some x) (hf:f x=false):l.all f=false:=by rw [List.all_eq_false];exact ⟨x,jo8 h,by rw [hf];decide⟩
def jdq (w1 wr:jqz) (ps:List (Nat × Nat)) (vi:jr1):Prop:=∃ k:Nat,k<=ps.length/\vi=.int .i64 k/\(ps.take k).all jX=true/\Below w1.heap.size w1 wr
theorem qj (s:ByteArray) (w:jqz) (hs:s.size<=10000000000) : Calls Tryz.prog 64 #[.string s] w (bX (.bool (fJ s)) w):=by
 have PO:=hid (Gn s w (by omega));obtain ⟨V,hV⟩:∃ V,V=fJ s:=⟨_,rfl⟩;rw [<- hV];have HV:Hid (V=(pts s).all jX):=hV;have hpl:(pts s).length<=s.size:=by have:=QB s s.size 0;unfold pts;simpa using this
 have Y8:=hid (Ca s s.size 0);change Hid (∀ p∈pts s,p.1<=1114111) at Y8;clear hV;generalize pts s=ps at *;go_enter Tryz.func64,Tryz.ntmps64;go_wp2_with fail
 refine PO.out.mono ?_;rintro e w1 ⟨v1,rfl,ho1,b1⟩;obtain ⟨a,cap,rfl,hcap,hmx,hcs⟩:=Mx ho1;have JQ:=hid hcs;have B1:=hid b1;have HZ:Hid ((ps.take 0).all jX=true):=rfl;clear hcs ho1 PO b1;unfold maxLen at hmx;go_wp2
 go_loopw [8] (fun vi wr=>jdq w1 wr ps vi) (fun i _=>ps.length-(intOf i).toNat)
 case atStart=>exact ⟨0,jo7 _,rfl,HZ.out,jnk _ _⟩
 case round=>
  obtain ⟨k,hk,rfl,hall,hbel⟩:=hrel;have HA:=hid hall;have HB:=hid hbel;clear hall;by_cases hlt:k<ps.length
  ·obtain ⟨p,hp⟩:∃ p,ps[k]?=some p:=⟨_,jnj hlt⟩;obtain ⟨b,rfl,hbl,hc⟩:=JQ.out (by omega);obtain ⟨k1,k2⟩:=hc k p hp;have c1:wr.cell? ⟨b,k*2,none⟩=some (.int .i64 (p.1:Int)):=by rw [hbel.cell (p:=⟨b,k*2,none⟩) hbl];exact k1
   have c2:wr.cell? ⟨b,k*2+1,none⟩=some (.int .i64 (p.2:Int)):=by rw [hbel.cell (p:=⟨b,k*2+1,none⟩) hbl];exact k2
   have hd:=Y8.out p (jo8 hp);have rX:=hid (QI jX hp);have Rf:=hid (fun hf=>HV.out.trans (YI jX hp hf));obtain ⟨d1,d2⟩:=p;simp only at hd c1 c2;have CC:=hid (fun w=>Jm d1 w hd);have GK:=hid (Us d1 d2);clear hp hc k1 k2 hbel;cases hcl:QH d1 with
   | false=>
    rw [hcl] at CC GK;have HE:Hid (V=false):=Rf.out GK.out;clear hcl;go_wp2_with fail
    refine (CC.out _).mono ?_;rintro e w2 ⟨rfl,rfl⟩;go_wp2;go_ret;exact ⟨by rw [HE.out];rfl,aU B1.out (HB.out.alloc HB.out.size _)⟩
   | true=>
    rw [hcl] at CC GK;cases hq1:((d1:Int)==65533) with
    | false=>
     rw [hq1] at GK;clear hcl;go_wp2_with fail
     refine (CC.out _).mono ?_;rintro e w2 ⟨rfl,rfl⟩;go_wp2;go_roundw;case rel=>exact ⟨k+1,by omega,by go_num,by rw [rX.out,HA.out,GK.out];rfl,HB.out.alloc HB.out.size _⟩
     case measure=>simp [intOf];omega
    | true=>
     cases hq2:((d2:Int)==1) with
     | false=>
      rw [hq1,hq2] at GK;clear hcl;go_wp2_with fail
      refine (CC.out _).mono ?_;rintro e w2 ⟨rfl,rfl⟩;go_wp2;go_roundw;case rel=>exact ⟨k+1,by omega,by go_num,by rw [rX.out,HA.out,GK.out];rfl,HB.out.alloc HB.out.size _⟩
      case measure=>simp [intOf];omega
     | true=>
      rw [hq1,hq2] at GK;have HE:Hid (V=false):=Rf.out GK.out;clear hcl;go_wp2_with fail
      refine (CC.out _).mono ?_;rintro e w2 ⟨rfl,rfl⟩;go_wp2;go_ret;exact ⟨by rw [HE.out];rfl,aU B1.out (HB.out.alloc HB.out.size _)⟩
  ·have HE:Hid (V=true):=by
    show V=true;have:=HA.out;rw [joz (by omega)] at this;rw [HV.out,this]
   go_wp2;go_ret;exact ⟨by rw [HE.out];rfl,aU B1.out HB.out⟩
theorem wu (s:ByteArray) (w:jqz) (hs:s.size<=1000000000) : Calls Tryz.prog 64 #[.string s] w (bX (.bool (fJ s)) w):=qj s w (by omega)
open Go.RowKit
open Go.RowKit
open Go.RowKit
end Go.Proofs.YtkfnkeflalcphaaGreatDoor

