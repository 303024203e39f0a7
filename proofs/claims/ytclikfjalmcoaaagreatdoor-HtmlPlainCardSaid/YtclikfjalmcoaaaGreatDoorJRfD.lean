/- Contracts of attr.Empty, tree.oneOf, anyKind, inlineFields. The contract of attr.Check: the first error of attributes. publisherref04.count, sizes, Size, Depth; tree.sizeOfLine, sizeOfBlocks, Size, Depth. Size and Depth of documents, of tree and of the reference. Contracts of publisherref01.clean, Digit, Valid. Contracts of publisherref04.line, trimmed, has, in, noAttr and of publisherref03.line. Contracts of publisherref03.letter, part, word, Name. Contracts of publisherref03.hasText, hasKey, Check. -/
import Derived.Test.YtclikfjalmcoaaaGreatDoorJChA
import Derived.Test.YtclikfjalmcoaaaGreatDoorJSmall
import Derived.Test.YtclikfjalmcoaaaGreatDoorJInlsW
set_option maxHeartbeats 8000000
set_option maxRecDepth 100000
open Go.Lib (hid)
namespace Go.Proofs.YtclikfjalmcoaaaGreatDoor
open List renaming getElem?_eq_getElem->jc6,mem_of_getElem?->jd4,take_add_one->jdk
open Go.RowKit.Below renaming refl->jc7
open Nat renaming le_refl->jc8,zero_le->jd3
open Go renaming World->jf9,Value->jfk
open Go.RowKit
set_option linter.unusedVariables false
set_option linter.unusedSimpArgs false
def dJ (v:jfk) (w:jf9) (e:Ending) (w':jf9):Prop:=e=.returned v/\Below w.heap.size w w'
theorem uw {α:Type} (l:List α):(((l.length:Nat):Int)==0)=l.isEmpty:=by
 cases l with
 | nil=>rfl
 | cons x l=>simp;omega
theorem nY (a:At) (ac ap:Option Addr) (cc cp:Nat) (w:jf9) (hc:a.cls.length<=maxLen) (hp:a.aH.length<=maxLen) : Calls Tryz.prog 179 #[.agg #[.string a.id,.slice ac a.cls.length cc,.slice ap a.aH.length cp]] w (dJ (.bool a.none) w):=by
 obtain ⟨id,cls,aH⟩:=a;dsimp only at hc hp ⊢;have h1:=dw id;have h2:=uw cls;have h3:=uw aH;have HV:Hid (At.none ⟨id,cls,aH⟩=(aW id&&cls.isEmpty&&aH.isEmpty)):=rfl;generalize At.none ⟨id,cls,aH⟩=V at *;generalize aW id=b1 at *;generalize cls.isEmpty=b2 at *;generalize aH.isEmpty=b3 at *;cases b1<;>cases b2<;>cases b3
 all_goals
  go_enter Tryz.func179,Tryz.ntmps179;go_wp2;go_ret;exact ⟨by rw [HV.out];rfl,(jc7 _ _).alloc (jc8 _) _⟩
def Qd (n:Int) (ks:List Int) (vi:jfk):Prop:=∃ k:Nat,k<=ks.length/\vi=.int .i64 k/\(ks.take k).contains n=false
theorem jM (n:Int) (ks:List Int) (g cap:Nat) (w:jf9) (hl:ks.length<=1000) (hc:∀ j k,ks[j]?=some k->w.cell? ⟨g,j,none⟩=some (.int .i64 k)) : Calls Tryz.prog 147 #[.int .i64 n,.slice (some ⟨g,0,none⟩) ks.length cap] w fun e w'=>e=.returned (.bool (ks.contains n))/\w=w':=by
 have HC:=hid hc;have R0:Hid (Qd n ks (.int .i64 0)):=⟨0,jd3 _,rfl,by simp⟩;obtain ⟨V,hV⟩:∃ V,V=ks.contains n:=⟨_,rfl⟩;rw [<- hV];have HV:=hid hV;clear hc hV;go_enter Tryz.func147,Tryz.ntmps147;go_wp2
 go_loop [9] (fun i=>Qd n ks i) (fun i=>ks.length-(intOf i).toNat)
 case atStart=>exact R0.out
 case round=>
  clear R0;obtain ⟨k,hk,rfl,hno⟩:=hrel;have HN:=hid hno;clear hno;by_cases hlt:k<ks.length
  ·obtain ⟨x,hx⟩:∃ x,ks[k]?=some x:=⟨_,jc6 hlt⟩;have hcell:=HC.out k x hx;have HT:Hid ((ks.take (k+1)).contains n=((ks.take k).contains n||(n==x))):=by
    show _=_;rw [jdk,hx,Bool.eq_iff_iff];simp
   have HX:=hid hx;clear hx;cases hnx:(n==x)
   ·rw [hnx] at HT;go_wp2
    go_round
    case rel=>exact ⟨k+1,by omega,by go_num,by rw [HT.out,HN.out];rfl⟩
    case measure=>simp [intOf];omega
   ·have HE:Hid (V=true):=by
     show V=true;rw [HV.out,List.contains_iff_mem];have:n=x:=by simpa using hnx
     rw [this];exact jd4 HX.out
    go_wp2;go_ret;exact ⟨by rw [HE.out];rfl,rfl⟩
  ·have HE:Hid (V=false):=by
    show V=false;rw [HV.out];have:=HN.out
    rwa [List.take_of_length_le (by omega)] at this
   go_wp2;go_ret;exact ⟨by rw [HE.out];rfl,rfl⟩
def Qe (l:List ah) (ks:List Int) (vi:jfk):Prop:=∃ k:Nat,k<=l.length/\vi=.int .i64 k/\ah.dW ks (l.take k)=false
theorem ah.Dz (ks:List Int):∀ (l m:List ah),ah.dW ks (l++m)=(ah.dW ks l||ah.dW ks m)
 | [],m=>by rw [List.nil_append,ah.dW];rfl
 | x::l,m=>by rw [List.cons_append,ah.dW,ah.dW,ah.Dz ks l m,Bool.or_assoc]
theorem ah.IW (ks:List Int) {l:List ah} {k:Nat} {x:ah} (hx:l[k]?=some x):ah.dW ks (l.take (k+1))=(ah.dW ks (l.take k)||x.Lx ks):=by rw [jdk,hx,ah.Dz,Option.toList_some,ah.dW,ah.dW,Bool.or_false]
theorem ah.DF (ks:List Int):∀ {l:List ah} {k:Nat} {x:ah},l[k]?=some x->x.Lx ks=true->ah.dW ks l=true
 | [],_,_,h,_=>by simp at h
 | y::l,0,x,h,hx=>by simp at h;subst h;rw [ah.dW,hx];rfl
 | y::l,k+1,x,h,hx=>by rw [ah.dW,ah.DF ks (l:=l) (k:=k) (by simpa using h) hx,Bool.or_true]
theorem rJ (n:Nat):∀ (l:List ah) (ok:Nat->Prop) (v:jfk) (ks:List Int) (g cap:Nat) (w:jf9),ah.aU l<=n->Rd ok w (bC l) [v]->ks.length<=1000->(∀ j k,ks[j]?=some k->w.cell? ⟨g,j,none⟩=some (.int .i64 k)) -> Calls Tryz.prog 217 #[v,.slice (some ⟨g,0,none⟩) ks.length cap] w fun e w'=>e=.returned (.bool (ah.dW ks l))/\w=w':=by
 induction n using Nat.strongRecOn with
 | _ n ih=>
  intro l ok v ks g cap w hn hrd hks hc;obtain ⟨a,cp,hv,hs⟩:=Rd.aD hrd;obtain rfl:v=.slice a l.length cp:=by simpa using hv
  have hcap:l.length<=cp:=by simpa using hs.le
  have hmx:=hs.max;unfold maxLen at hmx;have HS:=hid hs;have IH:=hid ih;have HC:=hid hc;have OO:=hid (fun n=>jM n ks g cap w hks hc);have R0:Hid (Qe l ks (.int .i64 0)):=⟨0,jd3 _,rfl,by rw [List.take_zero,ah.dW]⟩;obtain ⟨V,hV⟩:∃ V,V=ah.dW ks l:=⟨_,rfl⟩;rw [<- hV];have HV:=hid hV;clear hs hv hrd ih hc hV;go_enter Tryz.func217,Tryz.ntmps217;go_wp2
  go_loop [8] (fun i=>Qe l ks i) (fun i=>l.length-(intOf i).toNat)
  case atStart=>exact R0.out
  case round=>
   clear R0;obtain ⟨k,hk,rfl,hno⟩:=hrel;have HN:=hid hno;clear hno;by_cases hlt:k<l.length
   ·obtain ⟨x,hx⟩:∃ x,l[k]?=some x:=⟨_,jc6 hlt⟩;have hsn:=ah.IW ks hx;have HG:=hid (ah.DF ks hx);obtain ⟨kd,t,d,ti,at_,ar,ci,kids⟩:=x;obtain ⟨b,off,vc,vp,va,vi,vk,rfl,hok,hbl,hcl,hR⟩:=eF HS.out hx;obtain ⟨c0,-,-,-,-,-,-,-,-,c9⟩:=hcl;have hsz:=ah.bD l k _ hx;rw [ah.sz] at hsz;have AK:=hid (IH.out (ah.aU kids) (by omega) kids ok vk ks g cap w (jc8 _) hR.kids hks HC.out);obtain ⟨ak,nk,ck,rfl⟩:=Rd.Dw hR.kids;have OK:=hid (OO.out kd);have HX:Hid ((ah.mk kd t d ti at_ ar ci kids).Lx ks=(ks.contains kd||ah.dW ks kids)):=by show _=_;rw [ah.Lx]
    have kE:=hid hsn;clear hx hR hsn;cases h1:ks.contains kd with
    | true=>
     rw [h1] at OK HX;have HE:Hid (V=true):=by show V=true;rw [HV.out];exact HG.out (by rw [HX.out];rfl)
     clear h1;go_wp2_with fail
     refine OK.out.mono ?_;rintro e w1 ⟨rfl,rfl⟩;go_wp2;go_ret;exact ⟨by rw [HE.out];rfl,rfl⟩
    | false=>
     rw [h1] at OK HX;cases h2:ah.dW ks kids with
     | true=>
      rw [h2] at AK HX;have HE:Hid (V=true):=by show V=true;rw [HV.out];exact HG.out (by rw [HX.out];rfl)
      clear h1 h2;go_wp2_with fail
      refine OK.out.mono ?_;rintro e w1 ⟨rfl,rfl⟩;go_wp2_with fail
      refine AK.out.mono ?_;rintro e w1 ⟨rfl,rfl⟩;go_wp2;go_ret;exact ⟨by rw [HE.out];rfl,rfl⟩
     | false=>
      rw [h2] at AK HX;clear h1 h2;go_wp2_with fail
      refine OK.out.mono ?_;rintro e w1 ⟨rfl,rfl⟩;go_wp2_with fail
      refine AK.out.mono ?_;rintro e w1 ⟨rfl,rfl⟩;go_wp2
      go_round
      case rel=>exact ⟨k+1,by omega,by go_num,by rw [kE.out,HN.out,HX.out];rfl⟩
      case measure=>simp [intOf];omega
   ·have HE:Hid (V=false):=by
     show V=false;rw [HV.out];have:=HN.out
     rwa [List.take_of_length_le (by omega)] at this
    go_wp2;go_ret;exact ⟨by rw [HE.out];rfl,rfl⟩
open Go.RowKit
theorem gH (l:List ByteArray) (x:ByteArray):hasB l.reverse x=hasB l x:=by rw [Bool.eq_iff_iff,BU,BU,List.mem_reverse]
theorem dU.cleared {w:jf9} {b n:Nat} {S:List ByteArray} (h:dU w b n S) (ty:TypeId) : ∃ w',(Builtin.clear_ #[138] ty #[.map (some b)]).run Tryz.prog w=.ok (.tuple #[]) w'/\dU w' b 0 []/\w.grownBy w' (some b):=by
 obtain ⟨D,⟨es,clock,hb,F,hsz,hD⟩,hat⟩:=h;have hr:∃ clock',(Builtin.clear_ #[138] ty #[.map (some b)]).run Tryz.prog w=.ok (.tuple #[]) { w with heap:=w.heap.setIfInBounds b (.map #[] clock') }:=by refine ⟨clock,?_⟩;simp [Builtin.clear_,run_underlying Tryz.underlying138,MapKept.run_getObj_map hb,MapKept.run_setObj_map _ hb,Result.andThen]
 obtain ⟨clock',hrun⟩:=hr;have hs:=MapKept.heap_set (o':=.map #[] clock') hb;refine ⟨_,hrun,⟨.map [],⟨#[],clock',hs.1,⟨by simp,MapKept.stamped_empty clock',by simp⟩,jc8 _,rfl⟩,fun s=>rfl⟩,rfl,rfl,rfl,?_,fun i _ hne=>hs.2 i (fun e=>hne (by rw [e]))⟩;simp
def Ji (T:TypeId) (p:Nat) (cs:List jfk) (w:jf9) (mb n:Nat) (S:List ByteArray) (wr:jf9):Prop:=CB T p cs wr/\dU wr mb n S/\Below w.heap.size w wr/\w.heap.size<=mb/\p≠mb/\w.heap.size<=p
theorem Ji.put {T:TypeId} {p:Nat} {cs:List jfk} {w:jf9} {mb n n':Nat} {S S':List ByteArray} {wr w':jf9} (h:Ji T p cs w mb n S wr) (hg:wr.grownBy w' (some mb)) (hs:dU w' mb n' S'):Ji T p cs w mb n' S' w':=
 ⟨(hg.block p h.1.lt (fun e=>h.2.2.2.2.1 (by injection e))).trans h.1,hs,h.2.2.1.grown hg h.2.2.1.size (fun j hj=>by cases hj;exact h.2.2.2.1),h.2.2.2⟩
theorem Ji.alloc {T:TypeId} {p:Nat} {cs:List jfk} {w:jf9} {mb n:Nat} {S:List ByteArray} {wr:jf9} (h:Ji T p cs w mb n S wr) (o:Obj):Ji T p cs w mb n S (wr.alloc o):=
 ⟨h.1.below ((jc7 _ _).alloc (jc8 _) _),h.2.1.below ((jc7 _ _).alloc (jc8 _) _),h.2.2.1.alloc h.2.2.1.size _,h.2.2.2⟩
theorem Ji.drewN {T:TypeId} {p:Nat} {cs:List jfk} {w:jf9} {mb n:Nat} {S:List ByteArray} {wr:jf9} (h:Ji T p cs w mb n S wr) (q:Nat):Ji T p cs w mb n S (wr.drewN q):=
 ⟨h.1,h.2.1,eT h.2.2.1 q,h.2.2.2⟩
def FH (T:TypeId) (p:Nat) (cs:List jfk) (w:jf9) (mb:Nat) (l:List ByteArray) (E:Nat) (vi:jfk) (wr:jf9):Prop:=
 ∃ k:Nat,k<=l.length/\vi=.int .i64 k/\Ji T p cs w mb k (l.take k).reverse wr/\dA (l.take k) (l.drop k)=E
def Au (T:TypeId) (p:Nat) (cs:List jfk) (w:jf9) (mb:Nat) (l:List Pr) (E:Nat) (vi:jfk) (wr:jf9):Prop:=
 ∃ k:Nat,k<=l.length/\vi=.int .i64 k/\Ji T p cs w mb k ((l.take k).map Pr.key).reverse wr/\sU ((l.take k).map Pr.key) (l.drop k)=E
theorem fQ (a:At) (ac ap:Option Addr) (cc cp:Nat) (w:jf9) (h:AtR (·<w.heap.size) w a (.slice ac a.cls.length cc) (.slice ap a.aH.length cp)) (hs:a.short) : Calls Tryz.prog 114 #[.agg #[.string a.id,.slice ac a.cls.length cc,.slice ap a.aH.length cp]] w (dJ (.int .i64 (a.err:Nat)) w):=by
 obtain ⟨sc,sp,si,Zq,Zr⟩:=hs;obtain ⟨id,cls,aH⟩:=a;dsimp only at sc sp si Zq Zr h ⊢;obtain ⟨a1,c1,hv1,hs1⟩:=Rd.aD h.cls;obtain ⟨rfl,rfl⟩:a1=ac/\c1=cc:=by simp at hv1;exact ⟨hv1.1.symm,hv1.2.symm⟩
 obtain ⟨a2,c2,hv2,hs2⟩:=Rd.aD h.aH;obtain ⟨rfl,rfl⟩:a2=ap/\c2=cp:=by simp at hv2;exact ⟨hv2.1.symm,hv2.2.symm⟩
 have l1:cls.length<=c1:=by simpa using hs1.le
 have l2:aH.length<=c2:=by simpa using hs2.le
 have m1:=hs1.max;have m2:=hs2.max;unfold maxLen at m1 m2;have H1:=hid hs1;have H2:=hid hs2;have SC:=hid Zq;have SP:=hid Zr;have NI:=hid (fun w=>Gb id w (by omega));have HE:Hid (At.err ⟨id,cls,aH⟩=if aW id=false/\iQ id=false then 6 else if dA [] cls≠0 then dA [] cls else if sU [] aH≠0 then sU [] aH else if 32<cls.length\/32<aH.length then 3 else 0):=rfl;obtain ⟨V,hV⟩:∃ V,V=At.err ⟨id,cls,aH⟩:=⟨_,rfl⟩;rw [<- hV] at HE ⊢;clear hV Zq Zr hs1 hs2 hv1 hv2 h;by_cases hbad:aW id=false/\iQ id=false
 ·have HV:Hid (V=6):=by show V=6;rw [HE.out,if_pos hbad]
  rw [hbad.2] at NI;have hie:id.toList.isEmpty=false:=by rw [dw];exact hbad.1
  clear hbad HE;go_enter Tryz.func114,Tryz.ntmps114;go_wp2_with (go_at_call 67;refine (NI.out _).mono ?_;rintro e w1 ⟨rfl,rfl⟩)
  go_ret;exact ⟨by rw [HV.out];rfl,(jc7 _ _).alloc (jc8 _) _⟩
 have hgood:id.toList.isEmpty=true\/(id.toList.isEmpty=false/\iQ id=true):=by
  rw [dw];cases h1:aW id
  ·right;refine ⟨rfl,?_⟩;cases h2:iQ id
   ·exact absurd ⟨h1,h2⟩ hbad
   ·rfl
  ·left;rfl
 have HE2:Hid (V=if dA [] cls≠0 then dA [] cls else if sU [] aH≠0 then sU [] aH else if 32<cls.length\/32<aH.length then 3 else 0):=by show V=_;rw [HE.out,if_neg hbad]
 obtain ⟨w1,hw1⟩:∃ w1,w1=(w.alloc (.cells #[.string id,.slice a1 cls.length c1,.slice a2 aH.length c2] 27)).alloc (.map #[] 0):=⟨_,rfl⟩;have R0:Hid (FH 27 w.heap.size [.string id,.slice a1 cls.length c1,.slice a2 aH.length c2] w (w.heap.size+1) cls (dA [] cls) (.int .i64 0) w1):=by
  refine ⟨0,jd3 _,rfl,⟨?_,?_,?_,by omega,by omega,jc8 _⟩,rfl⟩
  ·rw [hw1];exact (CB.new _ _ w).below ((jc7 _ _).alloc (jc8 _) _)
  ·rw [hw1];have:=dU.made (w.alloc (.cells #[.string id,.slice a1 cls.length c1,.slice a2 aH.length c2] 27))
   rwa [World.size_alloc] at this
  ·rw [hw1];exact ((jc7 _ _).alloc (jc8 _) _).alloc (by simp) _
 have HW1:=hid hw1;obtain ⟨E1,hE1⟩:∃ E1,E1=dA [] cls:=⟨_,rfl⟩;obtain ⟨E2,hE2⟩:∃ E2,E2=sU [] aH:=⟨_,rfl⟩;rw [<- hE1] at HE2 R0;rw [<- hE2] at HE2;have VL:=hid hE2;clear hbad HE hw1 hE1 hE2;have hmm:=@run_makeMap Tryz.prog;rcases hgood with hie | ⟨hie,hnm⟩
 ·clear NI;go_enter Tryz.func114,Tryz.ntmps114;go_wp2;rw [<- HW1.out];clear hmm
  go_loopw [21] (fun i wr=>FH 27 w.heap.size [.string id,.slice a1 cls.length c1,.slice a2 aH.length c2] w (w.heap.size+1) cls E1 i wr) (fun i _=>cls.length-(intOf i).toNat)
  case atStart=>exact R0.out
  case round=>
   clear R0;obtain ⟨k,hk,rfl,iG,aX⟩:=hrel;have BS:=hid iG;by_cases hlt:k<cls.length
   ·obtain ⟨x,hx⟩:∃ x,cls[k]?=some x:=⟨_,jc6 hlt⟩;obtain ⟨b,off,rfl,-,-,c0⟩:=iq H1.out hx;have c0:wr.cell? ⟨b,off+k,none⟩=some (.string x):=by rw [iG.2.2.1.cell (p:=⟨b,off+k,none⟩) (wF c0)];exact c0
    have hxs:=SC.out x (jd4 hx);have CN:=hid (fun w=>Gb x w (by omega));have hlk:=iG.2.1.look x (by unfold maxLen;omega);obtain ⟨w',hup,hS',hg⟩:=iG.2.1.put x (by unfold maxLen;omega) (by unfold maxLen;omega);have MS:=hid (iG.put hg hS');rw [gH] at hlk;rw [JB cls k x hx,dA] at aX;have Gd:Hid (cls.take (k+1)=cls.take k++[x]):=by show _=_;rw [jdk,hx];rfl
    have cZ:=hid aX;clear aX hS' hg iG hx;cases hn:iQ x with
    | false=>
     rw [hn] at CN;have HV:Hid (V=6):=by show V=6;have:=cZ.out;rw [if_pos hn] at this;rw [HE2.out,<- this];rfl
     clear hn hup;go_wp2_with fail
     refine (CN.out _).mono ?_;rintro e w3 ⟨rfl,rfl⟩;go_wp2;go_ret;exact ⟨by rw [HV.out];rfl,BS.out.2.2.1⟩
    | true=>
     rw [hn] at CN;cases hb:hasB (cls.take k) x with
     | true=>
      rw [hb] at hlk;have HV:Hid (V=7):=by show V=7;have:=cZ.out;rw [if_neg (by rw [hn];decide),if_pos hb] at this;rw [HE2.out,<- this];rfl
      clear hn hb hup;go_wp2_with fail
      refine (CN.out _).mono ?_;rintro e w3 ⟨rfl,rfl⟩;go_wp2;go_ret;exact ⟨by rw [HV.out];rfl,BS.out.2.2.1⟩
     | false=>
      rw [hb] at hlk;have Ib:Hid (dA (cls.take (k+1)) (cls.drop (k+1))=E1):=by show _=_;have:=cZ.out;rw [if_neg (by rw [hn];decide),if_neg (by rw [hb];decide)] at this;rw [Gd.out];exact this
      clear hn hb;go_wp2_with fail
      refine (CN.out _).mono ?_;rintro e w3 ⟨rfl,rfl⟩;go_wp2;go_roundw;case rel=>exact ⟨k+1,by omega,by go_num,by rw [Gd.out,List.reverse_append];exact MS.out,Ib.out⟩
      case measure=>simp [intOf];omega
   ·obtain rfl:k=cls.length:=by omega
    have Av:Hid (E1=0):=by show E1=0;rw [List.drop_length,dA] at aX;exact aX.symm
    obtain ⟨w2,hcl,hS2,hg2⟩:∃ w2,(∀ ty,(Builtin.clear_ #[138] ty #[.map (some (w.heap.size+1))]).run Tryz.prog wr=.ok (.tuple #[]) w2)/\dU w2 (w.heap.size+1) 0 []/\wr.grownBy w2 (some (w.heap.size+1)):=by obtain ⟨w2,h1,h2,h3⟩:=iG.2.1.cleared 0;exact ⟨w2,fun ty=>h1,h2,h3⟩
    have R2:Hid (Au 27 w.heap.size [.string id,.slice a1 cls.length c1,.slice a2 aH.length c2] w (w.heap.size+1) aH E2 (.int .i64 0) w2):=⟨0,jd3 _,rfl,iG.put hg2 hS2,VL.out.symm⟩;have p2:w2.cell? ⟨w.heap.size,2,none⟩=some (.slice a2 aH.length c2):=(iG.put hg2 hS2).1.cell 2 _ rfl;clear aX iG BS hS2 hg2 hk hlt;go_wp2
    go_loopw [38] (fun i wr=>Au 27 w.heap.size [.string id,.slice a1 cls.length c1,.slice a2 aH.length c2] w (w.heap.size+1) aH E2 i wr) (fun i _=>aH.length-(intOf i).toNat)
    case atStart=>exact R2.out
    case round=>
     clear R2 hcl p2;obtain ⟨k,hk,rfl,iG,aX⟩:=hrel;have BS:=hid iG;by_cases hlt:k<aH.length
     ·obtain ⟨x,hx⟩:∃ x,aH[k]?=some x:=⟨_,jc6 hlt⟩;obtain ⟨b,off,rfl,-,-,c0,c1'⟩:=qF H2.out hx;have c0:wr.cell? ⟨b,off+k*2,none⟩=some (.string x.key):=by rw [iG.2.2.1.cell (p:=⟨b,off+k*2,none⟩) (wF c0)];exact c0
      have c1':wr.cell? ⟨b,off+k*2+1,none⟩=some (.string x.val):=by rw [iG.2.2.1.cell (p:=⟨b,off+k*2+1,none⟩) (wF c1')];exact c1'
      have hxs:=SP.out x (jd4 hx);have HX:=hid hx;have cZ:Hid (sU ((aH.take k).map Pr.key) (x::aH.drop (k+1))=E2):=by show _=_;rw [<- JB aH k x hx];exact aX
      obtain ⟨key,val⟩:=x;dsimp only at c0 c1' hxs;have CN:=hid (fun w=>Gb key w (by omega));have CV:=hid (fun w=>qC val w (by omega));have Gd:Hid ((aH.take (k+1)).map Pr.key=(aH.take k).map Pr.key++[key]):=by show _=_;rw [jdk,HX.out];simp
      obtain ⟨wi,hwi⟩:∃ wi,wi=wr.alloc (.cells #[.string key,.string val] 74):=⟨_,rfl⟩;have qG:=iG.alloc (.cells #[.string key,.string val] 74);rw [<- hwi] at qG;have i0:wi.cell? ⟨wr.heap.size,0,none⟩=some (.string key):=by rw [hwi];exact BG wr [.string key,.string val] _ 0 _ rfl
      have i1:wi.cell? ⟨wr.heap.size,1,none⟩=some (.string val):=by rw [hwi];exact BG wr [.string key,.string val] _ 1 _ rfl
      have Em:=hid qG;clear aX iG hx;cases hn:iQ key with
      | false=>
       rw [hn] at CN;have HV:Hid (V=6):=by show V=6;have:=cZ.out;rw [sU,if_pos hn] at this;rw [HE2.out,Av.out,<- this];rfl
       clear hn;go_upto_region 17 with (fail)
       rw [<- hwi];clear hwi qG;go_wp2_with fail
       refine (CN.out _).mono ?_;rintro e w3 ⟨rfl,rfl⟩;go_wp2;go_ret;exact ⟨by rw [HV.out];rfl,Em.out.2.2.1⟩
      | true=>
       rw [hn] at CN;cases hln:fP val with
       | false=>
        rw [hln] at CV;have HV:Hid (V=17):=by show V=17;have:=cZ.out;rw [sU,if_neg (by rw [hn];decide),if_pos hln] at this;rw [HE2.out,Av.out,<- this];rfl
        clear hn hln;go_upto_region 17 with (fail)
        rw [<- hwi];clear hwi qG;go_wp2_with fail
        refine (CN.out _).mono ?_;rintro e w3 ⟨rfl,rfl⟩;go_wp2_with fail
        refine (CV.out _).mono ?_;rintro e w3 ⟨rfl,q,rfl⟩;go_wp2;go_ret;exact ⟨by rw [HV.out];rfl,eT Em.out.2.2.1 q⟩
       | true=>
        rw [hln] at CV;have O7:=hid (fun q=>(qG.drewN q).2.1.look key (by unfold maxLen;omega));have JH:=hid (fun q=>(qG.drewN q).2.1.put key (by unfold maxLen;omega) (by unfold maxLen;omega));cases hb:hasB ((aH.take k).map Pr.key) key with
        | true=>
         have HV:Hid (V=7):=by show V=7;have:=cZ.out;rw [sU,if_neg (by rw [hn];decide),if_neg (by rw [hln];decide),if_pos hb] at this;rw [HE2.out,Av.out,<- this];rfl
         have HB:=hid hb;clear hn hln hb;go_upto_region 17 with (fail)
         rw [<- hwi];clear hwi qG;go_wp2_with fail
         refine (CN.out _).mono ?_;rintro e w3 ⟨rfl,rfl⟩;go_wp2_with fail
         refine (CV.out _).mono ?_;rintro e w3 ⟨rfl,q,rfl⟩;have hlk:=O7.out q;rw [gH,HB.out] at hlk;go_wp2;go_ret;exact ⟨by rw [HV.out];rfl,eT Em.out.2.2.1 q⟩
        | false=>
         have Ib:Hid (sU ((aH.take (k+1)).map Pr.key) (aH.drop (k+1))=E2):=by show _=_;have:=cZ.out;rw [sU,if_neg (by rw [hn];decide),if_neg (by rw [hln];decide),if_neg (by rw [hb];decide)] at this;rw [Gd.out];exact this
         have HB:=hid hb;clear hn hln hb;go_upto_region 17 with (fail)
         rw [<- hwi];clear hwi qG;go_wp2_with fail
         refine (CN.out _).mono ?_;rintro e w3 ⟨rfl,rfl⟩;go_wp2_with fail
         refine (CV.out _).mono ?_;rintro e w3 ⟨rfl,q,rfl⟩;have hlk:=O7.out q;rw [gH,HB.out] at hlk;obtain ⟨w',hup,hS',hg⟩:=JH.out q;have MS:=hid ((Em.out.drewN q).put hg hS');clear hS' hg;go_wp2;go_roundw;case rel=>exact ⟨k+1,by omega,by go_num,by rw [Gd.out,List.reverse_append];exact MS.out,Ib.out⟩
         case measure=>simp [intOf];omega
     ·obtain rfl:k=aH.length:=by omega
      have HV:Hid (V=if 32<cls.length\/32<aH.length then 3 else 0):=by show V=_;rw [List.drop_length,sU] at aX;rw [HE2.out,Av.out,<- aX];rfl
      have p1:wr.cell? ⟨w.heap.size,1,none⟩=some (.slice a1 cls.length c1):=iG.1.cell 1 _ rfl;have p2:wr.cell? ⟨w.heap.size,2,none⟩=some (.slice a2 aH.length c2):=iG.1.cell 2 _ rfl;clear aX iG hk hlt;by_cases h1:32<cls.length
      ·have q1:decide ((32:Int)<(cls.length:Int))=true:=by simp;omega
       go_wp2;go_ret;exact ⟨by rw [HV.out,if_pos (.inl h1)];rfl,BS.out.2.2.1⟩
      ·have q1:decide ((32:Int)<(cls.length:Int))=false:=by simp;omega
       by_cases h2:32<aH.length
       ·have q2:decide ((32:Int)<(aH.length:Int))=true:=by simp;omega
        go_wp2;go_ret;exact ⟨by rw [HV.out,if_pos (.inr h2)];rfl,BS.out.2.2.1⟩
       ·have q2:decide ((32:Int)<(aH.length:Int))=false:=by simp;omega
        go_wp2;go_ret;exact ⟨by rw [HV.out,if_neg (by omega)];rfl,BS.out.2.2.1⟩
 ·rw [hnm] at NI;clear hnm;go_enter Tryz.func114,Tryz.ntmps114;go_wp2_with (go_at_call 67;refine (NI.out _).mono ?_;rintro e w1 ⟨rfl,rfl⟩)
  rw [<- HW1.out];clear hmm
  go_loopw [21] (fun i wr=>FH 27 w.heap.size [.string id,.slice a1 cls.length c1,.slice a2 aH.length c2] w (w.heap.size+1) cls E1 i wr) (fun i _=>cls.length-(intOf i).toNat)
  case atStart=>exact R0.out
  case round=>
   clear R0;obtain ⟨k,hk,rfl,iG,aX⟩:=hrel;have BS:=hid iG;by_cases hlt:k<cls.length
   ·obtain ⟨x,hx⟩:∃ x,cls[k]?=some x:=⟨_,jc6 hlt⟩;obtain ⟨b,off,rfl,-,-,c0⟩:=iq H1.out hx;have c0:wr.cell? ⟨b,off+k,none⟩=some (.string x):=by rw [iG.2.2.1.cell (p:=⟨b,off+k,none⟩) (wF c0)];exact c0
    have hxs:=SC.out x (jd4 hx);have CN:=hid (fun w=>Gb x w (by omega));have hlk:=iG.2.1.look x (by unfold maxLen;omega);obtain ⟨w',hup,hS',hg⟩:=iG.2.1.put x (by unfold maxLen;omega) (by unfold maxLen;omega);have MS:=hid (iG.put hg hS');rw [gH] at hlk;rw [JB cls k x hx,dA] at aX;have Gd:Hid (cls.take (k+1)=cls.take k++[x]):=by show _=_;rw [jdk,hx];rfl
    have cZ:=hid aX;clear aX hS' hg iG hx;cases hn:iQ x with
    | false=>
     rw [hn] at CN;have HV:Hid (V=6):=by show V=6;have:=cZ.out;rw [if_pos hn] at this;rw [HE2.out,<- this];rfl
     clear hn hup;go_wp2_with fail
     refine (CN.out _).mono ?_;rintro e w3 ⟨rfl,rfl⟩;go_wp2;go_ret;exact ⟨by rw [HV.out];rfl,BS.out.2.2.1⟩
    | true=>
     rw [hn] at CN;cases hb:hasB (cls.take k) x with
     | true=>
      rw [hb] at hlk;have HV:Hid (V=7):=by show V=7;have:=cZ.out;rw [if_neg (by rw [hn];decide),if_pos hb] at this;rw [HE2.out,<- this];rfl
      clear hn hb hup;go_wp2_with fail
      refine (CN.out _).mono ?_;rintro e w3 ⟨rfl,rfl⟩;go_wp2;go_ret;exact ⟨by rw [HV.out];rfl,BS.out.2.2.1⟩
     | false=>
      rw [hb] at hlk;have Ib:Hid (dA (cls.take (k+1)) (cls.drop (k+1))=E1):=by show _=_;have:=cZ.out;rw [if_neg (by rw [hn];decide),if_neg (by rw [hb];decide)] at this;rw [Gd.out];exact this
      clear hn hb;go_wp2_with fail
      refine (CN.out _).mono ?_;rintro e w3 ⟨rfl,rfl⟩;go_wp2;go_roundw;case rel=>exact ⟨k+1,by omega,by go_num,by rw [Gd.out,List.reverse_append];exact MS.out,Ib.out⟩
      case measure=>simp [intOf];omega
   ·obtain rfl:k=cls.length:=by omega
    have Av:Hid (E1=0):=by show E1=0;rw [List.drop_length,dA] at aX;exact aX.symm
    obtain ⟨w2,hcl,hS2,hg2⟩:∃ w2,(∀ ty,(Builtin.clear_ #[138] ty #[.map (some (w.heap.size+1))]).run Tryz.prog wr=.ok (.tuple #[]) w2)/\dU w2 (w.heap.size+1) 0 []/\wr.grownBy w2 (some (w.heap.size+1)):=by obtain ⟨w2,h1,h2,h3⟩:=iG.2.1.cleared 0;exact ⟨w2,fun ty=>h1,h2,h3⟩
    have R2:Hid (Au 27 w.heap.size [.string id,.slice a1 cls.length c1,.slice a2 aH.length c2] w (w.heap.size+1) aH E2 (.int .i64 0) w2):=⟨0,jd3 _,rfl,iG.put hg2 hS2,VL.out.symm⟩;have p2:w2.cell? ⟨w.heap.size,2,none⟩=some (.slice a2 aH.length c2):=(iG.put hg2 hS2).1.cell 2 _ rfl;clear aX iG BS hS2 hg2 hk hlt;go_wp2
    go_loopw [38] (fun i wr=>Au 27 w.heap.size [.string id,.slice a1 cls.length c1,.slice a2 aH.length c2] w (w.heap.size+1) aH E2 i wr) (fun i _=>aH.length-(intOf i).toNat)
    case atStart=>exact R2.out
    case round=>
     clear R2 hcl p2;obtain ⟨k,hk,rfl,iG,aX⟩:=hrel;have BS:=hid iG;by_cases hlt:k<aH.length
     ·obtain ⟨x,hx⟩:∃ x,aH[k]?=some x:=⟨_,jc6 hlt⟩;obtain ⟨b,off,rfl,-,-,c0,c1'⟩:=qF H2.out hx;have c0:wr.cell? ⟨b,off+k*2,none⟩=some (.string x.key):=by rw [iG.2.2.1.cell (p:=⟨b,off+k*2,none⟩) (wF c0)];exact c0
      have c1':wr.cell? ⟨b,off+k*2+1,none⟩=some (.string x.val):=by rw [iG.2.2.1.cell (p:=⟨b,off+k*2+1,none⟩) (wF c1')];exact c1'
      have hxs:=SP.out x (jd4 hx);have HX:=hid hx;have cZ:Hid (sU ((aH.take k).map Pr.key) (x::aH.drop (k+1))=E2):=by show _=_;rw [<- JB aH k x hx];exact aX
      obtain ⟨key,val⟩:=x;dsimp only at c0 c1' hxs;have CN:=hid (fun w=>Gb key w (by omega));have CV:=hid (fun w=>qC val w (by omega));have Gd:Hid ((aH.take (k+1)).map Pr.key=(aH.take k).map Pr.key++[key]):=by show _=_;rw [jdk,HX.out];simp
      obtain ⟨wi,hwi⟩:∃ wi,wi=wr.alloc (.cells #[.string key,.string val] 74):=⟨_,rfl⟩;have qG:=iG.alloc (.cells #[.string key,.string val] 74);rw [<- hwi] at qG;have i0:wi.cell? ⟨wr.heap.size,0,none⟩=some (.string key):=by rw [hwi];exact BG wr [.string key,.string val] _ 0 _ rfl
      have i1:wi.cell? ⟨wr.heap.size,1,none⟩=some (.string val):=by rw [hwi];exact BG wr [.string key,.string val] _ 1 _ rfl
      have Em:=hid qG;clear aX iG hx;cases hn:iQ key with
      | false=>
       rw [hn] at CN;have HV:Hid (V=6):=by show V=6;have:=cZ.out;rw [sU,if_pos hn] at this;rw [HE2.out,Av.out,<- this];rfl
       clear hn;go_upto_region 17 with (fail)
       rw [<- hwi];clear hwi qG;go_wp2_with fail
       refine (CN.out _).mono ?_;rintro e w3 ⟨rfl,rfl⟩;go_wp2;go_ret;exact ⟨by rw [HV.out];rfl,Em.out.2.2.1⟩
      | true=>
       rw [hn] at CN;cases hln:fP val with
       | false=>
        rw [hln] at CV;have HV:Hid (V=17):=by show V=17;have:=cZ.out;rw [sU,if_neg (by rw [hn];decide),if_pos hln] at this;rw [HE2.out,Av.out,<- this];rfl
        clear hn hln;go_upto_region 17 with (fail)
        rw [<- hwi];clear hwi qG;go_wp2_with fail
        refine (CN.out _).mono ?_;rintro e w3 ⟨rfl,rfl⟩;go_wp2_with fail
        refine (CV.out _).mono ?_;rintro e w3 ⟨rfl,q,rfl⟩;go_wp2;go_ret;exact ⟨by rw [HV.out];rfl,eT Em.out.2.2.1 q⟩
       | true=>
        rw [hln] at CV;have O7:=hid (fun q=>(qG.drewN q).2.1.look key (by unfold maxLen;omega));have JH:=hid (fun q=>(qG.drewN q).2.1.put key (by unfold maxLen;omega) (by unfold maxLen;omega));cases hb:hasB ((aH.take k).map Pr.key) key with
        | true=>
         have HV:Hid (V=7):=by show V=7;have:=cZ.out;rw [sU,if_neg (by rw [hn];decide),if_neg (by rw [hln];decide),if_pos hb] at this;rw [HE2.out,Av.out,<- this];rfl
         have HB:=hid hb;clear hn hln hb;go_upto_region 17 with (fail)
         rw [<- hwi];clear hwi qG;go_wp2_with fail
         refine (CN.out _).mono ?_;rintro e w3 ⟨rfl,rfl⟩;go_wp2_with fail
         refine (CV.out _).mono ?_;rintro e w3 ⟨rfl,q,rfl⟩;have hlk:=O7.out q;rw [gH,HB.out] at hlk;go_wp2;go_ret;exact ⟨by rw [HV.out];rfl,eT Em.out.2.2.1 q⟩
        | false=>
         have Ib:Hid (sU ((aH.take (k+1)).map Pr.key) (aH.drop (k+1))=E2):=by show _=_;have:=cZ.out;rw [sU,if_neg (by rw [hn];decide),if_neg (by rw [hln];decide),if_neg (by rw [hb];decide)] at this;rw [Gd.out];exact this
         have HB:=hid hb;clear hn hln hb;go_upto_region 17 with (fail)
         rw [<- hwi];clear hwi qG;go_wp2_with fail
         refine (CN.out _).mono ?_;rintro e w3 ⟨rfl,rfl⟩;go_wp2_with fail
         refine (CV.out _).mono ?_;rintro e w3 ⟨rfl,q,rfl⟩;have hlk:=O7.out q;rw [gH,HB.out] at hlk;obtain ⟨w',hup,hS',hg⟩:=JH.out q;have MS:=hid ((Em.out.drewN q).put hg hS');clear hS' hg;go_wp2;go_roundw;case rel=>exact ⟨k+1,by omega,by go_num,by rw [Gd.out,List.reverse_append];exact MS.out,Ib.out⟩
         case measure=>simp [intOf];omega
     ·obtain rfl:k=aH.length:=by omega
      have HV:Hid (V=if 32<cls.length\/32<aH.length then 3 else 0):=by show V=_;rw [List.drop_length,sU] at aX;rw [HE2.out,Av.out,<- aX];rfl
      have p1:wr.cell? ⟨w.heap.size,1,none⟩=some (.slice a1 cls.length c1):=iG.1.cell 1 _ rfl;have p2:wr.cell? ⟨w.heap.size,2,none⟩=some (.slice a2 aH.length c2):=iG.1.cell 2 _ rfl;clear aX iG hk hlt;by_cases h1:32<cls.length
      ·have q1:decide ((32:Int)<(cls.length:Int))=true:=by simp;omega
       go_wp2;go_ret;exact ⟨by rw [HV.out,if_pos (.inl h1)];rfl,BS.out.2.2.1⟩
      ·have q1:decide ((32:Int)<(cls.length:Int))=false:=by simp;omega
       by_cases h2:32<aH.length
       ·have q2:decide ((32:Int)<(aH.length:Int))=true:=by simp;omega
        go_wp2;go_ret;exact ⟨by rw [HV.out,if_pos (.inr h2)];rfl,BS.out.2.2.1⟩
       ·have q2:decide ((32:Int)<(aH.length:Int))=false:=by simp;omega
        go_wp2;go_ret;exact ⟨by rw [HV.out,if_neg (by omega)];rfl,BS.out.2.2.1⟩
open Go.RowKit
theorem ah.LJ (l:List ah) (k:Nat) (x:ah) (h:l[k]?=some x):ah.aU (l.take k)+x.sz<=ah.aU l:=by
 have h1:ah.aU (l.take (k+1))<=ah.aU l:=by have:=ah.Ar (l.take (k+1)) (l.drop (k+1));rw [List.take_append_drop] at this;omega
 rw [ah.qm h] at h1;exact h1
theorem au.IY (l:List au) (k:Nat) (x:au) (h:l[k]?=some x):au.bY (l.take k)+x.all<=au.bY l:=by
 have h1:au.bY (l.take (k+1))<=au.bY l:=by have:=au.DI (l.take (k+1)) (l.drop (k+1));rw [List.take_append_drop] at this;omega
 rw [au.kg h] at h1;exact h1
theorem au.Oz (x:au):1<=x.all:=by cases x;rw [au.all];omega
theorem au.He:∀ (l:List au),l.length<=au.bY l
 | []=>by simp
 | x::l=>by have:=au.He l;have:=x.Oz;rw [au.bY];simp;omega
theorem Zt {P:Program} {f:FuncId} {args:Array jfk} {w:jf9} {a n:Nat} {v:jfk} (h:Calls P f args (w.drewN (a+n)) fun e w'=>e=.returned v/\w.drewN (a+n)=w') : Calls P f args (w.drewN (a+n)) fun e w''=>e=.returned v/\∃ m,w''=w.drewN (a+m):=h.mono fun _ _ ⟨he,hm⟩=>⟨he,n,hm.symm⟩
theorem Zu {P:Program} {f:FuncId} {args:Array jfk} {w:jf9} {a n:Nat} {v:jfk} (h:Calls P f args (w.drewN (a+n)) (Dr v (w.drewN (a+n)))) : Calls P f args (w.drewN (a+n)) fun e w''=>e=.returned v/\∃ m,w''=w.drewN (a+m):=h.mono fun _ _ ⟨he,m,hm⟩=>⟨he,n+m,by rw [hm,World.drewN_drewN,Nat.add_assoc]⟩
def Qf (l:List ah) (vn vi:jfk):Prop:=∃ k n:Nat,k<=l.length/\vi=.int .i64 k/\vn=.int .i64 n/\n=ah.aU (l.take k)+(l.length-k)
def Qg (l:List au) (w:jf9) (vn vi:jfk) (wr:jf9):Prop:=∃ k n q:Nat,k<=l.length/\vi=.int .i64 k/\vn=.int .i64 n/\n=au.bY (l.take k)+(l.length-k)/\wr=w.drewN q
theorem vW (n:Nat):∀ (l:List ah) (ok:Nat->Prop) (v:jfk) (w:jf9),ah.aU l<=n->n<=1000000->Rd ok w (bC l) [v] -> Calls Tryz.prog 209 #[v] w fun e w'=>e=.returned (.int .i64 (ah.aU l:Nat))/\w=w':=by
 induction n using Nat.strongRecOn with
 | _ n ih=>
  intro l ok v w hn hnm h1;obtain ⟨a,cap,hv,hs⟩:=Rd.aD h1;obtain rfl:v=.slice a l.length cap:=by simpa using hv
  have hcap:l.length<=cap:=by simpa using hs.le
  have hmx:=hs.max;unfold maxLen at hmx;have HS:=hid hs;have IH:=hid ih;have R0:Hid (Qf l (.int .i64 (l.length:Int)) (.int .i64 0)):=⟨0,l.length,jd3 _,rfl,rfl,by rw [List.take_zero,ah.aU];simp⟩;clear hs hv h1 ih;go_enter Tryz.func209,Tryz.ntmps209;go_wp2
  go_loop [3,9] (fun vn vi=>Qf l vn vi) (fun _ i=>l.length-(intOf i).toNat)
  case atStart=>exact R0.out
  case round=>
   clear R0;obtain ⟨k,m,hk,rfl,rfl,hm⟩:=hrel;by_cases hlt:k<l.length
   ·obtain ⟨x,hx⟩:∃ x,l[k]?=some x:=⟨_,jc6 hlt⟩;have hsz:=ah.LJ l k _ hx;have hsn:=ah.qm hx;obtain ⟨kd,t,d,ti,at_,ar,ci,ks⟩:=x;obtain ⟨g,off,vc,vp,va,vi,vk,rfl,hok,hbl,hc,hR⟩:=eF HS.out hx;rw [ah.sz] at hsz hsn;obtain ⟨ak,nk,ck,rfl⟩:=Rd.Dw hR.kids;have p9:=hc.c9;have CK:=hid (IH.out (ah.aU ks) (by omega) ks ok (.slice ak nk ck) w (jc8 _) (by omega) hR.kids);have HM:Hid (m+ah.aU ks=ah.aU (l.take (k+1))+(l.length-(k+1))):=by show _=_;omega
    have hlm:l.length-k<=1000000:=by have:=ah.gU l;omega
    have hmb:m+ah.aU ks<=3000000:=by omega
    generalize ah.aU ks=K at *;clear hc hR hx hm hsn hsz hlm;go_wp2_with fail
    refine CK.out.mono ?_;rintro e w1 ⟨rfl,rfl⟩;go_wp2
    go_round
    case rel=>exact ⟨k+1,m+K,by omega,by go_num,by go_num,HM.out⟩
    case measure=>simp [intOf];omega
   ·obtain rfl:k=l.length:=by omega
    have hv:m=ah.aU l:=by rw [hm,List.take_length];omega
    have HV:=hid hv;clear hv hm;go_wp2;go_ret;exact ⟨by rw [<- HV.out];rfl,rfl⟩
theorem rz (n:Nat):∀ (l:List au) (ok:Nat->Prop) (v:jfk) (w:jf9),au.bY l<=n->n<=1000000->Rd ok w (dB l) [v] -> Calls Tryz.prog 166 #[v] w (Dr (.int .i64 (au.bY l:Nat)) w):=by
 induction n using Nat.strongRecOn with
 | _ n ih=>
  intro l ok v w hn hnm h1;obtain ⟨a,cap,hv,hs⟩:=Rd.aD h1;obtain rfl:v=.slice a l.length cap:=by simpa using hv
  have hcap:l.length<=cap:=by simpa using hs.le
  have hmx:=hs.max;unfold maxLen at hmx;have HS:=hid hs;have IH:=hid ih;have R0:Hid (Qg l w (.int .i64 (l.length:Int)) (.int .i64 0) w):=⟨0,l.length,0,jd3 _,rfl,rfl,by rw [List.take_zero,au.bY];simp,rfl⟩;clear hs hv h1 ih;go_enter Tryz.func166,Tryz.ntmps166;go_wp2
  go_loopw [3,9] (fun vn vi wr=>Qg l w vn vi wr) (fun _ i _=>l.length-(intOf i).toNat)
  case atStart=>exact R0.out
  case round=>
   clear R0;obtain ⟨k,m,q,hk,rfl,rfl,hm,rfl⟩:=hrel;by_cases hlt:k<l.length
   ·obtain ⟨x,hx⟩:∃ x,l[k]?=some x:=⟨_,jc6 hlt⟩;have hsz:=au.IY l k _ hx;have hsn:=au.kg hx;obtain ⟨kd,lv,i,t,d,ti,at_,li,ks⟩:=x;obtain ⟨g,off,vc,vp,vl,vk,rfl,hok,hbl,hc,hR⟩:=gy HS.out hx;rw [au.all] at hsz hsn;obtain ⟨ak,nk,ck,rfl⟩:=Rd.Dw hR.kids;obtain ⟨al,nl,cl,rfl⟩:=Rd.Dw hR.line;have p9:=hc.c9;have JG:=hc.c10;have hst:∀ q,uE ok ok w (w.drewN q):=fun q b h _=>⟨h,rfl⟩
    have CL:=hid (fun q=>vW _ li ok (.slice al nl cl) (w.drewN q) (jc8 _) (by omega) (Rd.keep (hst q) _ _ hR.line));have CK:=hid (fun q=>IH.out (au.bY ks) (by omega) ks ok (.slice ak nk ck) (w.drewN q) (jc8 _) (by omega) (Rd.keep (hst q) _ _ hR.kids));have HM:Hid (m+(ah.aU li+au.bY ks)=au.bY (l.take (k+1))+(l.length-(k+1))):=by show _=_;omega
    have hlm:l.length-k<=1000000:=by have:=au.He l;omega
    have hmb:m+(ah.aU li+au.bY ks)<=3000000:=by omega
    generalize ah.aU li=L at *;generalize au.bY ks=K at *;have s1:IntKind.i64.wrap ((L:Int)+(K:Int))=(L:Int)+(K:Int):=iE (by omega) (by omega);have s2:IntKind.i64.wrap ((m:Int)+((L:Int)+(K:Int)))=(m:Int)+((L:Int)+(K:Int)):=iE (by omega) (by omega);clear hc hR hx hm hsn hsz hlm hst;go_wp2_with fail
    go_quiet ((first | (go_at_call 209;exact Zt (CL.out _)) | (go_at_call 166;exact Zu (CK.out _))))
    clear s1 s2;go_wp2;go_roundw;case rel=>exact ⟨k+1,m+(L+K),_,by omega,by go_num,by go_num,HM.out,rfl⟩
    case measure=>simp [intOf];omega
   ·obtain rfl:k=l.length:=by omega
    have hv:m=au.bY l:=by rw [hm,List.take_length];omega
    have HV:=hid hv;clear hv hm;go_wp2;go_ret;exact ⟨by rw [<- HV.out];rfl,q,rfl⟩
open Go.RowKit
theorem Ia (l:List au) (am ab:Option Addr) (nm cm nb cb:Nat) (w:jf9) (hn:au.bY l<=1000000) (h:Rd (·<w.heap.size) w (dB l) [.slice ab nb cb]) : Calls Tryz.prog 111 #[.agg #[.slice am nm cm,.slice ab nb cb]] w (dJ (.int .i64 (au.bY l:Nat)) w):=by
 have hb0:Below w.heap.size w (w.alloc (.cells #[.slice am nm cm,.slice ab nb cb] 32)):=(jc7 _ _).alloc (jc8 _) _;have SZ:=hid (rz _ l _ _ _ (jc8 _) hn (h.up hb0));have HB:=hid hb0;generalize au.bY l=N at *;clear h hb0;go_enter Tryz.func111,Tryz.ntmps111;go_wp2_with fail
 refine SZ.out.mono ?_;rintro e w1 ⟨rfl,q,rfl⟩;go_wp2;go_ret;exact ⟨rfl,eT HB.out q⟩
open Go.RowKit
open Go.RowKit
open Go.RowKit
open Go.RowKit
end Go.Proofs.YtclikfjalmcoaaaGreatDoor

