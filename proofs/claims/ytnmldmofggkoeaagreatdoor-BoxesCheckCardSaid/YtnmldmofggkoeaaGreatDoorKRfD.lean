/- Contracts of attr.Empty, tree.oneOf, anyKind, inlineFields. The contract of attr.Check: the first error of attributes. publisherref04.count, sizes, Size, Depth; tree.sizeOfLine, sizeOfBlocks, Size, Depth. Size and Depth of documents, of tree and of the reference. Contracts of publisherref01.clean, Digit, Valid. Contracts of publisherref04.line, trimmed, has, in, noAttr and of publisherref03.line. Contracts of publisherref03.letter, part, word, Name. Contracts of publisherref03.hasText, hasKey, Check. -/
import Derived.Test.YtnmldmofggkoeaaGreatDoorKChA
import Derived.Test.YtnmldmofggkoeaaGreatDoorKSmall
import Derived.Test.YtnmldmofggkoeaaGreatDoorKInlsW
set_option maxHeartbeats 8000000
set_option maxRecDepth 100000
open Go.Lib (hid)
namespace Go.Proofs.YtnmldmofggkoeaaGreatDoor
open List renaming getElem?_eq_getElem->XR,mem_of_getElem?->X9,take_of_length_le->Yf,take_add_one->Yg
open Go.RowKit.Below renaming refl->XT
open Nat renaming le_refl->XU,zero_le->X8
open Bool renaming eq_iff_iff->XY
open Go renaming World->YJ,Value->YL
open Go.RowKit
set_option linter.unusedVariables false
set_option linter.unusedSimpArgs false
def dA (v:YL) (w:YJ) (e:Ending) (w':YJ):Prop:=e=.returned v/\Below w.heap.size w w'
theorem oG {α:Type} (l:List α):(((l.length:Nat):Int)==0)=l.isEmpty:=by
 cases l with
 | nil=>rfl
 | cons x l=>simp;omega
theorem jR (a:At) (ac ap:Option Addr) (cc cp:Nat) (w:YJ) (hc:a.cls.length<=maxLen) (hp:a.aS.length<=maxLen) : Calls Tryz.prog 86 #[.agg #[.string a.id,.slice ac a.cls.length cc,.slice ap a.aS.length cp]] w (dA (.bool a.none) w):=by
 obtain ⟨id,cls,aS⟩:=a;dsimp only at hc hp ⊢;have h1:=bU id;have h2:=oG cls;have h3:=oG aS;have HV:Hid (At.none ⟨id,cls,aS⟩=(eY id&&cls.isEmpty&&aS.isEmpty)):=rfl;generalize At.none ⟨id,cls,aS⟩=V at *;generalize eY id=b1 at *;generalize cls.isEmpty=b2 at *;generalize aS.isEmpty=b3 at *;cases b1<;>cases b2<;>cases b3
 all_goals
  go_enter Tryz.func86,Tryz.ntmps86;go_wp2;go_ret;exact ⟨by rw [HV.out];rfl,(XT _ _).alloc (XU _) _⟩
def IZ (n:Int) (ks:List Int) (vi:YL):Prop:=∃ k:Nat,k<=ks.length/\vi=.int .i64 k/\(ks.take k).contains n=false
theorem gu (n:Int) (ks:List Int) (g cap:Nat) (w:YJ) (hl:ks.length<=1000) (hc:∀ j k,ks[j]?=some k->w.cell? ⟨g,j,none⟩=some (.int .i64 k)) : Calls Tryz.prog 87 #[.int .i64 n,.slice (some ⟨g,0,none⟩) ks.length cap] w fun e w'=>e=.returned (.bool (ks.contains n))/\w=w':=by
 have HC:=hid hc;have R0:Hid (IZ n ks (.int .i64 0)):=⟨0,X8 _,rfl,by simp⟩;obtain ⟨V,hV⟩:∃ V,V=ks.contains n:=⟨_,rfl⟩;rw [<- hV];have HV:=hid hV;clear hc hV;go_enter Tryz.func87,Tryz.ntmps87;go_wp2
 go_loop [9] (fun i=>IZ n ks i) (fun i=>ks.length-(intOf i).toNat)
 case atStart=>exact R0.out
 case round=>
  clear R0;obtain ⟨k,hk,rfl,hno⟩:=hrel;have HN:=hid hno;clear hno;by_cases hlt:k<ks.length
  ·obtain ⟨x,hx⟩:∃ x,ks[k]?=some x:=⟨_,XR hlt⟩;have hcell:=HC.out k x hx;have HT:Hid ((ks.take (k+1)).contains n=((ks.take k).contains n||(n==x))):=by
    show _=_;rw [Yg,hx,XY];simp
   have HX:=hid hx;clear hx;cases hnx:(n==x)
   ·rw [hnx] at HT;go_wp2
    go_round
    case rel=>exact ⟨k+1,by omega,by go_num,by rw [HT.out,HN.out];rfl⟩
    case measure=>simp [intOf];omega
   ·have HE:Hid (V=true):=by
     show V=true;rw [HV.out,List.contains_iff_mem];have:n=x:=by simpa using hnx
     rw [this];exact X9 HX.out
    go_wp2;go_ret;exact ⟨by rw [HE.out];rfl,rfl⟩
  ·have HE:Hid (V=false):=by
    show V=false;rw [HV.out];have:=HN.out
    rwa [Yf (by omega)] at this
   go_wp2;go_ret;exact ⟨by rw [HE.out];rfl,rfl⟩
def I5 (l:List ah) (ks:List Int) (vi:YL):Prop:=∃ k:Nat,k<=l.length/\vi=.int .i64 k/\ah.bJ ks (l.take k)=false
theorem ah.wK (ks:List Int):∀ (l m:List ah),ah.bJ ks (l++m)=(ah.bJ ks l||ah.bJ ks m)
 | [],m=>by rw [List.nil_append,ah.bJ];rfl
 | x::l,m=>by rw [List.cons_append,ah.bJ,ah.bJ,ah.wK ks l m,Bool.or_assoc]
theorem ah.Bz (ks:List Int) {l:List ah} {k:Nat} {x:ah} (hx:l[k]?=some x):ah.bJ ks (l.take (k+1))=(ah.bJ ks (l.take k)||x.EH ks):=by rw [Yg,hx,ah.wK,Option.toList_some,ah.bJ,ah.bJ,Bool.or_false]
theorem ah.wM (ks:List Int):∀ {l:List ah} {k:Nat} {x:ah},l[k]?=some x->x.EH ks=true->ah.bJ ks l=true
 | [],_,_,h,_=>by simp at h
 | y::l,0,x,h,hx=>by simp at h;subst h;rw [ah.bJ,hx];rfl
 | y::l,k+1,x,h,hx=>by rw [ah.bJ,ah.wM ks (l:=l) (k:=k) (by simpa using h) hx,Bool.or_true]
theorem mE (n:Nat):∀ (l:List ah) (ok:Nat->Prop) (v:YL) (ks:List Int) (g cap:Nat) (w:YJ),ah.aV l<=n->Rd ok w (fC l) [v]->ks.length<=1000->(∀ j k,ks[j]?=some k->w.cell? ⟨g,j,none⟩=some (.int .i64 k)) -> Calls Tryz.prog 117 #[v,.slice (some ⟨g,0,none⟩) ks.length cap] w fun e w'=>e=.returned (.bool (ah.bJ ks l))/\w=w':=by
 induction n using Nat.strongRecOn with
 | _ n ih=>
  intro l ok v ks g cap w hn hrd hks hc;obtain ⟨a,cp,hv,hs⟩:=Rd.aC hrd;obtain rfl:v=.slice a l.length cp:=by simpa using hv
  have hcap:l.length<=cp:=by simpa using hs.le
  have hmx:=hs.max;unfold maxLen at hmx;have HS:=hid hs;have IH:=hid ih;have HC:=hid hc;have OO:=hid (fun n=>gu n ks g cap w hks hc);have R0:Hid (I5 l ks (.int .i64 0)):=⟨0,X8 _,rfl,by rw [List.take_zero,ah.bJ]⟩;obtain ⟨V,hV⟩:∃ V,V=ah.bJ ks l:=⟨_,rfl⟩;rw [<- hV];have HV:=hid hV;clear hs hv hrd ih hc hV;go_enter Tryz.func117,Tryz.ntmps117;go_wp2
  go_loop [8] (fun i=>I5 l ks i) (fun i=>l.length-(intOf i).toNat)
  case atStart=>exact R0.out
  case round=>
   clear R0;obtain ⟨k,hk,rfl,hno⟩:=hrel;have HN:=hid hno;clear hno;by_cases hlt:k<l.length
   ·obtain ⟨x,hx⟩:∃ x,l[k]?=some x:=⟨_,XR hlt⟩;have hsn:=ah.Bz ks hx;have HG:=hid (ah.wM ks hx);obtain ⟨kd,t,d,ti,at_,ar,ci,kids⟩:=x;obtain ⟨b,off,vc,vp,va,vi,vk,rfl,hok,hbl,hcl,hR⟩:=gN HS.out hx;obtain ⟨c0,-,-,-,-,-,-,-,-,c9⟩:=hcl;have hsz:=ah.cZ l k _ hx;rw [ah.sz] at hsz;have AK:=hid (IH.out (ah.aV kids) (by omega) kids ok vk ks g cap w (XU _) hR.kids hks HC.out);obtain ⟨ak,nk,ck,rfl⟩:=Rd.P8 hR.kids;have OK:=hid (OO.out kd);have HX:Hid ((ah.mk kd t d ti at_ ar ci kids).EH ks=(ks.contains kd||ah.bJ ks kids)):=by show _=_;rw [ah.EH]
    have uq:=hid hsn;clear hx hR hsn;cases h1:ks.contains kd with
    | true=>
     rw [h1] at OK HX;have HE:Hid (V=true):=by show V=true;rw [HV.out];exact HG.out (by rw [HX.out];rfl)
     clear h1;go_wp2_with fail
     refine OK.out.mono ?_;rintro e w1 ⟨rfl,rfl⟩;go_wp2;go_ret;exact ⟨by rw [HE.out];rfl,rfl⟩
    | false=>
     rw [h1] at OK HX;cases h2:ah.bJ ks kids with
     | true=>
      rw [h2] at AK HX;have HE:Hid (V=true):=by show V=true;rw [HV.out];exact HG.out (by rw [HX.out];rfl)
      clear h1 h2;go_wp2_with fail
      refine OK.out.mono ?_;rintro e w1 ⟨rfl,rfl⟩;go_wp2_with fail
      refine AK.out.mono ?_;rintro e w1 ⟨rfl,rfl⟩;go_wp2;go_ret;exact ⟨by rw [HE.out];rfl,rfl⟩
     | false=>
      rw [h2] at AK HX;clear h1 h2;go_wp2_with fail
      refine OK.out.mono ?_;rintro e w1 ⟨rfl,rfl⟩;go_wp2_with fail
      refine AK.out.mono ?_;rintro e w1 ⟨rfl,rfl⟩;go_wp2
      go_round
      case rel=>exact ⟨k+1,by omega,by go_num,by rw [uq.out,HN.out,HX.out];rfl⟩
      case measure=>simp [intOf];omega
   ·have HE:Hid (V=false):=by
     show V=false;rw [HV.out];have:=HN.out
     rwa [Yf (by omega)] at this
    go_wp2;go_ret;exact ⟨by rw [HE.out];rfl,rfl⟩
open Go.RowKit
theorem fU (l:List ByteArray) (x:ByteArray):hasB l.reverse x=hasB l x:=by rw [XY,pR,pR,List.mem_reverse]
theorem aU.cleared {w:YJ} {b n:Nat} {S:List ByteArray} (h:aU w b n S) (ty:TypeId) : ∃ w',(Builtin.clear_ #[53] ty #[.map (some b)]).run Tryz.prog w=.ok (.tuple #[]) w'/\aU w' b 0 []/\w.grownBy w' (some b):=by
 obtain ⟨D,⟨es,clock,hb,F,hsz,hD⟩,hat⟩:=h;have hr:∃ clock',(Builtin.clear_ #[53] ty #[.map (some b)]).run Tryz.prog w=.ok (.tuple #[]) { w with heap:=w.heap.setIfInBounds b (.map #[] clock') }:=by refine ⟨clock,?_⟩;simp [Builtin.clear_,run_underlying Tryz.underlying53,MapKept.run_getObj_map hb,MapKept.run_setObj_map _ hb,Result.andThen]
 obtain ⟨clock',hrun⟩:=hr;have hs:=MapKept.heap_set (o':=.map #[] clock') hb;refine ⟨_,hrun,⟨.map [],⟨#[],clock',hs.1,⟨by simp,MapKept.stamped_empty clock',by simp⟩,XU _,rfl⟩,fun s=>rfl⟩,rfl,rfl,rfl,?_,fun i _ hne=>hs.2 i (fun e=>hne (by rw [e]))⟩;simp
def Cb (T:TypeId) (p:Nat) (cs:List YL) (w:YJ) (mb n:Nat) (S:List ByteArray) (wr:YJ):Prop:=CB T p cs wr/\aU wr mb n S/\Below w.heap.size w wr/\w.heap.size<=mb/\p≠mb/\w.heap.size<=p
theorem Cb.put {T:TypeId} {p:Nat} {cs:List YL} {w:YJ} {mb n n':Nat} {S S':List ByteArray} {wr w':YJ} (h:Cb T p cs w mb n S wr) (hg:wr.grownBy w' (some mb)) (hs:aU w' mb n' S'):Cb T p cs w mb n' S' w':=
 ⟨(hg.block p h.1.lt (fun e=>h.2.2.2.2.1 (by injection e))).trans h.1,hs,h.2.2.1.grown hg h.2.2.1.size (fun j hj=>by cases hj;exact h.2.2.2.1),h.2.2.2⟩
theorem Cb.alloc {T:TypeId} {p:Nat} {cs:List YL} {w:YJ} {mb n:Nat} {S:List ByteArray} {wr:YJ} (h:Cb T p cs w mb n S wr) (o:Obj):Cb T p cs w mb n S (wr.alloc o):=
 ⟨h.1.below ((XT _ _).alloc (XU _) _),h.2.1.below ((XT _ _).alloc (XU _) _),h.2.2.1.alloc h.2.2.1.size _,h.2.2.2⟩
theorem Cb.drewN {T:TypeId} {p:Nat} {cs:List YL} {w:YJ} {mb n:Nat} {S:List ByteArray} {wr:YJ} (h:Cb T p cs w mb n S wr) (q:Nat):Cb T p cs w mb n S (wr.drewN q):=
 ⟨h.1,h.2.1,q01 h.2.2.1 q,h.2.2.2⟩
def EP (T:TypeId) (p:Nat) (cs:List YL) (w:YJ) (mb:Nat) (l:List ByteArray) (E:Nat) (vi:YL) (wr:YJ):Prop:=
 ∃ k:Nat,k<=l.length/\vi=.int .i64 k/\Cb T p cs w mb k (l.take k).reverse wr/\jZ (l.take k) (l.drop k)=E
def ER (T:TypeId) (p:Nat) (cs:List YL) (w:YJ) (mb:Nat) (l:List Pr) (E:Nat) (vi:YL) (wr:YJ):Prop:=
 ∃ k:Nat,k<=l.length/\vi=.int .i64 k/\Cb T p cs w mb k ((l.take k).map Pr.key).reverse wr/\bM ((l.take k).map Pr.key) (l.drop k)=E
theorem gU (a:At) (ac ap:Option Addr) (cc cp:Nat) (w:YJ) (h:AtR (·<w.heap.size) w a (.slice ac a.cls.length cc) (.slice ap a.aS.length cp)) (hs:a.short) : Calls Tryz.prog 94 #[.agg #[.string a.id,.slice ac a.cls.length cc,.slice ap a.aS.length cp]] w (dA (.int .i64 (a.err:Nat)) w):=by
 obtain ⟨sc,sp,si,RV,RX⟩:=hs;obtain ⟨id,cls,aS⟩:=a;dsimp only at sc sp si RV RX h ⊢;obtain ⟨a1,c1,hv1,hs1⟩:=Rd.aC h.cls;obtain ⟨rfl,rfl⟩:a1=ac/\c1=cc:=by simp at hv1;exact ⟨hv1.1.symm,hv1.2.symm⟩
 obtain ⟨a2,c2,hv2,hs2⟩:=Rd.aC h.aS;obtain ⟨rfl,rfl⟩:a2=ap/\c2=cp:=by simp at hv2;exact ⟨hv2.1.symm,hv2.2.symm⟩
 have l1:cls.length<=c1:=by simpa using hs1.le
 have l2:aS.length<=c2:=by simpa using hs2.le
 have m1:=hs1.max;have m2:=hs2.max;unfold maxLen at m1 m2;have H1:=hid hs1;have H2:=hid hs2;have SC:=hid RV;have SP:=hid RX;have NI:=hid (fun w=>dM id w (by omega));have HE:Hid (At.err ⟨id,cls,aS⟩=if eY id=false/\iA id=false then 6 else if jZ [] cls≠0 then jZ [] cls else if bM [] aS≠0 then bM [] aS else if 32<cls.length\/32<aS.length then 3 else 0):=rfl;obtain ⟨V,hV⟩:∃ V,V=At.err ⟨id,cls,aS⟩:=⟨_,rfl⟩;rw [<- hV] at HE ⊢;clear hV RV RX hs1 hs2 hv1 hv2 h;by_cases hbad:eY id=false/\iA id=false
 ·have HV:Hid (V=6):=by show V=6;rw [HE.out,if_pos hbad]
  rw [hbad.2] at NI;have hie:id.toList.isEmpty=false:=by rw [bU];exact hbad.1
  clear hbad HE;go_enter Tryz.func94,Tryz.ntmps94;go_wp2_with (go_at_call 16;refine (NI.out _).mono ?_;rintro e w1 ⟨rfl,rfl⟩)
  go_ret;exact ⟨by rw [HV.out];rfl,(XT _ _).alloc (XU _) _⟩
 have hgood:id.toList.isEmpty=true\/(id.toList.isEmpty=false/\iA id=true):=by
  rw [bU];cases h1:eY id
  ·right;refine ⟨rfl,?_⟩;cases h2:iA id
   ·exact absurd ⟨h1,h2⟩ hbad
   ·rfl
  ·left;rfl
 have HE2:Hid (V=if jZ [] cls≠0 then jZ [] cls else if bM [] aS≠0 then bM [] aS else if 32<cls.length\/32<aS.length then 3 else 0):=by show V=_;rw [HE.out,if_neg hbad]
 obtain ⟨w1,hw1⟩:∃ w1,w1=(w.alloc (.cells #[.string id,.slice a1 cls.length c1,.slice a2 aS.length c2] 44)).alloc (.map #[] 0):=⟨_,rfl⟩;have R0:Hid (EP 44 w.heap.size [.string id,.slice a1 cls.length c1,.slice a2 aS.length c2] w (w.heap.size+1) cls (jZ [] cls) (.int .i64 0) w1):=by
  refine ⟨0,X8 _,rfl,⟨?_,?_,?_,by omega,by omega,XU _⟩,rfl⟩
  ·rw [hw1];exact (CB.new _ _ w).below ((XT _ _).alloc (XU _) _)
  ·rw [hw1];have:=aU.made (w.alloc (.cells #[.string id,.slice a1 cls.length c1,.slice a2 aS.length c2] 44))
   rwa [World.size_alloc] at this
  ·rw [hw1];exact ((XT _ _).alloc (XU _) _).alloc (by simp) _
 have HW1:=hid hw1;obtain ⟨E1,hE1⟩:∃ E1,E1=jZ [] cls:=⟨_,rfl⟩;obtain ⟨E2,hE2⟩:∃ E2,E2=bM [] aS:=⟨_,rfl⟩;rw [<- hE1] at HE2 R0;rw [<- hE2] at HE2;have RY:=hid hE2;clear hbad HE hw1 hE1 hE2;have hmm:=@run_makeMap Tryz.prog;rcases hgood with hie | ⟨hie,hnm⟩
 case' inl=>
  clear NI;go_enter Tryz.func94,Tryz.ntmps94;go_wp2;rw [<- HW1.out];clear hmm
 case' inr=>
  rw [hnm] at NI;clear hnm;go_enter Tryz.func94,Tryz.ntmps94;go_wp2_with (go_at_call 16;refine (NI.out _).mono ?_;rintro e w1 ⟨rfl,rfl⟩)
  rw [<- HW1.out];clear hmm
 all_goals
  go_loopw [21] (fun i wr=>EP 44 w.heap.size [.string id,.slice a1 cls.length c1,.slice a2 aS.length c2] w (w.heap.size+1) cls E1 i wr) (fun i _=>cls.length-(intOf i).toNat)
  case atStart=>exact R0.out
  case round=>
   clear R0;obtain ⟨k,hk,rfl,lC,aG⟩:=hrel;have Gv:=hid lC;by_cases hlt:k<cls.length
   ·obtain ⟨x,hx⟩:∃ x,cls[k]?=some x:=⟨_,XR hlt⟩;obtain ⟨b,off,rfl,-,-,c0⟩:=kF H1.out hx;have c0:wr.cell? ⟨b,off+k,none⟩=some (.string x):=by rw [lC.2.2.1.cell (p:=⟨b,off+k,none⟩) (fJ c0)];exact c0
    have hxs:=SC.out x (X9 hx);have CN:=hid (fun w=>dM x w (by omega));have hlk:=lC.2.1.look x (by unfold maxLen;omega);obtain ⟨w',hup,hS',hg⟩:=lC.2.1.put x (by unfold maxLen;omega) (by unfold maxLen;omega);have NY:=hid (lC.put hg hS');rw [fU] at hlk;rw [BS cls k x hx,jZ] at aG;have xD:Hid (cls.take (k+1)=cls.take k++[x]):=by show _=_;rw [Yg,hx];rfl
    have aT:=hid aG;clear aG hS' hg lC hx;cases hn:iA x with
    | false=>
     rw [hn] at CN;have HV:Hid (V=6):=by show V=6;have:=aT.out;rw [if_pos hn] at this;rw [HE2.out,<- this];rfl
     clear hn hup;go_wp2_with fail
     refine (CN.out _).mono ?_;rintro e w3 ⟨rfl,rfl⟩;go_wp2;go_ret;exact ⟨by rw [HV.out];rfl,Gv.out.2.2.1⟩
    | true=>
     rw [hn] at CN;cases hb:hasB (cls.take k) x with
     | true=>
      rw [hb] at hlk;have HV:Hid (V=7):=by show V=7;have:=aT.out;rw [if_neg (by rw [hn];decide),if_pos hb] at this;rw [HE2.out,<- this];rfl
      clear hn hb hup;go_wp2_with fail
      refine (CN.out _).mono ?_;rintro e w3 ⟨rfl,rfl⟩;go_wp2;go_ret;exact ⟨by rw [HV.out];rfl,Gv.out.2.2.1⟩
     | false=>
      rw [hb] at hlk;have FD:Hid (jZ (cls.take (k+1)) (cls.drop (k+1))=E1):=by show _=_;have:=aT.out;rw [if_neg (by rw [hn];decide),if_neg (by rw [hb];decide)] at this;rw [xD.out];exact this
      clear hn hb;go_wp2_with fail
      refine (CN.out _).mono ?_;rintro e w3 ⟨rfl,rfl⟩;go_wp2;go_roundw;case rel=>exact ⟨k+1,by omega,by go_num,by rw [xD.out,List.reverse_append];exact NY.out,FD.out⟩
      case measure=>simp [intOf];omega
   ·obtain rfl:k=cls.length:=by omega
    have GN:Hid (E1=0):=by show E1=0;rw [List.drop_length,jZ] at aG;exact aG.symm
    obtain ⟨w2,hcl,hS2,hg2⟩:∃ w2,(∀ ty,(Builtin.clear_ #[53] ty #[.map (some (w.heap.size+1))]).run Tryz.prog wr=.ok (.tuple #[]) w2)/\aU w2 (w.heap.size+1) 0 []/\wr.grownBy w2 (some (w.heap.size+1)):=by obtain ⟨w2,h1,h2,h3⟩:=lC.2.1.cleared 0;exact ⟨w2,fun ty=>h1,h2,h3⟩
    have R2:Hid (ER 44 w.heap.size [.string id,.slice a1 cls.length c1,.slice a2 aS.length c2] w (w.heap.size+1) aS E2 (.int .i64 0) w2):=⟨0,X8 _,rfl,lC.put hg2 hS2,RY.out.symm⟩;have p2:w2.cell? ⟨w.heap.size,2,none⟩=some (.slice a2 aS.length c2):=(lC.put hg2 hS2).1.cell 2 _ rfl;clear aG lC Gv hS2 hg2 hk hlt;go_wp2
    go_loopw [38] (fun i wr=>ER 44 w.heap.size [.string id,.slice a1 cls.length c1,.slice a2 aS.length c2] w (w.heap.size+1) aS E2 i wr) (fun i _=>aS.length-(intOf i).toNat)
    case atStart=>exact R2.out
    case round=>
     clear R2 hcl p2;obtain ⟨k,hk,rfl,lC,aG⟩:=hrel;have Gv:=hid lC;by_cases hlt:k<aS.length
     ·obtain ⟨x,hx⟩:∃ x,aS[k]?=some x:=⟨_,XR hlt⟩;obtain ⟨b,off,rfl,-,-,c0,c1'⟩:=Ep H2.out hx;have c0:wr.cell? ⟨b,off+k*2,none⟩=some (.string x.key):=by rw [lC.2.2.1.cell (p:=⟨b,off+k*2,none⟩) (fJ c0)];exact c0
      have c1':wr.cell? ⟨b,off+k*2+1,none⟩=some (.string x.val):=by rw [lC.2.2.1.cell (p:=⟨b,off+k*2+1,none⟩) (fJ c1')];exact c1'
      have hxs:=SP.out x (X9 hx);have HX:=hid hx;have aT:Hid (bM ((aS.take k).map Pr.key) (x::aS.drop (k+1))=E2):=by show _=_;rw [<- BS aS k x hx];exact aG
      obtain ⟨key,val⟩:=x;dsimp only at c0 c1' hxs;have CN:=hid (fun w=>dM key w (by omega));have CV:=hid (fun w=>Bb val w (by omega));have xD:Hid ((aS.take (k+1)).map Pr.key=(aS.take k).map Pr.key++[key]):=by show _=_;rw [Yg,HX.out];simp
      obtain ⟨wi,hwi⟩:∃ wi,wi=wr.alloc (.cells #[.string key,.string val] 57):=⟨_,rfl⟩;have tC:=lC.alloc (.cells #[.string key,.string val] 57);rw [<- hwi] at tC;have i0:wi.cell? ⟨wr.heap.size,0,none⟩=some (.string key):=by rw [hwi];exact Eb wr [.string key,.string val] _ 0 _ rfl
      have i1:wi.cell? ⟨wr.heap.size,1,none⟩=some (.string val):=by rw [hwi];exact Eb wr [.string key,.string val] _ 1 _ rfl
      have Fp:=hid tC;clear aG lC hx;cases hn:iA key with
      | false=>
       rw [hn] at CN;have HV:Hid (V=6):=by show V=6;have:=aT.out;rw [bM,if_pos hn] at this;rw [HE2.out,GN.out,<- this];rfl
       clear hn;go_upto_region 17 with (fail)
       rw [<- hwi];clear hwi tC;go_wp2_with fail
       refine (CN.out _).mono ?_;rintro e w3 ⟨rfl,rfl⟩;go_wp2;go_ret;exact ⟨by rw [HV.out];rfl,Fp.out.2.2.1⟩
      | true=>
       rw [hn] at CN;cases hln:iw val with
       | false=>
        rw [hln] at CV;have HV:Hid (V=17):=by show V=17;have:=aT.out;rw [bM,if_neg (by rw [hn];decide),if_pos hln] at this;rw [HE2.out,GN.out,<- this];rfl
        clear hn hln;go_upto_region 17 with (fail)
        rw [<- hwi];clear hwi tC;go_wp2_with fail
        refine (CN.out _).mono ?_;rintro e w3 ⟨rfl,rfl⟩;go_wp2_with fail
        refine (CV.out _).mono ?_;rintro e w3 ⟨rfl,q,rfl⟩;go_wp2;go_ret;exact ⟨by rw [HV.out];rfl,q01 Fp.out.2.2.1 q⟩
       | true=>
        rw [hln] at CV;have NW:=hid (fun q=>(tC.drewN q).2.1.look key (by unfold maxLen;omega));have KJ:=hid (fun q=>(tC.drewN q).2.1.put key (by unfold maxLen;omega) (by unfold maxLen;omega));cases hb:hasB ((aS.take k).map Pr.key) key with
        | true=>
         have HV:Hid (V=7):=by show V=7;have:=aT.out;rw [bM,if_neg (by rw [hn];decide),if_neg (by rw [hln];decide),if_pos hb] at this;rw [HE2.out,GN.out,<- this];rfl
         have HB:=hid hb;clear hn hln hb;go_upto_region 17 with (fail)
         rw [<- hwi];clear hwi tC;go_wp2_with fail
         refine (CN.out _).mono ?_;rintro e w3 ⟨rfl,rfl⟩;go_wp2_with fail
         refine (CV.out _).mono ?_;rintro e w3 ⟨rfl,q,rfl⟩;have hlk:=NW.out q;rw [fU,HB.out] at hlk;go_wp2;go_ret;exact ⟨by rw [HV.out];rfl,q01 Fp.out.2.2.1 q⟩
        | false=>
         have FD:Hid (bM ((aS.take (k+1)).map Pr.key) (aS.drop (k+1))=E2):=by show _=_;have:=aT.out;rw [bM,if_neg (by rw [hn];decide),if_neg (by rw [hln];decide),if_neg (by rw [hb];decide)] at this;rw [xD.out];exact this
         have HB:=hid hb;clear hn hln hb;go_upto_region 17 with (fail)
         rw [<- hwi];clear hwi tC;go_wp2_with fail
         refine (CN.out _).mono ?_;rintro e w3 ⟨rfl,rfl⟩;go_wp2_with fail
         refine (CV.out _).mono ?_;rintro e w3 ⟨rfl,q,rfl⟩;have hlk:=NW.out q;rw [fU,HB.out] at hlk;obtain ⟨w',hup,hS',hg⟩:=KJ.out q;have NY:=hid ((Fp.out.drewN q).put hg hS');clear hS' hg;go_wp2;go_roundw;case rel=>exact ⟨k+1,by omega,by go_num,by rw [xD.out,List.reverse_append];exact NY.out,FD.out⟩
         case measure=>simp [intOf];omega
     ·obtain rfl:k=aS.length:=by omega
      have HV:Hid (V=if 32<cls.length\/32<aS.length then 3 else 0):=by show V=_;rw [List.drop_length,bM] at aG;rw [HE2.out,GN.out,<- aG];rfl
      have p1:wr.cell? ⟨w.heap.size,1,none⟩=some (.slice a1 cls.length c1):=lC.1.cell 1 _ rfl;have p2:wr.cell? ⟨w.heap.size,2,none⟩=some (.slice a2 aS.length c2):=lC.1.cell 2 _ rfl;clear aG lC hk hlt;by_cases h1:32<cls.length
      ·have q1:decide ((32:Int)<(cls.length:Int))=true:=by simp;omega
       go_wp2;go_ret;exact ⟨by rw [HV.out,if_pos (.inl h1)];rfl,Gv.out.2.2.1⟩
      ·have q1:decide ((32:Int)<(cls.length:Int))=false:=by simp;omega
       by_cases h2:32<aS.length
       ·have q2:decide ((32:Int)<(aS.length:Int))=true:=by simp;omega
        go_wp2;go_ret;exact ⟨by rw [HV.out,if_pos (.inr h2)];rfl,Gv.out.2.2.1⟩
       ·have q2:decide ((32:Int)<(aS.length:Int))=false:=by simp;omega
        go_wp2;go_ret;exact ⟨by rw [HV.out,if_neg (by omega)];rfl,Gv.out.2.2.1⟩
open Go.RowKit
theorem ah.ES (l:List ah) (k:Nat) (x:ah) (h:l[k]?=some x):ah.aV (l.take k)+x.sz<=ah.aV l:=by
 have h1:ah.aV (l.take (k+1))<=ah.aV l:=by have:=ah.zZ (l.take (k+1)) (l.drop (k+1));rw [List.take_append_drop] at this;omega
 rw [ah.wN h] at h1;exact h1
theorem aj.BA (l:List aj) (k:Nat) (x:aj) (h:l[k]?=some x):aj.bB (l.take k)+x.all<=aj.bB l:=by
 have h1:aj.bB (l.take (k+1))<=aj.bB l:=by have:=aj.wO (l.take (k+1)) (l.drop (k+1));rw [List.take_append_drop] at this;omega
 rw [aj.rG h] at h1;exact h1
theorem aj.GQ (x:aj):1<=x.all:=by cases x;rw [aj.all];omega
theorem aj.Ab:∀ (l:List aj),l.length<=aj.bB l
 | []=>by simp
 | x::l=>by have:=aj.Ab l;have:=x.GQ;rw [aj.bB];simp;omega
theorem RZ {P:Program} {f:FuncId} {args:Array YL} {w:YJ} {a n:Nat} {v:YL} (h:Calls P f args (w.drewN (a+n)) fun e w'=>e=.returned v/\w.drewN (a+n)=w') : Calls P f args (w.drewN (a+n)) fun e w''=>e=.returned v/\∃ m,w''=w.drewN (a+m):=h.mono fun _ _ ⟨he,hm⟩=>⟨he,n,hm.symm⟩
theorem R5 {P:Program} {f:FuncId} {args:Array YL} {w:YJ} {a n:Nat} {v:YL} (h:Calls P f args (w.drewN (a+n)) (Dr v (w.drewN (a+n)))) : Calls P f args (w.drewN (a+n)) fun e w''=>e=.returned v/\∃ m,w''=w.drewN (a+m):=h.mono fun _ _ ⟨he,m,hm⟩=>⟨he,n+m,by rw [hm,World.drewN_drewN,Nat.add_assoc]⟩
def I6 (l:List ah) (vn vi:YL):Prop:=∃ k n:Nat,k<=l.length/\vi=.int .i64 k/\vn=.int .i64 n/\n=ah.aV (l.take k)+(l.length-k)
def I7 (l:List aj) (w:YJ) (vn vi:YL) (wr:YJ):Prop:=∃ k n q:Nat,k<=l.length/\vi=.int .i64 k/\vn=.int .i64 n/\n=aj.bB (l.take k)+(l.length-k)/\wr=w.drewN q
theorem pU (n:Nat):∀ (l:List ah) (ok:Nat->Prop) (v:YL) (w:YJ),ah.aV l<=n->n<=1000000->Rd ok w (fC l) [v] -> Calls Tryz.prog 69 #[v] w fun e w'=>e=.returned (.int .i64 (ah.aV l:Nat))/\w=w':=by
 induction n using Nat.strongRecOn with
 | _ n ih=>
  intro l ok v w hn hnm h1;obtain ⟨a,cap,hv,hs⟩:=Rd.aC h1;obtain rfl:v=.slice a l.length cap:=by simpa using hv
  have hcap:l.length<=cap:=by simpa using hs.le
  have hmx:=hs.max;unfold maxLen at hmx;have HS:=hid hs;have IH:=hid ih;have R0:Hid (I6 l (.int .i64 (l.length:Int)) (.int .i64 0)):=⟨0,l.length,X8 _,rfl,rfl,by rw [List.take_zero,ah.aV];simp⟩;clear hs hv h1 ih;go_enter Tryz.func69,Tryz.ntmps69;go_wp2
  go_loop [3,9] (fun vn vi=>I6 l vn vi) (fun _ i=>l.length-(intOf i).toNat)
  case atStart=>exact R0.out
  case round=>
   clear R0;obtain ⟨k,m,hk,rfl,rfl,hm⟩:=hrel;by_cases hlt:k<l.length
   ·obtain ⟨x,hx⟩:∃ x,l[k]?=some x:=⟨_,XR hlt⟩;have hsz:=ah.ES l k _ hx;have hsn:=ah.wN hx;obtain ⟨kd,t,d,ti,at_,ar,ci,ks⟩:=x;obtain ⟨g,off,vc,vp,va,vi,vk,rfl,hok,hbl,hc,hR⟩:=gN HS.out hx;rw [ah.sz] at hsz hsn;obtain ⟨ak,nk,ck,rfl⟩:=Rd.P8 hR.kids;have p9:=hc.c9;have CK:=hid (IH.out (ah.aV ks) (by omega) ks ok (.slice ak nk ck) w (XU _) (by omega) hR.kids);have HM:Hid (m+ah.aV ks=ah.aV (l.take (k+1))+(l.length-(k+1))):=by show _=_;omega
    have hlm:l.length-k<=1000000:=by have:=ah.lX l;omega
    have hmb:m+ah.aV ks<=3000000:=by omega
    generalize ah.aV ks=K at *;clear hc hR hx hm hsn hsz hlm;go_wp2_with fail
    refine CK.out.mono ?_;rintro e w1 ⟨rfl,rfl⟩;go_wp2
    go_round
    case rel=>exact ⟨k+1,m+K,by omega,by go_num,by go_num,HM.out⟩
    case measure=>simp [intOf];omega
   ·obtain rfl:k=l.length:=by omega
    have hv:m=ah.aV l:=by rw [hm,List.take_length];omega
    have HV:=hid hv;clear hv hm;go_wp2;go_ret;exact ⟨by rw [<- HV.out];rfl,rfl⟩
theorem lZ (n:Nat):∀ (l:List aj) (ok:Nat->Prop) (v:YL) (w:YJ),aj.bB l<=n->n<=1000000->Rd ok w (aY l) [v] -> Calls Tryz.prog 50 #[v] w (Dr (.int .i64 (aj.bB l:Nat)) w):=by
 induction n using Nat.strongRecOn with
 | _ n ih=>
  intro l ok v w hn hnm h1;obtain ⟨a,cap,hv,hs⟩:=Rd.aC h1;obtain rfl:v=.slice a l.length cap:=by simpa using hv
  have hcap:l.length<=cap:=by simpa using hs.le
  have hmx:=hs.max;unfold maxLen at hmx;have HS:=hid hs;have IH:=hid ih;have R0:Hid (I7 l w (.int .i64 (l.length:Int)) (.int .i64 0) w):=⟨0,l.length,0,X8 _,rfl,rfl,by rw [List.take_zero,aj.bB];simp,rfl⟩;clear hs hv h1 ih;go_enter Tryz.func50,Tryz.ntmps50;go_wp2
  go_loopw [3,9] (fun vn vi wr=>I7 l w vn vi wr) (fun _ i _=>l.length-(intOf i).toNat)
  case atStart=>exact R0.out
  case round=>
   clear R0;obtain ⟨k,m,q,hk,rfl,rfl,hm,rfl⟩:=hrel;by_cases hlt:k<l.length
   ·obtain ⟨x,hx⟩:∃ x,l[k]?=some x:=⟨_,XR hlt⟩;have hsz:=aj.BA l k _ hx;have hsn:=aj.rG hx;obtain ⟨kd,lv,i,t,d,ti,at_,li,ks⟩:=x;obtain ⟨g,off,vc,vp,vl,vk,rfl,hok,hbl,hc,hR⟩:=jv HS.out hx;rw [aj.all] at hsz hsn;obtain ⟨ak,nk,ck,rfl⟩:=Rd.P8 hR.kids;obtain ⟨al,nl,cl,rfl⟩:=Rd.P8 hR.line;have p9:=hc.c9;have Ea:=hc.c10;have hst:∀ q,EI ok ok w (w.drewN q):=fun q b h _=>⟨h,rfl⟩
    have CL:=hid (fun q=>pU _ li ok (.slice al nl cl) (w.drewN q) (XU _) (by omega) (Rd.keep (hst q) _ _ hR.line));have CK:=hid (fun q=>IH.out (aj.bB ks) (by omega) ks ok (.slice ak nk ck) (w.drewN q) (XU _) (by omega) (Rd.keep (hst q) _ _ hR.kids));have HM:Hid (m+(ah.aV li+aj.bB ks)=aj.bB (l.take (k+1))+(l.length-(k+1))):=by show _=_;omega
    have hlm:l.length-k<=1000000:=by have:=aj.Ab l;omega
    have hmb:m+(ah.aV li+aj.bB ks)<=3000000:=by omega
    generalize ah.aV li=L at *;generalize aj.bB ks=K at *;have s1:IntKind.i64.wrap ((L:Int)+(K:Int))=(L:Int)+(K:Int):=Ac (by omega) (by omega);have s2:IntKind.i64.wrap ((m:Int)+((L:Int)+(K:Int)))=(m:Int)+((L:Int)+(K:Int)):=Ac (by omega) (by omega);clear hc hR hx hm hsn hsz hlm hst;go_wp2_with fail
    go_quiet ((first | (go_at_call 69;exact RZ (CL.out _)) | (go_at_call 50;exact R5 (CK.out _))))
    clear s1 s2;go_wp2;go_roundw;case rel=>exact ⟨k+1,m+(L+K),_,by omega,by go_num,by go_num,HM.out,rfl⟩
    case measure=>simp [intOf];omega
   ·obtain rfl:k=l.length:=by omega
    have hv:m=aj.bB l:=by rw [hm,List.take_length];omega
    have HV:=hid hv;clear hv hm;go_wp2;go_ret;exact ⟨by rw [<- HV.out];rfl,q,rfl⟩
open Go.RowKit
theorem Bp (l:List aj) (am ab:Option Addr) (nm cm nb cb:Nat) (w:YJ) (hn:aj.bB l<=1000000) (h:Rd (·<w.heap.size) w (aY l) [.slice ab nb cb]) : Calls Tryz.prog 35 #[.agg #[.slice am nm cm,.slice ab nb cb]] w (dA (.int .i64 (aj.bB l:Nat)) w):=by
 have hb0:Below w.heap.size w (w.alloc (.cells #[.slice am nm cm,.slice ab nb cb] 30)):=(XT _ _).alloc (XU _) _;have SZ:=hid (lZ _ l _ _ _ (XU _) hn (h.up hb0));have HB:=hid hb0;generalize aj.bB l=N at *;clear h hb0;go_enter Tryz.func35,Tryz.ntmps35;go_wp2_with fail
 refine SZ.out.mono ?_;rintro e w1 ⟨rfl,q,rfl⟩;go_wp2;go_ret;exact ⟨rfl,q01 HB.out q⟩
open Go.RowKit
def ET (c:Nat):Bool:=decide (c=10)||(decide (32<=c)&&!decide (c=127))
theorem y9 (c:Nat) (w:YJ) (hc:c<=1114111) : Calls Tryz.prog 30 #[.int .i64 (c:Int)] w fun e w'=>e=.returned (.bool (ET c))/\w=w':=by
 go_enter Tryz.func30,Tryz.ntmps30;go_wp2;all_goals
  go_ret;refine ⟨qw ?_,rfl⟩;unfold ET
  (try simp only [beq_iff_eq,beq_eq_false_iff_ne,ne_eq,bne_iff_ne,bne_eq_false_iff_eq] at *)
  rw [XY];simp;omega
theorem I8 (a b:Nat):decide (a=b)=((a:Int)==(b:Int)):=by rw [XY];simp;omega
theorem GR (a b:Nat):lS (a,b)=(ET a&&!(((a:Int)==65533)&&((b:Int)==1))):=by unfold lS ET;rw [I8 a 65533,I8 b 1];rfl
theorem BD {w1:YJ} {B:Nat} {v1:YL} {ps:List (Nat × Nat)} (ho1:w1.ownsRow B 76 2 v1 ps.length (gY ps).flatten) : ∃ a cap,v1=.slice a ps.length cap/\ps.length<=cap/\cap<=maxLen/\(0<ps.length->∃ b,a=some ⟨b,0,none⟩/\b<w1.heap.size/\∀ k p,ps[k]?=some p->w1.cell? ⟨b,k*2,none⟩=some (.int .i64 (p.1:Int))/\w1.cell? ⟨b,k*2+1,none⟩=some (.int .i64 (p.2:Int))):=by
 rcases ho1.2 with ⟨rfl,h0⟩ | ⟨g,cap,cur,rfl,hg,hh,hn,hm,_⟩
 ·exact ⟨none,0,by rw [h0],by omega,X8 _,fun h=>by omega⟩
 ·refine ⟨_,cap,rfl,hn,hm,fun _=>⟨g,rfl,(ho1.lt g rfl).2,fun k p hk=>?_⟩⟩;have hr:(gY ps)[k]?=some (rE p):=by simp [gY,hk]
  have h0:=ho1.cells rfl _ _ (flat_get 2 _ (wu ps) k 0 _ (.int .i64 (p.1:Int)) hr rfl);have h1:=ho1.cells rfl _ _ (flat_get 2 _ (wu ps) k 1 _ (.int .i64 (p.2:Int)) hr rfl);have e:∀ j,((⟨g,0,none⟩:Addr).add j)=⟨g,j,none⟩:=fun j=>by unfold Addr.add;split<;>simp_all
  rw [e] at h0 h1;exact ⟨h0,h1⟩
theorem oC {α:Type} (f:α->Bool) {l:List α} {k:Nat} {x:α} (h:l[k]?=some x):(l.take (k+1)).all f=((l.take k).all f&&f x):=by rw [Yg,h];simp
theorem yC {α:Type} (f:α->Bool) {l:List α} {k:Nat} {x:α} (h:l[k]?=some x) (hf:f x=false):l.all f=false:=by rw [List.all_eq_false];exact ⟨x,X9 h,by rw [hf];decide⟩
def OQ (w1 wr:YJ) (ps:List (Nat × Nat)) (vi:YL):Prop:=∃ k:Nat,k<=ps.length/\vi=.int .i64 k/\(ps.take k).all lS=true/\Below w1.heap.size w1 wr
theorem xE (s:ByteArray) (w:YJ) (hs:s.size<=10000000000) : Calls Tryz.prog 17 #[.string s] w (dA (.bool (bE s)) w):=by
 have PO:=hid (wH s w (by omega));obtain ⟨V,hV⟩:∃ V,V=bE s:=⟨_,rfl⟩;rw [<- hV];have HV:Hid (V=(pts s).all lS):=hV;have hpl:(pts s).length<=s.size:=by have:=EN s s.size 0;unfold pts;simpa using this
 have Mj:=hid (sF s s.size 0);change Hid (∀ p∈pts s,p.1<=1114111) at Mj;clear hV;generalize pts s=ps at *;go_enter Tryz.func17,Tryz.ntmps17;go_wp2_with fail
 refine PO.out.mono ?_;rintro e w1 ⟨v1,rfl,ho1,b1⟩;obtain ⟨a,cap,rfl,hcap,hmx,hcs⟩:=BD ho1;have Io:=hid hcs;have B1:=hid b1;have HZ:Hid ((ps.take 0).all lS=true):=rfl;clear hcs ho1 PO b1;unfold maxLen at hmx;go_wp2
 go_loopw [8] (fun vi wr=>OQ w1 wr ps vi) (fun i _=>ps.length-(intOf i).toNat)
 case atStart=>exact ⟨0,X8 _,rfl,HZ.out,XT _ _⟩
 case round=>
  obtain ⟨k,hk,rfl,hall,hbel⟩:=hrel;have HA:=hid hall;have HB:=hid hbel;clear hall;by_cases hlt:k<ps.length
  ·obtain ⟨p,hp⟩:∃ p,ps[k]?=some p:=⟨_,XR hlt⟩;obtain ⟨b,rfl,hbl,hc⟩:=Io.out (by omega);obtain ⟨k1,k2⟩:=hc k p hp;have c1:wr.cell? ⟨b,k*2,none⟩=some (.int .i64 (p.1:Int)):=by rw [hbel.cell (p:=⟨b,k*2,none⟩) hbl];exact k1
   have c2:wr.cell? ⟨b,k*2+1,none⟩=some (.int .i64 (p.2:Int)):=by rw [hbel.cell (p:=⟨b,k*2+1,none⟩) hbl];exact k2
   have hd:=Mj.out p (X9 hp);have uq:=hid (oC lS hp);have zx:=hid (fun hf=>HV.out.trans (yC lS hp hf));obtain ⟨d1,d2⟩:=p;simp only at hd c1 c2;have CC:=hid (fun w=>y9 d1 w hd);have ng:=hid (GR d1 d2);clear hp hc k1 k2 hbel;cases hcl:ET d1 with
   | false=>
    rw [hcl] at CC ng;have HE:Hid (V=false):=zx.out ng.out;clear hcl;go_wp2_with fail
    refine (CC.out _).mono ?_;rintro e w2 ⟨rfl,rfl⟩;go_wp2;go_ret;exact ⟨by rw [HE.out];rfl,aL B1.out (HB.out.alloc HB.out.size _)⟩
   | true=>
    rw [hcl] at CC ng;cases hq1:((d1:Int)==65533) with
    | false=>
     rw [hq1] at ng;clear hcl;go_wp2_with fail
     refine (CC.out _).mono ?_;rintro e w2 ⟨rfl,rfl⟩;go_wp2;go_roundw;case rel=>exact ⟨k+1,by omega,by go_num,by rw [uq.out,HA.out,ng.out];rfl,HB.out.alloc HB.out.size _⟩
     case measure=>simp [intOf];omega
    | true=>
     cases hq2:((d2:Int)==1) with
     | false=>
      rw [hq1,hq2] at ng;clear hcl;go_wp2_with fail
      refine (CC.out _).mono ?_;rintro e w2 ⟨rfl,rfl⟩;go_wp2;go_roundw;case rel=>exact ⟨k+1,by omega,by go_num,by rw [uq.out,HA.out,ng.out];rfl,HB.out.alloc HB.out.size _⟩
      case measure=>simp [intOf];omega
     | true=>
      rw [hq1,hq2] at ng;have HE:Hid (V=false):=zx.out ng.out;clear hcl;go_wp2_with fail
      refine (CC.out _).mono ?_;rintro e w2 ⟨rfl,rfl⟩;go_wp2;go_ret;exact ⟨by rw [HE.out];rfl,aL B1.out (HB.out.alloc HB.out.size _)⟩
  ·have HE:Hid (V=true):=by
    show V=true;have:=HA.out;rw [Yf (by omega)] at this;rw [HV.out,this]
   go_wp2;go_ret;exact ⟨by rw [HE.out];rfl,aL B1.out HB.out⟩
open Go.RowKit
open Go.RowKit
theorem kZ (c:Nat) (w:YJ) (hc:c<256) : Calls Tryz.prog 31 #[.int .u8 (c:Int)] w fun e w'=>e=.returned (.bool (dB c))/\w=w':=by
 go_enter Tryz.func31,Tryz.ntmps31;go_wp2;all_goals
  go_ret;refine ⟨qw ?_,rfl⟩;unfold dB jE;rw [XY];simp;omega
theorem BF (c:Nat) (w:YJ) (hc:c<256) : Calls Tryz.prog 49 #[.int .u8 (c:Int)] w fun e w'=>e=.returned (.bool (yZ c))/\w=w':=by
 have LT:=hid (fun w=>kZ c w hc);have HL:Hid (dB c=true↔(97<=c/\c<=122)\/(65<=c/\c<=90)):=by show _↔_;unfold dB jE;simp
 cases hl:dB c with
 | true=>
  rw [hl] at LT;have hv:yZ c=true:=by unfold yZ;rw [hl];simp
  rw [hv];clear hl hv;go_enter Tryz.func49,Tryz.ntmps49;go_wp2_with fail
  refine (LT.out _).mono ?_;rintro e w1 ⟨rfl,rfl⟩;go_wp2;go_ret;exact ⟨rfl,rfl⟩
 | false=>
  rw [hl] at LT;have HV:Hid (yZ c=((decide (c=45)||decide (c=95)||decide (c=46)||decide (c=58))||jE c 48 57)):=by show _=_;unfold yZ;rw [hl];simp
  generalize yZ c=V at *;clear hl;go_enter Tryz.func49,Tryz.ntmps49;go_wp2_with fail
  refine (LT.out _).mono ?_;rintro e w1 ⟨rfl,rfl⟩;go_wp2;all_goals
   go_ret;refine ⟨qw ?_,rfl⟩;rw [HV.out]
   (try simp only [beq_iff_eq,beq_eq_false_iff_ne,ne_eq] at *)
   rw [XY];unfold jE;simp
   (try omega)
theorem BG (s:ByteArray) (w:YJ) (hs:s.size<=1000000000) : Calls Tryz.prog 32 #[.string s,.int .i64 0] w fun e w'=>e=.returned (.int .i64 (kX s:Nat))/\w=w':=by
 obtain ⟨V,hV⟩:∃ V,V=kX s:=⟨_,rfl⟩;rw [<- hV];have HV:=hid hV;clear hV;go_enter Tryz.func32,Tryz.ntmps32;go_wp2
 go_loop [1] (fun vi=>∃ k:Nat,k<=s.size/\vi=.int .i64 k/\∀ j x,j<k->s.data.toList[j]?=some x->KY x=true) (fun i=>s.size-(intOf i).toNat)
 case atStart=>exact ⟨0,X8 _,rfl,fun j x hj=>by omega⟩
 case round=>
  obtain ⟨k,hk,rfl,hall⟩:=hrel;have HA:=hid hall;clear hall;by_cases hlt:k<s.size
  ·have hgl:=UInt8.toNat_lt s[k];have IN:=hid (fun w=>BF s[k].toNat w hgl);have HG:=hid (bP s k hlt);cases hn:yZ s[k].toNat with
   | true=>
    rw [hn] at IN;have HN:=hid hn;clear hn;go_wp2_with fail
    refine (IN.out _).mono ?_;rintro e w1 ⟨rfl,rfl⟩;go_wp2
    go_round
    case rel=>
     refine ⟨k+1,by omega,by go_num,fun j x hj hx=>?_⟩;rcases Nat.lt_or_ge j k with h | h
     ·exact HA.out j x h hx
     ·have:j=k:=by omega
      subst this;rw [HG.out] at hx;obtain rfl:=Option.some.inj hx;exact HN.out
    case measure=>simp [intOf];omega
   | false=>
    rw [hn] at IN;have hw:V=k:=by rw [HV.out];exact lV KY _ k (by simpa using hk) HA.out (fun x hx=>by rw [HG.out] at hx;obtain rfl:=Option.some.inj hx;exact hn)
    have HW:=hid hw;clear hn hw;go_wp2_with fail
    refine (IN.out _).mono ?_;rintro e w1 ⟨rfl,rfl⟩;go_wp2;go_ret;exact ⟨by rw [HW.out];rfl,rfl⟩
  ·have hw:V=k:=by
    rw [HV.out];refine lV KY _ k (by simpa using hk) HA.out (fun x hx=>?_);have:=(List.getElem?_eq_some_iff.1 hx).1;have e:s.data.toList.length=s.size:=by simp
    omega
   have HW:=hid hw;clear hw;go_wp2;go_ret;exact ⟨by rw [HW.out];rfl,rfl⟩
theorem Am (s:ByteArray) (w:YJ) (hs:s.size<=1000000000) : Calls Tryz.prog 18 #[.string s] w fun e w'=>e=.returned (.bool (iA s))/\w=w':=by
 by_cases h0:s.size=0
 ·have hv:iA s=false:=by unfold iA;simp [h0]
  rw [hv];have e0:decide ((1:Int)<=(s.size:Int))=false:=by simp;omega
  clear hv h0;go_enter Tryz.func18,Tryz.ntmps18;go_wp2;go_ret;exact ⟨rfl,rfl⟩
 have e0:decide ((1:Int)<=(s.size:Int))=true:=by simp;omega
 by_cases TJ:60<s.size
 ·have hv:iA s=false:=by unfold iA;simp;omega
  rw [hv];have e1:decide ((s.size:Int)<=(60:Int))=false:=by simp;omega
  clear hv;go_enter Tryz.func18,Tryz.ntmps18;go_wp2;go_ret;exact ⟨rfl,rfl⟩
 have e1:decide ((s.size:Int)<=(60:Int))=true:=by simp;omega
 have hp:0<s.size:=by omega
 have hg:=bP s 0 hp;obtain ⟨c,hc⟩:∃ c,s[0]=c:=⟨_,rfl⟩;rw [hc] at hg;have hcl:=UInt8.toNat_lt c;have LT:=hid (fun w=>kZ c.toNat w hcl);have WE:=hid (fun w=>BG s w hs);have hl:s.data.toList=c::s.data.toList.tail:=by
  cases h:s.data.toList with
  | nil=>rw [h] at hg;simp at hg
  | cons a l=>rw [h] at hg;simp at hg;rw [hg];rfl
 have hv:iA s=(dB c.toNat&&decide (kX s=s.size)):=by unfold iA;rw [hl,decide_eq_true (show 1<=s.size by omega),decide_eq_true (show s.size<=60 by omega)];rfl
 have HV:=hid hv;generalize iA s=V at *;generalize kX s=E at *;clear hv hl hg;cases hlt:dB c.toNat with
 | false=>
  rw [hlt] at LT;rw [hlt] at HV;go_enter Tryz.func18,Tryz.ntmps18;go_wp2_with fail
  refine (LT.out _).mono ?_;rintro e w1 ⟨rfl,rfl⟩;go_wp2;go_ret;exact ⟨by rw [HV.out];rfl,rfl⟩
 | true=>
  rw [hlt] at LT;rw [hlt] at HV;go_enter Tryz.func18,Tryz.ntmps18;go_wp2_with fail
  refine (LT.out _).mono ?_;rintro e w1 ⟨rfl,rfl⟩;go_wp2_with fail
  refine (WE.out _).mono ?_;rintro e w1 ⟨rfl,rfl⟩;go_wp2;go_ret;refine ⟨?_,rfl⟩;rw [HV.out];refine qw ?_;rw [XY];simp
  (try omega)
open Go.RowKit
theorem CB.dN {T:TypeId} {p:Nat} {cs:List YL} {w:YJ} (h:CB T p cs w) (q:Nat):CB T p cs (w.drewN q):=h
end Go.Proofs.YtnmldmofggkoeaaGreatDoor

