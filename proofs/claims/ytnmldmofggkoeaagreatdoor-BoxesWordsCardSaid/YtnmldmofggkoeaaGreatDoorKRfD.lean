/- Contracts of attr.Empty, tree.oneOf, anyKind, inlineFields. The contract of attr.Check: the first error of attributes. publisherref04.count, sizes, Size, Depth; tree.sizeOfLine, sizeOfBlocks, Size, Depth. Size and Depth of documents, of tree and of the reference. Contracts of publisherref01.clean, Digit, Valid. Contracts of publisherref04.line, trimmed, has, in, noAttr and of publisherref03.line. Contracts of publisherref03.letter, part, word, Name. Contracts of publisherref03.hasText, hasKey, Check. -/
import Derived.Test.YtnmldmofggkoeaaGreatDoorKChA
import Derived.Test.YtnmldmofggkoeaaGreatDoorKSmall
import Derived.Test.YtnmldmofggkoeaaGreatDoorKInlsW
set_option maxHeartbeats 8000000
set_option maxRecDepth 100000
open Go.Lib (hid)
namespace Go.Proofs.YtnmldmofggkoeaaGreatDoor
open List renaming getElem?_eq_getElem->YG,mem_of_getElem?->YT,take_add_one->Y1
open Go.RowKit.Below renaming refl->YH
open Nat renaming le_refl->YI,zero_le->YS
open Go renaming World->Zu,Value->Zw
open Go.RowKit
set_option linter.unusedVariables false
set_option linter.unusedSimpArgs false
def dO (v:Zw) (w:Zu) (e:Ending) (w':Zu):Prop:=e=.returned v/\Below w.heap.size w w'
theorem oO {α:Type} (l:List α):(((l.length:Nat):Int)==0)=l.isEmpty:=by
 cases l with
 | nil=>rfl
 | cons x l=>simp;omega
theorem ko (a:At) (ac ap:Option Addr) (cc cp:Nat) (w:Zu) (hc:a.cls.length<=maxLen) (hp:a.aT.length<=maxLen) : Calls Tryz.prog 86 #[.agg #[.string a.id,.slice ac a.cls.length cc,.slice ap a.aT.length cp]] w (dO (.bool a.none) w):=by
 obtain ⟨id,cls,aT⟩:=a;dsimp only at hc hp ⊢;have h1:=bI id;have h2:=oO cls;have h3:=oO aT;have HV:Hid (At.none ⟨id,cls,aT⟩=(dR id&&cls.isEmpty&&aT.isEmpty)):=rfl;generalize At.none ⟨id,cls,aT⟩=V at *;generalize dR id=b1 at *;generalize cls.isEmpty=b2 at *;generalize aT.isEmpty=b3 at *;cases b1<;>cases b2<;>cases b3
 all_goals
  go_enter Tryz.func86,Tryz.ntmps86;go_wp2;go_ret;exact ⟨by rw [HV.out];rfl,(YH _ _).alloc (YI _) _⟩
def Jo (n:Int) (ks:List Int) (vi:Zw):Prop:=∃ k:Nat,k<=ks.length/\vi=.int .i64 k/\(ks.take k).contains n=false
theorem gD (n:Int) (ks:List Int) (g cap:Nat) (w:Zu) (hl:ks.length<=1000) (hc:∀ j k,ks[j]?=some k->w.cell? ⟨g,j,none⟩=some (.int .i64 k)) : Calls Tryz.prog 87 #[.int .i64 n,.slice (some ⟨g,0,none⟩) ks.length cap] w fun e w'=>e=.returned (.bool (ks.contains n))/\w=w':=by
 have HC:=hid hc;have R0:Hid (Jo n ks (.int .i64 0)):=⟨0,YS _,rfl,by simp⟩;obtain ⟨V,hV⟩:∃ V,V=ks.contains n:=⟨_,rfl⟩;rw [<- hV];have HV:=hid hV;clear hc hV;go_enter Tryz.func87,Tryz.ntmps87;go_wp2
 go_loop [9] (fun i=>Jo n ks i) (fun i=>ks.length-(intOf i).toNat)
 case atStart=>exact R0.out
 case round=>
  clear R0;obtain ⟨k,hk,rfl,hno⟩:=hrel;have HN:=hid hno;clear hno;by_cases hlt:k<ks.length
  ·obtain ⟨x,hx⟩:∃ x,ks[k]?=some x:=⟨_,YG hlt⟩;have hcell:=HC.out k x hx;have HT:Hid ((ks.take (k+1)).contains n=((ks.take k).contains n||(n==x))):=by
    show _=_;rw [Y1,hx,Bool.eq_iff_iff];simp
   have HX:=hid hx;clear hx;cases hnx:(n==x)
   ·rw [hnx] at HT;go_wp2
    go_round
    case rel=>exact ⟨k+1,by omega,by go_num,by rw [HT.out,HN.out];rfl⟩
    case measure=>simp [intOf];omega
   ·have HE:Hid (V=true):=by
     show V=true;rw [HV.out,List.contains_iff_mem];have:n=x:=by simpa using hnx
     rw [this];exact YT HX.out
    go_wp2;go_ret;exact ⟨by rw [HE.out];rfl,rfl⟩
  ·have HE:Hid (V=false):=by
    show V=false;rw [HV.out];have:=HN.out
    rwa [List.take_of_length_le (by omega)] at this
   go_wp2;go_ret;exact ⟨by rw [HE.out];rfl,rfl⟩
def Jp (l:List ah) (ks:List Int) (vi:Zw):Prop:=∃ k:Nat,k<=l.length/\vi=.int .i64 k/\ah.bK ks (l.take k)=false
theorem ah.wS (ks:List Int):∀ (l m:List ah),ah.bK ks (l++m)=(ah.bK ks l||ah.bK ks m)
 | [],m=>by rw [List.nil_append,ah.bK];rfl
 | x::l,m=>by rw [List.cons_append,ah.bK,ah.bK,ah.wS ks l m,Bool.or_assoc]
theorem ah.BP (ks:List Int) {l:List ah} {k:Nat} {x:ah} (hx:l[k]?=some x):ah.bK ks (l.take (k+1))=(ah.bK ks (l.take k)||x.E8 ks):=by rw [Y1,hx,ah.wS,Option.toList_some,ah.bK,ah.bK,Bool.or_false]
theorem ah.wT (ks:List Int):∀ {l:List ah} {k:Nat} {x:ah},l[k]?=some x->x.E8 ks=true->ah.bK ks l=true
 | [],_,_,h,_=>by simp at h
 | y::l,0,x,h,hx=>by simp at h;subst h;rw [ah.bK,hx];rfl
 | y::l,k+1,x,h,hx=>by rw [ah.bK,ah.wT ks (l:=l) (k:=k) (by simpa using h) hx,Bool.or_true]
theorem mK (n:Nat):∀ (l:List ah) (ok:Nat->Prop) (v:Zw) (ks:List Int) (g cap:Nat) (w:Zu),ah.aW l<=n->Rd ok w (fq l) [v]->ks.length<=1000->(∀ j k,ks[j]?=some k->w.cell? ⟨g,j,none⟩=some (.int .i64 k)) -> Calls Tryz.prog 117 #[v,.slice (some ⟨g,0,none⟩) ks.length cap] w fun e w'=>e=.returned (.bool (ah.bK ks l))/\w=w':=by
 induction n using Nat.strongRecOn with
 | _ n ih=>
  intro l ok v ks g cap w hn hrd hks hc;obtain ⟨a,cp,hv,hs⟩:=Rd.aD hrd;obtain rfl:v=.slice a l.length cp:=by simpa using hv
  have hcap:l.length<=cp:=by simpa using hs.le
  have hmx:=hs.max;unfold maxLen at hmx;have HS:=hid hs;have IH:=hid ih;have HC:=hid hc;have OO:=hid (fun n=>gD n ks g cap w hks hc);have R0:Hid (Jp l ks (.int .i64 0)):=⟨0,YS _,rfl,by rw [List.take_zero,ah.bK]⟩;obtain ⟨V,hV⟩:∃ V,V=ah.bK ks l:=⟨_,rfl⟩;rw [<- hV];have HV:=hid hV;clear hs hv hrd ih hc hV;go_enter Tryz.func117,Tryz.ntmps117;go_wp2
  go_loop [8] (fun i=>Jp l ks i) (fun i=>l.length-(intOf i).toNat)
  case atStart=>exact R0.out
  case round=>
   clear R0;obtain ⟨k,hk,rfl,hno⟩:=hrel;have HN:=hid hno;clear hno;by_cases hlt:k<l.length
   ·obtain ⟨x,hx⟩:∃ x,l[k]?=some x:=⟨_,YG hlt⟩;have hsn:=ah.BP ks hx;have HG:=hid (ah.wT ks hx);obtain ⟨kd,t,d,ti,at_,ar,ci,kids⟩:=x;obtain ⟨b,off,vc,vp,va,vi,vk,rfl,hok,hbl,hcl,hR⟩:=gT HS.out hx;obtain ⟨c0,-,-,-,-,-,-,-,-,c9⟩:=hcl;have hsz:=ah.cZ l k _ hx;rw [ah.sz] at hsz;have AK:=hid (IH.out (ah.aW kids) (by omega) kids ok vk ks g cap w (YI _) hR.kids hks HC.out);obtain ⟨ak,nk,ck,rfl⟩:=Rd.QA hR.kids;have OK:=hid (OO.out kd);have HX:Hid ((ah.mk kd t d ti at_ ar ci kids).E8 ks=(ks.contains kd||ah.bK ks kids)):=by show _=_;rw [ah.E8]
    have FQ:=hid hsn;clear hx hR hsn;cases h1:ks.contains kd with
    | true=>
     rw [h1] at OK HX;have HE:Hid (V=true):=by show V=true;rw [HV.out];exact HG.out (by rw [HX.out];rfl)
     clear h1;go_wp2_with fail
     refine OK.out.mono ?_;rintro e w1 ⟨rfl,rfl⟩;go_wp2;go_ret;exact ⟨by rw [HE.out];rfl,rfl⟩
    | false=>
     rw [h1] at OK HX;cases h2:ah.bK ks kids with
     | true=>
      rw [h2] at AK HX;have HE:Hid (V=true):=by show V=true;rw [HV.out];exact HG.out (by rw [HX.out];rfl)
      clear h1 h2;go_wp2_with fail
      refine OK.out.mono ?_;rintro e w1 ⟨rfl,rfl⟩;go_wp2_with fail
      refine AK.out.mono ?_;rintro e w1 ⟨rfl,rfl⟩;go_wp2;go_ret;exact ⟨by rw [HE.out];rfl,rfl⟩
     | false=>
      rw [h2] at AK HX;clear h1 h2;go_wp2_with fail
      refine OK.out.mono ?_;rintro e w1 ⟨rfl,rfl⟩;go_wp2_with fail
      refine AK.out.mono ?_;rintro e w1 ⟨rfl,rfl⟩;go_wp2
      go_round
      case rel=>exact ⟨k+1,by omega,by go_num,by rw [FQ.out,HN.out,HX.out];rfl⟩
      case measure=>simp [intOf];omega
   ·have HE:Hid (V=false):=by
     show V=false;rw [HV.out];have:=HN.out
     rwa [List.take_of_length_le (by omega)] at this
    go_wp2;go_ret;exact ⟨by rw [HE.out];rfl,rfl⟩
open Go.RowKit
theorem gy (l:List ByteArray) (x:ByteArray):hasB l.reverse x=hasB l x:=by rw [Bool.eq_iff_iff,wU,wU,List.mem_reverse]
theorem aV.cleared {w:Zu} {b n:Nat} {S:List ByteArray} (h:aV w b n S) (ty:TypeId) : ∃ w',(Builtin.clear_ #[53] ty #[.map (some b)]).run Tryz.prog w=.ok (.tuple #[]) w'/\aV w' b 0 []/\w.grownBy w' (some b):=by
 obtain ⟨D,⟨es,clock,hb,F,hsz,hD⟩,hat⟩:=h;have hr:∃ clock',(Builtin.clear_ #[53] ty #[.map (some b)]).run Tryz.prog w=.ok (.tuple #[]) { w with heap:=w.heap.setIfInBounds b (.map #[] clock') }:=by refine ⟨clock,?_⟩;simp [Builtin.clear_,run_underlying Tryz.underlying53,MapKept.run_getObj_map hb,MapKept.run_setObj_map _ hb,Result.andThen]
 obtain ⟨clock',hrun⟩:=hr;have hs:=MapKept.heap_set (o':=.map #[] clock') hb;refine ⟨_,hrun,⟨.map [],⟨#[],clock',hs.1,⟨by simp,MapKept.stamped_empty clock',by simp⟩,YI _,rfl⟩,fun s=>rfl⟩,rfl,rfl,rfl,?_,fun i _ hne=>hs.2 i (fun e=>hne (by rw [e]))⟩;simp
def Cg (T:TypeId) (p:Nat) (cs:List Zw) (w:Zu) (mb n:Nat) (S:List ByteArray) (wr:Zu):Prop:=CB T p cs wr/\aV wr mb n S/\Below w.heap.size w wr/\w.heap.size<=mb/\p≠mb/\w.heap.size<=p
theorem Cg.put {T:TypeId} {p:Nat} {cs:List Zw} {w:Zu} {mb n n':Nat} {S S':List ByteArray} {wr w':Zu} (h:Cg T p cs w mb n S wr) (hg:wr.grownBy w' (some mb)) (hs:aV w' mb n' S'):Cg T p cs w mb n' S' w':=
 ⟨(hg.block p h.1.lt (fun e=>h.2.2.2.2.1 (by injection e))).trans h.1,hs,h.2.2.1.grown hg h.2.2.1.size (fun j hj=>by cases hj;exact h.2.2.2.1),h.2.2.2⟩
theorem Cg.alloc {T:TypeId} {p:Nat} {cs:List Zw} {w:Zu} {mb n:Nat} {S:List ByteArray} {wr:Zu} (h:Cg T p cs w mb n S wr) (o:Obj):Cg T p cs w mb n S (wr.alloc o):=
 ⟨h.1.below ((YH _ _).alloc (YI _) _),h.2.1.below ((YH _ _).alloc (YI _) _),h.2.2.1.alloc h.2.2.1.size _,h.2.2.2⟩
theorem Cg.drewN {T:TypeId} {p:Nat} {cs:List Zw} {w:Zu} {mb n:Nat} {S:List ByteArray} {wr:Zu} (h:Cg T p cs w mb n S wr) (q:Nat):Cg T p cs w mb n S (wr.drewN q):=
 ⟨h.1,h.2.1,eY h.2.2.1 q,h.2.2.2⟩
def Fa (T:TypeId) (p:Nat) (cs:List Zw) (w:Zu) (mb:Nat) (l:List ByteArray) (E:Nat) (vi:Zw) (wr:Zu):Prop:=
 ∃ k:Nat,k<=l.length/\vi=.int .i64 k/\Cg T p cs w mb k (l.take k).reverse wr/\qm (l.take k) (l.drop k)=E
def Fb (T:TypeId) (p:Nat) (cs:List Zw) (w:Zu) (mb:Nat) (l:List Pr) (E:Nat) (vi:Zw) (wr:Zu):Prop:=
 ∃ k:Nat,k<=l.length/\vi=.int .i64 k/\Cg T p cs w mb k ((l.take k).map Pr.key).reverse wr/\bM ((l.take k).map Pr.key) (l.drop k)=E
theorem gZ (a:At) (ac ap:Option Addr) (cc cp:Nat) (w:Zu) (h:AtR (·<w.heap.size) w a (.slice ac a.cls.length cc) (.slice ap a.aT.length cp)) (hs:a.short) : Calls Tryz.prog 94 #[.agg #[.string a.id,.slice ac a.cls.length cc,.slice ap a.aT.length cp]] w (dO (.int .i64 (a.err:Nat)) w):=by
 obtain ⟨sc,sp,si,SV,SX⟩:=hs;obtain ⟨id,cls,aT⟩:=a;dsimp only at sc sp si SV SX h ⊢;obtain ⟨a1,c1,hv1,hs1⟩:=Rd.aD h.cls;obtain ⟨rfl,rfl⟩:a1=ac/\c1=cc:=by simp at hv1;exact ⟨hv1.1.symm,hv1.2.symm⟩
 obtain ⟨a2,c2,hv2,hs2⟩:=Rd.aD h.aT;obtain ⟨rfl,rfl⟩:a2=ap/\c2=cp:=by simp at hv2;exact ⟨hv2.1.symm,hv2.2.symm⟩
 have l1:cls.length<=c1:=by simpa using hs1.le
 have l2:aT.length<=c2:=by simpa using hs2.le
 have m1:=hs1.max;have m2:=hs2.max;unfold maxLen at m1 m2;have H1:=hid hs1;have H2:=hid hs2;have SC:=hid SV;have SP:=hid SX;have NI:=hid (fun w=>dH id w (by omega));have HE:Hid (At.err ⟨id,cls,aT⟩=if dR id=false/\lJ id=false then 6 else if qm [] cls≠0 then qm [] cls else if bM [] aT≠0 then bM [] aT else if 32<cls.length\/32<aT.length then 3 else 0):=rfl;obtain ⟨V,hV⟩:∃ V,V=At.err ⟨id,cls,aT⟩:=⟨_,rfl⟩;rw [<- hV] at HE ⊢;clear hV SV SX hs1 hs2 hv1 hv2 h;by_cases hbad:dR id=false/\lJ id=false
 ·have HV:Hid (V=6):=by show V=6;rw [HE.out,if_pos hbad]
  rw [hbad.2] at NI;have hie:id.toList.isEmpty=false:=by rw [bI];exact hbad.1
  clear hbad HE;go_enter Tryz.func94,Tryz.ntmps94;go_wp2_with (go_at_call 16;refine (NI.out _).mono ?_;rintro e w1 ⟨rfl,rfl⟩)
  go_ret;exact ⟨by rw [HV.out];rfl,(YH _ _).alloc (YI _) _⟩
 have hgood:id.toList.isEmpty=true\/(id.toList.isEmpty=false/\lJ id=true):=by
  rw [bI];cases h1:dR id
  ·right;refine ⟨rfl,?_⟩;cases h2:lJ id
   ·exact absurd ⟨h1,h2⟩ hbad
   ·rfl
  ·left;rfl
 have HE2:Hid (V=if qm [] cls≠0 then qm [] cls else if bM [] aT≠0 then bM [] aT else if 32<cls.length\/32<aT.length then 3 else 0):=by show V=_;rw [HE.out,if_neg hbad]
 obtain ⟨w1,hw1⟩:∃ w1,w1=(w.alloc (.cells #[.string id,.slice a1 cls.length c1,.slice a2 aT.length c2] 44)).alloc (.map #[] 0):=⟨_,rfl⟩;have R0:Hid (Fa 44 w.heap.size [.string id,.slice a1 cls.length c1,.slice a2 aT.length c2] w (w.heap.size+1) cls (qm [] cls) (.int .i64 0) w1):=by
  refine ⟨0,YS _,rfl,⟨?_,?_,?_,by omega,by omega,YI _⟩,rfl⟩
  ·rw [hw1];exact (CB.new _ _ w).below ((YH _ _).alloc (YI _) _)
  ·rw [hw1];have:=aV.made (w.alloc (.cells #[.string id,.slice a1 cls.length c1,.slice a2 aT.length c2] 44))
   rwa [World.size_alloc] at this
  ·rw [hw1];exact ((YH _ _).alloc (YI _) _).alloc (by simp) _
 have HW1:=hid hw1;obtain ⟨E1,hE1⟩:∃ E1,E1=qm [] cls:=⟨_,rfl⟩;obtain ⟨E2,hE2⟩:∃ E2,E2=bM [] aT:=⟨_,rfl⟩;rw [<- hE1] at HE2 R0;rw [<- hE2] at HE2;have SY:=hid hE2;clear hbad HE hw1 hE1 hE2;have hmm:=@run_makeMap Tryz.prog;rcases hgood with hie | ⟨hie,hnm⟩
 case' inl=>
  clear NI;go_enter Tryz.func94,Tryz.ntmps94;go_wp2;rw [<- HW1.out];clear hmm
 case' inr=>
  rw [hnm] at NI;clear hnm;go_enter Tryz.func94,Tryz.ntmps94;go_wp2_with (go_at_call 16;refine (NI.out _).mono ?_;rintro e w1 ⟨rfl,rfl⟩)
  rw [<- HW1.out];clear hmm
 all_goals
  go_loopw [21] (fun i wr=>Fa 44 w.heap.size [.string id,.slice a1 cls.length c1,.slice a2 aT.length c2] w (w.heap.size+1) cls E1 i wr) (fun i _=>cls.length-(intOf i).toNat)
  case atStart=>exact R0.out
  case round=>
   clear R0;obtain ⟨k,hk,rfl,lM,aH⟩:=hrel;have GL:=hid lM;by_cases hlt:k<cls.length
   ·obtain ⟨x,hx⟩:∃ x,cls[k]?=some x:=⟨_,YG hlt⟩;obtain ⟨b,off,rfl,-,-,c0⟩:=su H1.out hx;have c0:wr.cell? ⟨b,off+k,none⟩=some (.string x):=by rw [lM.2.2.1.cell (p:=⟨b,off+k,none⟩) (fM c0)];exact c0
    have hxs:=SC.out x (YT hx);have CN:=hid (fun w=>dH x w (by omega));have hlk:=lM.2.1.look x (by unfold maxLen;omega);obtain ⟨w',hup,hS',hg⟩:=lM.2.1.put x (by unfold maxLen;omega) (by unfold maxLen;omega);have N7:=hid (lM.put hg hS');rw [gy] at hlk;rw [Fv cls k x hx,qm] at aH;have CZ:Hid (cls.take (k+1)=cls.take k++[x]):=by show _=_;rw [Y1,hx];rfl
    have bB:=hid aH;clear aH hS' hg lM hx;cases hn:lJ x with
    | false=>
     rw [hn] at CN;have HV:Hid (V=6):=by show V=6;have:=bB.out;rw [if_pos hn] at this;rw [HE2.out,<- this];rfl
     clear hn hup;go_wp2_with fail
     refine (CN.out _).mono ?_;rintro e w3 ⟨rfl,rfl⟩;go_wp2;go_ret;exact ⟨by rw [HV.out];rfl,GL.out.2.2.1⟩
    | true=>
     rw [hn] at CN;cases hb:hasB (cls.take k) x with
     | true=>
      rw [hb] at hlk;have HV:Hid (V=7):=by show V=7;have:=bB.out;rw [if_neg (by rw [hn];decide),if_pos hb] at this;rw [HE2.out,<- this];rfl
      clear hn hb hup;go_wp2_with fail
      refine (CN.out _).mono ?_;rintro e w3 ⟨rfl,rfl⟩;go_wp2;go_ret;exact ⟨by rw [HV.out];rfl,GL.out.2.2.1⟩
     | false=>
      rw [hb] at hlk;have JH:Hid (qm (cls.take (k+1)) (cls.drop (k+1))=E1):=by show _=_;have:=bB.out;rw [if_neg (by rw [hn];decide),if_neg (by rw [hb];decide)] at this;rw [CZ.out];exact this
      clear hn hb;go_wp2_with fail
      refine (CN.out _).mono ?_;rintro e w3 ⟨rfl,rfl⟩;go_wp2;go_roundw;case rel=>exact ⟨k+1,by omega,by go_num,by rw [CZ.out,List.reverse_append];exact N7.out,JH.out⟩
      case measure=>simp [intOf];omega
   ·obtain rfl:k=cls.length:=by omega
    have Hu:Hid (E1=0):=by show E1=0;rw [List.drop_length,qm] at aH;exact aH.symm
    obtain ⟨w2,hcl,hS2,hg2⟩:∃ w2,(∀ ty,(Builtin.clear_ #[53] ty #[.map (some (w.heap.size+1))]).run Tryz.prog wr=.ok (.tuple #[]) w2)/\aV w2 (w.heap.size+1) 0 []/\wr.grownBy w2 (some (w.heap.size+1)):=by obtain ⟨w2,h1,h2,h3⟩:=lM.2.1.cleared 0;exact ⟨w2,fun ty=>h1,h2,h3⟩
    have R2:Hid (Fb 44 w.heap.size [.string id,.slice a1 cls.length c1,.slice a2 aT.length c2] w (w.heap.size+1) aT E2 (.int .i64 0) w2):=⟨0,YS _,rfl,lM.put hg2 hS2,SY.out.symm⟩;have p2:w2.cell? ⟨w.heap.size,2,none⟩=some (.slice a2 aT.length c2):=(lM.put hg2 hS2).1.cell 2 _ rfl;clear aH lM GL hS2 hg2 hk hlt;go_wp2
    go_loopw [38] (fun i wr=>Fb 44 w.heap.size [.string id,.slice a1 cls.length c1,.slice a2 aT.length c2] w (w.heap.size+1) aT E2 i wr) (fun i _=>aT.length-(intOf i).toNat)
    case atStart=>exact R2.out
    case round=>
     clear R2 hcl p2;obtain ⟨k,hk,rfl,lM,aH⟩:=hrel;have GL:=hid lM;by_cases hlt:k<aT.length
     ·obtain ⟨x,hx⟩:∃ x,aT[k]?=some x:=⟨_,YG hlt⟩;obtain ⟨b,off,rfl,-,-,c0,c1'⟩:=Ep H2.out hx;have c0:wr.cell? ⟨b,off+k*2,none⟩=some (.string x.key):=by rw [lM.2.2.1.cell (p:=⟨b,off+k*2,none⟩) (fM c0)];exact c0
      have c1':wr.cell? ⟨b,off+k*2+1,none⟩=some (.string x.val):=by rw [lM.2.2.1.cell (p:=⟨b,off+k*2+1,none⟩) (fM c1')];exact c1'
      have hxs:=SP.out x (YT hx);have HX:=hid hx;have bB:Hid (bM ((aT.take k).map Pr.key) (x::aT.drop (k+1))=E2):=by show _=_;rw [<- Fv aT k x hx];exact aH
      obtain ⟨key,val⟩:=x;dsimp only at c0 c1' hxs;have CN:=hid (fun w=>dH key w (by omega));have CV:=hid (fun w=>Bn val w (by omega));have CZ:Hid ((aT.take (k+1)).map Pr.key=(aT.take k).map Pr.key++[key]):=by show _=_;rw [Y1,HX.out];simp
      obtain ⟨wi,hwi⟩:∃ wi,wi=wr.alloc (.cells #[.string key,.string val] 57):=⟨_,rfl⟩;have tY:=lM.alloc (.cells #[.string key,.string val] 57);rw [<- hwi] at tY;have i0:wi.cell? ⟨wr.heap.size,0,none⟩=some (.string key):=by rw [hwi];exact bQ wr [.string key,.string val] _ 0 _ rfl
      have i1:wi.cell? ⟨wr.heap.size,1,none⟩=some (.string val):=by rw [hwi];exact bQ wr [.string key,.string val] _ 1 _ rfl
      have FD:=hid tY;clear aH lM hx;cases hn:lJ key with
      | false=>
       rw [hn] at CN;have HV:Hid (V=6):=by show V=6;have:=bB.out;rw [bM,if_pos hn] at this;rw [HE2.out,Hu.out,<- this];rfl
       clear hn;go_upto_region 17 with (fail)
       rw [<- hwi];clear hwi tY;go_wp2_with fail
       refine (CN.out _).mono ?_;rintro e w3 ⟨rfl,rfl⟩;go_wp2;go_ret;exact ⟨by rw [HV.out];rfl,FD.out.2.2.1⟩
      | true=>
       rw [hn] at CN;cases hln:gL val with
       | false=>
        rw [hln] at CV;have HV:Hid (V=17):=by show V=17;have:=bB.out;rw [bM,if_neg (by rw [hn];decide),if_pos hln] at this;rw [HE2.out,Hu.out,<- this];rfl
        clear hn hln;go_upto_region 17 with (fail)
        rw [<- hwi];clear hwi tY;go_wp2_with fail
        refine (CN.out _).mono ?_;rintro e w3 ⟨rfl,rfl⟩;go_wp2_with fail
        refine (CV.out _).mono ?_;rintro e w3 ⟨rfl,q,rfl⟩;go_wp2;go_ret;exact ⟨by rw [HV.out];rfl,eY FD.out.2.2.1 q⟩
       | true=>
        rw [hln] at CV;have NZ:=hid (fun q=>(tY.drewN q).2.1.look key (by unfold maxLen;omega));have KZ:=hid (fun q=>(tY.drewN q).2.1.put key (by unfold maxLen;omega) (by unfold maxLen;omega));cases hb:hasB ((aT.take k).map Pr.key) key with
        | true=>
         have HV:Hid (V=7):=by show V=7;have:=bB.out;rw [bM,if_neg (by rw [hn];decide),if_neg (by rw [hln];decide),if_pos hb] at this;rw [HE2.out,Hu.out,<- this];rfl
         have HB:=hid hb;clear hn hln hb;go_upto_region 17 with (fail)
         rw [<- hwi];clear hwi tY;go_wp2_with fail
         refine (CN.out _).mono ?_;rintro e w3 ⟨rfl,rfl⟩;go_wp2_with fail
         refine (CV.out _).mono ?_;rintro e w3 ⟨rfl,q,rfl⟩;have hlk:=NZ.out q;rw [gy,HB.out] at hlk;go_wp2;go_ret;exact ⟨by rw [HV.out];rfl,eY FD.out.2.2.1 q⟩
        | false=>
         have JH:Hid (bM ((aT.take (k+1)).map Pr.key) (aT.drop (k+1))=E2):=by show _=_;have:=bB.out;rw [bM,if_neg (by rw [hn];decide),if_neg (by rw [hln];decide),if_neg (by rw [hb];decide)] at this;rw [CZ.out];exact this
         have HB:=hid hb;clear hn hln hb;go_upto_region 17 with (fail)
         rw [<- hwi];clear hwi tY;go_wp2_with fail
         refine (CN.out _).mono ?_;rintro e w3 ⟨rfl,rfl⟩;go_wp2_with fail
         refine (CV.out _).mono ?_;rintro e w3 ⟨rfl,q,rfl⟩;have hlk:=NZ.out q;rw [gy,HB.out] at hlk;obtain ⟨w',hup,hS',hg⟩:=KZ.out q;have N7:=hid ((FD.out.drewN q).put hg hS');clear hS' hg;go_wp2;go_roundw;case rel=>exact ⟨k+1,by omega,by go_num,by rw [CZ.out,List.reverse_append];exact N7.out,JH.out⟩
         case measure=>simp [intOf];omega
     ·obtain rfl:k=aT.length:=by omega
      have HV:Hid (V=if 32<cls.length\/32<aT.length then 3 else 0):=by show V=_;rw [List.drop_length,bM] at aH;rw [HE2.out,Hu.out,<- aH];rfl
      have p1:wr.cell? ⟨w.heap.size,1,none⟩=some (.slice a1 cls.length c1):=lM.1.cell 1 _ rfl;have p2:wr.cell? ⟨w.heap.size,2,none⟩=some (.slice a2 aT.length c2):=lM.1.cell 2 _ rfl;clear aH lM hk hlt;by_cases h1:32<cls.length
      ·have q1:decide ((32:Int)<(cls.length:Int))=true:=by simp;omega
       go_wp2;go_ret;exact ⟨by rw [HV.out,if_pos (.inl h1)];rfl,GL.out.2.2.1⟩
      ·have q1:decide ((32:Int)<(cls.length:Int))=false:=by simp;omega
       by_cases h2:32<aT.length
       ·have q2:decide ((32:Int)<(aT.length:Int))=true:=by simp;omega
        go_wp2;go_ret;exact ⟨by rw [HV.out,if_pos (.inr h2)];rfl,GL.out.2.2.1⟩
       ·have q2:decide ((32:Int)<(aT.length:Int))=false:=by simp;omega
        go_wp2;go_ret;exact ⟨by rw [HV.out,if_neg (by omega)];rfl,GL.out.2.2.1⟩
open Go.RowKit
theorem ah.Fe (l:List ah) (k:Nat) (x:ah) (h:l[k]?=some x):ah.aW (l.take k)+x.sz<=ah.aW l:=by
 have h1:ah.aW (l.take (k+1))<=ah.aW l:=by have:=ah.Aj (l.take (k+1)) (l.drop (k+1));rw [List.take_append_drop] at this;omega
 rw [ah.wV h] at h1;exact h1
theorem aj.BS (l:List aj) (k:Nat) (x:aj) (h:l[k]?=some x):aj.aY (l.take k)+x.all<=aj.aY l:=by
 have h1:aj.aY (l.take (k+1))<=aj.aY l:=by have:=aj.wW (l.take (k+1)) (l.drop (k+1));rw [List.take_append_drop] at this;omega
 rw [aj.rR h] at h1;exact h1
theorem aj.Hw (x:aj):1<=x.all:=by cases x;rw [aj.all];omega
theorem aj.Ak:∀ (l:List aj),l.length<=aj.aY l
 | []=>by simp
 | x::l=>by have:=aj.Ak l;have:=x.Hw;rw [aj.aY];simp;omega
theorem S9 {P:Program} {f:FuncId} {args:Array Zw} {w:Zu} {a n:Nat} {v:Zw} (h:Calls P f args (w.drewN (a+n)) fun e w'=>e=.returned v/\w.drewN (a+n)=w') : Calls P f args (w.drewN (a+n)) fun e w''=>e=.returned v/\∃ m,w''=w.drewN (a+m):=h.mono fun _ _ ⟨he,hm⟩=>⟨he,n,hm.symm⟩
theorem Ta {P:Program} {f:FuncId} {args:Array Zw} {w:Zu} {a n:Nat} {v:Zw} (h:Calls P f args (w.drewN (a+n)) (Dr v (w.drewN (a+n)))) : Calls P f args (w.drewN (a+n)) fun e w''=>e=.returned v/\∃ m,w''=w.drewN (a+m):=h.mono fun _ _ ⟨he,m,hm⟩=>⟨he,n+m,by rw [hm,World.drewN_drewN,Nat.add_assoc]⟩
def Jq (l:List ah) (vn vi:Zw):Prop:=∃ k n:Nat,k<=l.length/\vi=.int .i64 k/\vn=.int .i64 n/\n=ah.aW (l.take k)+(l.length-k)
def Jr (l:List aj) (w:Zu) (vn vi:Zw) (wr:Zu):Prop:=∃ k n q:Nat,k<=l.length/\vi=.int .i64 k/\vn=.int .i64 n/\n=aj.aY (l.take k)+(l.length-k)/\wr=w.drewN q
theorem qj (n:Nat):∀ (l:List ah) (ok:Nat->Prop) (v:Zw) (w:Zu),ah.aW l<=n->n<=1000000->Rd ok w (fq l) [v] -> Calls Tryz.prog 69 #[v] w fun e w'=>e=.returned (.int .i64 (ah.aW l:Nat))/\w=w':=by
 induction n using Nat.strongRecOn with
 | _ n ih=>
  intro l ok v w hn hnm h1;obtain ⟨a,cap,hv,hs⟩:=Rd.aD h1;obtain rfl:v=.slice a l.length cap:=by simpa using hv
  have hcap:l.length<=cap:=by simpa using hs.le
  have hmx:=hs.max;unfold maxLen at hmx;have HS:=hid hs;have IH:=hid ih;have R0:Hid (Jq l (.int .i64 (l.length:Int)) (.int .i64 0)):=⟨0,l.length,YS _,rfl,rfl,by rw [List.take_zero,ah.aW];simp⟩;clear hs hv h1 ih;go_enter Tryz.func69,Tryz.ntmps69;go_wp2
  go_loop [3,9] (fun vn vi=>Jq l vn vi) (fun _ i=>l.length-(intOf i).toNat)
  case atStart=>exact R0.out
  case round=>
   clear R0;obtain ⟨k,m,hk,rfl,rfl,hm⟩:=hrel;by_cases hlt:k<l.length
   ·obtain ⟨x,hx⟩:∃ x,l[k]?=some x:=⟨_,YG hlt⟩;have hsz:=ah.Fe l k _ hx;have hsn:=ah.wV hx;obtain ⟨kd,t,d,ti,at_,ar,ci,ks⟩:=x;obtain ⟨g,off,vc,vp,va,vi,vk,rfl,hok,hbl,hc,hR⟩:=gT HS.out hx;rw [ah.sz] at hsz hsn;obtain ⟨ak,nk,ck,rfl⟩:=Rd.QA hR.kids;have p9:=hc.c9;have CK:=hid (IH.out (ah.aW ks) (by omega) ks ok (.slice ak nk ck) w (YI _) (by omega) hR.kids);have HM:Hid (m+ah.aW ks=ah.aW (l.take (k+1))+(l.length-(k+1))):=by show _=_;omega
    have hlm:l.length-k<=1000000:=by have:=ah.l7 l;omega
    have hmb:m+ah.aW ks<=3000000:=by omega
    generalize ah.aW ks=K at *;clear hc hR hx hm hsn hsz hlm;go_wp2_with fail
    refine CK.out.mono ?_;rintro e w1 ⟨rfl,rfl⟩;go_wp2
    go_round
    case rel=>exact ⟨k+1,m+K,by omega,by go_num,by go_num,HM.out⟩
    case measure=>simp [intOf];omega
   ·obtain rfl:k=l.length:=by omega
    have hv:m=ah.aW l:=by rw [hm,List.take_length];omega
    have HV:=hid hv;clear hv hm;go_wp2;go_ret;exact ⟨by rw [<- HV.out];rfl,rfl⟩
theorem l9 (n:Nat):∀ (l:List aj) (ok:Nat->Prop) (v:Zw) (w:Zu),aj.aY l<=n->n<=1000000->Rd ok w (aX l) [v] -> Calls Tryz.prog 50 #[v] w (Dr (.int .i64 (aj.aY l:Nat)) w):=by
 induction n using Nat.strongRecOn with
 | _ n ih=>
  intro l ok v w hn hnm h1;obtain ⟨a,cap,hv,hs⟩:=Rd.aD h1;obtain rfl:v=.slice a l.length cap:=by simpa using hv
  have hcap:l.length<=cap:=by simpa using hs.le
  have hmx:=hs.max;unfold maxLen at hmx;have HS:=hid hs;have IH:=hid ih;have R0:Hid (Jr l w (.int .i64 (l.length:Int)) (.int .i64 0) w):=⟨0,l.length,0,YS _,rfl,rfl,by rw [List.take_zero,aj.aY];simp,rfl⟩;clear hs hv h1 ih;go_enter Tryz.func50,Tryz.ntmps50;go_wp2
  go_loopw [3,9] (fun vn vi wr=>Jr l w vn vi wr) (fun _ i _=>l.length-(intOf i).toNat)
  case atStart=>exact R0.out
  case round=>
   clear R0;obtain ⟨k,m,q,hk,rfl,rfl,hm,rfl⟩:=hrel;by_cases hlt:k<l.length
   ·obtain ⟨x,hx⟩:∃ x,l[k]?=some x:=⟨_,YG hlt⟩;have hsz:=aj.BS l k _ hx;have hsn:=aj.rR hx;obtain ⟨kd,lv,i,t,d,ti,at_,li,ks⟩:=x;obtain ⟨g,off,vc,vp,vl,vk,rfl,hok,hbl,hc,hR⟩:=jG HS.out hx;rw [aj.all] at hsz hsn;obtain ⟨ak,nk,ck,rfl⟩:=Rd.QA hR.kids;obtain ⟨al,nl,cl,rfl⟩:=Rd.QA hR.line;have p9:=hc.c9;have Ea:=hc.c10;have hst:∀ q,EH ok ok w (w.drewN q):=fun q b h _=>⟨h,rfl⟩
    have CL:=hid (fun q=>qj _ li ok (.slice al nl cl) (w.drewN q) (YI _) (by omega) (Rd.keep (hst q) _ _ hR.line));have CK:=hid (fun q=>IH.out (aj.aY ks) (by omega) ks ok (.slice ak nk ck) (w.drewN q) (YI _) (by omega) (Rd.keep (hst q) _ _ hR.kids));have HM:Hid (m+(ah.aW li+aj.aY ks)=aj.aY (l.take (k+1))+(l.length-(k+1))):=by show _=_;omega
    have hlm:l.length-k<=1000000:=by have:=aj.Ak l;omega
    have hmb:m+(ah.aW li+aj.aY ks)<=3000000:=by omega
    generalize ah.aW li=L at *;generalize aj.aY ks=K at *;have s1:IntKind.i64.wrap ((L:Int)+(K:Int))=(L:Int)+(K:Int):=Al (by omega) (by omega);have s2:IntKind.i64.wrap ((m:Int)+((L:Int)+(K:Int)))=(m:Int)+((L:Int)+(K:Int)):=Al (by omega) (by omega);clear hc hR hx hm hsn hsz hlm hst;go_wp2_with fail
    go_quiet ((first | (go_at_call 69;exact S9 (CL.out _)) | (go_at_call 50;exact Ta (CK.out _))))
    clear s1 s2;go_wp2;go_roundw;case rel=>exact ⟨k+1,m+(L+K),_,by omega,by go_num,by go_num,HM.out,rfl⟩
    case measure=>simp [intOf];omega
   ·obtain rfl:k=l.length:=by omega
    have hv:m=aj.aY l:=by rw [hm,List.take_length];omega
    have HV:=hid hv;clear hv hm;go_wp2;go_ret;exact ⟨by rw [<- HV.out];rfl,q,rfl⟩
open Go.RowKit
theorem Bz (l:List aj) (am ab:Option Addr) (nm cm nb cb:Nat) (w:Zu) (hn:aj.aY l<=1000000) (h:Rd (·<w.heap.size) w (aX l) [.slice ab nb cb]) : Calls Tryz.prog 35 #[.agg #[.slice am nm cm,.slice ab nb cb]] w (dO (.int .i64 (aj.aY l:Nat)) w):=by
 have hb0:Below w.heap.size w (w.alloc (.cells #[.slice am nm cm,.slice ab nb cb] 30)):=(YH _ _).alloc (YI _) _;have SZ:=hid (l9 _ l _ _ _ (YI _) hn (h.up hb0));have HB:=hid hb0;generalize aj.aY l=N at *;clear h hb0;go_enter Tryz.func35,Tryz.ntmps35;go_wp2_with fail
 refine SZ.out.mono ?_;rintro e w1 ⟨rfl,q,rfl⟩;go_wp2;go_ret;exact ⟨rfl,eY HB.out q⟩
open Go.RowKit
open Go.RowKit
open Go.RowKit
open Go.RowKit
theorem CB.dN {T:TypeId} {p:Nat} {cs:List Zw} {w:Zu} (h:CB T p cs w) (q:Nat):CB T p cs (w.drewN q):=h
end Go.Proofs.YtnmldmofggkoeaaGreatDoor

