/- Contracts of attr.Empty, tree.oneOf, anyKind, inlineFields. The contract of attr.Check: the first error of attributes. publisherref04.count, sizes, Size, Depth; tree.sizeOfLine, sizeOfBlocks, Size, Depth. Size and Depth of documents, of tree and of the reference. Contracts of publisherref01.clean, Digit, Valid. Contracts of publisherref04.line, trimmed, has, in, noAttr and of publisherref03.line. Contracts of publisherref03.letter, part, word, Name. Contracts of publisherref03.hasText, hasKey, Check. -/
import Derived.Test.YtkfnkeflalcphaaGreatDoorKPlParse
import Derived.Test.YtkfnkeflalcphaaGreatDoorKSmall
set_option maxHeartbeats 8000000
set_option maxRecDepth 100000
open Go.Lib (hid)
namespace Go.Proofs.YtkfnkeflalcphaaGreatDoor
open List renaming getElem?_eq_getElem->jj7,mem_of_getElem?->jk5,take_add_one->jkq
open Go.RowKit.Below renaming refl->jj8
open Nat renaming le_refl->jj9,zero_le->jk4
open Go renaming World->jmj,Value->jmq
open Go.RowKit
set_option linter.unusedVariables false
set_option linter.unusedSimpArgs false
def dR (v:jmq) (w:jmj) (e:Ending) (w':jmj):Prop:=e=.returned v/\Below w.heap.size w w'
theorem uK {α:Type} (l:List α):(((l.length:Nat):Int)==0)=l.isEmpty:=by
 cases l with
 | nil=>rfl
 | cons x l=>simp;omega
theorem oG (a:At) (ac ap:Option Addr) (cc cp:Nat) (w:jmj) (hc:a.cls.length<=maxLen) (hp:a.aJ.length<=maxLen) : Calls Tryz.prog 165 #[.agg #[.string a.id,.slice ac a.cls.length cc,.slice ap a.aJ.length cp]] w (dR (.bool a.none) w):=by
 obtain ⟨id,cls,aJ⟩:=a;dsimp only at hc hp ⊢;have h1:=dI id;have h2:=uK cls;have h3:=uK aJ;have HV:Hid (At.none ⟨id,cls,aJ⟩=(bg id&&cls.isEmpty&&aJ.isEmpty)):=rfl;generalize At.none ⟨id,cls,aJ⟩=V at *;generalize bg id=b1 at *;generalize cls.isEmpty=b2 at *;generalize aJ.isEmpty=b3 at *;cases b1<;>cases b2<;>cases b3
 all_goals
  go_enter Tryz.func165,Tryz.ntmps165;go_wp2;go_ret;exact ⟨by rw [HV.out];rfl,(jj8 _ _).alloc (jj9 _) _⟩
def TP (n:Int) (ks:List Int) (vi:jmq):Prop:=∃ k:Nat,k<=ks.length/\vi=.int .i64 k/\(ks.take k).contains n=false
theorem j5 (n:Int) (ks:List Int) (g cap:Nat) (w:jmj) (hl:ks.length<=1000) (hc:∀ j k,ks[j]?=some k->w.cell? ⟨g,j,none⟩=some (.int .i64 k)) : Calls Tryz.prog 161 #[.int .i64 n,.slice (some ⟨g,0,none⟩) ks.length cap] w fun e w'=>e=.returned (.bool (ks.contains n))/\w=w':=by
 have HC:=hid hc;have R0:Hid (TP n ks (.int .i64 0)):=⟨0,jk4 _,rfl,by simp⟩;obtain ⟨V,hV⟩:∃ V,V=ks.contains n:=⟨_,rfl⟩;rw [<- hV];have HV:=hid hV;clear hc hV;go_enter Tryz.func161,Tryz.ntmps161;go_wp2
 go_loop [9] (fun i=>TP n ks i) (fun i=>ks.length-(intOf i).toNat)
 case atStart=>exact R0.out
 case round=>
  clear R0;obtain ⟨k,hk,rfl,hno⟩:=hrel;have HN:=hid hno;clear hno;by_cases hlt:k<ks.length
  ·obtain ⟨x,hx⟩:∃ x,ks[k]?=some x:=⟨_,jj7 hlt⟩;have hcell:=HC.out k x hx;have HT:Hid ((ks.take (k+1)).contains n=((ks.take k).contains n||(n==x))):=by
    show _=_;rw [jkq,hx,Bool.eq_iff_iff];simp
   have HX:=hid hx;clear hx;cases hnx:(n==x)
   ·rw [hnx] at HT;go_wp2
    go_round
    case rel=>exact ⟨k+1,by omega,by go_num,by rw [HT.out,HN.out];rfl⟩
    case measure=>simp [intOf];omega
   ·have HE:Hid (V=true):=by
     show V=true;rw [HV.out,List.contains_iff_mem];have:n=x:=by simpa using hnx
     rw [this];exact jk5 HX.out
    go_wp2;go_ret;exact ⟨by rw [HE.out];rfl,rfl⟩
  ·have HE:Hid (V=false):=by
    show V=false;rw [HV.out];have:=HN.out
    rwa [List.take_of_length_le (by omega)] at this
   go_wp2;go_ret;exact ⟨by rw [HE.out];rfl,rfl⟩
def TQ (l:List aj) (ks:List Int) (vi:jmq):Prop:=∃ k:Nat,k<=l.length/\vi=.int .i64 k/\aj.dY ks (l.take k)=false
theorem aj.Eu (ks:List Int):∀ (l m:List aj),aj.dY ks (l++m)=(aj.dY ks l||aj.dY ks m)
 | [],m=>by rw [List.nil_append,aj.dY];rfl
 | x::l,m=>by rw [List.cons_append,aj.dY,aj.dY,aj.Eu ks l m,Bool.or_assoc]
theorem aj.Kq (ks:List Int) {l:List aj} {k:Nat} {x:aj} (hx:l[k]?=some x):aj.dY ks (l.take (k+1))=(aj.dY ks (l.take k)||x.Ny ks):=by rw [jkq,hx,aj.Eu,Option.toList_some,aj.dY,aj.dY,Bool.or_false]
theorem aj.Ev (ks:List Int):∀ {l:List aj} {k:Nat} {x:aj},l[k]?=some x->x.Ny ks=true->aj.dY ks l=true
 | [],_,_,h,_=>by simp at h
 | y::l,0,x,h,hx=>by simp at h;subst h;rw [aj.dY,hx];rfl
 | y::l,k+1,x,h,hx=>by rw [aj.dY,aj.Ev ks (l:=l) (k:=k) (by simpa using h) hx,Bool.or_true]
theorem rU (n:Nat):∀ (l:List aj) (ok:Nat->Prop) (v:jmq) (ks:List Int) (g cap:Nat) (w:jmj),aj.aV l<=n->Rd ok w (aY l) [v]->ks.length<=1000->(∀ j k,ks[j]?=some k->w.cell? ⟨g,j,none⟩=some (.int .i64 k)) -> Calls Tryz.prog 203 #[v,.slice (some ⟨g,0,none⟩) ks.length cap] w fun e w'=>e=.returned (.bool (aj.dY ks l))/\w=w':=by
 induction n using Nat.strongRecOn with
 | _ n ih=>
  intro l ok v ks g cap w hn hrd hks hc;obtain ⟨a,cp,hv,hs⟩:=Rd.aB hrd;obtain rfl:v=.slice a l.length cp:=by simpa using hv
  have hcap:l.length<=cp:=by simpa using hs.le
  have hmx:=hs.max;unfold maxLen at hmx;have HS:=hid hs;have IH:=hid ih;have HC:=hid hc;have OO:=hid (fun n=>j5 n ks g cap w hks hc);have R0:Hid (TQ l ks (.int .i64 0)):=⟨0,jk4 _,rfl,by rw [List.take_zero,aj.dY]⟩;obtain ⟨V,hV⟩:∃ V,V=aj.dY ks l:=⟨_,rfl⟩;rw [<- hV];have HV:=hid hV;clear hs hv hrd ih hc hV;go_enter Tryz.func203,Tryz.ntmps203;go_wp2
  go_loop [8] (fun i=>TQ l ks i) (fun i=>l.length-(intOf i).toNat)
  case atStart=>exact R0.out
  case round=>
   clear R0;obtain ⟨k,hk,rfl,hno⟩:=hrel;have HN:=hid hno;clear hno;by_cases hlt:k<l.length
   ·obtain ⟨x,hx⟩:∃ x,l[k]?=some x:=⟨_,jj7 hlt⟩;have hsn:=aj.Kq ks hx;have HG:=hid (aj.Ev ks hx);obtain ⟨kd,t,d,ti,at_,ar,ci,kids⟩:=x;obtain ⟨b,off,vc,vp,va,vi,vk,rfl,hok,hbl,hcl,hR⟩:=fH HS.out hx;obtain ⟨c0,-,-,-,-,-,-,-,-,c9⟩:=hcl;have hsz:=aj.bq l k _ hx;rw [aj.sz] at hsz;have AK:=hid (IH.out (aj.aV kids) (by omega) kids ok vk ks g cap w (jj9 _) hR.kids hks HC.out);obtain ⟨ak,nk,ck,rfl⟩:=Rd.oo hR.kids;have OK:=hid (OO.out kd);have HX:Hid ((aj.mk kd t d ti at_ ar ci kids).Ny ks=(ks.contains kd||aj.dY ks kids)):=by show _=_;rw [aj.Ny]
    have xC:=hid hsn;clear hx hR hsn;cases h1:ks.contains kd with
    | true=>
     rw [h1] at OK HX;have HE:Hid (V=true):=by show V=true;rw [HV.out];exact HG.out (by rw [HX.out];rfl)
     clear h1;go_wp2_with fail
     refine OK.out.mono ?_;rintro e w1 ⟨rfl,rfl⟩;go_wp2;go_ret;exact ⟨by rw [HE.out];rfl,rfl⟩
    | false=>
     rw [h1] at OK HX;cases h2:aj.dY ks kids with
     | true=>
      rw [h2] at AK HX;have HE:Hid (V=true):=by show V=true;rw [HV.out];exact HG.out (by rw [HX.out];rfl)
      clear h1 h2;go_wp2_with fail
      refine OK.out.mono ?_;rintro e w1 ⟨rfl,rfl⟩;go_wp2_with fail
      refine AK.out.mono ?_;rintro e w1 ⟨rfl,rfl⟩;go_wp2;go_ret;exact ⟨by rw [HE.out];rfl,rfl⟩
     | false=>
      rw [h2] at AK HX;clear h1 h2;go_wp2_with fail
      refine OK.out.mono ?_;rintro e w1 ⟨rfl,rfl⟩;go_wp2_with fail
      refine AK.out.mono ?_;rintro e w1 ⟨rfl,rfl⟩;go_wp2
      go_round
      case rel=>exact ⟨k+1,by omega,by go_num,by rw [xC.out,HN.out,HX.out];rfl⟩
      case measure=>simp [intOf];omega
   ·have HE:Hid (V=false):=by
     show V=false;rw [HV.out];have:=HN.out
     rwa [List.take_of_length_le (by omega)] at this
    go_wp2;go_ret;exact ⟨by rw [HE.out];rfl,rfl⟩
open Go.RowKit
theorem mh (l:List ByteArray) (x:ByteArray):hasB l.reverse x=hasB l x:=by rw [Bool.eq_iff_iff,Ew,Ew,List.mem_reverse]
theorem eF.cleared {w:jmj} {b n:Nat} {S:List ByteArray} (h:eF w b n S) (ty:TypeId) : ∃ w',(Builtin.clear_ #[127] ty #[.map (some b)]).run Tryz.prog w=.ok (.tuple #[]) w'/\eF w' b 0 []/\w.grownBy w' (some b):=by
 obtain ⟨D,⟨es,clock,hb,F,hsz,hD⟩,hat⟩:=h;have hr:∃ clock',(Builtin.clear_ #[127] ty #[.map (some b)]).run Tryz.prog w=.ok (.tuple #[]) { w with heap:=w.heap.setIfInBounds b (.map #[] clock') }:=by refine ⟨clock,?_⟩;simp [Builtin.clear_,run_underlying Tryz.underlying127,MapKept.run_getObj_map hb,MapKept.run_setObj_map _ hb,Result.andThen]
 obtain ⟨clock',hrun⟩:=hr;have hs:=MapKept.heap_set (o':=.map #[] clock') hb;refine ⟨_,hrun,⟨.map [],⟨#[],clock',hs.1,⟨by simp,MapKept.stamped_empty clock',by simp⟩,jj9 _,rfl⟩,fun s=>rfl⟩,rfl,rfl,rfl,?_,fun i _ hne=>hs.2 i (fun e=>hne (by rw [e]))⟩;simp
def Lf (T:TypeId) (p:Nat) (cs:List jmq) (w:jmj) (mb n:Nat) (S:List ByteArray) (wr:jmj):Prop:=CB T p cs wr/\eF wr mb n S/\Below w.heap.size w wr/\w.heap.size<=mb/\p≠mb/\w.heap.size<=p
theorem Lf.put {T:TypeId} {p:Nat} {cs:List jmq} {w:jmj} {mb n n':Nat} {S S':List ByteArray} {wr w':jmj} (h:Lf T p cs w mb n S wr) (hg:wr.grownBy w' (some mb)) (hs:eF w' mb n' S'):Lf T p cs w mb n' S' w':=
 ⟨(hg.block p h.1.lt (fun e=>h.2.2.2.2.1 (by injection e))).trans h.1,hs,h.2.2.1.grown hg h.2.2.1.size (fun j hj=>by cases hj;exact h.2.2.2.1),h.2.2.2⟩
theorem Lf.alloc {T:TypeId} {p:Nat} {cs:List jmq} {w:jmj} {mb n:Nat} {S:List ByteArray} {wr:jmj} (h:Lf T p cs w mb n S wr) (o:Obj):Lf T p cs w mb n S (wr.alloc o):=
 ⟨h.1.below ((jj8 _ _).alloc (jj9 _) _),h.2.1.below ((jj8 _ _).alloc (jj9 _) _),h.2.2.1.alloc h.2.2.1.size _,h.2.2.2⟩
theorem Lf.drewN {T:TypeId} {p:Nat} {cs:List jmq} {w:jmj} {mb n:Nat} {S:List ByteArray} {wr:jmj} (h:Lf T p cs w mb n S wr) (q:Nat):Lf T p cs w mb n S (wr.drewN q):=
 ⟨h.1,h.2.1,dL h.2.2.1 q,h.2.2.2⟩
def NY (T:TypeId) (p:Nat) (cs:List jmq) (w:jmj) (mb:Nat) (l:List ByteArray) (E:Nat) (vi:jmq) (wr:jmj):Prop:=
 ∃ k:Nat,k<=l.length/\vi=.int .i64 k/\Lf T p cs w mb k (l.take k).reverse wr/\eY (l.take k) (l.drop k)=E
def NZ (T:TypeId) (p:Nat) (cs:List jmq) (w:jmj) (mb:Nat) (l:List Pr) (E:Nat) (vi:jmq) (wr:jmj):Prop:=
 ∃ k:Nat,k<=l.length/\vi=.int .i64 k/\Lf T p cs w mb k ((l.take k).map Pr.key).reverse wr/\dK ((l.take k).map Pr.key) (l.drop k)=E
theorem gJ (a:At) (ac ap:Option Addr) (cc cp:Nat) (w:jmj) (h:AtR (·<w.heap.size) w a (.slice ac a.cls.length cc) (.slice ap a.aJ.length cp)) (hs:a.short) : Calls Tryz.prog 95 #[.agg #[.string a.id,.slice ac a.cls.length cc,.slice ap a.aJ.length cp]] w (dR (.int .i64 (a.err:Nat)) w):=by
 obtain ⟨sc,sp,si,sca,spa⟩:=hs;obtain ⟨id,cls,aJ⟩:=a;dsimp only at sc sp si sca spa h ⊢;obtain ⟨a1,c1,hv1,hs1⟩:=Rd.aB h.cls;obtain ⟨rfl,rfl⟩:a1=ac/\c1=cc:=by simp at hv1;exact ⟨hv1.1.symm,hv1.2.symm⟩
 obtain ⟨a2,c2,hv2,hs2⟩:=Rd.aB h.aJ;obtain ⟨rfl,rfl⟩:a2=ap/\c2=cp:=by simp at hv2;exact ⟨hv2.1.symm,hv2.2.symm⟩
 have l1:cls.length<=c1:=by simpa using hs1.le
 have l2:aJ.length<=c2:=by simpa using hs2.le
 have m1:=hs1.max;have m2:=hs2.max;unfold maxLen at m1 m2;have H1:=hid hs1;have H2:=hid hs2;have SC:=hid sca;have SP:=hid spa;have NI:=hid (fun w=>Ld id w (by omega));have HE:Hid (At.err ⟨id,cls,aJ⟩=if bg id=false/\jD id=false then 6 else if eY [] cls≠0 then eY [] cls else if dK [] aJ≠0 then dK [] aJ else if 32<cls.length\/32<aJ.length then 3 else 0):=rfl;obtain ⟨V,hV⟩:∃ V,V=At.err ⟨id,cls,aJ⟩:=⟨_,rfl⟩;rw [<- hV] at HE ⊢;clear hV sca spa hs1 hs2 hv1 hv2 h;by_cases hbad:bg id=false/\jD id=false
 ·have HV:Hid (V=6):=by show V=6;rw [HE.out,if_pos hbad]
  rw [hbad.2] at NI;have hie:id.toList.isEmpty=false:=by rw [dI];exact hbad.1
  clear hbad HE;go_enter Tryz.func95,Tryz.ntmps95;go_wp2_with (go_at_call 52;refine (NI.out _).mono ?_;rintro e w1 ⟨rfl,rfl⟩)
  go_ret;exact ⟨by rw [HV.out];rfl,(jj8 _ _).alloc (jj9 _) _⟩
 have hgood:id.toList.isEmpty=true\/(id.toList.isEmpty=false/\jD id=true):=by
  rw [dI];cases h1:bg id
  ·right;refine ⟨rfl,?_⟩;cases h2:jD id
   ·exact absurd ⟨h1,h2⟩ hbad
   ·rfl
  ·left;rfl
 have HE2:Hid (V=if eY [] cls≠0 then eY [] cls else if dK [] aJ≠0 then dK [] aJ else if 32<cls.length\/32<aJ.length then 3 else 0):=by show V=_;rw [HE.out,if_neg hbad]
 obtain ⟨w1,hw1⟩:∃ w1,w1=(w.alloc (.cells #[.string id,.slice a1 cls.length c1,.slice a2 aJ.length c2] 45)).alloc (.map #[] 0):=⟨_,rfl⟩;have R0:Hid (NY 45 w.heap.size [.string id,.slice a1 cls.length c1,.slice a2 aJ.length c2] w (w.heap.size+1) cls (eY [] cls) (.int .i64 0) w1):=by
  refine ⟨0,jk4 _,rfl,⟨?_,?_,?_,by omega,by omega,jj9 _⟩,rfl⟩
  ·rw [hw1];exact (CB.new _ _ w).below ((jj8 _ _).alloc (jj9 _) _)
  ·rw [hw1];have:=eF.made (w.alloc (.cells #[.string id,.slice a1 cls.length c1,.slice a2 aJ.length c2] 45))
   rwa [World.size_alloc] at this
  ·rw [hw1];exact ((jj8 _ _).alloc (jj9 _) _).alloc (by simp) _
 have HW1:=hid hw1;obtain ⟨E1,hE1⟩:∃ E1,E1=eY [] cls:=⟨_,rfl⟩;obtain ⟨E2,hE2⟩:∃ E2,E2=dK [] aJ:=⟨_,rfl⟩;rw [<- hE1] at HE2 R0;rw [<- hE2] at HE2;have je4:=hid hE2;clear hbad HE hw1 hE1 hE2;have hmm:=@run_makeMap Tryz.prog;rcases hgood with hie | ⟨hie,hnm⟩
 case' inl=>
  clear NI;go_enter Tryz.func95,Tryz.ntmps95;go_wp2;rw [<- HW1.out];clear hmm
 case' inr=>
  rw [hnm] at NI;clear hnm;go_enter Tryz.func95,Tryz.ntmps95;go_wp2_with (go_at_call 52;refine (NI.out _).mono ?_;rintro e w1 ⟨rfl,rfl⟩)
  rw [<- HW1.out];clear hmm
 all_goals
  go_loopw [21] (fun i wr=>NY 45 w.heap.size [.string id,.slice a1 cls.length c1,.slice a2 aJ.length c2] w (w.heap.size+1) cls E1 i wr) (fun i _=>cls.length-(intOf i).toNat)
  case atStart=>exact R0.out
  case round=>
   clear R0;obtain ⟨k,hk,rfl,qB,bK⟩:=hrel;have P5:=hid qB;by_cases hlt:k<cls.length
   ·obtain ⟨x,hx⟩:∃ x,cls[k]?=some x:=⟨_,jj7 hlt⟩;obtain ⟨b,off,rfl,-,-,c0⟩:=lq H1.out hx;have c0:wr.cell? ⟨b,off+k,none⟩=some (.string x):=by rw [qB.2.2.1.cell (p:=⟨b,off+k,none⟩) (yQ c0)];exact c0
    have hxs:=SC.out x (jk5 hx);have CN:=hid (fun w=>Ld x w (by omega));have hlk:=qB.2.1.look x (by unfold maxLen;omega);obtain ⟨w',hup,hS',hg⟩:=qB.2.1.put x (by unfold maxLen;omega) (by unfold maxLen;omega);have Yo:=hid (qB.put hg hS');rw [mh] at hlk;rw [q24 cls k x hx,eY] at bK;have yR:Hid (cls.take (k+1)=cls.take k++[x]):=by show _=_;rw [jkq,hx];rfl
    have fJ:=hid bK;clear bK hS' hg qB hx;cases hn:jD x with
    | false=>
     rw [hn] at CN;have HV:Hid (V=6):=by show V=6;have:=fJ.out;rw [if_pos hn] at this;rw [HE2.out,<- this];rfl
     clear hn hup;go_wp2_with fail
     refine (CN.out _).mono ?_;rintro e w3 ⟨rfl,rfl⟩;go_wp2;go_ret;exact ⟨by rw [HV.out];rfl,P5.out.2.2.1⟩
    | true=>
     rw [hn] at CN;cases hb:hasB (cls.take k) x with
     | true=>
      rw [hb] at hlk;have HV:Hid (V=7):=by show V=7;have:=fJ.out;rw [if_neg (by rw [hn];decide),if_pos hb] at this;rw [HE2.out,<- this];rfl
      clear hn hb hup;go_wp2_with fail
      refine (CN.out _).mono ?_;rintro e w3 ⟨rfl,rfl⟩;go_wp2;go_ret;exact ⟨by rw [HV.out];rfl,P5.out.2.2.1⟩
     | false=>
      rw [hb] at hlk;have Sn:Hid (eY (cls.take (k+1)) (cls.drop (k+1))=E1):=by show _=_;have:=fJ.out;rw [if_neg (by rw [hn];decide),if_neg (by rw [hb];decide)] at this;rw [yR.out];exact this
      clear hn hb;go_wp2_with fail
      refine (CN.out _).mono ?_;rintro e w3 ⟨rfl,rfl⟩;go_wp2;go_roundw;case rel=>exact ⟨k+1,by omega,by go_num,by rw [yR.out,List.reverse_append];exact Yo.out,Sn.out⟩
      case measure=>simp [intOf];omega
   ·obtain rfl:k=cls.length:=by omega
    have Rh:Hid (E1=0):=by show E1=0;rw [List.drop_length,eY] at bK;exact bK.symm
    obtain ⟨w2,hcl,hS2,hg2⟩:∃ w2,(∀ ty,(Builtin.clear_ #[127] ty #[.map (some (w.heap.size+1))]).run Tryz.prog wr=.ok (.tuple #[]) w2)/\eF w2 (w.heap.size+1) 0 []/\wr.grownBy w2 (some (w.heap.size+1)):=by obtain ⟨w2,h1,h2,h3⟩:=qB.2.1.cleared 0;exact ⟨w2,fun ty=>h1,h2,h3⟩
    have R2:Hid (NZ 45 w.heap.size [.string id,.slice a1 cls.length c1,.slice a2 aJ.length c2] w (w.heap.size+1) aJ E2 (.int .i64 0) w2):=⟨0,jk4 _,rfl,qB.put hg2 hS2,je4.out.symm⟩;have p2:w2.cell? ⟨w.heap.size,2,none⟩=some (.slice a2 aJ.length c2):=(qB.put hg2 hS2).1.cell 2 _ rfl;clear bK qB P5 hS2 hg2 hk hlt;go_wp2
    go_loopw [38] (fun i wr=>NZ 45 w.heap.size [.string id,.slice a1 cls.length c1,.slice a2 aJ.length c2] w (w.heap.size+1) aJ E2 i wr) (fun i _=>aJ.length-(intOf i).toNat)
    case atStart=>exact R2.out
    case round=>
     clear R2 hcl p2;obtain ⟨k,hk,rfl,qB,bK⟩:=hrel;have P5:=hid qB;by_cases hlt:k<aJ.length
     ·obtain ⟨x,hx⟩:∃ x,aJ[k]?=some x:=⟨_,jj7 hlt⟩;obtain ⟨b,off,rfl,-,-,c0,c1'⟩:=oH H2.out hx;have c0:wr.cell? ⟨b,off+k*2,none⟩=some (.string x.key):=by rw [qB.2.2.1.cell (p:=⟨b,off+k*2,none⟩) (yQ c0)];exact c0
      have c1':wr.cell? ⟨b,off+k*2+1,none⟩=some (.string x.val):=by rw [qB.2.2.1.cell (p:=⟨b,off+k*2+1,none⟩) (yQ c1')];exact c1'
      have hxs:=SP.out x (jk5 hx);have HX:=hid hx;have fJ:Hid (dK ((aJ.take k).map Pr.key) (x::aJ.drop (k+1))=E2):=by show _=_;rw [<- q24 aJ k x hx];exact bK
      obtain ⟨key,val⟩:=x;dsimp only at c0 c1' hxs;have CN:=hid (fun w=>Ld key w (by omega));have CV:=hid (fun w=>zI val w (by omega));have yR:Hid ((aJ.take (k+1)).map Pr.key=(aJ.take k).map Pr.key++[key]):=by show _=_;rw [jkq,HX.out];simp
      obtain ⟨wi,hwi⟩:∃ wi,wi=wr.alloc (.cells #[.string key,.string val] 61):=⟨_,rfl⟩;have Cn:=qB.alloc (.cells #[.string key,.string val] 61);rw [<- hwi] at Cn;have i0:wi.cell? ⟨wr.heap.size,0,none⟩=some (.string key):=by rw [hwi];exact Fz wr [.string key,.string val] _ 0 _ rfl
      have i1:wi.cell? ⟨wr.heap.size,1,none⟩=some (.string val):=by rw [hwi];exact Fz wr [.string key,.string val] _ 1 _ rfl
      have Pk:=hid Cn;clear bK qB hx;cases hn:jD key with
      | false=>
       rw [hn] at CN;have HV:Hid (V=6):=by show V=6;have:=fJ.out;rw [dK,if_pos hn] at this;rw [HE2.out,Rh.out,<- this];rfl
       clear hn;go_upto_region 17 with (fail)
       rw [<- hwi];clear hwi Cn;go_wp2_with fail
       refine (CN.out _).mono ?_;rintro e w3 ⟨rfl,rfl⟩;go_wp2;go_ret;exact ⟨by rw [HV.out];rfl,Pk.out.2.2.1⟩
      | true=>
       rw [hn] at CN;cases hln:iE val with
       | false=>
        rw [hln] at CV;have HV:Hid (V=17):=by show V=17;have:=fJ.out;rw [dK,if_neg (by rw [hn];decide),if_pos hln] at this;rw [HE2.out,Rh.out,<- this];rfl
        clear hn hln;go_upto_region 17 with (fail)
        rw [<- hwi];clear hwi Cn;go_wp2_with fail
        refine (CN.out _).mono ?_;rintro e w3 ⟨rfl,rfl⟩;go_wp2_with fail
        refine (CV.out _).mono ?_;rintro e w3 ⟨rfl,q,rfl⟩;go_wp2;go_ret;exact ⟨by rw [HV.out];rfl,dL Pk.out.2.2.1 q⟩
       | true=>
        rw [hln] at CV;have Yn:=hid (fun q=>(Cn.drewN q).2.1.look key (by unfold maxLen;omega));have UJ:=hid (fun q=>(Cn.drewN q).2.1.put key (by unfold maxLen;omega) (by unfold maxLen;omega));cases hb:hasB ((aJ.take k).map Pr.key) key with
        | true=>
         have HV:Hid (V=7):=by show V=7;have:=fJ.out;rw [dK,if_neg (by rw [hn];decide),if_neg (by rw [hln];decide),if_pos hb] at this;rw [HE2.out,Rh.out,<- this];rfl
         have HB:=hid hb;clear hn hln hb;go_upto_region 17 with (fail)
         rw [<- hwi];clear hwi Cn;go_wp2_with fail
         refine (CN.out _).mono ?_;rintro e w3 ⟨rfl,rfl⟩;go_wp2_with fail
         refine (CV.out _).mono ?_;rintro e w3 ⟨rfl,q,rfl⟩;have hlk:=Yn.out q;rw [mh,HB.out] at hlk;go_wp2;go_ret;exact ⟨by rw [HV.out];rfl,dL Pk.out.2.2.1 q⟩
        | false=>
         have Sn:Hid (dK ((aJ.take (k+1)).map Pr.key) (aJ.drop (k+1))=E2):=by show _=_;have:=fJ.out;rw [dK,if_neg (by rw [hn];decide),if_neg (by rw [hln];decide),if_neg (by rw [hb];decide)] at this;rw [yR.out];exact this
         have HB:=hid hb;clear hn hln hb;go_upto_region 17 with (fail)
         rw [<- hwi];clear hwi Cn;go_wp2_with fail
         refine (CN.out _).mono ?_;rintro e w3 ⟨rfl,rfl⟩;go_wp2_with fail
         refine (CV.out _).mono ?_;rintro e w3 ⟨rfl,q,rfl⟩;have hlk:=Yn.out q;rw [mh,HB.out] at hlk;obtain ⟨w',hup,hS',hg⟩:=UJ.out q;have Yo:=hid ((Pk.out.drewN q).put hg hS');clear hS' hg;go_wp2;go_roundw;case rel=>exact ⟨k+1,by omega,by go_num,by rw [yR.out,List.reverse_append];exact Yo.out,Sn.out⟩
         case measure=>simp [intOf];omega
     ·obtain rfl:k=aJ.length:=by omega
      have HV:Hid (V=if 32<cls.length\/32<aJ.length then 3 else 0):=by show V=_;rw [List.drop_length,dK] at bK;rw [HE2.out,Rh.out,<- bK];rfl
      have p1:wr.cell? ⟨w.heap.size,1,none⟩=some (.slice a1 cls.length c1):=qB.1.cell 1 _ rfl;have p2:wr.cell? ⟨w.heap.size,2,none⟩=some (.slice a2 aJ.length c2):=qB.1.cell 2 _ rfl;clear bK qB hk hlt;by_cases h1:32<cls.length
      ·have q1:decide ((32:Int)<(cls.length:Int))=true:=by simp;omega
       go_wp2;go_ret;exact ⟨by rw [HV.out,if_pos (.inl h1)];rfl,P5.out.2.2.1⟩
      ·have q1:decide ((32:Int)<(cls.length:Int))=false:=by simp;omega
       by_cases h2:32<aJ.length
       ·have q2:decide ((32:Int)<(aJ.length:Int))=true:=by simp;omega
        go_wp2;go_ret;exact ⟨by rw [HV.out,if_pos (.inr h2)];rfl,P5.out.2.2.1⟩
       ·have q2:decide ((32:Int)<(aJ.length:Int))=false:=by simp;omega
        go_wp2;go_ret;exact ⟨by rw [HV.out,if_neg (by omega)];rfl,P5.out.2.2.1⟩
open Go.RowKit
theorem aj.Ey (l:List aj) (k:Nat) (x:aj) (h:l[k]?=some x):aj.aV (l.take k)+x.sz<=aj.aV l:=by
 have h1:aj.aV (l.take (k+1))<=aj.aV l:=by have:=aj.Jc (l.take (k+1)) (l.drop (k+1));rw [List.take_append_drop] at this;omega
 rw [aj.wM h] at h1;exact h1
theorem ah.Kt (l:List ah) (k:Nat) (x:ah) (h:l[k]?=some x):ah.bV (l.take k)+x.all<=ah.bV l:=by
 have h1:ah.bV (l.take (k+1))<=ah.bV l:=by have:=ah.Ez (l.take (k+1)) (l.drop (k+1));rw [List.take_append_drop] at this;omega
 rw [ah.kS h] at h1;exact h1
theorem ah.Ri (x:ah):1<=x.all:=by cases x;rw [ah.all];omega
theorem ah.Jd:∀ (l:List ah),l.length<=ah.bV l
 | []=>by simp
 | x::l=>by have:=ah.Jd l;have:=x.Ri;rw [ah.bV];simp;omega
theorem je5 {P:Program} {f:FuncId} {args:Array jmq} {w:jmj} {a n:Nat} {v:jmq} (h:Calls P f args (w.drewN (a+n)) fun e w'=>e=.returned v/\w.drewN (a+n)=w') : Calls P f args (w.drewN (a+n)) fun e w''=>e=.returned v/\∃ m,w''=w.drewN (a+m):=h.mono fun _ _ ⟨he,hm⟩=>⟨he,n,hm.symm⟩
theorem je6 {P:Program} {f:FuncId} {args:Array jmq} {w:jmj} {a n:Nat} {v:jmq} (h:Calls P f args (w.drewN (a+n)) (Dr v (w.drewN (a+n)))) : Calls P f args (w.drewN (a+n)) fun e w''=>e=.returned v/\∃ m,w''=w.drewN (a+m):=h.mono fun _ _ ⟨he,m,hm⟩=>⟨he,n+m,by rw [hm,World.drewN_drewN,Nat.add_assoc]⟩
def TS (l:List aj) (vn vi:jmq):Prop:=∃ k n:Nat,k<=l.length/\vi=.int .i64 k/\vn=.int .i64 n/\n=aj.aV (l.take k)+(l.length-k)
def TT (l:List ah) (w:jmj) (vn vi:jmq) (wr:jmj):Prop:=∃ k n q:Nat,k<=l.length/\vi=.int .i64 k/\vn=.int .i64 n/\n=ah.bV (l.take k)+(l.length-k)/\wr=w.drewN q
theorem wP (n:Nat):∀ (l:List aj) (ok:Nat->Prop) (v:jmq) (w:jmj),aj.aV l<=n->n<=1000000->Rd ok w (aY l) [v] -> Calls Tryz.prog 186 #[v] w fun e w'=>e=.returned (.int .i64 (aj.aV l:Nat))/\w=w':=by
 induction n using Nat.strongRecOn with
 | _ n ih=>
  intro l ok v w hn hnm h1;obtain ⟨a,cap,hv,hs⟩:=Rd.aB h1;obtain rfl:v=.slice a l.length cap:=by simpa using hv
  have hcap:l.length<=cap:=by simpa using hs.le
  have hmx:=hs.max;unfold maxLen at hmx;have HS:=hid hs;have IH:=hid ih;have R0:Hid (TS l (.int .i64 (l.length:Int)) (.int .i64 0)):=⟨0,l.length,jk4 _,rfl,rfl,by rw [List.take_zero,aj.aV];simp⟩;clear hs hv h1 ih;go_enter Tryz.func186,Tryz.ntmps186;go_wp2
  go_loop [3,9] (fun vn vi=>TS l vn vi) (fun _ i=>l.length-(intOf i).toNat)
  case atStart=>exact R0.out
  case round=>
   clear R0;obtain ⟨k,m,hk,rfl,rfl,hm⟩:=hrel;by_cases hlt:k<l.length
   ·obtain ⟨x,hx⟩:∃ x,l[k]?=some x:=⟨_,jj7 hlt⟩;have hsz:=aj.Ey l k _ hx;have hsn:=aj.wM hx;obtain ⟨kd,t,d,ti,at_,ar,ci,ks⟩:=x;obtain ⟨g,off,vc,vp,va,vi,vk,rfl,hok,hbl,hc,hR⟩:=fH HS.out hx;rw [aj.sz] at hsz hsn;obtain ⟨ak,nk,ck,rfl⟩:=Rd.oo hR.kids;have p9:=hc.c9;have CK:=hid (IH.out (aj.aV ks) (by omega) ks ok (.slice ak nk ck) w (jj9 _) (by omega) hR.kids);have HM:Hid (m+aj.aV ks=aj.aV (l.take (k+1))+(l.length-(k+1))):=by show _=_;omega
    have hlm:l.length-k<=1000000:=by have:=aj.dw l;omega
    have hmb:m+aj.aV ks<=3000000:=by omega
    generalize aj.aV ks=K at *;clear hc hR hx hm hsn hsz hlm;go_wp2_with fail
    refine CK.out.mono ?_;rintro e w1 ⟨rfl,rfl⟩;go_wp2
    go_round
    case rel=>exact ⟨k+1,m+K,by omega,by go_num,by go_num,HM.out⟩
    case measure=>simp [intOf];omega
   ·obtain rfl:k=l.length:=by omega
    have hv:m=aj.aV l:=by rw [hm,List.take_length];omega
    have HV:=hid hv;clear hv hm;go_wp2;go_ret;exact ⟨by rw [<- HV.out];rfl,rfl⟩
theorem qY (n:Nat):∀ (l:List ah) (ok:Nat->Prop) (v:jmq) (w:jmj),ah.bV l<=n->n<=1000000->Rd ok w (iO l) [v] -> Calls Tryz.prog 146 #[v] w (Dr (.int .i64 (ah.bV l:Nat)) w):=by
 induction n using Nat.strongRecOn with
 | _ n ih=>
  intro l ok v w hn hnm h1;obtain ⟨a,cap,hv,hs⟩:=Rd.aB h1;obtain rfl:v=.slice a l.length cap:=by simpa using hv
  have hcap:l.length<=cap:=by simpa using hs.le
  have hmx:=hs.max;unfold maxLen at hmx;have HS:=hid hs;have IH:=hid ih;have R0:Hid (TT l w (.int .i64 (l.length:Int)) (.int .i64 0) w):=⟨0,l.length,0,jk4 _,rfl,rfl,by rw [List.take_zero,ah.bV];simp,rfl⟩;clear hs hv h1 ih;go_enter Tryz.func146,Tryz.ntmps146;go_wp2
  go_loopw [3,9] (fun vn vi wr=>TT l w vn vi wr) (fun _ i _=>l.length-(intOf i).toNat)
  case atStart=>exact R0.out
  case round=>
   clear R0;obtain ⟨k,m,q,hk,rfl,rfl,hm,rfl⟩:=hrel;by_cases hlt:k<l.length
   ·obtain ⟨x,hx⟩:∃ x,l[k]?=some x:=⟨_,jj7 hlt⟩;have hsz:=ah.Kt l k _ hx;have hsn:=ah.kS hx;obtain ⟨kd,lv,i,t,d,ti,at_,li,ks⟩:=x;obtain ⟨g,off,vc,vp,vl,vk,rfl,hok,hbl,hc,hR⟩:=FR HS.out hx;rw [ah.all] at hsz hsn;obtain ⟨ak,nk,ck,rfl⟩:=Rd.oo hR.kids;obtain ⟨al,nl,cl,rfl⟩:=Rd.oo hR.line;have p9:=hc.c9;have JK:=hc.c10;have hst:∀ q,zm ok ok w (w.drewN q):=fun q b h _=>⟨h,rfl⟩
    have CL:=hid (fun q=>wP _ li ok (.slice al nl cl) (w.drewN q) (jj9 _) (by omega) (Rd.keep (hst q) _ _ hR.line));have CK:=hid (fun q=>IH.out (ah.bV ks) (by omega) ks ok (.slice ak nk ck) (w.drewN q) (jj9 _) (by omega) (Rd.keep (hst q) _ _ hR.kids));have HM:Hid (m+(aj.aV li+ah.bV ks)=ah.bV (l.take (k+1))+(l.length-(k+1))):=by show _=_;omega
    have hlm:l.length-k<=1000000:=by have:=ah.Jd l;omega
    have hmb:m+(aj.aV li+ah.bV ks)<=3000000:=by omega
    generalize aj.aV li=L at *;generalize ah.bV ks=K at *;have s1:IntKind.i64.wrap ((L:Int)+(K:Int))=(L:Int)+(K:Int):=iZ (by omega) (by omega);have s2:IntKind.i64.wrap ((m:Int)+((L:Int)+(K:Int)))=(m:Int)+((L:Int)+(K:Int)):=iZ (by omega) (by omega);clear hc hR hx hm hsn hsz hlm hst;go_wp2_with fail
    go_quiet ((first | (go_at_call 186;exact je5 (CL.out _)) | (go_at_call 146;exact je6 (CK.out _))))
    clear s1 s2;go_wp2;go_roundw;case rel=>exact ⟨k+1,m+(L+K),_,by omega,by go_num,by go_num,HM.out,rfl⟩
    case measure=>simp [intOf];omega
   ·obtain rfl:k=l.length:=by omega
    have hv:m=ah.bV l:=by rw [hm,List.take_length];omega
    have HV:=hid hv;clear hv hm;go_wp2;go_ret;exact ⟨by rw [<- HV.out];rfl,q,rfl⟩
open Go.RowKit
theorem JL (l:List ah) (am ab:Option Addr) (nm cm nb cb:Nat) (w:jmj) (hn:ah.bV l<=1000000) (h:Rd (·<w.heap.size) w (iO l) [.slice ab nb cb]) : Calls Tryz.prog 92 #[.agg #[.slice am nm cm,.slice ab nb cb]] w (dR (.int .i64 (ah.bV l:Nat)) w):=by
 have hb0:Below w.heap.size w (w.alloc (.cells #[.slice am nm cm,.slice ab nb cb] 26)):=(jj8 _ _).alloc (jj9 _) _;have SZ:=hid (qY _ l _ _ _ (jj9 _) hn (h.up hb0));have HB:=hid hb0;generalize ah.bV l=N at *;clear h hb0;go_enter Tryz.func92,Tryz.ntmps92;go_wp2_with fail
 refine SZ.out.mono ?_;rintro e w1 ⟨rfl,q,rfl⟩;go_wp2;go_ret;exact ⟨rfl,dL HB.out q⟩
open Go.RowKit
open Go.RowKit
open Go.RowKit
open Go.RowKit
end Go.Proofs.YtkfnkeflalcphaaGreatDoor

