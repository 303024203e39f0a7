/- Contracts of attr.Empty, tree.oneOf, anyKind, inlineFields. The contract of attr.Check: the first error of attributes. publisherref04.count, sizes, Size, Depth; tree.sizeOfLine, sizeOfBlocks, Size, Depth. Size and Depth of documents, of tree and of the reference. Contracts of publisherref01.clean, Digit, Valid. Contracts of publisherref04.line, trimmed, has, in, noAttr and of publisherref03.line. Contracts of publisherref03.letter, part, word, Name. Contracts of publisherref03.hasText, hasKey, Check. -/
import Derived.Test.YtclikfjalmcoaaaGreatDoorKChA
import Derived.Test.YtclikfjalmcoaaaGreatDoorKSmall
import Derived.Test.YtclikfjalmcoaaaGreatDoorKInlsW
set_option maxHeartbeats 8000000
set_option maxRecDepth 100000
open Go.Lib (hid)
namespace Go.Proofs.YtclikfjalmcoaaaGreatDoor
open List renaming getElem?_eq_getElem->je6,mem_of_getElem?->jf4,take_add_one->jfk
open Go.RowKit.Below renaming refl->je7
open Nat renaming le_refl->je8,zero_le->jf3
open Go renaming World->jh9,Value->jhk
open Go.RowKit
set_option linter.unusedVariables false
set_option linter.unusedSimpArgs false
def dR (v:jhk) (w:jh9) (e:Ending) (w':jh9):Prop:=e=.returned v/\Below w.heap.size w w'
theorem sU {α:Type} (l:List α):(((l.length:Nat):Int)==0)=l.isEmpty:=by
 cases l with
 | nil=>rfl
 | cons x l=>simp;omega
theorem mR (a:At) (ac ap:Option Addr) (cc cp:Nat) (w:jh9) (hc:a.cls.length<=maxLen) (hp:a.aP.length<=maxLen) : Calls Tryz.prog 179 #[.agg #[.string a.id,.slice ac a.cls.length cc,.slice ap a.aP.length cp]] w (dR (.bool a.none) w):=by
 obtain ⟨id,cls,aP⟩:=a;dsimp only at hc hp ⊢;have h1:=cu id;have h2:=sU cls;have h3:=sU aP;have HV:Hid (At.none ⟨id,cls,aP⟩=(q01 id&&cls.isEmpty&&aP.isEmpty)):=rfl;generalize At.none ⟨id,cls,aP⟩=V at *;generalize q01 id=b1 at *;generalize cls.isEmpty=b2 at *;generalize aP.isEmpty=b3 at *;cases b1<;>cases b2<;>cases b3
 all_goals
  go_enter Tryz.func179,Tryz.ntmps179;go_wp2;go_ret;exact ⟨by rw [HV.out];rfl,(je7 _ _).alloc (je8 _) _⟩
def Qf (n:Int) (ks:List Int) (vi:jhk):Prop:=∃ k:Nat,k<=ks.length/\vi=.int .i64 k/\(ks.take k).contains n=false
theorem jI (n:Int) (ks:List Int) (g cap:Nat) (w:jh9) (hl:ks.length<=1000) (hc:∀ j k,ks[j]?=some k->w.cell? ⟨g,j,none⟩=some (.int .i64 k)) : Calls Tryz.prog 147 #[.int .i64 n,.slice (some ⟨g,0,none⟩) ks.length cap] w fun e w'=>e=.returned (.bool (ks.contains n))/\w=w':=by
 have HC:=hid hc;have R0:Hid (Qf n ks (.int .i64 0)):=⟨0,jf3 _,rfl,by simp⟩;obtain ⟨V,hV⟩:∃ V,V=ks.contains n:=⟨_,rfl⟩;rw [<- hV];have HV:=hid hV;clear hc hV;go_enter Tryz.func147,Tryz.ntmps147;go_wp2
 go_loop [9] (fun i=>Qf n ks i) (fun i=>ks.length-(intOf i).toNat)
 case atStart=>exact R0.out
 case round=>
  clear R0;obtain ⟨k,hk,rfl,hno⟩:=hrel;have HN:=hid hno;clear hno;by_cases hlt:k<ks.length
  ·obtain ⟨x,hx⟩:∃ x,ks[k]?=some x:=⟨_,je6 hlt⟩;have hcell:=HC.out k x hx;have HT:Hid ((ks.take (k+1)).contains n=((ks.take k).contains n||(n==x))):=by
    show _=_;rw [jfk,hx,Bool.eq_iff_iff];simp
   have HX:=hid hx;clear hx;cases hnx:(n==x)
   ·rw [hnx] at HT;go_wp2
    go_round
    case rel=>exact ⟨k+1,by omega,by go_num,by rw [HT.out,HN.out];rfl⟩
    case measure=>simp [intOf];omega
   ·have HE:Hid (V=true):=by
     show V=true;rw [HV.out,List.contains_iff_mem];have:n=x:=by simpa using hnx
     rw [this];exact jf4 HX.out
    go_wp2;go_ret;exact ⟨by rw [HE.out];rfl,rfl⟩
  ·have HE:Hid (V=false):=by
    show V=false;rw [HV.out];have:=HN.out
    rwa [List.take_of_length_le (by omega)] at this
   go_wp2;go_ret;exact ⟨by rw [HE.out];rfl,rfl⟩
def Qg (l:List aj) (ks:List Int) (vi:jhk):Prop:=∃ k:Nat,k<=l.length/\vi=.int .i64 k/\aj.dM ks (l.take k)=false
theorem aj.Cz (ks:List Int):∀ (l m:List aj),aj.dM ks (l++m)=(aj.dM ks l||aj.dM ks m)
 | [],m=>by rw [List.nil_append,aj.dM];rfl
 | x::l,m=>by rw [List.cons_append,aj.dM,aj.dM,aj.Cz ks l m,Bool.or_assoc]
theorem aj.Im (ks:List Int) {l:List aj} {k:Nat} {x:aj} (hx:l[k]?=some x):aj.dM ks (l.take (k+1))=(aj.dM ks (l.take k)||x.Lr ks):=by rw [jfk,hx,aj.Cz,Option.toList_some,aj.dM,aj.dM,Bool.or_false]
theorem aj.CF (ks:List Int):∀ {l:List aj} {k:Nat} {x:aj},l[k]?=some x->x.Lr ks=true->aj.dM ks l=true
 | [],_,_,h,_=>by simp at h
 | y::l,0,x,h,hx=>by simp at h;subst h;rw [aj.dM,hx];rfl
 | y::l,k+1,x,h,hx=>by rw [aj.dM,aj.CF ks (l:=l) (k:=k) (by simpa using h) hx,Bool.or_true]
theorem qK (n:Nat):∀ (l:List aj) (ok:Nat->Prop) (v:jhk) (ks:List Int) (g cap:Nat) (w:jh9),aj.aS l<=n->Rd ok w (bD l) [v]->ks.length<=1000->(∀ j k,ks[j]?=some k->w.cell? ⟨g,j,none⟩=some (.int .i64 k)) -> Calls Tryz.prog 217 #[v,.slice (some ⟨g,0,none⟩) ks.length cap] w fun e w'=>e=.returned (.bool (aj.dM ks l))/\w=w':=by
 induction n using Nat.strongRecOn with
 | _ n ih=>
  intro l ok v ks g cap w hn hrd hks hc;obtain ⟨a,cp,hv,hs⟩:=Rd.aC hrd;obtain rfl:v=.slice a l.length cp:=by simpa using hv
  have hcap:l.length<=cp:=by simpa using hs.le
  have hmx:=hs.max;unfold maxLen at hmx;have HS:=hid hs;have IH:=hid ih;have HC:=hid hc;have OO:=hid (fun n=>jI n ks g cap w hks hc);have R0:Hid (Qg l ks (.int .i64 0)):=⟨0,jf3 _,rfl,by rw [List.take_zero,aj.dM]⟩;obtain ⟨V,hV⟩:∃ V,V=aj.dM ks l:=⟨_,rfl⟩;rw [<- hV];have HV:=hid hV;clear hs hv hrd ih hc hV;go_enter Tryz.func217,Tryz.ntmps217;go_wp2
  go_loop [8] (fun i=>Qg l ks i) (fun i=>l.length-(intOf i).toNat)
  case atStart=>exact R0.out
  case round=>
   clear R0;obtain ⟨k,hk,rfl,hno⟩:=hrel;have HN:=hid hno;clear hno;by_cases hlt:k<l.length
   ·obtain ⟨x,hx⟩:∃ x,l[k]?=some x:=⟨_,je6 hlt⟩;have hsn:=aj.Im ks hx;have HG:=hid (aj.CF ks hx);obtain ⟨kd,t,d,ti,at_,ar,ci,kids⟩:=x;obtain ⟨b,off,vc,vp,va,vi,vk,rfl,hok,hbl,hcl,hR⟩:=iy HS.out hx;obtain ⟨c0,-,-,-,-,-,-,-,-,c9⟩:=hcl;have hsz:=aj.aZ l k _ hx;rw [aj.sz] at hsz;have AK:=hid (IH.out (aj.aS kids) (by omega) kids ok vk ks g cap w (je8 _) hR.kids hks HC.out);obtain ⟨ak,nk,ck,rfl⟩:=Rd.Di hR.kids;have OK:=hid (OO.out kd);have HX:Hid ((aj.mk kd t d ti at_ ar ci kids).Lr ks=(ks.contains kd||aj.dM ks kids)):=by show _=_;rw [aj.Lr]
    have pJ:=hid hsn;clear hx hR hsn;cases h1:ks.contains kd with
    | true=>
     rw [h1] at OK HX;have HE:Hid (V=true):=by show V=true;rw [HV.out];exact HG.out (by rw [HX.out];rfl)
     clear h1;go_wp2_with fail
     refine OK.out.mono ?_;rintro e w1 ⟨rfl,rfl⟩;go_wp2;go_ret;exact ⟨by rw [HE.out];rfl,rfl⟩
    | false=>
     rw [h1] at OK HX;cases h2:aj.dM ks kids with
     | true=>
      rw [h2] at AK HX;have HE:Hid (V=true):=by show V=true;rw [HV.out];exact HG.out (by rw [HX.out];rfl)
      clear h1 h2;go_wp2_with fail
      refine OK.out.mono ?_;rintro e w1 ⟨rfl,rfl⟩;go_wp2_with fail
      refine AK.out.mono ?_;rintro e w1 ⟨rfl,rfl⟩;go_wp2;go_ret;exact ⟨by rw [HE.out];rfl,rfl⟩
     | false=>
      rw [h2] at AK HX;clear h1 h2;go_wp2_with fail
      refine OK.out.mono ?_;rintro e w1 ⟨rfl,rfl⟩;go_wp2_with fail
      refine AK.out.mono ?_;rintro e w1 ⟨rfl,rfl⟩;go_wp2
      go_round
      case rel=>exact ⟨k+1,by omega,by go_num,by rw [pJ.out,HN.out,HX.out];rfl⟩
      case measure=>simp [intOf];omega
   ·have HE:Hid (V=false):=by
     show V=false;rw [HV.out];have:=HN.out
     rwa [List.take_of_length_le (by omega)] at this
    go_wp2;go_ret;exact ⟨by rw [HE.out];rfl,rfl⟩
open Go.RowKit
theorem kV (l:List ByteArray) (x:ByteArray):hasB l.reverse x=hasB l x:=by rw [Bool.eq_iff_iff,QH,QH,List.mem_reverse]
theorem dS.cleared {w:jh9} {b n:Nat} {S:List ByteArray} (h:dS w b n S) (ty:TypeId) : ∃ w',(Builtin.clear_ #[138] ty #[.map (some b)]).run Tryz.prog w=.ok (.tuple #[]) w'/\dS w' b 0 []/\w.grownBy w' (some b):=by
 obtain ⟨D,⟨es,clock,hb,F,hsz,hD⟩,hat⟩:=h;have hr:∃ clock',(Builtin.clear_ #[138] ty #[.map (some b)]).run Tryz.prog w=.ok (.tuple #[]) { w with heap:=w.heap.setIfInBounds b (.map #[] clock') }:=by refine ⟨clock,?_⟩;simp [Builtin.clear_,run_underlying Tryz.underlying138,MapKept.run_getObj_map hb,MapKept.run_setObj_map _ hb,Result.andThen]
 obtain ⟨clock',hrun⟩:=hr;have hs:=MapKept.heap_set (o':=.map #[] clock') hb;refine ⟨_,hrun,⟨.map [],⟨#[],clock',hs.1,⟨by simp,MapKept.stamped_empty clock',by simp⟩,je8 _,rfl⟩,fun s=>rfl⟩,rfl,rfl,rfl,?_,fun i _ hne=>hs.2 i (fun e=>hne (by rw [e]))⟩;simp
def IZ (T:TypeId) (p:Nat) (cs:List jhk) (w:jh9) (mb n:Nat) (S:List ByteArray) (wr:jh9):Prop:=CB T p cs wr/\dS wr mb n S/\Below w.heap.size w wr/\w.heap.size<=mb/\p≠mb/\w.heap.size<=p
theorem IZ.put {T:TypeId} {p:Nat} {cs:List jhk} {w:jh9} {mb n n':Nat} {S S':List ByteArray} {wr w':jh9} (h:IZ T p cs w mb n S wr) (hg:wr.grownBy w' (some mb)) (hs:dS w' mb n' S'):IZ T p cs w mb n' S' w':=
 ⟨(hg.block p h.1.lt (fun e=>h.2.2.2.2.1 (by injection e))).trans h.1,hs,h.2.2.1.grown hg h.2.2.1.size (fun j hj=>by cases hj;exact h.2.2.2.1),h.2.2.2⟩
theorem IZ.alloc {T:TypeId} {p:Nat} {cs:List jhk} {w:jh9} {mb n:Nat} {S:List ByteArray} {wr:jh9} (h:IZ T p cs w mb n S wr) (o:Obj):IZ T p cs w mb n S (wr.alloc o):=
 ⟨h.1.below ((je7 _ _).alloc (je8 _) _),h.2.1.below ((je7 _ _).alloc (je8 _) _),h.2.2.1.alloc h.2.2.1.size _,h.2.2.2⟩
theorem IZ.drewN {T:TypeId} {p:Nat} {cs:List jhk} {w:jh9} {mb n:Nat} {S:List ByteArray} {wr:jh9} (h:IZ T p cs w mb n S wr) (q:Nat):IZ T p cs w mb n S (wr.drewN q):=
 ⟨h.1,h.2.1,gV h.2.2.1 q,h.2.2.2⟩
def LM (T:TypeId) (p:Nat) (cs:List jhk) (w:jh9) (mb:Nat) (l:List ByteArray) (E:Nat) (vi:jhk) (wr:jh9):Prop:=
 ∃ k:Nat,k<=l.length/\vi=.int .i64 k/\IZ T p cs w mb k (l.take k).reverse wr/\eu (l.take k) (l.drop k)=E
def LP (T:TypeId) (p:Nat) (cs:List jhk) (w:jh9) (mb:Nat) (l:List Pr) (E:Nat) (vi:jhk) (wr:jh9):Prop:=
 ∃ k:Nat,k<=l.length/\vi=.int .i64 k/\IZ T p cs w mb k ((l.take k).map Pr.key).reverse wr/\dn ((l.take k).map Pr.key) (l.drop k)=E
theorem fU (a:At) (ac ap:Option Addr) (cc cp:Nat) (w:jh9) (h:AtR (·<w.heap.size) w a (.slice ac a.cls.length cc) (.slice ap a.aP.length cp)) (hs:a.short) : Calls Tryz.prog 114 #[.agg #[.string a.id,.slice ac a.cls.length cc,.slice ap a.aP.length cp]] w (dR (.int .i64 (a.err:Nat)) w):=by
 obtain ⟨sc,sp,si,sca,spa⟩:=hs;obtain ⟨id,cls,aP⟩:=a;dsimp only at sc sp si sca spa h ⊢;obtain ⟨a1,c1,hv1,hs1⟩:=Rd.aC h.cls;obtain ⟨rfl,rfl⟩:a1=ac/\c1=cc:=by simp at hv1;exact ⟨hv1.1.symm,hv1.2.symm⟩
 obtain ⟨a2,c2,hv2,hs2⟩:=Rd.aC h.aP;obtain ⟨rfl,rfl⟩:a2=ap/\c2=cp:=by simp at hv2;exact ⟨hv2.1.symm,hv2.2.symm⟩
 have l1:cls.length<=c1:=by simpa using hs1.le
 have l2:aP.length<=c2:=by simpa using hs2.le
 have m1:=hs1.max;have m2:=hs2.max;unfold maxLen at m1 m2;have H1:=hid hs1;have H2:=hid hs2;have SC:=hid sca;have SP:=hid spa;have NI:=hid (fun w=>IW id w (by omega));have HE:Hid (At.err ⟨id,cls,aP⟩=if q01 id=false/\je id=false then 6 else if eu [] cls≠0 then eu [] cls else if dn [] aP≠0 then dn [] aP else if 32<cls.length\/32<aP.length then 3 else 0):=rfl;obtain ⟨V,hV⟩:∃ V,V=At.err ⟨id,cls,aP⟩:=⟨_,rfl⟩;rw [<- hV] at HE ⊢;clear hV sca spa hs1 hs2 hv1 hv2 h;by_cases hbad:q01 id=false/\je id=false
 ·have HV:Hid (V=6):=by show V=6;rw [HE.out,if_pos hbad]
  rw [hbad.2] at NI;have hie:id.toList.isEmpty=false:=by rw [cu];exact hbad.1
  clear hbad HE;go_enter Tryz.func114,Tryz.ntmps114;go_wp2_with (go_at_call 67;refine (NI.out _).mono ?_;rintro e w1 ⟨rfl,rfl⟩)
  go_ret;exact ⟨by rw [HV.out];rfl,(je7 _ _).alloc (je8 _) _⟩
 have hgood:id.toList.isEmpty=true\/(id.toList.isEmpty=false/\je id=true):=by
  rw [cu];cases h1:q01 id
  ·right;refine ⟨rfl,?_⟩;cases h2:je id
   ·exact absurd ⟨h1,h2⟩ hbad
   ·rfl
  ·left;rfl
 have HE2:Hid (V=if eu [] cls≠0 then eu [] cls else if dn [] aP≠0 then dn [] aP else if 32<cls.length\/32<aP.length then 3 else 0):=by show V=_;rw [HE.out,if_neg hbad]
 obtain ⟨w1,hw1⟩:∃ w1,w1=(w.alloc (.cells #[.string id,.slice a1 cls.length c1,.slice a2 aP.length c2] 27)).alloc (.map #[] 0):=⟨_,rfl⟩;have R0:Hid (LM 27 w.heap.size [.string id,.slice a1 cls.length c1,.slice a2 aP.length c2] w (w.heap.size+1) cls (eu [] cls) (.int .i64 0) w1):=by
  refine ⟨0,jf3 _,rfl,⟨?_,?_,?_,by omega,by omega,je8 _⟩,rfl⟩
  ·rw [hw1];exact (CB.new _ _ w).below ((je7 _ _).alloc (je8 _) _)
  ·rw [hw1];have:=dS.made (w.alloc (.cells #[.string id,.slice a1 cls.length c1,.slice a2 aP.length c2] 27))
   rwa [World.size_alloc] at this
  ·rw [hw1];exact ((je7 _ _).alloc (je8 _) _).alloc (by simp) _
 have HW1:=hid hw1;obtain ⟨E1,hE1⟩:∃ E1,E1=eu [] cls:=⟨_,rfl⟩;obtain ⟨E2,hE2⟩:∃ E2,E2=dn [] aP:=⟨_,rfl⟩;rw [<- hE1] at HE2 R0;rw [<- hE2] at HE2;have ja7:=hid hE2;clear hbad HE hw1 hE1 hE2;have hmm:=@run_makeMap Tryz.prog;rcases hgood with hie | ⟨hie,hnm⟩
 case' inl=>
  clear NI;go_enter Tryz.func114,Tryz.ntmps114;go_wp2;rw [<- HW1.out];clear hmm
 case' inr=>
  rw [hnm] at NI;clear hnm;go_enter Tryz.func114,Tryz.ntmps114;go_wp2_with (go_at_call 67;refine (NI.out _).mono ?_;rintro e w1 ⟨rfl,rfl⟩)
  rw [<- HW1.out];clear hmm
 all_goals
  go_loopw [21] (fun i wr=>LM 27 w.heap.size [.string id,.slice a1 cls.length c1,.slice a2 aP.length c2] w (w.heap.size+1) cls E1 i wr) (fun i _=>cls.length-(intOf i).toNat)
  case atStart=>exact R0.out
  case round=>
   clear R0;obtain ⟨k,hk,rfl,pK,bq⟩:=hrel;have MS:=hid pK;by_cases hlt:k<cls.length
   ·obtain ⟨x,hx⟩:∃ x,cls[k]?=some x:=⟨_,je6 hlt⟩;obtain ⟨b,off,rfl,-,-,c0⟩:=og H1.out hx;have c0:wr.cell? ⟨b,off+k,none⟩=some (.string x):=by rw [pK.2.2.1.cell (p:=⟨b,off+k,none⟩) (Dc c0)];exact c0
    have hxs:=SC.out x (jf4 hx);have CN:=hid (fun w=>IW x w (by omega));have hlk:=pK.2.1.look x (by unfold maxLen;omega);obtain ⟨w',hup,hS',hg⟩:=pK.2.1.put x (by unfold maxLen;omega) (by unfold maxLen;omega);have Ur:=hid (pK.put hg hS');rw [kV] at hlk;rw [MP cls k x hx,eu] at bq;have O5:Hid (cls.take (k+1)=cls.take k++[x]):=by show _=_;rw [jfk,hx];rfl
    have eX:=hid bq;clear bq hS' hg pK hx;cases hn:je x with
    | false=>
     rw [hn] at CN;have HV:Hid (V=6):=by show V=6;have:=eX.out;rw [if_pos hn] at this;rw [HE2.out,<- this];rfl
     clear hn hup;go_wp2_with fail
     refine (CN.out _).mono ?_;rintro e w3 ⟨rfl,rfl⟩;go_wp2;go_ret;exact ⟨by rw [HV.out];rfl,MS.out.2.2.1⟩
    | true=>
     rw [hn] at CN;cases hb:hasB (cls.take k) x with
     | true=>
      rw [hb] at hlk;have HV:Hid (V=7):=by show V=7;have:=eX.out;rw [if_neg (by rw [hn];decide),if_pos hb] at this;rw [HE2.out,<- this];rfl
      clear hn hb hup;go_wp2_with fail
      refine (CN.out _).mono ?_;rintro e w3 ⟨rfl,rfl⟩;go_wp2;go_ret;exact ⟨by rw [HV.out];rfl,MS.out.2.2.1⟩
     | false=>
      rw [hb] at hlk;have O6:Hid (eu (cls.take (k+1)) (cls.drop (k+1))=E1):=by show _=_;have:=eX.out;rw [if_neg (by rw [hn];decide),if_neg (by rw [hb];decide)] at this;rw [O5.out];exact this
      clear hn hb;go_wp2_with fail
      refine (CN.out _).mono ?_;rintro e w3 ⟨rfl,rfl⟩;go_wp2;go_roundw;case rel=>exact ⟨k+1,by omega,by go_num,by rw [O5.out,List.reverse_append];exact Ur.out,O6.out⟩
      case measure=>simp [intOf];omega
   ·obtain rfl:k=cls.length:=by omega
    have Ou:Hid (E1=0):=by show E1=0;rw [List.drop_length,eu] at bq;exact bq.symm
    obtain ⟨w2,hcl,hS2,hg2⟩:∃ w2,(∀ ty,(Builtin.clear_ #[138] ty #[.map (some (w.heap.size+1))]).run Tryz.prog wr=.ok (.tuple #[]) w2)/\dS w2 (w.heap.size+1) 0 []/\wr.grownBy w2 (some (w.heap.size+1)):=by obtain ⟨w2,h1,h2,h3⟩:=pK.2.1.cleared 0;exact ⟨w2,fun ty=>h1,h2,h3⟩
    have R2:Hid (LP 27 w.heap.size [.string id,.slice a1 cls.length c1,.slice a2 aP.length c2] w (w.heap.size+1) aP E2 (.int .i64 0) w2):=⟨0,jf3 _,rfl,pK.put hg2 hS2,ja7.out.symm⟩;have p2:w2.cell? ⟨w.heap.size,2,none⟩=some (.slice a2 aP.length c2):=(pK.put hg2 hS2).1.cell 2 _ rfl;clear bq pK MS hS2 hg2 hk hlt;go_wp2
    go_loopw [38] (fun i wr=>LP 27 w.heap.size [.string id,.slice a1 cls.length c1,.slice a2 aP.length c2] w (w.heap.size+1) aP E2 i wr) (fun i _=>aP.length-(intOf i).toNat)
    case atStart=>exact R2.out
    case round=>
     clear R2 hcl p2;obtain ⟨k,hk,rfl,pK,bq⟩:=hrel;have MS:=hid pK;by_cases hlt:k<aP.length
     ·obtain ⟨x,hx⟩:∃ x,aP[k]?=some x:=⟨_,je6 hlt⟩;obtain ⟨b,off,rfl,-,-,c0,c1'⟩:=pW H2.out hx;have c0:wr.cell? ⟨b,off+k*2,none⟩=some (.string x.key):=by rw [pK.2.2.1.cell (p:=⟨b,off+k*2,none⟩) (Dc c0)];exact c0
      have c1':wr.cell? ⟨b,off+k*2+1,none⟩=some (.string x.val):=by rw [pK.2.2.1.cell (p:=⟨b,off+k*2+1,none⟩) (Dc c1')];exact c1'
      have hxs:=SP.out x (jf4 hx);have HX:=hid hx;have eX:Hid (dn ((aP.take k).map Pr.key) (x::aP.drop (k+1))=E2):=by show _=_;rw [<- MP aP k x hx];exact bq
      obtain ⟨key,val⟩:=x;dsimp only at c0 c1' hxs;have CN:=hid (fun w=>IW key w (by omega));have CV:=hid (fun w=>wX val w (by omega));have O5:Hid ((aP.take (k+1)).map Pr.key=(aP.take k).map Pr.key++[key]):=by show _=_;rw [jfk,HX.out];simp
      obtain ⟨wi,hwi⟩:∃ wi,wi=wr.alloc (.cells #[.string key,.string val] 74):=⟨_,rfl⟩;have zO:=pK.alloc (.cells #[.string key,.string val] 74);rw [<- hwi] at zO;have i0:wi.cell? ⟨wr.heap.size,0,none⟩=some (.string key):=by rw [hwi];exact Du wr [.string key,.string val] _ 0 _ rfl
      have i1:wi.cell? ⟨wr.heap.size,1,none⟩=some (.string val):=by rw [hwi];exact Du wr [.string key,.string val] _ 1 _ rfl
      have Mk:=hid zO;clear bq pK hx;cases hn:je key with
      | false=>
       rw [hn] at CN;have HV:Hid (V=6):=by show V=6;have:=eX.out;rw [dn,if_pos hn] at this;rw [HE2.out,Ou.out,<- this];rfl
       clear hn;go_upto_region 17 with (fail)
       rw [<- hwi];clear hwi zO;go_wp2_with fail
       refine (CN.out _).mono ?_;rintro e w3 ⟨rfl,rfl⟩;go_wp2;go_ret;exact ⟨by rw [HV.out];rfl,Mk.out.2.2.1⟩
      | true=>
       rw [hn] at CN;cases hln:gU val with
       | false=>
        rw [hln] at CV;have HV:Hid (V=17):=by show V=17;have:=eX.out;rw [dn,if_neg (by rw [hn];decide),if_pos hln] at this;rw [HE2.out,Ou.out,<- this];rfl
        clear hn hln;go_upto_region 17 with (fail)
        rw [<- hwi];clear hwi zO;go_wp2_with fail
        refine (CN.out _).mono ?_;rintro e w3 ⟨rfl,rfl⟩;go_wp2_with fail
        refine (CV.out _).mono ?_;rintro e w3 ⟨rfl,q,rfl⟩;go_wp2;go_ret;exact ⟨by rw [HV.out];rfl,gV Mk.out.2.2.1 q⟩
       | true=>
        rw [hln] at CV;have Uq:=hid (fun q=>(zO.drewN q).2.1.look key (by unfold maxLen;omega));have QG:=hid (fun q=>(zO.drewN q).2.1.put key (by unfold maxLen;omega) (by unfold maxLen;omega));cases hb:hasB ((aP.take k).map Pr.key) key with
        | true=>
         have HV:Hid (V=7):=by show V=7;have:=eX.out;rw [dn,if_neg (by rw [hn];decide),if_neg (by rw [hln];decide),if_pos hb] at this;rw [HE2.out,Ou.out,<- this];rfl
         have HB:=hid hb;clear hn hln hb;go_upto_region 17 with (fail)
         rw [<- hwi];clear hwi zO;go_wp2_with fail
         refine (CN.out _).mono ?_;rintro e w3 ⟨rfl,rfl⟩;go_wp2_with fail
         refine (CV.out _).mono ?_;rintro e w3 ⟨rfl,q,rfl⟩;have hlk:=Uq.out q;rw [kV,HB.out] at hlk;go_wp2;go_ret;exact ⟨by rw [HV.out];rfl,gV Mk.out.2.2.1 q⟩
        | false=>
         have O6:Hid (dn ((aP.take (k+1)).map Pr.key) (aP.drop (k+1))=E2):=by show _=_;have:=eX.out;rw [dn,if_neg (by rw [hn];decide),if_neg (by rw [hln];decide),if_neg (by rw [hb];decide)] at this;rw [O5.out];exact this
         have HB:=hid hb;clear hn hln hb;go_upto_region 17 with (fail)
         rw [<- hwi];clear hwi zO;go_wp2_with fail
         refine (CN.out _).mono ?_;rintro e w3 ⟨rfl,rfl⟩;go_wp2_with fail
         refine (CV.out _).mono ?_;rintro e w3 ⟨rfl,q,rfl⟩;have hlk:=Uq.out q;rw [kV,HB.out] at hlk;obtain ⟨w',hup,hS',hg⟩:=QG.out q;have Ur:=hid ((Mk.out.drewN q).put hg hS');clear hS' hg;go_wp2;go_roundw;case rel=>exact ⟨k+1,by omega,by go_num,by rw [O5.out,List.reverse_append];exact Ur.out,O6.out⟩
         case measure=>simp [intOf];omega
     ·obtain rfl:k=aP.length:=by omega
      have HV:Hid (V=if 32<cls.length\/32<aP.length then 3 else 0):=by show V=_;rw [List.drop_length,dn] at bq;rw [HE2.out,Ou.out,<- bq];rfl
      have p1:wr.cell? ⟨w.heap.size,1,none⟩=some (.slice a1 cls.length c1):=pK.1.cell 1 _ rfl;have p2:wr.cell? ⟨w.heap.size,2,none⟩=some (.slice a2 aP.length c2):=pK.1.cell 2 _ rfl;clear bq pK hk hlt;by_cases h1:32<cls.length
      ·have q1:decide ((32:Int)<(cls.length:Int))=true:=by simp;omega
       go_wp2;go_ret;exact ⟨by rw [HV.out,if_pos (.inl h1)];rfl,MS.out.2.2.1⟩
      ·have q1:decide ((32:Int)<(cls.length:Int))=false:=by simp;omega
       by_cases h2:32<aP.length
       ·have q2:decide ((32:Int)<(aP.length:Int))=true:=by simp;omega
        go_wp2;go_ret;exact ⟨by rw [HV.out,if_pos (.inr h2)];rfl,MS.out.2.2.1⟩
       ·have q2:decide ((32:Int)<(aP.length:Int))=false:=by simp;omega
        go_wp2;go_ret;exact ⟨by rw [HV.out,if_neg (by omega)];rfl,MS.out.2.2.1⟩
open Go.RowKit
theorem aj.LQ (l:List aj) (k:Nat) (x:aj) (h:l[k]?=some x):aj.aS (l.take k)+x.sz<=aj.aS l:=by
 have h1:aj.aS (l.take (k+1))<=aj.aS l:=by have:=aj.Gt (l.take (k+1)) (l.drop (k+1));rw [List.take_append_drop] at this;omega
 rw [aj.vG h] at h1;exact h1
theorem ah.Io (l:List ah) (k:Nat) (x:ah) (h:l[k]?=some x):ah.bJ (l.take k)+x.all<=ah.bJ l:=by
 have h1:ah.bJ (l.take (k+1))<=ah.bJ l:=by have:=ah.CG (l.take (k+1)) (l.drop (k+1));rw [List.take_append_drop] at this;omega
 rw [ah.jU h] at h1;exact h1
theorem ah.Ov (x:ah):1<=x.all:=by cases x;rw [ah.all];omega
theorem ah.Gu:∀ (l:List ah),l.length<=ah.bJ l
 | []=>by simp
 | x::l=>by have:=ah.Gu l;have:=x.Ov;rw [ah.bJ];simp;omega
theorem ja8 {P:Program} {f:FuncId} {args:Array jhk} {w:jh9} {a n:Nat} {v:jhk} (h:Calls P f args (w.drewN (a+n)) fun e w'=>e=.returned v/\w.drewN (a+n)=w') : Calls P f args (w.drewN (a+n)) fun e w''=>e=.returned v/\∃ m,w''=w.drewN (a+m):=h.mono fun _ _ ⟨he,hm⟩=>⟨he,n,hm.symm⟩
theorem ja9 {P:Program} {f:FuncId} {args:Array jhk} {w:jh9} {a n:Nat} {v:jhk} (h:Calls P f args (w.drewN (a+n)) (Dr v (w.drewN (a+n)))) : Calls P f args (w.drewN (a+n)) fun e w''=>e=.returned v/\∃ m,w''=w.drewN (a+m):=h.mono fun _ _ ⟨he,m,hm⟩=>⟨he,n+m,by rw [hm,World.drewN_drewN,Nat.add_assoc]⟩
def Qh (l:List aj) (vn vi:jhk):Prop:=∃ k n:Nat,k<=l.length/\vi=.int .i64 k/\vn=.int .i64 n/\n=aj.aS (l.take k)+(l.length-k)
def Qi (l:List ah) (w:jh9) (vn vi:jhk) (wr:jh9):Prop:=∃ k n q:Nat,k<=l.length/\vi=.int .i64 k/\vn=.int .i64 n/\n=ah.bJ (l.take k)+(l.length-k)/\wr=w.drewN q
theorem vH (n:Nat):∀ (l:List aj) (ok:Nat->Prop) (v:jhk) (w:jh9),aj.aS l<=n->n<=1000000->Rd ok w (bD l) [v] -> Calls Tryz.prog 209 #[v] w fun e w'=>e=.returned (.int .i64 (aj.aS l:Nat))/\w=w':=by
 induction n using Nat.strongRecOn with
 | _ n ih=>
  intro l ok v w hn hnm h1;obtain ⟨a,cap,hv,hs⟩:=Rd.aC h1;obtain rfl:v=.slice a l.length cap:=by simpa using hv
  have hcap:l.length<=cap:=by simpa using hs.le
  have hmx:=hs.max;unfold maxLen at hmx;have HS:=hid hs;have IH:=hid ih;have R0:Hid (Qh l (.int .i64 (l.length:Int)) (.int .i64 0)):=⟨0,l.length,jf3 _,rfl,rfl,by rw [List.take_zero,aj.aS];simp⟩;clear hs hv h1 ih;go_enter Tryz.func209,Tryz.ntmps209;go_wp2
  go_loop [3,9] (fun vn vi=>Qh l vn vi) (fun _ i=>l.length-(intOf i).toNat)
  case atStart=>exact R0.out
  case round=>
   clear R0;obtain ⟨k,m,hk,rfl,rfl,hm⟩:=hrel;by_cases hlt:k<l.length
   ·obtain ⟨x,hx⟩:∃ x,l[k]?=some x:=⟨_,je6 hlt⟩;have hsz:=aj.LQ l k _ hx;have hsn:=aj.vG hx;obtain ⟨kd,t,d,ti,at_,ar,ci,ks⟩:=x;obtain ⟨g,off,vc,vp,va,vi,vk,rfl,hok,hbl,hc,hR⟩:=iy HS.out hx;rw [aj.sz] at hsz hsn;obtain ⟨ak,nk,ck,rfl⟩:=Rd.Di hR.kids;have p9:=hc.c9;have CK:=hid (IH.out (aj.aS ks) (by omega) ks ok (.slice ak nk ck) w (je8 _) (by omega) hR.kids);have HM:Hid (m+aj.aS ks=aj.aS (l.take (k+1))+(l.length-(k+1))):=by show _=_;omega
    have hlm:l.length-k<=1000000:=by have:=aj.gZ l;omega
    have hmb:m+aj.aS ks<=3000000:=by omega
    generalize aj.aS ks=K at *;clear hc hR hx hm hsn hsz hlm;go_wp2_with fail
    refine CK.out.mono ?_;rintro e w1 ⟨rfl,rfl⟩;go_wp2
    go_round
    case rel=>exact ⟨k+1,m+K,by omega,by go_num,by go_num,HM.out⟩
    case measure=>simp [intOf];omega
   ·obtain rfl:k=l.length:=by omega
    have hv:m=aj.aS l:=by rw [hm,List.take_length];omega
    have HV:=hid hv;clear hv hm;go_wp2;go_ret;exact ⟨by rw [<- HV.out];rfl,rfl⟩
theorem qC (n:Nat):∀ (l:List ah) (ok:Nat->Prop) (v:jhk) (w:jh9),ah.bJ l<=n->n<=1000000->Rd ok w (nR l) [v] -> Calls Tryz.prog 166 #[v] w (Dr (.int .i64 (ah.bJ l:Nat)) w):=by
 induction n using Nat.strongRecOn with
 | _ n ih=>
  intro l ok v w hn hnm h1;obtain ⟨a,cap,hv,hs⟩:=Rd.aC h1;obtain rfl:v=.slice a l.length cap:=by simpa using hv
  have hcap:l.length<=cap:=by simpa using hs.le
  have hmx:=hs.max;unfold maxLen at hmx;have HS:=hid hs;have IH:=hid ih;have R0:Hid (Qi l w (.int .i64 (l.length:Int)) (.int .i64 0) w):=⟨0,l.length,0,jf3 _,rfl,rfl,by rw [List.take_zero,ah.bJ];simp,rfl⟩;clear hs hv h1 ih;go_enter Tryz.func166,Tryz.ntmps166;go_wp2
  go_loopw [3,9] (fun vn vi wr=>Qi l w vn vi wr) (fun _ i _=>l.length-(intOf i).toNat)
  case atStart=>exact R0.out
  case round=>
   clear R0;obtain ⟨k,m,q,hk,rfl,rfl,hm,rfl⟩:=hrel;by_cases hlt:k<l.length
   ·obtain ⟨x,hx⟩:∃ x,l[k]?=some x:=⟨_,je6 hlt⟩;have hsz:=ah.Io l k _ hx;have hsn:=ah.jU hx;obtain ⟨kd,lv,i,t,d,ti,at_,li,ks⟩:=x;obtain ⟨g,off,vc,vp,vl,vk,rfl,hok,hbl,hc,hR⟩:=dV HS.out hx;rw [ah.all] at hsz hsn;obtain ⟨ak,nk,ck,rfl⟩:=Rd.Di hR.kids;obtain ⟨al,nl,cl,rfl⟩:=Rd.Di hR.line;have p9:=hc.c9;have G5:=hc.c10;have hst:∀ q,uh ok ok w (w.drewN q):=fun q b h _=>⟨h,rfl⟩
    have CL:=hid (fun q=>vH _ li ok (.slice al nl cl) (w.drewN q) (je8 _) (by omega) (Rd.keep (hst q) _ _ hR.line));have CK:=hid (fun q=>IH.out (ah.bJ ks) (by omega) ks ok (.slice ak nk ck) (w.drewN q) (je8 _) (by omega) (Rd.keep (hst q) _ _ hR.kids));have HM:Hid (m+(aj.aS li+ah.bJ ks)=ah.bJ (l.take (k+1))+(l.length-(k+1))):=by show _=_;omega
    have hlm:l.length-k<=1000000:=by have:=ah.Gu l;omega
    have hmb:m+(aj.aS li+ah.bJ ks)<=3000000:=by omega
    generalize aj.aS li=L at *;generalize ah.bJ ks=K at *;have s1:IntKind.i64.wrap ((L:Int)+(K:Int))=(L:Int)+(K:Int):=iH (by omega) (by omega);have s2:IntKind.i64.wrap ((m:Int)+((L:Int)+(K:Int)))=(m:Int)+((L:Int)+(K:Int)):=iH (by omega) (by omega);clear hc hR hx hm hsn hsz hlm hst;go_wp2_with fail
    go_quiet ((first | (go_at_call 209;exact ja8 (CL.out _)) | (go_at_call 166;exact ja9 (CK.out _))))
    clear s1 s2;go_wp2;go_roundw;case rel=>exact ⟨k+1,m+(L+K),_,by omega,by go_num,by go_num,HM.out,rfl⟩
    case measure=>simp [intOf];omega
   ·obtain rfl:k=l.length:=by omega
    have hv:m=ah.bJ l:=by rw [hm,List.take_length];omega
    have HV:=hid hv;clear hv hm;go_wp2;go_ret;exact ⟨by rw [<- HV.out];rfl,q,rfl⟩
open Go.RowKit
theorem G6 (l:List ah) (am ab:Option Addr) (nm cm nb cb:Nat) (w:jh9) (hn:ah.bJ l<=1000000) (h:Rd (·<w.heap.size) w (nR l) [.slice ab nb cb]) : Calls Tryz.prog 111 #[.agg #[.slice am nm cm,.slice ab nb cb]] w (dR (.int .i64 (ah.bJ l:Nat)) w):=by
 have hb0:Below w.heap.size w (w.alloc (.cells #[.slice am nm cm,.slice ab nb cb] 32)):=(je7 _ _).alloc (je8 _) _;have SZ:=hid (qC _ l _ _ _ (je8 _) hn (h.up hb0));have HB:=hid hb0;generalize ah.bJ l=N at *;clear h hb0;go_enter Tryz.func111,Tryz.ntmps111;go_wp2_with fail
 refine SZ.out.mono ?_;rintro e w1 ⟨rfl,q,rfl⟩;go_wp2;go_ret;exact ⟨rfl,gV HB.out q⟩
open Go.RowKit
open Go.RowKit
open Go.RowKit
open Go.RowKit
end Go.Proofs.YtclikfjalmcoaaaGreatDoor

