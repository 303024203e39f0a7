/- Contracts of attr.Empty, tree.oneOf, anyKind, inlineFields. The contract of attr.Check: the first error of attributes. publisherref04.count, sizes, Size, Depth; tree.sizeOfLine, sizeOfBlocks, Size, Depth. Size and Depth of documents, of tree and of the reference. Contracts of publisherref01.clean, Digit, Valid. Contracts of publisherref04.line, trimmed, has, in, noAttr and of publisherref03.line. Contracts of publisherref03.letter, part, word, Name. Contracts of publisherref03.hasText, hasKey, Check. -/
import Derived.Test.YtclikfjalmcoaaaGreatDoorKChA
import Derived.Test.YtclikfjalmcoaaaGreatDoorKSmall
set_option maxHeartbeats 8000000
set_option maxRecDepth 100000
open Go.Lib (hid)
namespace Go.Proofs.YtclikfjalmcoaaaGreatDoor
open List renaming getElem?_eq_getElem->ji6,mem_of_getElem?->jj4,take_add_one->jjk
open Go.RowKit.Below renaming refl->ji7
open Nat renaming le_refl->ji8,zero_le->jj3
open Go renaming World->jl9,Value->jlk
open Go.RowKit
set_option linter.unusedVariables false
set_option linter.unusedSimpArgs false
def dS (v:jlk) (w:jl9) (e:Ending) (w':jl9):Prop:=e=.returned v/\Below w.heap.size w w'
theorem uP {α:Type} (l:List α):(((l.length:Nat):Int)==0)=l.isEmpty:=by
 cases l with
 | nil=>rfl
 | cons x l=>simp;omega
theorem oD (a:At) (ac ap:Option Addr) (cc cp:Nat) (w:jl9) (hc:a.cls.length<=maxLen) (hp:a.aR.length<=maxLen) : Calls Tryz.prog 179 #[.agg #[.string a.id,.slice ac a.cls.length cc,.slice ap a.aR.length cp]] w (dS (.bool a.none) w):=by
 obtain ⟨id,cls,aR⟩:=a;dsimp only at hc hp ⊢;have h1:=dG id;have h2:=uP cls;have h3:=uP aR;have HV:Hid (At.none ⟨id,cls,aR⟩=(bI id&&cls.isEmpty&&aR.isEmpty)):=rfl;generalize At.none ⟨id,cls,aR⟩=V at *;generalize bI id=b1 at *;generalize cls.isEmpty=b2 at *;generalize aR.isEmpty=b3 at *;cases b1<;>cases b2<;>cases b3
 all_goals
  go_enter Tryz.func179,Tryz.ntmps179;go_wp2;go_ret;exact ⟨by rw [HV.out];rfl,(ji7 _ _).alloc (ji8 _) _⟩
def TI (n:Int) (ks:List Int) (vi:jlk):Prop:=∃ k:Nat,k<=ks.length/\vi=.int .i64 k/\(ks.take k).contains n=false
theorem j3 (n:Int) (ks:List Int) (g cap:Nat) (w:jl9) (hl:ks.length<=1000) (hc:∀ j k,ks[j]?=some k->w.cell? ⟨g,j,none⟩=some (.int .i64 k)) : Calls Tryz.prog 147 #[.int .i64 n,.slice (some ⟨g,0,none⟩) ks.length cap] w fun e w'=>e=.returned (.bool (ks.contains n))/\w=w':=by
 have HC:=hid hc;have R0:Hid (TI n ks (.int .i64 0)):=⟨0,jj3 _,rfl,by simp⟩;obtain ⟨V,hV⟩:∃ V,V=ks.contains n:=⟨_,rfl⟩;rw [<- hV];have HV:=hid hV;clear hc hV;go_enter Tryz.func147,Tryz.ntmps147;go_wp2
 go_loop [9] (fun i=>TI n ks i) (fun i=>ks.length-(intOf i).toNat)
 case atStart=>exact R0.out
 case round=>
  clear R0;obtain ⟨k,hk,rfl,hno⟩:=hrel;have HN:=hid hno;clear hno;by_cases hlt:k<ks.length
  ·obtain ⟨x,hx⟩:∃ x,ks[k]?=some x:=⟨_,ji6 hlt⟩;have hcell:=HC.out k x hx;have HT:Hid ((ks.take (k+1)).contains n=((ks.take k).contains n||(n==x))):=by
    show _=_;rw [jjk,hx,Bool.eq_iff_iff];simp
   have HX:=hid hx;clear hx;cases hnx:(n==x)
   ·rw [hnx] at HT;go_wp2
    go_round
    case rel=>exact ⟨k+1,by omega,by go_num,by rw [HT.out,HN.out];rfl⟩
    case measure=>simp [intOf];omega
   ·have HE:Hid (V=true):=by
     show V=true;rw [HV.out,List.contains_iff_mem];have:n=x:=by simpa using hnx
     rw [this];exact jj4 HX.out
    go_wp2;go_ret;exact ⟨by rw [HE.out];rfl,rfl⟩
  ·have HE:Hid (V=false):=by
    show V=false;rw [HV.out];have:=HN.out
    rwa [List.take_of_length_le (by omega)] at this
   go_wp2;go_ret;exact ⟨by rw [HE.out];rfl,rfl⟩
def TJ (l:List aj) (ks:List Int) (vi:jlk):Prop:=∃ k:Nat,k<=l.length/\vi=.int .i64 k/\aj.eu ks (l.take k)=false
theorem aj.Ew (ks:List Int):∀ (l m:List aj),aj.eu ks (l++m)=(aj.eu ks l||aj.eu ks m)
 | [],m=>by rw [List.nil_append,aj.eu];rfl
 | x::l,m=>by rw [List.cons_append,aj.eu,aj.eu,aj.Ew ks l m,Bool.or_assoc]
theorem aj.Kv (ks:List Int) {l:List aj} {k:Nat} {x:aj} (hx:l[k]?=some x):aj.eu ks (l.take (k+1))=(aj.eu ks (l.take k)||x.NW ks):=by rw [jjk,hx,aj.Ew,Option.toList_some,aj.eu,aj.eu,Bool.or_false]
theorem aj.Ey (ks:List Int):∀ {l:List aj} {k:Nat} {x:aj},l[k]?=some x->x.NW ks=true->aj.eu ks l=true
 | [],_,_,h,_=>by simp at h
 | y::l,0,x,h,hx=>by simp at h;subst h;rw [aj.eu,hx];rfl
 | y::l,k+1,x,h,hx=>by rw [aj.eu,aj.Ey ks (l:=l) (k:=k) (by simpa using h) hx,Bool.or_true]
theorem rW (n:Nat):∀ (l:List aj) (ok:Nat->Prop) (v:jlk) (ks:List Int) (g cap:Nat) (w:jl9),aj.aY l<=n->Rd ok w (bG l) [v]->ks.length<=1000->(∀ j k,ks[j]?=some k->w.cell? ⟨g,j,none⟩=some (.int .i64 k)) -> Calls Tryz.prog 217 #[v,.slice (some ⟨g,0,none⟩) ks.length cap] w fun e w'=>e=.returned (.bool (aj.eu ks l))/\w=w':=by
 induction n using Nat.strongRecOn with
 | _ n ih=>
  intro l ok v ks g cap w hn hrd hks hc;obtain ⟨a,cp,hv,hs⟩:=Rd.aG hrd;obtain rfl:v=.slice a l.length cp:=by simpa using hv
  have hcap:l.length<=cp:=by simpa using hs.le
  have hmx:=hs.max;unfold maxLen at hmx;have HS:=hid hs;have IH:=hid ih;have HC:=hid hc;have OO:=hid (fun n=>j3 n ks g cap w hks hc);have R0:Hid (TJ l ks (.int .i64 0)):=⟨0,jj3 _,rfl,by rw [List.take_zero,aj.eu]⟩;obtain ⟨V,hV⟩:∃ V,V=aj.eu ks l:=⟨_,rfl⟩;rw [<- hV];have HV:=hid hV;clear hs hv hrd ih hc hV;go_enter Tryz.func217,Tryz.ntmps217;go_wp2
  go_loop [8] (fun i=>TJ l ks i) (fun i=>l.length-(intOf i).toNat)
  case atStart=>exact R0.out
  case round=>
   clear R0;obtain ⟨k,hk,rfl,hno⟩:=hrel;have HN:=hid hno;clear hno;by_cases hlt:k<l.length
   ·obtain ⟨x,hx⟩:∃ x,l[k]?=some x:=⟨_,ji6 hlt⟩;have hsn:=aj.Kv ks hx;have HG:=hid (aj.Ey ks hx);obtain ⟨kd,t,d,ti,at_,ar,ci,kids⟩:=x;obtain ⟨b,off,vc,vp,va,vi,vk,rfl,hok,hbl,hcl,hR⟩:=iQ HS.out hx;obtain ⟨c0,-,-,-,-,-,-,-,-,c9⟩:=hcl;have hsz:=aj.bM l k _ hx;rw [aj.sz] at hsz;have AK:=hid (IH.out (aj.aY kids) (by omega) kids ok vk ks g cap w (ji8 _) hR.kids hks HC.out);obtain ⟨ak,nk,ck,rfl⟩:=Rd.Ll hR.kids;have OK:=hid (OO.out kd);have HX:Hid ((aj.mk kd t d ti at_ ar ci kids).NW ks=(ks.contains kd||aj.eu ks kids)):=by show _=_;rw [aj.NW]
    have xP:=hid hsn;clear hx hR hsn;cases h1:ks.contains kd with
    | true=>
     rw [h1] at OK HX;have HE:Hid (V=true):=by show V=true;rw [HV.out];exact HG.out (by rw [HX.out];rfl)
     clear h1;go_wp2_with fail
     refine OK.out.mono ?_;rintro e w1 ⟨rfl,rfl⟩;go_wp2;go_ret;exact ⟨by rw [HE.out];rfl,rfl⟩
    | false=>
     rw [h1] at OK HX;cases h2:aj.eu ks kids with
     | true=>
      rw [h2] at AK HX;have HE:Hid (V=true):=by show V=true;rw [HV.out];exact HG.out (by rw [HX.out];rfl)
      clear h1 h2;go_wp2_with fail
      refine OK.out.mono ?_;rintro e w1 ⟨rfl,rfl⟩;go_wp2_with fail
      refine AK.out.mono ?_;rintro e w1 ⟨rfl,rfl⟩;go_wp2;go_ret;exact ⟨by rw [HE.out];rfl,rfl⟩
     | false=>
      rw [h2] at AK HX;clear h1 h2;go_wp2_with fail
      refine OK.out.mono ?_;rintro e w1 ⟨rfl,rfl⟩;go_wp2_with fail
      refine AK.out.mono ?_;rintro e w1 ⟨rfl,rfl⟩;go_wp2
      go_round
      case rel=>exact ⟨k+1,by omega,by go_num,by rw [xP.out,HN.out,HX.out];rfl⟩
      case measure=>simp [intOf];omega
   ·have HE:Hid (V=false):=by
     show V=false;rw [HV.out];have:=HN.out
     rwa [List.take_of_length_le (by omega)] at this
    go_wp2;go_ret;exact ⟨by rw [HE.out];rfl,rfl⟩
open Go.RowKit
theorem l8 (l:List ByteArray) (x:ByteArray):hasB l.reverse x=hasB l x:=by rw [Bool.eq_iff_iff,Ez,Ez,List.mem_reverse]
theorem eO.cleared {w:jl9} {b n:Nat} {S:List ByteArray} (h:eO w b n S) (ty:TypeId) : ∃ w',(Builtin.clear_ #[138] ty #[.map (some b)]).run Tryz.prog w=.ok (.tuple #[]) w'/\eO w' b 0 []/\w.grownBy w' (some b):=by
 obtain ⟨D,⟨es,clock,hb,F,hsz,hD⟩,hat⟩:=h;have hr:∃ clock',(Builtin.clear_ #[138] ty #[.map (some b)]).run Tryz.prog w=.ok (.tuple #[]) { w with heap:=w.heap.setIfInBounds b (.map #[] clock') }:=by refine ⟨clock,?_⟩;simp [Builtin.clear_,run_underlying Tryz.underlying138,MapKept.run_getObj_map hb,MapKept.run_setObj_map _ hb,Result.andThen]
 obtain ⟨clock',hrun⟩:=hr;have hs:=MapKept.heap_set (o':=.map #[] clock') hb;refine ⟨_,hrun,⟨.map [],⟨#[],clock',hs.1,⟨by simp,MapKept.stamped_empty clock',by simp⟩,ji8 _,rfl⟩,fun s=>rfl⟩,rfl,rfl,rfl,?_,fun i _ hne=>hs.2 i (fun e=>hne (by rw [e]))⟩;simp
def Lf (T:TypeId) (p:Nat) (cs:List jlk) (w:jl9) (mb n:Nat) (S:List ByteArray) (wr:jl9):Prop:=CB T p cs wr/\eO wr mb n S/\Below w.heap.size w wr/\w.heap.size<=mb/\p≠mb/\w.heap.size<=p
theorem Lf.put {T:TypeId} {p:Nat} {cs:List jlk} {w:jl9} {mb n n':Nat} {S S':List ByteArray} {wr w':jl9} (h:Lf T p cs w mb n S wr) (hg:wr.grownBy w' (some mb)) (hs:eO w' mb n' S'):Lf T p cs w mb n' S' w':=
 ⟨(hg.block p h.1.lt (fun e=>h.2.2.2.2.1 (by injection e))).trans h.1,hs,h.2.2.1.grown hg h.2.2.1.size (fun j hj=>by cases hj;exact h.2.2.2.1),h.2.2.2⟩
theorem Lf.alloc {T:TypeId} {p:Nat} {cs:List jlk} {w:jl9} {mb n:Nat} {S:List ByteArray} {wr:jl9} (h:Lf T p cs w mb n S wr) (o:Obj):Lf T p cs w mb n S (wr.alloc o):=
 ⟨h.1.below ((ji7 _ _).alloc (ji8 _) _),h.2.1.below ((ji7 _ _).alloc (ji8 _) _),h.2.2.1.alloc h.2.2.1.size _,h.2.2.2⟩
theorem Lf.drewN {T:TypeId} {p:Nat} {cs:List jlk} {w:jl9} {mb n:Nat} {S:List ByteArray} {wr:jl9} (h:Lf T p cs w mb n S wr) (q:Nat):Lf T p cs w mb n S (wr.drewN q):=
 ⟨h.1,h.2.1,ig h.2.2.1 q,h.2.2.2⟩
def NY (T:TypeId) (p:Nat) (cs:List jlk) (w:jl9) (mb:Nat) (l:List ByteArray) (E:Nat) (vi:jlk) (wr:jl9):Prop:=
 ∃ k:Nat,k<=l.length/\vi=.int .i64 k/\Lf T p cs w mb k (l.take k).reverse wr/\fu (l.take k) (l.drop k)=E
def NZ (T:TypeId) (p:Nat) (cs:List jlk) (w:jl9) (mb:Nat) (l:List Pr) (E:Nat) (vi:jlk) (wr:jl9):Prop:=
 ∃ k:Nat,k<=l.length/\vi=.int .i64 k/\Lf T p cs w mb k ((l.take k).map Pr.key).reverse wr/\dJ ((l.take k).map Pr.key) (l.drop k)=E
theorem gL (a:At) (ac ap:Option Addr) (cc cp:Nat) (w:jl9) (h:AtR (·<w.heap.size) w a (.slice ac a.cls.length cc) (.slice ap a.aR.length cp)) (hs:a.short) : Calls Tryz.prog 114 #[.agg #[.string a.id,.slice ac a.cls.length cc,.slice ap a.aR.length cp]] w (dS (.int .i64 (a.err:Nat)) w):=by
 obtain ⟨sc,sp,si,sca,spa⟩:=hs;obtain ⟨id,cls,aR⟩:=a;dsimp only at sc sp si sca spa h ⊢;obtain ⟨a1,c1,hv1,hs1⟩:=Rd.aG h.cls;obtain ⟨rfl,rfl⟩:a1=ac/\c1=cc:=by simp at hv1;exact ⟨hv1.1.symm,hv1.2.symm⟩
 obtain ⟨a2,c2,hv2,hs2⟩:=Rd.aG h.aR;obtain ⟨rfl,rfl⟩:a2=ap/\c2=cp:=by simp at hv2;exact ⟨hv2.1.symm,hv2.2.symm⟩
 have l1:cls.length<=c1:=by simpa using hs1.le
 have l2:aR.length<=c2:=by simpa using hs2.le
 have m1:=hs1.max;have m2:=hs2.max;unfold maxLen at m1 m2;have H1:=hid hs1;have H2:=hid hs2;have SC:=hid sca;have SP:=hid spa;have NI:=hid (fun w=>Ld id w (by omega));have HE:Hid (At.err ⟨id,cls,aR⟩=if bI id=false/\jA id=false then 6 else if fu [] cls≠0 then fu [] cls else if dJ [] aR≠0 then dJ [] aR else if 32<cls.length\/32<aR.length then 3 else 0):=rfl;obtain ⟨V,hV⟩:∃ V,V=At.err ⟨id,cls,aR⟩:=⟨_,rfl⟩;rw [<- hV] at HE ⊢;clear hV sca spa hs1 hs2 hv1 hv2 h;by_cases hbad:bI id=false/\jA id=false
 ·have HV:Hid (V=6):=by show V=6;rw [HE.out,if_pos hbad]
  rw [hbad.2] at NI;have hie:id.toList.isEmpty=false:=by rw [dG];exact hbad.1
  clear hbad HE;go_enter Tryz.func114,Tryz.ntmps114;go_wp2_with (go_at_call 67;refine (NI.out _).mono ?_;rintro e w1 ⟨rfl,rfl⟩)
  go_ret;exact ⟨by rw [HV.out];rfl,(ji7 _ _).alloc (ji8 _) _⟩
 have hgood:id.toList.isEmpty=true\/(id.toList.isEmpty=false/\jA id=true):=by
  rw [dG];cases h1:bI id
  ·right;refine ⟨rfl,?_⟩;cases h2:jA id
   ·exact absurd ⟨h1,h2⟩ hbad
   ·rfl
  ·left;rfl
 have HE2:Hid (V=if fu [] cls≠0 then fu [] cls else if dJ [] aR≠0 then dJ [] aR else if 32<cls.length\/32<aR.length then 3 else 0):=by show V=_;rw [HE.out,if_neg hbad]
 obtain ⟨w1,hw1⟩:∃ w1,w1=(w.alloc (.cells #[.string id,.slice a1 cls.length c1,.slice a2 aR.length c2] 27)).alloc (.map #[] 0):=⟨_,rfl⟩;have R0:Hid (NY 27 w.heap.size [.string id,.slice a1 cls.length c1,.slice a2 aR.length c2] w (w.heap.size+1) cls (fu [] cls) (.int .i64 0) w1):=by
  refine ⟨0,jj3 _,rfl,⟨?_,?_,?_,by omega,by omega,ji8 _⟩,rfl⟩
  ·rw [hw1];exact (CB.new _ _ w).below ((ji7 _ _).alloc (ji8 _) _)
  ·rw [hw1];have:=eO.made (w.alloc (.cells #[.string id,.slice a1 cls.length c1,.slice a2 aR.length c2] 27))
   rwa [World.size_alloc] at this
  ·rw [hw1];exact ((ji7 _ _).alloc (ji8 _) _).alloc (by simp) _
 have HW1:=hid hw1;obtain ⟨E1,hE1⟩:∃ E1,E1=fu [] cls:=⟨_,rfl⟩;obtain ⟨E2,hE2⟩:∃ E2,E2=dJ [] aR:=⟨_,rfl⟩;rw [<- hE1] at HE2 R0;rw [<- hE2] at HE2;have jd8:=hid hE2;clear hbad HE hw1 hE1 hE2;have hmm:=@run_makeMap Tryz.prog;rcases hgood with hie | ⟨hie,hnm⟩
 case' inl=>
  clear NI;go_enter Tryz.func114,Tryz.ntmps114;go_wp2;rw [<- HW1.out];clear hmm
 case' inr=>
  rw [hnm] at NI;clear hnm;go_enter Tryz.func114,Tryz.ntmps114;go_wp2_with (go_at_call 67;refine (NI.out _).mono ?_;rintro e w1 ⟨rfl,rfl⟩)
  rw [<- HW1.out];clear hmm
 all_goals
  go_loopw [21] (fun i wr=>NY 27 w.heap.size [.string id,.slice a1 cls.length c1,.slice a2 aR.length c2] w (w.heap.size+1) cls E1 i wr) (fun i _=>cls.length-(intOf i).toNat)
  case atStart=>exact R0.out
  case round=>
   clear R0;obtain ⟨k,hk,rfl,qz,bR⟩:=hrel;have PX:=hid qz;by_cases hlt:k<cls.length
   ·obtain ⟨x,hx⟩:∃ x,cls[k]?=some x:=⟨_,ji6 hlt⟩;obtain ⟨b,off,rfl,-,-,c0⟩:=pG H1.out hx;have c0:wr.cell? ⟨b,off+k,none⟩=some (.string x):=by rw [qz.2.2.1.cell (p:=⟨b,off+k,none⟩) (Fa c0)];exact c0
    have hxs:=SC.out x (jj4 hx);have CN:=hid (fun w=>Ld x w (by omega));have hlk:=qz.2.1.look x (by unfold maxLen;omega);obtain ⟨w',hup,hS',hg⟩:=qz.2.1.put x (by unfold maxLen;omega) (by unfold maxLen;omega);have Yg:=hid (qz.put hg hS');rw [l8] at hlk;rw [PS cls k x hx,fu] at bR;have Sm:Hid (cls.take (k+1)=cls.take k++[x]):=by show _=_;rw [jjk,hx];rfl
    have fM:=hid bR;clear bR hS' hg qz hx;cases hn:jA x with
    | false=>
     rw [hn] at CN;have HV:Hid (V=6):=by show V=6;have:=fM.out;rw [if_pos hn] at this;rw [HE2.out,<- this];rfl
     clear hn hup;go_wp2_with fail
     refine (CN.out _).mono ?_;rintro e w3 ⟨rfl,rfl⟩;go_wp2;go_ret;exact ⟨by rw [HV.out];rfl,PX.out.2.2.1⟩
    | true=>
     rw [hn] at CN;cases hb:hasB (cls.take k) x with
     | true=>
      rw [hb] at hlk;have HV:Hid (V=7):=by show V=7;have:=fM.out;rw [if_neg (by rw [hn];decide),if_pos hb] at this;rw [HE2.out,<- this];rfl
      clear hn hb hup;go_wp2_with fail
      refine (CN.out _).mono ?_;rintro e w3 ⟨rfl,rfl⟩;go_wp2;go_ret;exact ⟨by rw [HV.out];rfl,PX.out.2.2.1⟩
     | false=>
      rw [hb] at hlk;have Sn:Hid (fu (cls.take (k+1)) (cls.drop (k+1))=E1):=by show _=_;have:=fM.out;rw [if_neg (by rw [hn];decide),if_neg (by rw [hb];decide)] at this;rw [Sm.out];exact this
      clear hn hb;go_wp2_with fail
      refine (CN.out _).mono ?_;rintro e w3 ⟨rfl,rfl⟩;go_wp2;go_roundw;case rel=>exact ⟨k+1,by omega,by go_num,by rw [Sm.out,List.reverse_append];exact Yg.out,Sn.out⟩
      case measure=>simp [intOf];omega
   ·obtain rfl:k=cls.length:=by omega
    have Rh:Hid (E1=0):=by show E1=0;rw [List.drop_length,fu] at bR;exact bR.symm
    obtain ⟨w2,hcl,hS2,hg2⟩:∃ w2,(∀ ty,(Builtin.clear_ #[138] ty #[.map (some (w.heap.size+1))]).run Tryz.prog wr=.ok (.tuple #[]) w2)/\eO w2 (w.heap.size+1) 0 []/\wr.grownBy w2 (some (w.heap.size+1)):=by obtain ⟨w2,h1,h2,h3⟩:=qz.2.1.cleared 0;exact ⟨w2,fun ty=>h1,h2,h3⟩
    have R2:Hid (NZ 27 w.heap.size [.string id,.slice a1 cls.length c1,.slice a2 aR.length c2] w (w.heap.size+1) aR E2 (.int .i64 0) w2):=⟨0,jj3 _,rfl,qz.put hg2 hS2,jd8.out.symm⟩;have p2:w2.cell? ⟨w.heap.size,2,none⟩=some (.slice a2 aR.length c2):=(qz.put hg2 hS2).1.cell 2 _ rfl;clear bR qz PX hS2 hg2 hk hlt;go_wp2
    go_loopw [38] (fun i wr=>NZ 27 w.heap.size [.string id,.slice a1 cls.length c1,.slice a2 aR.length c2] w (w.heap.size+1) aR E2 i wr) (fun i _=>aR.length-(intOf i).toNat)
    case atStart=>exact R2.out
    case round=>
     clear R2 hcl p2;obtain ⟨k,hk,rfl,qz,bR⟩:=hrel;have PX:=hid qz;by_cases hlt:k<aR.length
     ·obtain ⟨x,hx⟩:∃ x,aR[k]?=some x:=⟨_,ji6 hlt⟩;obtain ⟨b,off,rfl,-,-,c0,c1'⟩:=uS H2.out hx;have c0:wr.cell? ⟨b,off+k*2,none⟩=some (.string x.key):=by rw [qz.2.2.1.cell (p:=⟨b,off+k*2,none⟩) (Fa c0)];exact c0
      have c1':wr.cell? ⟨b,off+k*2+1,none⟩=some (.string x.val):=by rw [qz.2.2.1.cell (p:=⟨b,off+k*2+1,none⟩) (Fa c1')];exact c1'
      have hxs:=SP.out x (jj4 hx);have HX:=hid hx;have fM:Hid (dJ ((aR.take k).map Pr.key) (x::aR.drop (k+1))=E2):=by show _=_;rw [<- PS aR k x hx];exact bR
      obtain ⟨key,val⟩:=x;dsimp only at c0 c1' hxs;have CN:=hid (fun w=>Ld key w (by omega));have CV:=hid (fun w=>za val w (by omega));have Sm:Hid ((aR.take (k+1)).map Pr.key=(aR.take k).map Pr.key++[key]):=by show _=_;rw [jjk,HX.out];simp
      obtain ⟨wi,hwi⟩:∃ wi,wi=wr.alloc (.cells #[.string key,.string val] 74):=⟨_,rfl⟩;have Cn:=qz.alloc (.cells #[.string key,.string val] 74);rw [<- hwi] at Cn;have i0:wi.cell? ⟨wr.heap.size,0,none⟩=some (.string key):=by rw [hwi];exact FI wr [.string key,.string val] _ 0 _ rfl
      have i1:wi.cell? ⟨wr.heap.size,1,none⟩=some (.string val):=by rw [hwi];exact FI wr [.string key,.string val] _ 1 _ rfl
      have Ph:=hid Cn;clear bR qz hx;cases hn:jA key with
      | false=>
       rw [hn] at CN;have HV:Hid (V=6):=by show V=6;have:=fM.out;rw [dJ,if_pos hn] at this;rw [HE2.out,Rh.out,<- this];rfl
       clear hn;go_upto_region 17 with (fail)
       rw [<- hwi];clear hwi Cn;go_wp2_with fail
       refine (CN.out _).mono ?_;rintro e w3 ⟨rfl,rfl⟩;go_wp2;go_ret;exact ⟨by rw [HV.out];rfl,Ph.out.2.2.1⟩
      | true=>
       rw [hn] at CN;cases hln:iH val with
       | false=>
        rw [hln] at CV;have HV:Hid (V=17):=by show V=17;have:=fM.out;rw [dJ,if_neg (by rw [hn];decide),if_pos hln] at this;rw [HE2.out,Rh.out,<- this];rfl
        clear hn hln;go_upto_region 17 with (fail)
        rw [<- hwi];clear hwi Cn;go_wp2_with fail
        refine (CN.out _).mono ?_;rintro e w3 ⟨rfl,rfl⟩;go_wp2_with fail
        refine (CV.out _).mono ?_;rintro e w3 ⟨rfl,q,rfl⟩;go_wp2;go_ret;exact ⟨by rw [HV.out];rfl,ig Ph.out.2.2.1 q⟩
       | true=>
        rw [hln] at CV;have Yf:=hid (fun q=>(Cn.drewN q).2.1.look key (by unfold maxLen;omega));have UH:=hid (fun q=>(Cn.drewN q).2.1.put key (by unfold maxLen;omega) (by unfold maxLen;omega));cases hb:hasB ((aR.take k).map Pr.key) key with
        | true=>
         have HV:Hid (V=7):=by show V=7;have:=fM.out;rw [dJ,if_neg (by rw [hn];decide),if_neg (by rw [hln];decide),if_pos hb] at this;rw [HE2.out,Rh.out,<- this];rfl
         have HB:=hid hb;clear hn hln hb;go_upto_region 17 with (fail)
         rw [<- hwi];clear hwi Cn;go_wp2_with fail
         refine (CN.out _).mono ?_;rintro e w3 ⟨rfl,rfl⟩;go_wp2_with fail
         refine (CV.out _).mono ?_;rintro e w3 ⟨rfl,q,rfl⟩;have hlk:=Yf.out q;rw [l8,HB.out] at hlk;go_wp2;go_ret;exact ⟨by rw [HV.out];rfl,ig Ph.out.2.2.1 q⟩
        | false=>
         have Sn:Hid (dJ ((aR.take (k+1)).map Pr.key) (aR.drop (k+1))=E2):=by show _=_;have:=fM.out;rw [dJ,if_neg (by rw [hn];decide),if_neg (by rw [hln];decide),if_neg (by rw [hb];decide)] at this;rw [Sm.out];exact this
         have HB:=hid hb;clear hn hln hb;go_upto_region 17 with (fail)
         rw [<- hwi];clear hwi Cn;go_wp2_with fail
         refine (CN.out _).mono ?_;rintro e w3 ⟨rfl,rfl⟩;go_wp2_with fail
         refine (CV.out _).mono ?_;rintro e w3 ⟨rfl,q,rfl⟩;have hlk:=Yf.out q;rw [l8,HB.out] at hlk;obtain ⟨w',hup,hS',hg⟩:=UH.out q;have Yg:=hid ((Ph.out.drewN q).put hg hS');clear hS' hg;go_wp2;go_roundw;case rel=>exact ⟨k+1,by omega,by go_num,by rw [Sm.out,List.reverse_append];exact Yg.out,Sn.out⟩
         case measure=>simp [intOf];omega
     ·obtain rfl:k=aR.length:=by omega
      have HV:Hid (V=if 32<cls.length\/32<aR.length then 3 else 0):=by show V=_;rw [List.drop_length,dJ] at bR;rw [HE2.out,Rh.out,<- bR];rfl
      have p1:wr.cell? ⟨w.heap.size,1,none⟩=some (.slice a1 cls.length c1):=qz.1.cell 1 _ rfl;have p2:wr.cell? ⟨w.heap.size,2,none⟩=some (.slice a2 aR.length c2):=qz.1.cell 2 _ rfl;clear bR qz hk hlt;by_cases h1:32<cls.length
      ·have q1:decide ((32:Int)<(cls.length:Int))=true:=by simp;omega
       go_wp2;go_ret;exact ⟨by rw [HV.out,if_pos (.inl h1)];rfl,PX.out.2.2.1⟩
      ·have q1:decide ((32:Int)<(cls.length:Int))=false:=by simp;omega
       by_cases h2:32<aR.length
       ·have q2:decide ((32:Int)<(aR.length:Int))=true:=by simp;omega
        go_wp2;go_ret;exact ⟨by rw [HV.out,if_pos (.inr h2)];rfl,PX.out.2.2.1⟩
       ·have q2:decide ((32:Int)<(aR.length:Int))=false:=by simp;omega
        go_wp2;go_ret;exact ⟨by rw [HV.out,if_neg (by omega)];rfl,PX.out.2.2.1⟩
open Go.RowKit
theorem aj.EA (l:List aj) (k:Nat) (x:aj) (h:l[k]?=some x):aj.aY (l.take k)+x.sz<=aj.aY l:=by
 have h1:aj.aY (l.take (k+1))<=aj.aY l:=by have:=aj.Jh (l.take (k+1)) (l.drop (k+1));rw [List.take_append_drop] at this;omega
 rw [aj.xq h] at h1;exact h1
theorem ah.Kw (l:List ah) (k:Nat) (x:ah) (h:l[k]?=some x):ah.bY (l.take k)+x.all<=ah.bY l:=by
 have h1:ah.bY (l.take (k+1))<=ah.bY l:=by have:=ah.ED (l.take (k+1)) (l.drop (k+1));rw [List.take_append_drop] at this;omega
 rw [ah.kR h] at h1;exact h1
theorem ah.Ri (x:ah):1<=x.all:=by cases x;rw [ah.all];omega
theorem ah.Ji:∀ (l:List ah),l.length<=ah.bY l
 | []=>by simp
 | x::l=>by have:=ah.Ji l;have:=x.Ri;rw [ah.bY];simp;omega
theorem jd9 {P:Program} {f:FuncId} {args:Array jlk} {w:jl9} {a n:Nat} {v:jlk} (h:Calls P f args (w.drewN (a+n)) fun e w'=>e=.returned v/\w.drewN (a+n)=w') : Calls P f args (w.drewN (a+n)) fun e w''=>e=.returned v/\∃ m,w''=w.drewN (a+m):=h.mono fun _ _ ⟨he,hm⟩=>⟨he,n,hm.symm⟩
theorem jdj {P:Program} {f:FuncId} {args:Array jlk} {w:jl9} {a n:Nat} {v:jlk} (h:Calls P f args (w.drewN (a+n)) (Dr v (w.drewN (a+n)))) : Calls P f args (w.drewN (a+n)) fun e w''=>e=.returned v/\∃ m,w''=w.drewN (a+m):=h.mono fun _ _ ⟨he,m,hm⟩=>⟨he,n+m,by rw [hm,World.drewN_drewN,Nat.add_assoc]⟩
def TK (l:List aj) (vn vi:jlk):Prop:=∃ k n:Nat,k<=l.length/\vi=.int .i64 k/\vn=.int .i64 n/\n=aj.aY (l.take k)+(l.length-k)
def TM (l:List ah) (w:jl9) (vn vi:jlk) (wr:jl9):Prop:=∃ k n q:Nat,k<=l.length/\vi=.int .i64 k/\vn=.int .i64 n/\n=ah.bY (l.take k)+(l.length-k)/\wr=w.drewN q
theorem xu (n:Nat):∀ (l:List aj) (ok:Nat->Prop) (v:jlk) (w:jl9),aj.aY l<=n->n<=1000000->Rd ok w (bG l) [v] -> Calls Tryz.prog 209 #[v] w fun e w'=>e=.returned (.int .i64 (aj.aY l:Nat))/\w=w':=by
 induction n using Nat.strongRecOn with
 | _ n ih=>
  intro l ok v w hn hnm h1;obtain ⟨a,cap,hv,hs⟩:=Rd.aG h1;obtain rfl:v=.slice a l.length cap:=by simpa using hv
  have hcap:l.length<=cap:=by simpa using hs.le
  have hmx:=hs.max;unfold maxLen at hmx;have HS:=hid hs;have IH:=hid ih;have R0:Hid (TK l (.int .i64 (l.length:Int)) (.int .i64 0)):=⟨0,l.length,jj3 _,rfl,rfl,by rw [List.take_zero,aj.aY];simp⟩;clear hs hv h1 ih;go_enter Tryz.func209,Tryz.ntmps209;go_wp2
  go_loop [3,9] (fun vn vi=>TK l vn vi) (fun _ i=>l.length-(intOf i).toNat)
  case atStart=>exact R0.out
  case round=>
   clear R0;obtain ⟨k,m,hk,rfl,rfl,hm⟩:=hrel;by_cases hlt:k<l.length
   ·obtain ⟨x,hx⟩:∃ x,l[k]?=some x:=⟨_,ji6 hlt⟩;have hsz:=aj.EA l k _ hx;have hsn:=aj.xq hx;obtain ⟨kd,t,d,ti,at_,ar,ci,ks⟩:=x;obtain ⟨g,off,vc,vp,va,vi,vk,rfl,hok,hbl,hc,hR⟩:=iQ HS.out hx;rw [aj.sz] at hsz hsn;obtain ⟨ak,nk,ck,rfl⟩:=Rd.Ll hR.kids;have p9:=hc.c9;have CK:=hid (IH.out (aj.aY ks) (by omega) ks ok (.slice ak nk ck) w (ji8 _) (by omega) hR.kids);have HM:Hid (m+aj.aY ks=aj.aY (l.take (k+1))+(l.length-(k+1))):=by show _=_;omega
    have hlm:l.length-k<=1000000:=by have:=aj.dB l;omega
    have hmb:m+aj.aY ks<=3000000:=by omega
    generalize aj.aY ks=K at *;clear hc hR hx hm hsn hsz hlm;go_wp2_with fail
    refine CK.out.mono ?_;rintro e w1 ⟨rfl,rfl⟩;go_wp2
    go_round
    case rel=>exact ⟨k+1,m+K,by omega,by go_num,by go_num,HM.out⟩
    case measure=>simp [intOf];omega
   ·obtain rfl:k=l.length:=by omega
    have hv:m=aj.aY l:=by rw [hm,List.take_length];omega
    have HV:=hid hv;clear hv hm;go_wp2;go_ret;exact ⟨by rw [<- HV.out];rfl,rfl⟩
theorem qZ (n:Nat):∀ (l:List ah) (ok:Nat->Prop) (v:jlk) (w:jl9),ah.bY l<=n->n<=1000000->Rd ok w (jg l) [v] -> Calls Tryz.prog 166 #[v] w (Dr (.int .i64 (ah.bY l:Nat)) w):=by
 induction n using Nat.strongRecOn with
 | _ n ih=>
  intro l ok v w hn hnm h1;obtain ⟨a,cap,hv,hs⟩:=Rd.aG h1;obtain rfl:v=.slice a l.length cap:=by simpa using hv
  have hcap:l.length<=cap:=by simpa using hs.le
  have hmx:=hs.max;unfold maxLen at hmx;have HS:=hid hs;have IH:=hid ih;have R0:Hid (TM l w (.int .i64 (l.length:Int)) (.int .i64 0) w):=⟨0,l.length,0,jj3 _,rfl,rfl,by rw [List.take_zero,ah.bY];simp,rfl⟩;clear hs hv h1 ih;go_enter Tryz.func166,Tryz.ntmps166;go_wp2
  go_loopw [3,9] (fun vn vi wr=>TM l w vn vi wr) (fun _ i _=>l.length-(intOf i).toNat)
  case atStart=>exact R0.out
  case round=>
   clear R0;obtain ⟨k,m,q,hk,rfl,rfl,hm,rfl⟩:=hrel;by_cases hlt:k<l.length
   ·obtain ⟨x,hx⟩:∃ x,l[k]?=some x:=⟨_,ji6 hlt⟩;have hsz:=ah.Kw l k _ hx;have hsn:=ah.kR hx;obtain ⟨kd,lv,i,t,d,ti,at_,li,ks⟩:=x;obtain ⟨g,off,vc,vp,vl,vk,rfl,hok,hbl,hc,hR⟩:=eP HS.out hx;rw [ah.all] at hsz hsn;obtain ⟨ak,nk,ck,rfl⟩:=Rd.Ll hR.kids;obtain ⟨al,nl,cl,rfl⟩:=Rd.Ll hR.line;have p9:=hc.c9;have LW:=hc.c10;have hst:∀ q,zB ok ok w (w.drewN q):=fun q b h _=>⟨h,rfl⟩
    have CL:=hid (fun q=>xu _ li ok (.slice al nl cl) (w.drewN q) (ji8 _) (by omega) (Rd.keep (hst q) _ _ hR.line));have CK:=hid (fun q=>IH.out (ah.bY ks) (by omega) ks ok (.slice ak nk ck) (w.drewN q) (ji8 _) (by omega) (Rd.keep (hst q) _ _ hR.kids));have HM:Hid (m+(aj.aY li+ah.bY ks)=ah.bY (l.take (k+1))+(l.length-(k+1))):=by show _=_;omega
    have hlm:l.length-k<=1000000:=by have:=ah.Ji l;omega
    have hmb:m+(aj.aY li+ah.bY ks)<=3000000:=by omega
    generalize aj.aY li=L at *;generalize ah.bY ks=K at *;have s1:IntKind.i64.wrap ((L:Int)+(K:Int))=(L:Int)+(K:Int):=iX (by omega) (by omega);have s2:IntKind.i64.wrap ((m:Int)+((L:Int)+(K:Int)))=(m:Int)+((L:Int)+(K:Int)):=iX (by omega) (by omega);clear hc hR hx hm hsn hsz hlm hst;go_wp2_with fail
    go_quiet ((first | (go_at_call 209;exact jd9 (CL.out _)) | (go_at_call 166;exact jdj (CK.out _))))
    clear s1 s2;go_wp2;go_roundw;case rel=>exact ⟨k+1,m+(L+K),_,by omega,by go_num,by go_num,HM.out,rfl⟩
    case measure=>simp [intOf];omega
   ·obtain rfl:k=l.length:=by omega
    have hv:m=ah.bY l:=by rw [hm,List.take_length];omega
    have HV:=hid hv;clear hv hm;go_wp2;go_ret;exact ⟨by rw [<- HV.out];rfl,q,rfl⟩
open Go.RowKit
theorem JR (l:List ah) (am ab:Option Addr) (nm cm nb cb:Nat) (w:jl9) (hn:ah.bY l<=1000000) (h:Rd (·<w.heap.size) w (jg l) [.slice ab nb cb]) : Calls Tryz.prog 111 #[.agg #[.slice am nm cm,.slice ab nb cb]] w (dS (.int .i64 (ah.bY l:Nat)) w):=by
 have hb0:Below w.heap.size w (w.alloc (.cells #[.slice am nm cm,.slice ab nb cb] 32)):=(ji7 _ _).alloc (ji8 _) _;have SZ:=hid (qZ _ l _ _ _ (ji8 _) hn (h.up hb0));have HB:=hid hb0;generalize ah.bY l=N at *;clear h hb0;go_enter Tryz.func111,Tryz.ntmps111;go_wp2_with fail
 refine SZ.out.mono ?_;rintro e w1 ⟨rfl,q,rfl⟩;go_wp2;go_ret;exact ⟨rfl,ig HB.out q⟩
open Go.RowKit
open Go.RowKit
open Go.RowKit
open Go.RowKit
end Go.Proofs.YtclikfjalmcoaaaGreatDoor

