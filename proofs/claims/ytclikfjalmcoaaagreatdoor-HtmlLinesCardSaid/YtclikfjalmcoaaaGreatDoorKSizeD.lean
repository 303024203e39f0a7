/- Contracts of attr.Empty, tree.oneOf, anyKind, inlineFields. The contract of attr.Check: the first error of attributes. publisherref04.count, sizes, Size, Depth; tree.sizeOfLine, sizeOfBlocks, Size, Depth. Size and Depth of documents, of tree and of the reference. -/
import Derived.Test.YtclikfjalmcoaaaGreatDoorKChA
import Derived.Test.YtclikfjalmcoaaaGreatDoorKSmall
import Derived.Test.YtclikfjalmcoaaaGreatDoorKInlsW
set_option maxHeartbeats 8000000
set_option maxRecDepth 100000
open Go.Lib (hid)
namespace Go.Proofs.YtclikfjalmcoaaaGreatDoor
open List renaming getElem?_eq_getElem->jh0,mem_of_getElem?->jhx,take_add_one->ji5
open Go.RowKit.Below renaming refl->jh1
open Nat renaming le_refl->jh2,zero_le->jhq
open Go renaming World->jk3,Value->jk5
open Go.RowKit
set_option linter.unusedVariables false
set_option linter.unusedSimpArgs false
def bR (v:jk5) (w:jk3) (e:Ending) (w':jk3):Prop:=e=.returned v/\Below w.heap.size w w'
theorem nE {α:Type} (l:List α):(((l.length:Nat):Int)==0)=l.isEmpty:=by
 cases l with
 | nil=>rfl
 | cons x l=>simp;omega
theorem pY (a:At) (ac ap:Option Addr) (cc cp:Nat) (w:jk3) (hc:a.cls.length<=maxLen) (hp:a.aF.length<=maxLen) : Calls Tryz.prog 179 #[.agg #[.string a.id,.slice ac a.cls.length cc,.slice ap a.aF.length cp]] w (bR (.bool a.none) w):=by
 obtain ⟨id,cls,aF⟩:=a;dsimp only at hc hp ⊢;have h1:=sD id;have h2:=nE cls;have h3:=nE aF;have HV:Hid (At.none ⟨id,cls,aF⟩=(aT id&&cls.isEmpty&&aF.isEmpty)):=rfl;generalize At.none ⟨id,cls,aF⟩=V at *;generalize aT id=b1 at *;generalize cls.isEmpty=b2 at *;generalize aF.isEmpty=b3 at *;cases b1<;>cases b2<;>cases b3
 all_goals
  go_enter Tryz.func179,Tryz.ntmps179;go_wp2;go_ret;exact ⟨by rw [HV.out];rfl,(jh1 _ _).alloc (jh2 _) _⟩
def Kk (n:Int) (ks:List Int) (vi:jk5):Prop:=∃ k:Nat,k<=ks.length/\vi=.int .i64 k/\(ks.take k).contains n=false
theorem kN (n:Int) (ks:List Int) (g cap:Nat) (w:jk3) (hl:ks.length<=1000) (hc:∀ j k,ks[j]?=some k->w.cell? ⟨g,j,none⟩=some (.int .i64 k)) : Calls Tryz.prog 147 #[.int .i64 n,.slice (some ⟨g,0,none⟩) ks.length cap] w fun e w'=>e=.returned (.bool (ks.contains n))/\w=w':=by
 have HC:=hid hc;have R0:Hid (Kk n ks (.int .i64 0)):=⟨0,jhq _,rfl,by simp⟩;obtain ⟨V,hV⟩:∃ V,V=ks.contains n:=⟨_,rfl⟩;rw [<- hV];have HV:=hid hV;clear hc hV;go_enter Tryz.func147,Tryz.ntmps147;go_wp2
 go_loop [9] (fun i=>Kk n ks i) (fun i=>ks.length-(intOf i).toNat)
 case atStart=>exact R0.out
 case round=>
  clear R0;obtain ⟨k,hk,rfl,hno⟩:=hrel;have HN:=hid hno;clear hno;by_cases hlt:k<ks.length
  ·obtain ⟨x,hx⟩:∃ x,ks[k]?=some x:=⟨_,jh0 hlt⟩;have hcell:=HC.out k x hx;have HT:Hid ((ks.take (k+1)).contains n=((ks.take k).contains n||(n==x))):=by
    show _=_;rw [ji5,hx,Bool.eq_iff_iff];simp
   have HX:=hid hx;clear hx;cases hnx:(n==x)
   ·rw [hnx] at HT;go_wp2
    go_round
    case rel=>exact ⟨k+1,by omega,by go_num,by rw [HT.out,HN.out];rfl⟩
    case measure=>simp [intOf];omega
   ·have HE:Hid (V=true):=by
     show V=true;rw [HV.out,List.contains_iff_mem];have:n=x:=by simpa using hnx
     rw [this];exact jhx HX.out
    go_wp2;go_ret;exact ⟨by rw [HE.out];rfl,rfl⟩
  ·have HE:Hid (V=false):=by
    show V=false;rw [HV.out];have:=HN.out
    rwa [List.take_of_length_le (by omega)] at this
   go_wp2;go_ret;exact ⟨by rw [HE.out];rfl,rfl⟩
def Uw (l:List aj) (ks:List Int) (vi:jk5):Prop:=∃ k:Nat,k<=l.length/\vi=.int .i64 k/\aj.cO ks (l.take k)=false
theorem aj.F4 (ks:List Int):∀ (l m:List aj),aj.cO ks (l++m)=(aj.cO ks l||aj.cO ks m)
 | [],m=>by rw [List.nil_append,aj.cO];rfl
 | x::l,m=>by rw [List.cons_append,aj.cO,aj.cO,aj.F4 ks l m,Bool.or_assoc]
theorem aj.Bq (ks:List Int) {l:List aj} {k:Nat} {x:aj} (hx:l[k]?=some x):aj.cO ks (l.take (k+1))=(aj.cO ks (l.take k)||x.Iz ks):=by rw [ji5,hx,aj.F4,Option.toList_some,aj.cO,aj.cO,Bool.or_false]
theorem aj.yM (ks:List Int):∀ {l:List aj} {k:Nat} {x:aj},l[k]?=some x->x.Iz ks=true->aj.cO ks l=true
 | [],_,_,h,_=>by simp at h
 | y::l,0,x,h,hx=>by simp at h;subst h;rw [aj.cO,hx];rfl
 | y::l,k+1,x,h,hx=>by rw [aj.cO,aj.yM ks (l:=l) (k:=k) (by simpa using h) hx,Bool.or_true]
theorem tX (n:Nat):∀ (l:List aj) (ok:Nat->Prop) (v:jk5) (ks:List Int) (g cap:Nat) (w:jk3),aj.aZ l<=n->Rd ok w (bC l) [v]->ks.length<=1000->(∀ j k,ks[j]?=some k->w.cell? ⟨g,j,none⟩=some (.int .i64 k)) -> Calls Tryz.prog 217 #[v,.slice (some ⟨g,0,none⟩) ks.length cap] w fun e w'=>e=.returned (.bool (aj.cO ks l))/\w=w':=by
 induction n using Nat.strongRecOn with
 | _ n ih=>
  intro l ok v ks g cap w hn hrd hks hc;obtain ⟨a,cp,hv,hs⟩:=Rd.aB hrd;obtain rfl:v=.slice a l.length cp:=by simpa using hv
  have hcap:l.length<=cp:=by simpa using hs.le
  have hmx:=hs.max;unfold maxLen at hmx;have HS:=hid hs;have IH:=hid ih;have HC:=hid hc;have OO:=hid (fun n=>kN n ks g cap w hks hc);have R0:Hid (Uw l ks (.int .i64 0)):=⟨0,jhq _,rfl,by rw [List.take_zero,aj.cO]⟩;obtain ⟨V,hV⟩:∃ V,V=aj.cO ks l:=⟨_,rfl⟩;rw [<- hV];have HV:=hid hV;clear hs hv hrd ih hc hV;go_enter Tryz.func217,Tryz.ntmps217;go_wp2
  go_loop [8] (fun i=>Uw l ks i) (fun i=>l.length-(intOf i).toNat)
  case atStart=>exact R0.out
  case round=>
   clear R0;obtain ⟨k,hk,rfl,hno⟩:=hrel;have HN:=hid hno;clear hno;by_cases hlt:k<l.length
   ·obtain ⟨x,hx⟩:∃ x,l[k]?=some x:=⟨_,jh0 hlt⟩;have hsn:=aj.Bq ks hx;have HG:=hid (aj.yM ks hx);obtain ⟨kd,t,d,ti,at_,ar,ci,kids⟩:=x;obtain ⟨b,off,vc,vp,va,vi,vk,rfl,hok,hbl,hcl,hR⟩:=Jp HS.out hx;obtain ⟨c0,-,-,-,-,-,-,-,-,c9⟩:=hcl;have hsz:=aj.bE l k _ hx;rw [aj.sz] at hsz;have AK:=hid (IH.out (aj.aZ kids) (by omega) kids ok vk ks g cap w (jh2 _) hR.kids hks HC.out);obtain ⟨ak,nk,ck,rfl⟩:=Rd.DN hR.kids;have OK:=hid (OO.out kd);have HX:Hid ((aj.mk kd t d ti at_ ar ci kids).Iz ks=(ks.contains kd||aj.cO ks kids)):=by show _=_;rw [aj.Iz]
    have iE:=hid hsn;clear hx hR hsn;cases h1:ks.contains kd with
    | true=>
     rw [h1] at OK HX;have HE:Hid (V=true):=by show V=true;rw [HV.out];exact HG.out (by rw [HX.out];rfl)
     clear h1;go_wp2_with fail
     refine OK.out.mono ?_;rintro e w1 ⟨rfl,rfl⟩;go_wp2;go_ret;exact ⟨by rw [HE.out];rfl,rfl⟩
    | false=>
     rw [h1] at OK HX;cases h2:aj.cO ks kids with
     | true=>
      rw [h2] at AK HX;have HE:Hid (V=true):=by show V=true;rw [HV.out];exact HG.out (by rw [HX.out];rfl)
      clear h1 h2;go_wp2_with fail
      refine OK.out.mono ?_;rintro e w1 ⟨rfl,rfl⟩;go_wp2_with fail
      refine AK.out.mono ?_;rintro e w1 ⟨rfl,rfl⟩;go_wp2;go_ret;exact ⟨by rw [HE.out];rfl,rfl⟩
     | false=>
      rw [h2] at AK HX;clear h1 h2;go_wp2_with fail
      refine OK.out.mono ?_;rintro e w1 ⟨rfl,rfl⟩;go_wp2_with fail
      refine AK.out.mono ?_;rintro e w1 ⟨rfl,rfl⟩;go_wp2
      go_round
      case rel=>exact ⟨k+1,by omega,by go_num,by rw [iE.out,HN.out,HX.out];rfl⟩
      case measure=>simp [intOf];omega
   ·have HE:Hid (V=false):=by
     show V=false;rw [HV.out];have:=HN.out
     rwa [List.take_of_length_le (by omega)] at this
    go_wp2;go_ret;exact ⟨by rw [HE.out];rfl,rfl⟩
open Go.RowKit
theorem iM (l:List ByteArray) (x:ByteArray):fF l.reverse x=fF l x:=by rw [Bool.eq_iff_iff,wK,wK,List.mem_reverse]
theorem eP.cleared {w:jk3} {b n:Nat} {S:List ByteArray} (h:eP w b n S) (ty:TypeId) : ∃ w',(Builtin.clear_ #[138] ty #[.map (some b)]).run Tryz.prog w=.ok (.tuple #[]) w'/\eP w' b 0 []/\w.grownBy w' (some b):=by
 obtain ⟨D,⟨es,clock,hb,F,hsz,hD⟩,hat⟩:=h;have hr:∃ clock',(Builtin.clear_ #[138] ty #[.map (some b)]).run Tryz.prog w=.ok (.tuple #[]) { w with heap:=w.heap.setIfInBounds b (.map #[] clock') }:=by refine ⟨clock,?_⟩;simp [Builtin.clear_,run_underlying Tryz.underlying138,MapKept.run_getObj_map hb,MapKept.run_setObj_map _ hb,Result.andThen]
 obtain ⟨clock',hrun⟩:=hr;have hs:=MapKept.heap_set (o':=.map #[] clock') hb;refine ⟨_,hrun,⟨.map [],⟨#[],clock',hs.1,⟨by simp,MapKept.stamped_empty clock',by simp⟩,jh2 _,rfl⟩,fun s=>rfl⟩,rfl,rfl,rfl,?_,fun i _ hne=>hs.2 i (fun e=>hne (by rw [e]))⟩;simp
def Mk (T:TypeId) (p:Nat) (cs:List jk5) (w:jk3) (mb n:Nat) (S:List ByteArray) (wr:jk3):Prop:=CB T p cs wr/\eP wr mb n S/\Below w.heap.size w wr/\w.heap.size<=mb/\p≠mb/\w.heap.size<=p
theorem Mk.put {T:TypeId} {p:Nat} {cs:List jk5} {w:jk3} {mb n n':Nat} {S S':List ByteArray} {wr w':jk3} (h:Mk T p cs w mb n S wr) (hg:wr.grownBy w' (some mb)) (hs:eP w' mb n' S'):Mk T p cs w mb n' S' w':=
 ⟨(hg.block p h.1.lt (fun e=>h.2.2.2.2.1 (by injection e))).trans h.1,hs,h.2.2.1.grown hg h.2.2.1.size (fun j hj=>by cases hj;exact h.2.2.2.1),h.2.2.2⟩
theorem Mk.alloc {T:TypeId} {p:Nat} {cs:List jk5} {w:jk3} {mb n:Nat} {S:List ByteArray} {wr:jk3} (h:Mk T p cs w mb n S wr) (o:Obj):Mk T p cs w mb n S (wr.alloc o):=
 ⟨h.1.below ((jh1 _ _).alloc (jh2 _) _),h.2.1.below ((jh1 _ _).alloc (jh2 _) _),h.2.2.1.alloc h.2.2.1.size _,h.2.2.2⟩
theorem Mk.drewN {T:TypeId} {p:Nat} {cs:List jk5} {w:jk3} {mb n:Nat} {S:List ByteArray} {wr:jk3} (h:Mk T p cs w mb n S wr) (q:Nat):Mk T p cs w mb n S (wr.drewN q):=
 ⟨h.1,h.2.1,eD h.2.2.1 q,h.2.2.2⟩
def Jm (T:TypeId) (p:Nat) (cs:List jk5) (w:jk3) (mb:Nat) (l:List ByteArray) (E:Nat) (vi:jk5) (wr:jk3):Prop:=
 ∃ k:Nat,k<=l.length/\vi=.int .i64 k/\Mk T p cs w mb k (l.take k).reverse wr/\qA (l.take k) (l.drop k)=E
def Dw (T:TypeId) (p:Nat) (cs:List jk5) (w:jk3) (mb:Nat) (l:List Pr) (E:Nat) (vi:jk5) (wr:jk3):Prop:=
 ∃ k:Nat,k<=l.length/\vi=.int .i64 k/\Mk T p cs w mb k ((l.take k).map Pr.key).reverse wr/\mO ((l.take k).map Pr.key) (l.drop k)=E
theorem gX (a:At) (ac ap:Option Addr) (cc cp:Nat) (w:jk3) (h:AtR (·<w.heap.size) w a (.slice ac a.cls.length cc) (.slice ap a.aF.length cp)) (hs:a.short) : Calls Tryz.prog 114 #[.agg #[.string a.id,.slice ac a.cls.length cc,.slice ap a.aF.length cp]] w (bR (.int .i64 (a.err:Nat)) w):=by
 obtain ⟨sc,sp,si,WI,WJ⟩:=hs;obtain ⟨id,cls,aF⟩:=a;dsimp only at sc sp si WI WJ h ⊢;obtain ⟨a1,c1,hv1,hs1⟩:=Rd.aB h.cls;obtain ⟨rfl,rfl⟩:a1=ac/\c1=cc:=by simp at hv1;exact ⟨hv1.1.symm,hv1.2.symm⟩
 obtain ⟨a2,c2,hv2,hs2⟩:=Rd.aB h.aF;obtain ⟨rfl,rfl⟩:a2=ap/\c2=cp:=by simp at hv2;exact ⟨hv2.1.symm,hv2.2.symm⟩
 have l1:cls.length<=c1:=by simpa using hs1.le
 have l2:aF.length<=c2:=by simpa using hs2.le
 have m1:=hs1.max;have m2:=hs2.max;unfold maxLen at m1 m2;have H1:=hid hs1;have H2:=hid hs2;have SC:=hid WI;have SP:=hid WJ;have NI:=hid (fun w=>Jw id w (by omega));have HE:Hid (At.err ⟨id,cls,aF⟩=if aT id=false/\fP id=false then 6 else if qA [] cls≠0 then qA [] cls else if mO [] aF≠0 then mO [] aF else if 32<cls.length\/32<aF.length then 3 else 0):=rfl;obtain ⟨V,hV⟩:∃ V,V=At.err ⟨id,cls,aF⟩:=⟨_,rfl⟩;rw [<- hV] at HE ⊢;clear hV WI WJ hs1 hs2 hv1 hv2 h;by_cases hbad:aT id=false/\fP id=false
 ·have HV:Hid (V=6):=by show V=6;rw [HE.out,if_pos hbad]
  rw [hbad.2] at NI;have hie:id.toList.isEmpty=false:=by rw [sD];exact hbad.1
  clear hbad HE;go_enter Tryz.func114,Tryz.ntmps114;go_wp2_with (go_at_call 67;refine (NI.out _).mono ?_;rintro e w1 ⟨rfl,rfl⟩)
  go_ret;exact ⟨by rw [HV.out];rfl,(jh1 _ _).alloc (jh2 _) _⟩
 have hgood:id.toList.isEmpty=true\/(id.toList.isEmpty=false/\fP id=true):=by
  rw [sD];cases h1:aT id
  ·right;refine ⟨rfl,?_⟩;cases h2:fP id
   ·exact absurd ⟨h1,h2⟩ hbad
   ·rfl
  ·left;rfl
 have HE2:Hid (V=if qA [] cls≠0 then qA [] cls else if mO [] aF≠0 then mO [] aF else if 32<cls.length\/32<aF.length then 3 else 0):=by show V=_;rw [HE.out,if_neg hbad]
 obtain ⟨w1,hw1⟩:∃ w1,w1=(w.alloc (.cells #[.string id,.slice a1 cls.length c1,.slice a2 aF.length c2] 27)).alloc (.map #[] 0):=⟨_,rfl⟩;have R0:Hid (Jm 27 w.heap.size [.string id,.slice a1 cls.length c1,.slice a2 aF.length c2] w (w.heap.size+1) cls (qA [] cls) (.int .i64 0) w1):=by
  refine ⟨0,jhq _,rfl,⟨?_,?_,?_,by omega,by omega,jh2 _⟩,rfl⟩
  ·rw [hw1];exact (CB.new _ _ w).below ((jh1 _ _).alloc (jh2 _) _)
  ·rw [hw1];have:=eP.made (w.alloc (.cells #[.string id,.slice a1 cls.length c1,.slice a2 aF.length c2] 27))
   rwa [World.size_alloc] at this
  ·rw [hw1];exact ((jh1 _ _).alloc (jh2 _) _).alloc (by simp) _
 have HW1:=hid hw1;obtain ⟨E1,hE1⟩:∃ E1,E1=qA [] cls:=⟨_,rfl⟩;obtain ⟨E2,hE2⟩:∃ E2,E2=mO [] aF:=⟨_,rfl⟩;rw [<- hE1] at HE2 R0;rw [<- hE2] at HE2;have Sj:=hid hE2;clear hbad HE hw1 hE1 hE2;have hmm:=@run_makeMap Tryz.prog;rcases hgood with hie | ⟨hie,hnm⟩
 ·clear NI;go_enter Tryz.func114,Tryz.ntmps114;go_wp2;rw [<- HW1.out];clear hmm
  go_loopw [21] (fun i wr=>Jm 27 w.heap.size [.string id,.slice a1 cls.length c1,.slice a2 aF.length c2] w (w.heap.size+1) cls E1 i wr) (fun i _=>cls.length-(intOf i).toNat)
  case atStart=>exact R0.out
  case round=>
   clear R0;obtain ⟨k,hk,rfl,jr,aQ⟩:=hrel;have En:=hid jr;by_cases hlt:k<cls.length
   ·obtain ⟨x,hx⟩:∃ x,cls[k]?=some x:=⟨_,jh0 hlt⟩;obtain ⟨b,off,rfl,-,-,c0⟩:=eF H1.out hx;have c0:wr.cell? ⟨b,off+k,none⟩=some (.string x):=by rw [jr.2.2.1.cell (p:=⟨b,off+k,none⟩) (mJ c0)];exact c0
    have hxs:=SC.out x (jhx hx);have CN:=hid (fun w=>Jw x w (by omega));have hlk:=jr.2.1.look x (by unfold maxLen;omega);obtain ⟨w',hup,hS',hg⟩:=jr.2.1.put x (by unfold maxLen;omega) (by unfold maxLen;omega);have Qt:=hid (jr.put hg hS');rw [iM] at hlk;rw [Eh cls k x hx,qA] at aQ;have Dz:Hid (cls.take (k+1)=cls.take k++[x]):=by show _=_;rw [ji5,hx];rfl
    have bO:=hid aQ;clear aQ hS' hg jr hx;cases hn:fP x with
    | false=>
     rw [hn] at CN;have HV:Hid (V=6):=by show V=6;have:=bO.out;rw [if_pos hn] at this;rw [HE2.out,<- this];rfl
     clear hn hup;go_wp2_with fail
     refine (CN.out _).mono ?_;rintro e w3 ⟨rfl,rfl⟩;go_wp2;go_ret;exact ⟨by rw [HV.out];rfl,En.out.2.2.1⟩
    | true=>
     rw [hn] at CN;cases hb:fF (cls.take k) x with
     | true=>
      rw [hb] at hlk;have HV:Hid (V=7):=by show V=7;have:=bO.out;rw [if_neg (by rw [hn];decide),if_pos hb] at this;rw [HE2.out,<- this];rfl
      clear hn hb hup;go_wp2_with fail
      refine (CN.out _).mono ?_;rintro e w3 ⟨rfl,rfl⟩;go_wp2;go_ret;exact ⟨by rw [HV.out];rfl,En.out.2.2.1⟩
     | false=>
      rw [hb] at hlk;have Eo:Hid (qA (cls.take (k+1)) (cls.drop (k+1))=E1):=by show _=_;have:=bO.out;rw [if_neg (by rw [hn];decide),if_neg (by rw [hb];decide)] at this;rw [Dz.out];exact this
      clear hn hb;go_wp2_with fail
      refine (CN.out _).mono ?_;rintro e w3 ⟨rfl,rfl⟩;go_wp2;go_roundw;case rel=>exact ⟨k+1,by omega,by go_num,by rw [Dz.out,List.reverse_append];exact Qt.out,Eo.out⟩
      case measure=>simp [intOf];omega
   ·obtain rfl:k=cls.length:=by omega
    have rY:Hid (E1=0):=by show E1=0;rw [List.drop_length,qA] at aQ;exact aQ.symm
    obtain ⟨w2,hcl,hS2,hg2⟩:∃ w2,(∀ ty,(Builtin.clear_ #[138] ty #[.map (some (w.heap.size+1))]).run Tryz.prog wr=.ok (.tuple #[]) w2)/\eP w2 (w.heap.size+1) 0 []/\wr.grownBy w2 (some (w.heap.size+1)):=by obtain ⟨w2,h1,h2,h3⟩:=jr.2.1.cleared 0;exact ⟨w2,fun ty=>h1,h2,h3⟩
    have R2:Hid (Dw 27 w.heap.size [.string id,.slice a1 cls.length c1,.slice a2 aF.length c2] w (w.heap.size+1) aF E2 (.int .i64 0) w2):=⟨0,jhq _,rfl,jr.put hg2 hS2,Sj.out.symm⟩;have p2:w2.cell? ⟨w.heap.size,2,none⟩=some (.slice a2 aF.length c2):=(jr.put hg2 hS2).1.cell 2 _ rfl;clear aQ jr En hS2 hg2 hk hlt;go_wp2
    go_loopw [38] (fun i wr=>Dw 27 w.heap.size [.string id,.slice a1 cls.length c1,.slice a2 aF.length c2] w (w.heap.size+1) aF E2 i wr) (fun i _=>aF.length-(intOf i).toNat)
    case atStart=>exact R2.out
    case round=>
     clear R2 hcl p2;obtain ⟨k,hk,rfl,jr,aQ⟩:=hrel;have En:=hid jr;by_cases hlt:k<aF.length
     ·obtain ⟨x,hx⟩:∃ x,aF[k]?=some x:=⟨_,jh0 hlt⟩;obtain ⟨b,off,rfl,-,-,c0,c1'⟩:=kG H2.out hx;have c0:wr.cell? ⟨b,off+k*2,none⟩=some (.string x.key):=by rw [jr.2.2.1.cell (p:=⟨b,off+k*2,none⟩) (mJ c0)];exact c0
      have c1':wr.cell? ⟨b,off+k*2+1,none⟩=some (.string x.val):=by rw [jr.2.2.1.cell (p:=⟨b,off+k*2+1,none⟩) (mJ c1')];exact c1'
      have hxs:=SP.out x (jhx hx);have HX:=hid hx;have bO:Hid (mO ((aF.take k).map Pr.key) (x::aF.drop (k+1))=E2):=by show _=_;rw [<- Eh aF k x hx];exact aQ
      obtain ⟨key,val⟩:=x;dsimp only at c0 c1' hxs;have CN:=hid (fun w=>Jw key w (by omega));have CV:=hid (fun w=>sI val w (by omega));have Dz:Hid ((aF.take (k+1)).map Pr.key=(aF.take k).map Pr.key++[key]):=by show _=_;rw [ji5,HX.out];simp
      obtain ⟨wi,hwi⟩:∃ wi,wi=wr.alloc (.cells #[.string key,.string val] 74):=⟨_,rfl⟩;have sO:=jr.alloc (.cells #[.string key,.string val] 74);rw [<- hwi] at sO;have i0:wi.cell? ⟨wr.heap.size,0,none⟩=some (.string key):=by rw [hwi];exact BK wr [.string key,.string val] _ 0 _ rfl
      have i1:wi.cell? ⟨wr.heap.size,1,none⟩=some (.string val):=by rw [hwi];exact BK wr [.string key,.string val] _ 1 _ rfl
      have GA:=hid sO;clear aQ jr hx;cases hn:fP key with
      | false=>
       rw [hn] at CN;have HV:Hid (V=6):=by show V=6;have:=bO.out;rw [mO,if_pos hn] at this;rw [HE2.out,rY.out,<- this];rfl
       clear hn;go_upto_region 17 with (fail)
       rw [<- hwi];clear hwi sO;go_wp2_with fail
       refine (CN.out _).mono ?_;rintro e w3 ⟨rfl,rfl⟩;go_wp2;go_ret;exact ⟨by rw [HV.out];rfl,GA.out.2.2.1⟩
      | true=>
       rw [hn] at CN;cases hln:eB val with
       | false=>
        rw [hln] at CV;have HV:Hid (V=17):=by show V=17;have:=bO.out;rw [mO,if_neg (by rw [hn];decide),if_pos hln] at this;rw [HE2.out,rY.out,<- this];rfl
        clear hn hln;go_upto_region 17 with (fail)
        rw [<- hwi];clear hwi sO;go_wp2_with fail
        refine (CN.out _).mono ?_;rintro e w3 ⟨rfl,rfl⟩;go_wp2_with fail
        refine (CV.out _).mono ?_;rintro e w3 ⟨rfl,q,rfl⟩;go_wp2;go_ret;exact ⟨by rw [HV.out];rfl,eD GA.out.2.2.1 q⟩
       | true=>
        rw [hln] at CV;have Ta:=hid (fun q=>(sO.drewN q).2.1.look key (by unfold maxLen;omega));have MU:=hid (fun q=>(sO.drewN q).2.1.put key (by unfold maxLen;omega) (by unfold maxLen;omega));cases hb:fF ((aF.take k).map Pr.key) key with
        | true=>
         have HV:Hid (V=7):=by show V=7;have:=bO.out;rw [mO,if_neg (by rw [hn];decide),if_neg (by rw [hln];decide),if_pos hb] at this;rw [HE2.out,rY.out,<- this];rfl
         have HB:=hid hb;clear hn hln hb;go_upto_region 17 with (fail)
         rw [<- hwi];clear hwi sO;go_wp2_with fail
         refine (CN.out _).mono ?_;rintro e w3 ⟨rfl,rfl⟩;go_wp2_with fail
         refine (CV.out _).mono ?_;rintro e w3 ⟨rfl,q,rfl⟩;have hlk:=Ta.out q;rw [iM,HB.out] at hlk;go_wp2;go_ret;exact ⟨by rw [HV.out];rfl,eD GA.out.2.2.1 q⟩
        | false=>
         have Eo:Hid (mO ((aF.take (k+1)).map Pr.key) (aF.drop (k+1))=E2):=by show _=_;have:=bO.out;rw [mO,if_neg (by rw [hn];decide),if_neg (by rw [hln];decide),if_neg (by rw [hb];decide)] at this;rw [Dz.out];exact this
         have HB:=hid hb;clear hn hln hb;go_upto_region 17 with (fail)
         rw [<- hwi];clear hwi sO;go_wp2_with fail
         refine (CN.out _).mono ?_;rintro e w3 ⟨rfl,rfl⟩;go_wp2_with fail
         refine (CV.out _).mono ?_;rintro e w3 ⟨rfl,q,rfl⟩;have hlk:=Ta.out q;rw [iM,HB.out] at hlk;obtain ⟨w',hup,hS',hg⟩:=MU.out q;have Qt:=hid ((GA.out.drewN q).put hg hS');clear hS' hg;go_wp2;go_roundw;case rel=>exact ⟨k+1,by omega,by go_num,by rw [Dz.out,List.reverse_append];exact Qt.out,Eo.out⟩
         case measure=>simp [intOf];omega
     ·obtain rfl:k=aF.length:=by omega
      have HV:Hid (V=if 32<cls.length\/32<aF.length then 3 else 0):=by show V=_;rw [List.drop_length,mO] at aQ;rw [HE2.out,rY.out,<- aQ];rfl
      have p1:wr.cell? ⟨w.heap.size,1,none⟩=some (.slice a1 cls.length c1):=jr.1.cell 1 _ rfl;have p2:wr.cell? ⟨w.heap.size,2,none⟩=some (.slice a2 aF.length c2):=jr.1.cell 2 _ rfl;clear aQ jr hk hlt;by_cases h1:32<cls.length
      ·have q1:decide ((32:Int)<(cls.length:Int))=true:=by simp;omega
       go_wp2;go_ret;exact ⟨by rw [HV.out,if_pos (.inl h1)];rfl,En.out.2.2.1⟩
      ·have q1:decide ((32:Int)<(cls.length:Int))=false:=by simp;omega
       by_cases h2:32<aF.length
       ·have q2:decide ((32:Int)<(aF.length:Int))=true:=by simp;omega
        go_wp2;go_ret;exact ⟨by rw [HV.out,if_pos (.inr h2)];rfl,En.out.2.2.1⟩
       ·have q2:decide ((32:Int)<(aF.length:Int))=false:=by simp;omega
        go_wp2;go_ret;exact ⟨by rw [HV.out,if_neg (by omega)];rfl,En.out.2.2.1⟩
 ·rw [hnm] at NI;clear hnm;go_enter Tryz.func114,Tryz.ntmps114;go_wp2_with (go_at_call 67;refine (NI.out _).mono ?_;rintro e w1 ⟨rfl,rfl⟩)
  rw [<- HW1.out];clear hmm
  go_loopw [21] (fun i wr=>Jm 27 w.heap.size [.string id,.slice a1 cls.length c1,.slice a2 aF.length c2] w (w.heap.size+1) cls E1 i wr) (fun i _=>cls.length-(intOf i).toNat)
  case atStart=>exact R0.out
  case round=>
   clear R0;obtain ⟨k,hk,rfl,jr,aQ⟩:=hrel;have En:=hid jr;by_cases hlt:k<cls.length
   ·obtain ⟨x,hx⟩:∃ x,cls[k]?=some x:=⟨_,jh0 hlt⟩;obtain ⟨b,off,rfl,-,-,c0⟩:=eF H1.out hx;have c0:wr.cell? ⟨b,off+k,none⟩=some (.string x):=by rw [jr.2.2.1.cell (p:=⟨b,off+k,none⟩) (mJ c0)];exact c0
    have hxs:=SC.out x (jhx hx);have CN:=hid (fun w=>Jw x w (by omega));have hlk:=jr.2.1.look x (by unfold maxLen;omega);obtain ⟨w',hup,hS',hg⟩:=jr.2.1.put x (by unfold maxLen;omega) (by unfold maxLen;omega);have Qt:=hid (jr.put hg hS');rw [iM] at hlk;rw [Eh cls k x hx,qA] at aQ;have Dz:Hid (cls.take (k+1)=cls.take k++[x]):=by show _=_;rw [ji5,hx];rfl
    have bO:=hid aQ;clear aQ hS' hg jr hx;cases hn:fP x with
    | false=>
     rw [hn] at CN;have HV:Hid (V=6):=by show V=6;have:=bO.out;rw [if_pos hn] at this;rw [HE2.out,<- this];rfl
     clear hn hup;go_wp2_with fail
     refine (CN.out _).mono ?_;rintro e w3 ⟨rfl,rfl⟩;go_wp2;go_ret;exact ⟨by rw [HV.out];rfl,En.out.2.2.1⟩
    | true=>
     rw [hn] at CN;cases hb:fF (cls.take k) x with
     | true=>
      rw [hb] at hlk;have HV:Hid (V=7):=by show V=7;have:=bO.out;rw [if_neg (by rw [hn];decide),if_pos hb] at this;rw [HE2.out,<- this];rfl
      clear hn hb hup;go_wp2_with fail
      refine (CN.out _).mono ?_;rintro e w3 ⟨rfl,rfl⟩;go_wp2;go_ret;exact ⟨by rw [HV.out];rfl,En.out.2.2.1⟩
     | false=>
      rw [hb] at hlk;have Eo:Hid (qA (cls.take (k+1)) (cls.drop (k+1))=E1):=by show _=_;have:=bO.out;rw [if_neg (by rw [hn];decide),if_neg (by rw [hb];decide)] at this;rw [Dz.out];exact this
      clear hn hb;go_wp2_with fail
      refine (CN.out _).mono ?_;rintro e w3 ⟨rfl,rfl⟩;go_wp2;go_roundw;case rel=>exact ⟨k+1,by omega,by go_num,by rw [Dz.out,List.reverse_append];exact Qt.out,Eo.out⟩
      case measure=>simp [intOf];omega
   ·obtain rfl:k=cls.length:=by omega
    have rY:Hid (E1=0):=by show E1=0;rw [List.drop_length,qA] at aQ;exact aQ.symm
    obtain ⟨w2,hcl,hS2,hg2⟩:∃ w2,(∀ ty,(Builtin.clear_ #[138] ty #[.map (some (w.heap.size+1))]).run Tryz.prog wr=.ok (.tuple #[]) w2)/\eP w2 (w.heap.size+1) 0 []/\wr.grownBy w2 (some (w.heap.size+1)):=by obtain ⟨w2,h1,h2,h3⟩:=jr.2.1.cleared 0;exact ⟨w2,fun ty=>h1,h2,h3⟩
    have R2:Hid (Dw 27 w.heap.size [.string id,.slice a1 cls.length c1,.slice a2 aF.length c2] w (w.heap.size+1) aF E2 (.int .i64 0) w2):=⟨0,jhq _,rfl,jr.put hg2 hS2,Sj.out.symm⟩;have p2:w2.cell? ⟨w.heap.size,2,none⟩=some (.slice a2 aF.length c2):=(jr.put hg2 hS2).1.cell 2 _ rfl;clear aQ jr En hS2 hg2 hk hlt;go_wp2
    go_loopw [38] (fun i wr=>Dw 27 w.heap.size [.string id,.slice a1 cls.length c1,.slice a2 aF.length c2] w (w.heap.size+1) aF E2 i wr) (fun i _=>aF.length-(intOf i).toNat)
    case atStart=>exact R2.out
    case round=>
     clear R2 hcl p2;obtain ⟨k,hk,rfl,jr,aQ⟩:=hrel;have En:=hid jr;by_cases hlt:k<aF.length
     ·obtain ⟨x,hx⟩:∃ x,aF[k]?=some x:=⟨_,jh0 hlt⟩;obtain ⟨b,off,rfl,-,-,c0,c1'⟩:=kG H2.out hx;have c0:wr.cell? ⟨b,off+k*2,none⟩=some (.string x.key):=by rw [jr.2.2.1.cell (p:=⟨b,off+k*2,none⟩) (mJ c0)];exact c0
      have c1':wr.cell? ⟨b,off+k*2+1,none⟩=some (.string x.val):=by rw [jr.2.2.1.cell (p:=⟨b,off+k*2+1,none⟩) (mJ c1')];exact c1'
      have hxs:=SP.out x (jhx hx);have HX:=hid hx;have bO:Hid (mO ((aF.take k).map Pr.key) (x::aF.drop (k+1))=E2):=by show _=_;rw [<- Eh aF k x hx];exact aQ
      obtain ⟨key,val⟩:=x;dsimp only at c0 c1' hxs;have CN:=hid (fun w=>Jw key w (by omega));have CV:=hid (fun w=>sI val w (by omega));have Dz:Hid ((aF.take (k+1)).map Pr.key=(aF.take k).map Pr.key++[key]):=by show _=_;rw [ji5,HX.out];simp
      obtain ⟨wi,hwi⟩:∃ wi,wi=wr.alloc (.cells #[.string key,.string val] 74):=⟨_,rfl⟩;have sO:=jr.alloc (.cells #[.string key,.string val] 74);rw [<- hwi] at sO;have i0:wi.cell? ⟨wr.heap.size,0,none⟩=some (.string key):=by rw [hwi];exact BK wr [.string key,.string val] _ 0 _ rfl
      have i1:wi.cell? ⟨wr.heap.size,1,none⟩=some (.string val):=by rw [hwi];exact BK wr [.string key,.string val] _ 1 _ rfl
      have GA:=hid sO;clear aQ jr hx;cases hn:fP key with
      | false=>
       rw [hn] at CN;have HV:Hid (V=6):=by show V=6;have:=bO.out;rw [mO,if_pos hn] at this;rw [HE2.out,rY.out,<- this];rfl
       clear hn;go_upto_region 17 with (fail)
       rw [<- hwi];clear hwi sO;go_wp2_with fail
       refine (CN.out _).mono ?_;rintro e w3 ⟨rfl,rfl⟩;go_wp2;go_ret;exact ⟨by rw [HV.out];rfl,GA.out.2.2.1⟩
      | true=>
       rw [hn] at CN;cases hln:eB val with
       | false=>
        rw [hln] at CV;have HV:Hid (V=17):=by show V=17;have:=bO.out;rw [mO,if_neg (by rw [hn];decide),if_pos hln] at this;rw [HE2.out,rY.out,<- this];rfl
        clear hn hln;go_upto_region 17 with (fail)
        rw [<- hwi];clear hwi sO;go_wp2_with fail
        refine (CN.out _).mono ?_;rintro e w3 ⟨rfl,rfl⟩;go_wp2_with fail
        refine (CV.out _).mono ?_;rintro e w3 ⟨rfl,q,rfl⟩;go_wp2;go_ret;exact ⟨by rw [HV.out];rfl,eD GA.out.2.2.1 q⟩
       | true=>
        rw [hln] at CV;have Ta:=hid (fun q=>(sO.drewN q).2.1.look key (by unfold maxLen;omega));have MU:=hid (fun q=>(sO.drewN q).2.1.put key (by unfold maxLen;omega) (by unfold maxLen;omega));cases hb:fF ((aF.take k).map Pr.key) key with
        | true=>
         have HV:Hid (V=7):=by show V=7;have:=bO.out;rw [mO,if_neg (by rw [hn];decide),if_neg (by rw [hln];decide),if_pos hb] at this;rw [HE2.out,rY.out,<- this];rfl
         have HB:=hid hb;clear hn hln hb;go_upto_region 17 with (fail)
         rw [<- hwi];clear hwi sO;go_wp2_with fail
         refine (CN.out _).mono ?_;rintro e w3 ⟨rfl,rfl⟩;go_wp2_with fail
         refine (CV.out _).mono ?_;rintro e w3 ⟨rfl,q,rfl⟩;have hlk:=Ta.out q;rw [iM,HB.out] at hlk;go_wp2;go_ret;exact ⟨by rw [HV.out];rfl,eD GA.out.2.2.1 q⟩
        | false=>
         have Eo:Hid (mO ((aF.take (k+1)).map Pr.key) (aF.drop (k+1))=E2):=by show _=_;have:=bO.out;rw [mO,if_neg (by rw [hn];decide),if_neg (by rw [hln];decide),if_neg (by rw [hb];decide)] at this;rw [Dz.out];exact this
         have HB:=hid hb;clear hn hln hb;go_upto_region 17 with (fail)
         rw [<- hwi];clear hwi sO;go_wp2_with fail
         refine (CN.out _).mono ?_;rintro e w3 ⟨rfl,rfl⟩;go_wp2_with fail
         refine (CV.out _).mono ?_;rintro e w3 ⟨rfl,q,rfl⟩;have hlk:=Ta.out q;rw [iM,HB.out] at hlk;obtain ⟨w',hup,hS',hg⟩:=MU.out q;have Qt:=hid ((GA.out.drewN q).put hg hS');clear hS' hg;go_wp2;go_roundw;case rel=>exact ⟨k+1,by omega,by go_num,by rw [Dz.out,List.reverse_append];exact Qt.out,Eo.out⟩
         case measure=>simp [intOf];omega
     ·obtain rfl:k=aF.length:=by omega
      have HV:Hid (V=if 32<cls.length\/32<aF.length then 3 else 0):=by show V=_;rw [List.drop_length,mO] at aQ;rw [HE2.out,rY.out,<- aQ];rfl
      have p1:wr.cell? ⟨w.heap.size,1,none⟩=some (.slice a1 cls.length c1):=jr.1.cell 1 _ rfl;have p2:wr.cell? ⟨w.heap.size,2,none⟩=some (.slice a2 aF.length c2):=jr.1.cell 2 _ rfl;clear aQ jr hk hlt;by_cases h1:32<cls.length
      ·have q1:decide ((32:Int)<(cls.length:Int))=true:=by simp;omega
       go_wp2;go_ret;exact ⟨by rw [HV.out,if_pos (.inl h1)];rfl,En.out.2.2.1⟩
      ·have q1:decide ((32:Int)<(cls.length:Int))=false:=by simp;omega
       by_cases h2:32<aF.length
       ·have q2:decide ((32:Int)<(aF.length:Int))=true:=by simp;omega
        go_wp2;go_ret;exact ⟨by rw [HV.out,if_pos (.inr h2)];rfl,En.out.2.2.1⟩
       ·have q2:decide ((32:Int)<(aF.length:Int))=false:=by simp;omega
        go_wp2;go_ret;exact ⟨by rw [HV.out,if_neg (by omega)];rfl,En.out.2.2.1⟩
open Go.RowKit
theorem aj.PE (l:List aj) (k:Nat) (x:aj) (h:l[k]?=some x):aj.aZ (l.take k)+x.sz<=aj.aZ l:=by
 have h1:aj.aZ (l.take (k+1))<=aj.aZ l:=by have:=aj.Df (l.take (k+1)) (l.drop (k+1));rw [List.take_append_drop] at this;omega
 rw [aj.rP h] at h1;exact h1
theorem au.Mg (l:List au) (k:Nat) (x:au) (h:l[k]?=some x):au.dB (l.take k)+x.all<=au.dB l:=by
 have h1:au.dB (l.take (k+1))<=au.dB l:=by have:=au.F5 (l.take (k+1)) (l.drop (k+1));rw [List.take_append_drop] at this;omega
 rw [au.lK h] at h1;exact h1
theorem au.Sz (x:au):1<=x.all:=by cases x;rw [au.all];omega
theorem au.Ku:∀ (l:List au),l.length<=au.dB l
 | []=>by simp
 | x::l=>by have:=au.Ku l;have:=x.Sz;rw [au.dB];simp;omega
theorem jdq {P:Program} {f:FuncId} {args:Array jk5} {w:jk3} {a n:Nat} {v:jk5} (h:Calls P f args (w.drewN (a+n)) fun e w'=>e=.returned v/\w.drewN (a+n)=w') : Calls P f args (w.drewN (a+n)) fun e w''=>e=.returned v/\∃ m,w''=w.drewN (a+m):=h.mono fun _ _ ⟨he,hm⟩=>⟨he,n,hm.symm⟩
theorem jdx {P:Program} {f:FuncId} {args:Array jk5} {w:jk3} {a n:Nat} {v:jk5} (h:Calls P f args (w.drewN (a+n)) (Dr v (w.drewN (a+n)))) : Calls P f args (w.drewN (a+n)) fun e w''=>e=.returned v/\∃ m,w''=w.drewN (a+m):=h.mono fun _ _ ⟨he,m,hm⟩=>⟨he,n+m,by rw [hm,World.drewN_drewN,Nat.add_assoc]⟩
def Ux (l:List aj) (vn vi:jk5):Prop:=∃ k n:Nat,k<=l.length/\vi=.int .i64 k/\vn=.int .i64 n/\n=aj.aZ (l.take k)+(l.length-k)
def Uy (l:List au) (w:jk3) (vn vi:jk5) (wr:jk3):Prop:=∃ k n q:Nat,k<=l.length/\vi=.int .i64 k/\vn=.int .i64 n/\n=au.dB (l.take k)+(l.length-k)/\wr=w.drewN q
theorem yX (n:Nat):∀ (l:List aj) (ok:Nat->Prop) (v:jk5) (w:jk3),aj.aZ l<=n->n<=1000000->Rd ok w (bC l) [v] -> Calls Tryz.prog 209 #[v] w fun e w'=>e=.returned (.int .i64 (aj.aZ l:Nat))/\w=w':=by
 induction n using Nat.strongRecOn with
 | _ n ih=>
  intro l ok v w hn hnm h1;obtain ⟨a,cap,hv,hs⟩:=Rd.aB h1;obtain rfl:v=.slice a l.length cap:=by simpa using hv
  have hcap:l.length<=cap:=by simpa using hs.le
  have hmx:=hs.max;unfold maxLen at hmx;have HS:=hid hs;have IH:=hid ih;have R0:Hid (Ux l (.int .i64 (l.length:Int)) (.int .i64 0)):=⟨0,l.length,jhq _,rfl,rfl,by rw [List.take_zero,aj.aZ];simp⟩;clear hs hv h1 ih;go_enter Tryz.func209,Tryz.ntmps209;go_wp2
  go_loop [3,9] (fun vn vi=>Ux l vn vi) (fun _ i=>l.length-(intOf i).toNat)
  case atStart=>exact R0.out
  case round=>
   clear R0;obtain ⟨k,m,hk,rfl,rfl,hm⟩:=hrel;by_cases hlt:k<l.length
   ·obtain ⟨x,hx⟩:∃ x,l[k]?=some x:=⟨_,jh0 hlt⟩;have hsz:=aj.PE l k _ hx;have hsn:=aj.rP hx;obtain ⟨kd,t,d,ti,at_,ar,ci,ks⟩:=x;obtain ⟨g,off,vc,vp,va,vi,vk,rfl,hok,hbl,hc,hR⟩:=Jp HS.out hx;rw [aj.sz] at hsz hsn;obtain ⟨ak,nk,ck,rfl⟩:=Rd.DN hR.kids;have p9:=hc.c9;have CK:=hid (IH.out (aj.aZ ks) (by omega) ks ok (.slice ak nk ck) w (jh2 _) (by omega) hR.kids);have HM:Hid (m+aj.aZ ks=aj.aZ (l.take (k+1))+(l.length-(k+1))):=by show _=_;omega
    have hlm:l.length-k<=1000000:=by have:=aj.gZ l;omega
    have hmb:m+aj.aZ ks<=3000000:=by omega
    generalize aj.aZ ks=K at *;clear hc hR hx hm hsn hsz hlm;go_wp2_with fail
    refine CK.out.mono ?_;rintro e w1 ⟨rfl,rfl⟩;go_wp2
    go_round
    case rel=>exact ⟨k+1,m+K,by omega,by go_num,by go_num,HM.out⟩
    case measure=>simp [intOf];omega
   ·obtain rfl:k=l.length:=by omega
    have hv:m=aj.aZ l:=by rw [hm,List.take_length];omega
    have HV:=hid hv;clear hv hm;go_wp2;go_ret;exact ⟨by rw [<- HV.out];rfl,rfl⟩
theorem tO (n:Nat):∀ (l:List au) (ok:Nat->Prop) (v:jk5) (w:jk3),au.dB l<=n->n<=1000000->Rd ok w (dS l) [v] -> Calls Tryz.prog 166 #[v] w (Dr (.int .i64 (au.dB l:Nat)) w):=by
 induction n using Nat.strongRecOn with
 | _ n ih=>
  intro l ok v w hn hnm h1;obtain ⟨a,cap,hv,hs⟩:=Rd.aB h1;obtain rfl:v=.slice a l.length cap:=by simpa using hv
  have hcap:l.length<=cap:=by simpa using hs.le
  have hmx:=hs.max;unfold maxLen at hmx;have HS:=hid hs;have IH:=hid ih;have R0:Hid (Uy l w (.int .i64 (l.length:Int)) (.int .i64 0) w):=⟨0,l.length,0,jhq _,rfl,rfl,by rw [List.take_zero,au.dB];simp,rfl⟩;clear hs hv h1 ih;go_enter Tryz.func166,Tryz.ntmps166;go_wp2
  go_loopw [3,9] (fun vn vi wr=>Uy l w vn vi wr) (fun _ i _=>l.length-(intOf i).toNat)
  case atStart=>exact R0.out
  case round=>
   clear R0;obtain ⟨k,m,q,hk,rfl,rfl,hm,rfl⟩:=hrel;by_cases hlt:k<l.length
   ·obtain ⟨x,hx⟩:∃ x,l[k]?=some x:=⟨_,jh0 hlt⟩;have hsz:=au.Mg l k _ hx;have hsn:=au.lK hx;obtain ⟨kd,lv,i,t,d,ti,at_,li,ks⟩:=x;obtain ⟨g,off,vc,vp,vl,vk,rfl,hok,hbl,hc,hR⟩:=iF HS.out hx;rw [au.all] at hsz hsn;obtain ⟨ak,nk,ck,rfl⟩:=Rd.DN hR.kids;obtain ⟨al,nl,cl,rfl⟩:=Rd.DN hR.line;have p9:=hc.c9;have MI:=hc.c10;have hst:∀ q,wM ok ok w (w.drewN q):=fun q b h _=>⟨h,rfl⟩
    have CL:=hid (fun q=>yX _ li ok (.slice al nl cl) (w.drewN q) (jh2 _) (by omega) (Rd.keep (hst q) _ _ hR.line));have CK:=hid (fun q=>IH.out (au.dB ks) (by omega) ks ok (.slice ak nk ck) (w.drewN q) (jh2 _) (by omega) (Rd.keep (hst q) _ _ hR.kids));have HM:Hid (m+(aj.aZ li+au.dB ks)=au.dB (l.take (k+1))+(l.length-(k+1))):=by show _=_;omega
    have hlm:l.length-k<=1000000:=by have:=au.Ku l;omega
    have hmb:m+(aj.aZ li+au.dB ks)<=3000000:=by omega
    generalize aj.aZ li=L at *;generalize au.dB ks=K at *;have s1:IntKind.i64.wrap ((L:Int)+(K:Int))=(L:Int)+(K:Int):=jo (by omega) (by omega);have s2:IntKind.i64.wrap ((m:Int)+((L:Int)+(K:Int)))=(m:Int)+((L:Int)+(K:Int)):=jo (by omega) (by omega);clear hc hR hx hm hsn hsz hlm hst;go_wp2_with fail
    go_quiet ((first | (go_at_call 209;exact jdq (CL.out _)) | (go_at_call 166;exact jdx (CK.out _))))
    clear s1 s2;go_wp2;go_roundw;case rel=>exact ⟨k+1,m+(L+K),_,by omega,by go_num,by go_num,HM.out,rfl⟩
    case measure=>simp [intOf];omega
   ·obtain rfl:k=l.length:=by omega
    have hv:m=au.dB l:=by rw [hm,List.take_length];omega
    have HV:=hid hv;clear hv hm;go_wp2;go_ret;exact ⟨by rw [<- HV.out];rfl,q,rfl⟩
open Go.RowKit
theorem KJ (l:List au) (am ab:Option Addr) (nm cm nb cb:Nat) (w:jk3) (hn:au.dB l<=1000000) (h:Rd (·<w.heap.size) w (dS l) [.slice ab nb cb]) : Calls Tryz.prog 111 #[.agg #[.slice am nm cm,.slice ab nb cb]] w (bR (.int .i64 (au.dB l:Nat)) w):=by
 have hb0:Below w.heap.size w (w.alloc (.cells #[.slice am nm cm,.slice ab nb cb] 32)):=(jh1 _ _).alloc (jh2 _) _;have SZ:=hid (tO _ l _ _ _ (jh2 _) hn (h.up hb0));have HB:=hid hb0;generalize au.dB l=N at *;clear h hb0;go_enter Tryz.func111,Tryz.ntmps111;go_wp2_with fail
 refine SZ.out.mono ?_;rintro e w1 ⟨rfl,q,rfl⟩;go_wp2;go_ret;exact ⟨rfl,eD HB.out q⟩
end Go.Proofs.YtclikfjalmcoaaaGreatDoor

