/- Contracts of tree.inlineFields, blockFields, fits. Contracts of tree.blockFields, fits. Contracts of publisherref04.reference, anyOf, auto. Contract of publisherref04.inlineFields. -/
import Derived.Test.YtkfnkeflalcphaaGreatDoorMScB
import Derived.BigGuardPart
set_option maxHeartbeats 8000000
set_option maxRecDepth 100000
open Go.Lib (hid)
namespace Go.Proofs.YtkfnkeflalcphaaGreatDoor
open Tryz
open Go.RowKit.Below renaming refl->jK7
open Bool renaming eq_iff_iff->jKk
open Go renaming World->jN9
open Go.RowKit
set_option linter.unusedVariables false
set_option linter.unusedSimpArgs false
structure InP (w:jN9) (b o:Nat) (k:Int) (t d ti:ByteArray) (at_:At) (ar:List ByteArray) (ci:List Ci) (ks:List aj) (ac ap aa ai ak:Option Addr) (cc cp ca gD ck:Nat):Prop where
 cells:gK w b o k t d ti at_.id (.slice ac at_.cls.length cc) (.slice ap at_.aD.length cp) (.slice aa ar.length ca) (.slice ai ci.length gD) (.slice ak ks.length ck)
 rd:vD (·<w.heap.size) w at_ ar ci ks (.slice ac at_.cls.length cc) (.slice ap at_.aD.length cp) (.slice aa ar.length ca) (.slice ai ci.length gD) (.slice ak ks.length ck)
 lt:b<w.heap.size
theorem vD.up {w w':jN9} {at_:At} {ar:List ByteArray} {ci:List Ci} {ks:List aj} {vc vp va vi vk:Value} (h:vD (·<w.heap.size) w at_ ar ci ks vc vp va vi vk) (hb:Below w.heap.size w w'):vD (·<w'.heap.size) w' at_ ar ci ks vc vp va vi vk:=
 ⟨h.at_.up hb,h.args.up hb,h.dH.up hb,h.kids.up hb⟩
theorem InP.up {w w':jN9} {b o:Nat} {k:Int} {t d ti:ByteArray} {at_:At} {ar:List ByteArray} {ci:List Ci} {ks:List aj} {ac ap aa ai ak:Option Addr} {cc cp ca gD ck:Nat} (h:InP w b o k t d ti at_ ar ci ks ac ap aa ai ak cc cp ca gD ck) (hb:Below w.heap.size w w'):InP w' b o k t d ti at_ ar ci ks ac ap aa ai ak cc cp ca gD ck:=
 ⟨h.cells.at2 (hb.block b h.lt),h.rd.up hb,Nat.lt_of_lt_of_le h.lt hb.size⟩
theorem sS {ok:Nat->Prop} {w:jN9} {k:Nat} {l:List D} {a:Option Addr} {n c:Nat} (h:Rd ok w (.sl k l) [.slice a n c]):n=l.length/\n<=c/\c<=maxLen:=by
 obtain ⟨a',c',h1,h2⟩:=h.aB;have h3:n=l.length/\c=c':=by simp at h1;exact ⟨h1.2.1,h1.2.2⟩
 obtain ⟨rfl,rfl⟩:=h3;exact ⟨rfl,h2.le,h2.max⟩
theorem sU (k:Int):k=1\/k=2\/k=3\/k=4\/k=5\/k=6\/k=7\/k=8\/k=9\/k=10\/k=11\/k=12\/k=13\/k=14\/k=15\/k=16\/(k<1\/16<k):=by omega
theorem Cc{P:Prop}(h:P:=by
 go_wp2;go_ret;exact ⟨by rw [HE.out];rfl,Below.refl _ _⟩):P:=h
theorem Qf{P Q:Prop}(q:Q)(h:Nonempty Q->P:=by
 intro qQ;simp only [List.append_eq,List.cons_append,List.nil_append];exact qQ.elim fun x=>x):P:=h ⟨q⟩
theorem jk8{P:Prop}(h:P:=by
 rw [HV.out];have:(decide (1<=k)&&decide (k<=16))=false:=by rw [Bool.and_eq_false_iff];simp;omega
 rw [this];rfl):P:=h
theorem vI (w:jN9) (b o:Nat) (k:Int) (t d ti:ByteArray) (at_:At) (ar:List ByteArray) (ci:List Ci) (ks:List aj) (ac ap aa ai ak:Option Addr) (cc cp ca gD ck:Nat) (h:InP w b o k t d ti at_ ar ci ks ac ap aa ai ak cc cp ca gD ck) : Calls prog 160 #[.pointer (some ⟨b,o,none⟩)] w (dF (.bool (zL k t d ti at_ ar ci ks)) w):=by
 have l1:=(sS h.rd.at_.cls).2;have l2:=(sS h.rd.at_.aD).2;obtain ⟨-,l3,m3⟩:=sS h.rd.args;obtain ⟨-,l4,m4⟩:=sS h.rd.dH;obtain ⟨-,l5,m5⟩:=sS h.rd.kids;unfold maxLen at m3 m4 m5;have AE:=hid (fun w=>qU at_ ac ap cc cp w (by omega) (by omega));clear l1 l2;have HP:=hid h;obtain ⟨c0,c1,c2,c3,c4,c5,c6,c7,c8,c9⟩:=h.cells;have e1:=kF ar;have e2:=kF ci;have e3:=kF ks;have HV:Hid (zL k t d ti at_ ar ci ks=(decide (1<=k)&&decide (k<=16)&&(([1,4,5,9,10,12,14,15]:List Int).contains k||aV t)&&(([9,10,16]:List Int).contains k||aV d)&&(([9,10,14]:List Int).contains k||aV ti) &&
 (([10,11]:List Int).contains k||at_.none)&&(([6,7,8,9,10,11]:List Int).contains k||ks.isEmpty)&&(decide (k=15)||ar.isEmpty)&&(decide (k=13)||ci.isEmpty))):=rfl
 have HD:=hid (pI d).symm;have HT:=hid (pI t).symm;have HTI:=hid (pI ti).symm;obtain ⟨V,hV⟩:∃ V,V=zL k t d ti at_ ar ci ks:=⟨_,rfl⟩
 rw [<- hV] at HV ⊢;generalize at_.none=bn at *
 generalize ar.isEmpty=ba at *;generalize ci.isEmpty=bc at *;generalize ks.isEmpty=bk at *;clear hV h;rcases sU k with rfl | rfl | rfl | rfl | rfl | rfl | rfl | rfl | rfl | rfl | rfl | rfl | rfl | rfl | rfl | rfl | hk
 case inr.inr.inr.inr.inr.inr.inr.inr.inr.inr.inr.inr.inr.inr.inr.inr=>
  have hv:V=false:=by exact jk8
  have HE:=hid hv;rcases hk with hk | hk
  all_goals
   clear hv e1 e2 e3;go_enter func160,ntmps160;refine Qf ?_;exact Cc
 all_goals
  go_enter func160,ntmps160;refine Qf ?_;go_wp2_with (go_at_call 165;refine (AE.out _).mono ?_;rintro e w1 ⟨rfl,hb1⟩;obtain ⟨p0,p1,p2,p3,p4,p5,p6,p7,p8,p9⟩:=(HP.out.up hb1).cells)
  all_goals
   go_ret;refine ⟨vB ?_,?_⟩
   ·rw [HV.out,HD.out,HT.out,HTI.out];simp only [*];simp
   ·first | exact hb1 | exact jK7 _ _
open Go.RowKit
structure YU (w:jN9) (b o:Nat) (k lv:Int) (i t d ti:ByteArray) (at_:At) (li:List aj) (ks:List ah) (ac ap al ak:Option Addr) (cc cp cl ck:Nat):Prop where
 cells:dA w b o k lv i t d ti at_.id (.slice ac at_.cls.length cc) (.slice ap at_.aD.length cp) (.slice al li.length cl) (.slice ak ks.length ck)
 rd:kG (·<w.heap.size) w at_ li ks (.slice ac at_.cls.length cc) (.slice ap at_.aD.length cp) (.slice al li.length cl) (.slice ak ks.length ck)
 lt:b<w.heap.size
theorem kG.up {w w':jN9} {at_:At} {li:List aj} {ks:List ah} {vc vp vl vk:Value} (h:kG (·<w.heap.size) w at_ li ks vc vp vl vk) (hb:Below w.heap.size w w'):kG (·<w'.heap.size) w' at_ li ks vc vp vl vk:=
 ⟨h.at_.up hb,h.line.up hb,h.kids.up hb⟩
theorem YU.up {w w':jN9} {b o:Nat} {k lv:Int} {i t d ti:ByteArray} {at_:At} {li:List aj} {ks:List ah} {ac ap al ak:Option Addr} {cc cp cl ck:Nat} (h:YU w b o k lv i t d ti at_ li ks ac ap al ak cc cp cl ck) (hb:Below w.heap.size w w'):YU w' b o k lv i t d ti at_ li ks ac ap al ak cc cp cl ck:=
 ⟨h.cells.at2 (hb.block b h.lt),h.rd.up hb,Nat.lt_of_lt_of_le h.lt hb.size⟩
theorem tC (k:Int):k=1\/k=2\/k=3\/k=4\/k=5\/k=6\/k=7\/k=8\/k=9\/k=10\/k=11\/k=12\/k=13\/k=14\/k=15\/(k<1\/15<k):=by omega
theorem jk9{P:Prop}(h:P:=by
 rw [HV.out];have:(decide (1<=k)&&decide (k<=15))=false:=by rw [Bool.and_eq_false_iff];simp;omega
 rw [this];rfl):P:=h
theorem yD (w:jN9) (b o:Nat) (k lv:Int) (i t d ti:ByteArray) (at_:At) (li:List aj) (ks:List ah) (ac ap al ak:Option Addr) (cc cp cl ck:Nat) (h:YU w b o k lv i t d ti at_ li ks ac ap al ak cc cp cl ck) : Calls prog 132 #[.pointer (some ⟨b,o,none⟩)] w (dF (.bool (zP k lv i t d ti at_ li ks)) w):=by
 have l1:=(sS h.rd.at_.cls).2;have l2:=(sS h.rd.at_.aD).2;obtain ⟨-,l4,m4⟩:=sS h.rd.line;obtain ⟨-,l5,m5⟩:=sS h.rd.kids;unfold maxLen at m4 m5;have AE:=hid (fun w=>qU at_ ac ap cc cp w (by omega) (by omega));clear l1 l2;have HP:=hid h;obtain ⟨c0,c1,c2,c3,c4,c5,c6,c7,c8,c9,c10⟩:=h.cells;have e2:=kF li;have e3:=kF ks;have HV:Hid (zP k lv i t d ti at_ li ks=(decide (1<=k)&&decide (k<=15)&&(([2,8]:List Int).contains k||decide (lv=0))&&(([3,10,13,14,15]:List Int).contains k||aV i)&&(([3,4]:List Int).contains k||aV t) &&
 (decide (k=15)||(aV d&&aV ti))&&(([2,4,13]:List Int).contains k||at_.none)&&(([1,2,12]:List Int).contains k||li.isEmpty)&&(([6,7,8,9,10,11,13,14]:List Int).contains k||ks.isEmpty))):=rfl
 have HI:=hid (pI i).symm;have HD:=hid (pI d).symm;have HT:=hid (pI t).symm;have HTI:=hid (pI ti).symm;have HLV:Hid (decide (lv=0)=(lv==0)):=by show _=_;rw [jKk];simp
 obtain ⟨V,hV⟩:∃ V,V=zP k lv i t d ti at_ li ks:=⟨_,rfl⟩
 rw [<- hV] at HV ⊢;generalize at_.none=bn at *
 generalize li.isEmpty=bl at *;generalize ks.isEmpty=bk at *;clear hV h;rcases tC k with rfl | rfl | rfl | rfl | rfl | rfl | rfl | rfl | rfl | rfl | rfl | rfl | rfl | rfl | rfl | hk
 case inr.inr.inr.inr.inr.inr.inr.inr.inr.inr.inr.inr.inr.inr.inr=>
  have hv:V=false:=by exact jk9
  have HE:=hid hv;rcases hk with hk | hk
  all_goals
   clear hv e2 e3;go_enter func132,ntmps132;refine Qf ?_;exact Cc
 all_goals
  go_enter func132,ntmps132;refine Qf ?_;go_wp2_with (go_at_call 165;refine (AE.out _).mono ?_;rintro e w1 ⟨rfl,hb1⟩;obtain ⟨p0,p1,p2,p3,p4,p5,p6,p7,p8,p9,sM⟩:=(HP.out.up hb1).cells)
  all_goals
   go_ret;refine ⟨vB ?_,?_⟩
   ·rw [HV.out,HI.out,HD.out,HT.out,HTI.out,HLV.out];first | (simp only [*];done) | (simp only [*];simp;done) | (simp;done) | (simp;intros;contradiction) | (simp_all;done)
   ·first | exact hb1 | exact jK7 _ _
theorem jB1 (w:jN9) (T:TypeId) (a b c:Int):∀ j k,([a,b,c]:List Int)[j]?=some k->(w.alloc (.cells #[.int .i64 a,.int .i64 b,.int .i64 c] T)).cell? ⟨w.heap.size,j,none⟩=some (.int .i64 k):=by
 intro j k h;refine IV w [.int .i64 a,.int .i64 b,.int .i64 c] T j _ ?_
 match j,h with
 | 0,h=>simp at h;subst h;rfl
 | 1,h=>simp at h;subst h;rfl
 | 2,h=>simp at h;subst h;rfl
theorem Uh (w:jN9) (T:TypeId) (a b:Int):∀ j k,([a,b]:List Int)[j]?=some k->(w.alloc (.cells #[.int .i64 a,.int .i64 b] T)).cell? ⟨w.heap.size,j,none⟩=some (.int .i64 k):=by
 intro j k h;refine IV w [.int .i64 a,.int .i64 b] T j _ ?_
 match j,h with
 | 0,h=>simp at h;subst h;rfl
 | 1,h=>simp at h;subst h;rfl
theorem jd8 (w:jN9) (T:TypeId) (a b c d f:Int):∀ j k,([a,b,c,d,f]:List Int)[j]?=some k->(w.alloc (.cells #[.int .i64 a,.int .i64 b,.int .i64 c,.int .i64 d,.int .i64 f] T)).cell? ⟨w.heap.size,j,none⟩=some (.int .i64 k):=by
 intro j k h;refine IV w [.int .i64 a,.int .i64 b,.int .i64 c,.int .i64 d,.int .i64 f] T j _ ?_
 match j,h with
 | 0,h=>simp at h;subst h;rfl
 | 1,h=>simp at h;subst h;rfl
 | 2,h=>simp at h;subst h;rfl
 | 3,h=>simp at h;subst h;rfl
 | 4,h=>simp at h;subst h;rfl
theorem Us (k par:Int) (w:jN9):Calls prog 133 #[.int .i64 k,.int .i64 par] w (dF (.bool (dX k par)) w):=by
 have OO:=hid (lJ k [9,11,12] w.heap.size 3 _ (by simp) (jB1 w 3 9 11 12));simp only [List.length_cons,List.length_nil,Nat.reduceAdd] at OO;obtain ⟨V,hV⟩:∃ V,V=dX k par:=⟨_,rfl⟩;rw [<- hV];have HV:=hid hV;obtain ⟨cb,hcb⟩:∃ cb,([9,11,12]:List Int).contains k=cb:=⟨_,rfl⟩;rw [hcb] at OO;have HN:=hid hcb;clear hV hcb;go_enter func133,ntmps133;go_wp2_with (go_at_call 161;refine OO.out.mono ?_;rintro e w1 ⟨rfl,rfl⟩)
 all_goals
  go_ret;refine ⟨vB ?_,?_⟩
  ·rw [HV.out];unfold dX;simp only [beq_iff_eq,beq_eq_false_iff_ne,ne_eq] at *
   (repeat' split)<;>first | omega | (rw [jKk];simp;done) | (rw [HN.out];done) | (simp;omega) | skip
  ·first | exact (jK7 _ _).alloc (Nat.le_refl _) _ | exact jK7 _ _
open Go.RowKit
theorem jw (k:Int) (ks:List Int) (w:jN9) (T:TypeId) (hks:ks.length<=1000) : Calls prog 175 #[.int .i64 k,.slice (some ⟨w.heap.size,0,none⟩) ks.length ks.length] (w.alloc (.cells (ks.map (Value.int .i64)).toArray T)) fun e w'=>e=.returned (.bool (ks.contains k))/\Below w.heap.size w w':=by
 refine (jb8 k ks w.heap.size ks.length _ hks (fun j x hx=>?_)).mono fun e w' h=>⟨h.1,by rw [<- h.2];exact (jK7 _ _).alloc (Nat.le_refl _) _⟩
 have:=JA w (ks.map (Value.int .i64)) T j (.int .i64 x) (by rw [List.getElem?_map,hx];rfl);exact jj8
theorem Ce (k:Int) (w:jN9):Calls prog 243 #[.int .i64 k] w (dF (.bool (dh.contains k)) w):=by
 have IL:=hid (jw k [9,16,12,14,13] w 3 (by decide));have HV:Hid (dh.contains k=([9,16,12,14,13]:List Int).contains k):=rfl;generalize dh.contains k=V at *;generalize ([9,16,12,14,13]:List Int).contains k=V2 at *;go_enter func243,ntmps243;go_wp2_with fail
 refine IL.out.mono ?_;rintro e w1 ⟨rfl,b1⟩;have HB:=hid b1;clear b1 IL;go_wp2;go_ret;exact ⟨by rw [HV.out];rfl,HB.out⟩
def jkj (l:List aj) (ks:List Int) (w:jN9) (vi:Value) (wr:jN9):Prop:=∃ k:Nat,k<=l.length/\vi=.int .i64 k/\aj.cO ks (l.take k)=false/\Below w.heap.size w wr
theorem ju7 (k:Int):bT.contains k=((k==2)||(k==3)):=by unfold bT;rw [jKk];simp
theorem jy{P:Prop}(h:P:=by
 go_wp2;go_ret;exact ⟨by rw [HE.out];rfl,HB.out⟩):P:=h
theorem jkk{P:Prop}(h:P:=by
 clear b2;go_wp2;go_roundw;case rel=>exact ⟨k+1,by omega,by go_num,by rw [kg.out,HN.out,HX.out];rfl,HB2.out⟩
 case measure=>simp [intOf];omega):P:=h
theorem Qg{P:Prop}(h:P:=by
 go_wp2;go_ret;exact ⟨by rw [HE.out];rfl,HB2.out⟩):P:=h
theorem Cg (n:Nat):∀ (l:List aj) (v:Value) (le:Bool) (w:jN9),aj.aU l<=n->Rd (·<w.heap.size) w (aZ l) [v] -> Calls prog 209 #[v,.bool le] w (dF (.bool (aj.cO (if le then bT else dh) l)) w):=by
 induction n using Nat.strongRecOn with
 | _ n ih=>
  intro l v le w hn hrd;obtain ⟨a,cp,hv,hs⟩:=Rd.aB hrd;obtain rfl:v=.slice a l.length cp:=by simpa using hv
  have hcap:l.length<=cp:=by simpa using hs.le
  have hmx:=hs.max;unfold maxLen at hmx;have HR:=hid hrd;have IH:=hid ih;obtain ⟨ks,hks⟩:∃ ks,ks=if le then bT else dh:=⟨_,rfl⟩
  rw [<- hks];have Je:=hid hks;have R0:Hid (jkj l ks w (.int .i64 0) w):=⟨0,Nat.zero_le _,rfl,by rw [List.take_zero,aj.cO],jK7 _ _⟩;obtain ⟨V,hV⟩:∃ V,V=aj.cO ks l:=⟨_,rfl⟩;rw [<- hV];have HV:=hid hV;clear hs hv hrd ih hks hV;go_enter func209,ntmps209;go_wp2
  go_loopw [5] (fun i wr=>jkj l ks w i wr) (fun i _=>l.length-(intOf i).toNat)
  case atStart=>exact R0.out
  case round=>
   clear R0;obtain ⟨k,hk,rfl,hno,hbel⟩:=hrel;have HN:=hid hno;have HB:=hid hbel;clear hno;by_cases hlt:k<l.length
   ·obtain ⟨x,hx⟩:∃ x,l[k]?=some x:=⟨_,List.getElem?_eq_getElem hlt⟩;have hsn:=aj.Fy ks hx;have HG:=hid (aj.Ch ks hx);obtain ⟨kd,t,d,ti,at_,ar,ci,kids⟩:=x;obtain ⟨a',cp',hv',hs'⟩:=Rd.aB (HR.out.up hbel);obtain ⟨rfl,rfl⟩:a'=a/\cp'=cp:=by simp at hv';exact ⟨hv'.1.symm,hv'.2.symm⟩
    obtain ⟨b,off,vc,vp,va,vi,vk,rfl,hok,hbl,hcl,hR⟩:=fE hs' hx;obtain ⟨c0,-,-,-,-,-,-,-,-,c9⟩:=hcl;have hsz:=aj.bK l k _ hx;rw [aj.sz] at hsz;have AK:=hid (fun (w2:jN9) (h2:Below wr.heap.size wr w2)=>IH.out (aj.aU kids) (by omega) kids vk le w2 (Nat.le_refl _) (hR.kids.up h2));rw [<- Je.out] at AK;obtain ⟨ak,nk,ck,rfl⟩:=Rd.yJ hR.kids;have HX:Hid ((aj.mk kd t d ti at_ ar ci kids).Nk ks=(ks.contains kd||aj.cO ks kids)):=by show _=_;rw [aj.Nk]
    have kg:=hid hsn;have Db:Hid (∀ w2,Below wr.heap.size wr w2->w2.cell? ⟨b,off+k*10+9,none⟩=some (.slice ak nk ck)):=fun w2 h2=>by rw [h2.cell (p:=⟨b,off+k*10+9,none⟩) hbl];exact c9
    clear hx hR hsn hv' hs';cases le with
    | false=>
     obtain rfl:ks=dh:=Je.out;have RF:=hid (Ce kd);cases h1:dh.contains kd with
     | true=>
      rw [h1] at RF HX;refine Cj ?_;intro HE;clear h1 hbel;go_wp2_with fail
      refine (RF.out _).mono ?_;rintro e w1 ⟨rfl,b1⟩;have HB1:=hid (q01 HB.out b1);clear b1;go_wp2;go_ret;exact ⟨by rw [HE.out];rfl,HB1.out⟩
     | false=>
      rw [h1] at RF HX;clear h1 hbel;cases h2:aj.cO dh kids
      all_goals
       rw [h2] at AK HX
      case true=>
       refine Cj ?_;intro HE;clear h2;go_wp2_with fail
       refine (RF.out _).mono ?_;rintro e w1 ⟨rfl,b1⟩;have c9:=Db.out w1 b1;have HB1:=hid b1;clear b1;go_wp2_with fail
       refine (AK.out _ HB1.out).mono ?_;rintro e w2 ⟨rfl,b2⟩;have HB2:=hid (q01 (q01 HB.out HB1.out) b2);clear b2;exact Qg
      case false=>
       clear h2;go_wp2_with fail
       refine (RF.out _).mono ?_;rintro e w1 ⟨rfl,b1⟩;have c9:=Db.out w1 b1;have HB1:=hid b1;clear b1;go_wp2_with fail
       refine (AK.out _ HB1.out).mono ?_;rintro e w2 ⟨rfl,b2⟩;have HB2:=hid (q01 (q01 HB.out HB1.out) b2);exact jkk
    | true=>
     obtain rfl:ks=bT:=Je.out;rw [ju7] at HX;clear hbel;cases h1:(kd==2) with
     | true=>
      rw [h1] at HX;refine Cj ?_;intro HE;exact jy
     | false=>
      cases h3:(kd==3) with
      | true=>
       rw [h1,h3] at HX;refine Cj ?_;intro HE;exact jy
      | false=>
       rw [h1,h3] at HX;cases h2:aj.cO bT kids
       all_goals
        rw [h2] at AK HX
       case true=>
        refine Cj ?_;intro HE;clear h2;go_wp2_with fail
        refine (AK.out _ (jK7 _ _)).mono ?_;rintro e w2 ⟨rfl,b2⟩;have HB2:=hid (q01 HB.out b2);clear b2;exact Qg
       case false=>
        clear h2;go_wp2_with fail
        refine (AK.out _ (jK7 _ _)).mono ?_;rintro e w2 ⟨rfl,b2⟩;have HB2:=hid (q01 HB.out b2);exact jkk
   ·have HE:Hid (V=false):=by
     show V=false;rw [HV.out];have:=HN.out
     rwa [List.take_of_length_le (by omega)] at this
    clear hbel;exact jy
theorem kZ{P Q:Prop}(q:Q)(h:Nonempty Q->P:=by
 intro qQ
 (try simp only [List.append_eq,List.cons_append,List.nil_append])
 exact qQ.elim fun x=>x):P:=h ⟨q⟩
theorem jkq{P:Prop}(h:P:=by
 have q3:decide ((65:Int)<=(s[k].toNat:Int))=true:=by rw [eb];simp;omega
 have q4:decide ((s[k].toNat:Int)<=(90:Int))=false:=by rw [eb];simp;omega
 have HT:Hid (B=false):=by show B=false;rw [HB2.out,HLT.out];simp;omega
 clear eb h;go_wp2_with fail
 go_meet
 exact ⟨by rw [HT.out],rfl⟩):P:=h
theorem Xr{P:Prop}(h:P:=by
 clear eb h;go_wp2_with fail
 go_meet
 exact ⟨by rw [HT.out],rfl⟩):P:=h
theorem Sg (s:ByteArray) (w:jN9) (hs:s.size<=1000000000) : Calls prog 286 #[.string s] w (dF (.bool (jS s)) w):=by
 have HV:Hid (jS s=(decide (2<=gy s)&&decide (gy s<=20)&&decide (s.data.toList[gy s]?=some 58)&&cZ s&&!nI s [32,60,62])):=rfl;have RL:=hid (fun w=>Xt s w hs);have HH:=hid (fun w=>jP s ⟨#[32,60,62]⟩ w hs (by decide));change Hid (∀ w,Calls prog 215 #[.string s,.string ⟨#[32,60,62]⟩] w (dF (.bool (nI s [32,60,62])) w)) at HH;have jFq:Hid (∀ k,k<=s.data.toList.length->(∀ j x,j<k->s.data.toList[j]?=some x->dW x.toNat=true)->(∀ x,s.data.toList[k]?=some x->dW x.toNat=false)->gy s=k):=fun k h1 h2 h3=>qR (fun c=>dW c.toNat) _ k h1 h2 h3
 generalize jS s=V at *;generalize gy s=R at *;generalize cZ s=L at *;generalize nI s [32,60,62]=H at *;go_enter func286,ntmps286;refine kZ ?_;go_wp2
 go_loop [3] (fun vi=>∃ k:Nat,k<=s.size/\vi=.int .i64 k/\∀ j x,j<k->s.data.toList[j]?=some x->dW x.toNat=true) (fun i=>s.size-(intOf i).toNat)
 case atStart=>exact ⟨0,Nat.zero_le _,rfl,fun j x hj=>by omega⟩
 case round=>
  obtain ⟨k,hk,rfl,hall⟩:=hrel;have Dn:=hid hall;clear hall;obtain ⟨B,hB⟩:∃ B,B=(decide (k<s.size)&&dW (bt s k)):=⟨_,rfl⟩;have HB:=hid hB;clear hB;go_upto_region 2 with (fail)
  go_cut [31] (fun s31 wx=>s31=.bool B/\w=wx)
  case first=>
   by_cases hlt:k<s.size
   ·have eb:=jE s k hlt;have hbl:=gu s k;have HB2:Hid (B=dW (bt s k)):=by show B=_;rw [HB.out,decide_eq_true hlt];rfl
    have HLT:Hid (dW (bt s k)=(decide (97<=bt s k/\bt s k<=122)||decide (65<=bt s k/\bt s k<=90))):=by show _=_;unfold dW j6;rw [jKk];simp
    generalize bt s k=c at *;rcases (by omega:(97<=c/\c<=122)\/(122<c)\/(c<65)\/(65<=c/\c<=90)\/(90<c/\c<97)) with h | h | h | h | h
    ·have q1:decide ((97:Int)<=(s[k].toNat:Int))=true:=by rw [eb];simp;omega
     have q2:decide ((s[k].toNat:Int)<=(122:Int))=true:=by rw [eb];simp;omega
     have HT:Hid (B=true):=by show B=true;rw [HB2.out,HLT.out];simp;omega
     exact Xr
    ·have q1:decide ((97:Int)<=(s[k].toNat:Int))=true:=by rw [eb];simp;omega
     have q2:decide ((s[k].toNat:Int)<=(122:Int))=false:=by rw [eb];simp;omega
     exact jkq
    ·have q1:decide ((97:Int)<=(s[k].toNat:Int))=false:=by rw [eb];simp;omega
     have q3:decide ((65:Int)<=(s[k].toNat:Int))=false:=by rw [eb];simp;omega
     have HT:Hid (B=false):=by show B=false;rw [HB2.out,HLT.out];simp;omega
     exact Xr
    ·have q1:decide ((97:Int)<=(s[k].toNat:Int))=false:=by rw [eb];simp;omega
     have q3:decide ((65:Int)<=(s[k].toNat:Int))=true:=by rw [eb];simp;omega
     have q4:decide ((s[k].toNat:Int)<=(90:Int))=true:=by rw [eb];simp;omega
     have HT:Hid (B=true):=by show B=true;rw [HB2.out,HLT.out];simp;omega
     exact Xr
    ·have q1:decide ((97:Int)<=(s[k].toNat:Int))=false:=by rw [eb];simp;omega
     exact jkq
   ·have HT:Hid (B=false):=by show B=false;rw [HB.out,decide_eq_false hlt];rfl
    have q1:decide ((k:Int)<(s.size:Int))=false:=by simp;omega
    go_wp2_with fail
    go_meet
    exact ⟨by rw [HT.out],rfl⟩
  case rest=>
   obtain ⟨rfl,rfl⟩:=hcut;cases B with
   | true=>
    have hb:=HB.out;have hlt:k<s.size:=by
     rcases Nat.lt_or_ge k s.size with h | h
     ·exact h
     ·rw [decide_eq_false (by omega)] at hb;cases hb
    have HC:Hid (dW (bt s k)=true):=by show _=true;rw [decide_eq_true hlt] at hb;exact hb.symm
    clear hb;go_wp2
    go_round
    case rel=>
     refine ⟨k+1,by omega,by go_num,fun j x hj hx=>?_⟩;rcases Nat.lt_or_ge j k with h | h
     ·exact Dn.out j x h hx
     ·have:j=k:=by omega
      subst this;rw [CY s j hlt] at hx;obtain rfl:=Option.some.inj hx;rw [jE s j hlt];exact HC.out
    case measure=>simp [intOf];omega
   | false=>
    have hR:R=k:=jFq.out k (by simpa using hk) Dn.out (fun x hx=>by
     have h1:=(List.getElem?_eq_some_iff.1 hx).1;have hlt:k<s.size:=by simpa using h1
     rw [CY s k hlt] at hx;obtain rfl:=Option.some.inj hx;have hb:=HB.out;rw [decide_eq_true hlt] at hb;rw [jE s k hlt];exact hb.symm)
    subst hR;have qV:=HV.out;by_cases h2:2<=R;case neg=>
     have q1:decide ((2:Int)<=(R:Int))=false:=by simp;omega
     have HE:Hid (V=false):=by show V=false;rw [qV,decide_eq_false h2];rfl
     clear qV;exact Cc
    have q1:decide ((2:Int)<=(R:Int))=true:=by simp;omega
    by_cases h20:R<=20;case neg=>
     have q2:decide ((R:Int)<=(20:Int))=false:=by simp;omega
     have HE:Hid (V=false):=by show V=false;rw [qV,decide_eq_true h2,decide_eq_false h20];rfl
     clear qV;exact Cc
    have q2:decide ((R:Int)<=(20:Int))=true:=by simp;omega
    by_cases hlt:R<s.size;case neg=>
     have q3:decide ((R:Int)<(s.size:Int))=false:=by simp;omega
     have HE:Hid (V=false):=by show V=false;have h0:s.data.toList[R]?=none:=List.getElem?_eq_none (by simp;omega);rw [qV,decide_eq_true h2,decide_eq_true h20,h0];simp
     clear qV;exact Cc
    have q3:decide ((R:Int)<(s.size:Int))=true:=by simp;omega
    have h58:decide (s.data.toList[R]?=some 58)=((s[R].toNat:Int)==58):=by rw [CY s R hlt,jKk];simp [<- UInt8.toNat_inj];omega
    rw [h58,decide_eq_true h2,decide_eq_true h20] at qV;have Ms:=hid qV;clear qV h58;cases hc:((s[R].toNat:Int)==58) with
    | false=>
     rw [hc] at Ms;have HE:Hid (V=false):=Ms.out;exact Cc
    | true=>
     rw [hc] at Ms;cases L with
     | false=>
      have HE:Hid (V=false):=Ms.out;go_wp2_with fail
      refine (RL.out _).mono ?_;rintro e w1 ⟨rfl,b1⟩;have HB1:=hid b1;clear b1;go_wp2;go_ret;exact ⟨by rw [HE.out];rfl,HB1.out⟩
     | true=>
      have HE:Hid (V=!H):=Ms.out;go_wp2_with fail
      refine (RL.out _).mono ?_;rintro e w1 ⟨rfl,b1⟩;have HB1:=hid b1;clear b1;go_wp2_with fail
      refine (HH.out _).mono ?_;rintro e w2 ⟨rfl,b2⟩;have HB2:=hid (q01 HB1.out b2);clear b2;exact Qg
open Go.RowKit
theorem Xu (k:Int):(k<1\/16<k)\/(1<=k/\k<=16)/\( (([1,4,5,9,10,12,14,15]:List Int).contains k=true/\([9,10,16]:List Int).contains k=false/\([9,10,14]:List Int).contains k=false/\([10,11]:List Int).contains k=false/\([6,7,8,9,10,11]:List Int).contains k=false/\(k==15)=false/\(k==13)=false) \/ (([1,4,5,9,10,12,14,15]:List Int).contains k=false/\([9,10,16]:List Int).contains k=false/\([9,10,14]:List Int).contains k=false/\([10,11]:List Int).contains k=false/\([6,7,8,9,10,11]:List Int).contains k=false/\(k==15)=false/\(k==13)=false) \/ (([1,4,5,9,10,12,14,15]:List Int).contains k=false/\([9,10,16]:List Int).contains k=false/\([9,10,14]:List Int).contains k=false/\([10,11]:List Int).contains k=false/\([6,7,8,9,10,11]:List Int).contains k=true/\(k==15)=false/\(k==13)=false) \/ (([1,4,5,9,10,12,14,15]:List Int).contains k=true/\([9,10,16]:List Int).contains k=true/\([9,10,14]:List Int).contains k=true/\([10,11]:List Int).contains k=false/\([6,7,8,9,10,11]:List Int).contains k=true/\(k==15)=false/\(k==13)=false) \/ (([1,4,5,9,10,12,14,15]:List Int).contains k=true/\([9,10,16]:List Int).contains k=true/\([9,10,14]:List Int).contains k=true/\([10,11]:List Int).contains k=true/\([6,7,8,9,10,11]:List Int).contains k=true/\(k==15)=false/\(k==13)=false) \/ (([1,4,5,9,10,12,14,15]:List Int).contains k=false/\([9,10,16]:List Int).contains k=false/\([9,10,14]:List Int).contains k=false/\([10,11]:List Int).contains k=true/\([6,7,8,9,10,11]:List Int).contains k=true/\(k==15)=false/\(k==13)=false) \/ (([1,4,5,9,10,12,14,15]:List Int).contains k=false/\([9,10,16]:List Int).contains k=false/\([9,10,14]:List Int).contains k=false/\([10,11]:List Int).contains k=false/\([6,7,8,9,10,11]:List Int).contains k=false/\(k==15)=false/\(k==13)=true) \/ (([1,4,5,9,10,12,14,15]:List Int).contains k=true/\([9,10,16]:List Int).contains k=false/\([9,10,14]:List Int).contains k=true/\([10,11]:List Int).contains k=false/\([6,7,8,9,10,11]:List Int).contains k=false/\(k==15)=false/\(k==13)=false) \/ (([1,4,5,9,10,12,14,15]:List Int).contains k=true/\([9,10,16]:List Int).contains k=false/\([9,10,14]:List Int).contains k=false/\([10,11]:List Int).contains k=false/\([6,7,8,9,10,11]:List Int).contains k=false/\(k==15)=true/\(k==13)=false) \/ (([1,4,5,9,10,12,14,15]:List Int).contains k=false/\([9,10,16]:List Int).contains k=true/\([9,10,14]:List Int).contains k=false/\([10,11]:List Int).contains k=false/\([6,7,8,9,10,11]:List Int).contains k=false/\(k==15)=false/\(k==13)=false)):=by
 rcases sU k with rfl | rfl | rfl | rfl | rfl | rfl | rfl | rfl | rfl | rfl | rfl | rfl | rfl | rfl | rfl | rfl | hk
 case inr.inr.inr.inr.inr.inr.inr.inr.inr.inr.inr.inr.inr.inr.inr.inr=>exact .inl hk
 all_goals (right;simp)
theorem uR (w:jN9) (k:Int) (t d ti:ByteArray) (at_:At) (ar:List ByteArray) (ci:List Ci) (ks:List aj) (ac ap aa ai ak:Option Addr) (cc cp ca gD ck:Nat) (h:vD (·<w.heap.size) w at_ ar ci ks (.slice ac at_.cls.length cc) (.slice ap at_.aD.length cp) (.slice aa ar.length ca) (.slice ai ci.length gD) (.slice ak ks.length ck)) : Calls prog 282 #[.agg #[.int .i64 k,.string t,.string d,.string ti,.string at_.id,.slice ac at_.cls.length cc,.slice ap at_.aD.length cp,.slice aa ar.length ca,.slice ai ci.length gD,.slice ak ks.length ck]] w (dF (.bool (zL k t d ti at_ ar ci ks)) w):=by
 have l1:=(sS h.at_.cls).2;have l2:=(sS h.at_.aD).2;obtain ⟨-,l3,m3⟩:=sS h.args;obtain ⟨-,l4,m4⟩:=sS h.dH;obtain ⟨-,l5,m5⟩:=sS h.kids;unfold maxLen at m3 m4 m5;have AE:=hid (fun w=>o8 at_ ac ap cc cp w (by omega) (by omega));clear l1 l2;have HV:Hid (zL k t d ti at_ ar ci ks=(decide (1<=k)&&decide (k<=16)&&(([1,4,5,9,10,12,14,15]:List Int).contains k||t.toList.isEmpty)&&(([9,10,16]:List Int).contains k||d.toList.isEmpty)&&(([9,10,14]:List Int).contains k||ti.toList.isEmpty) &&
 (([10,11]:List Int).contains k||at_.none)&&(([6,7,8,9,10,11]:List Int).contains k||((ks.length:Int)==0))&&((k==15)||((ar.length:Int)==0))&&((k==13)||((ci.length:Int)==0)))):=by show _=_;rw [pI,pI,pI,kF,kF,kF];rfl
 obtain ⟨V,hV⟩:∃ V,V=zL k t d ti at_ ar ci ks:=⟨_,rfl⟩
 rw [<- hV] at HV ⊢;have Xv:=Xu k;have IL1:=hid (fun (w:jN9)=>jw k [1,4,5,9,10,12,14,15] w 3 (by decide));have IL2:=hid (fun (w:jN9)=>jw k [9,10,16] w 3 (by decide));have IL3:=hid (fun (w:jN9)=>jw k [9,10,14] w 3 (by decide));have IL4:=hid (fun (w:jN9)=>jw k [10,11] w 3 (by decide));have IL5:=hid (fun (w:jN9)=>jw k [6,7,8,9,10,11] w 3 (by decide));generalize ([1,4,5,9,10,12,14,15]:List Int).contains k=b1 at *;generalize ([9,10,16]:List Int).contains k=b2 at *;generalize ([9,10,14]:List Int).contains k=b3 at *;generalize ([10,11]:List Int).contains k=b4 at *;generalize ([6,7,8,9,10,11]:List Int).contains k=b5 at *;generalize at_.none=bn at *
 obtain ⟨w1,hw1⟩:∃ w1,w1=w.alloc (.cells #[.int .i64 k,.string t,.string d,.string ti,.string at_.id,.slice ac at_.cls.length cc,.slice ap at_.aD.length cp,.slice aa ar.length ca,.slice ai ci.length gD,.slice ak ks.length ck] 66):=⟨_,rfl⟩;have k1:CB 66 w.heap.size [.int .i64 k,.string t,.string d,.string ti,.string at_.id,.slice ac at_.cls.length cc,.slice ap at_.aD.length cp,.slice aa ar.length ca,.slice ai ci.length gD,.slice ak ks.length ck] w1:=by rw [hw1];exact CB.new _ _ _
 have B1:Hid (Below w.heap.size w w1):=by show Below _ _ _;rw [hw1];exact (jK7 _ _).alloc (Nat.le_refl _) _
 have p0:=k1.cell 0 _ rfl;have K1:=hid k1;clear hV h k1;go_enter func282,ntmps282;simp only [List.append_eq,List.cons_append,List.nil_append];go_upto_region 1 with (fail)
 rw [<- hw1];clear hw1;go_wp2_with fail
 refine (IL1.out w1).mono ?_;rintro e w2 ⟨rfl,b2⟩;have K2:=hid (K1.out.below b2);have B2:=hid (q01 B1.out b2);have p0:=K2.out.cell 0 _ rfl;clear b2 K1 B1;go_wp2_with fail
 refine (IL2.out w2).mono ?_;rintro e w3 ⟨rfl,b3⟩;have K3:=hid (K2.out.below b3);have B3:=hid (q01 B2.out b3);have p0:=K3.out.cell 0 _ rfl;clear b3 K2 B2;go_wp2_with fail
 refine (IL3.out w3).mono ?_;rintro e w4 ⟨rfl,b4⟩;have K4:=hid (K3.out.below b4);have B4:=hid (q01 B3.out b4);have p0:=K4.out.cell 0 _ rfl;clear b4 K3 B3;go_wp2_with fail
 refine (IL4.out w4).mono ?_;rintro e w5 ⟨rfl,b5⟩;have K5:=hid (K4.out.below b5);have B5:=hid (q01 B4.out b5);have p0:=K5.out.cell 0 _ rfl;clear b5 K4 B4;go_wp2_with fail
 refine (IL5.out w5).mono ?_;rintro e w6 ⟨rfl,b6⟩;have K6:=hid (K5.out.below b6);have B6:=hid (q01 B5.out b6);have p0:=K6.out.cell 0 _ rfl;clear b6 K5 B5;have p0:=K6.out.cell 0 _ rfl;have p1:=K6.out.cell 1 _ rfl;have p2:=K6.out.cell 2 _ rfl;have p3:=K6.out.cell 3 _ rfl;have p4:=K6.out.cell 4 _ rfl;have p5:=K6.out.cell 5 _ rfl;have p6:=K6.out.cell 6 _ rfl;have p7:=K6.out.cell 7 _ rfl;have p8:=K6.out.cell 8 _ rfl;have p9:=K6.out.cell 9 _ rfl;rcases Xv with hk | ⟨⟨hk1,hk2⟩,hpat⟩
 ·have hv:V=false:=by
   exact jk8
  have HE:=hid hv;by_cases hk1:1<=k
  ·have q1:decide ((1:Int)<=k)=true:=by simpa using hk1
   have q2:decide (k<=(16:Int))=false:=by simp;omega
   clear hv hk;go_wp2;go_ret;exact ⟨by rw [HE.out];rfl,B6.out⟩
  ·have q1:decide ((1:Int)<=k)=false:=by simpa using hk1
   clear hv hk;go_wp2;go_ret;exact ⟨by rw [HE.out];rfl,B6.out⟩
 have q1:decide ((1:Int)<=k)=true:=by simpa using hk1
 have q2:decide (k<=(16:Int))=true:=by simpa using hk2
 rw [q1,q2] at HV;generalize jFx:(k==15)=Tt at *;generalize jJ9:(k==13)=q13 at *;clear hk1 hk2;rcases hpat with ⟨rfl,rfl,rfl,rfl,rfl,rfl,rfl⟩ | ⟨rfl,rfl,rfl,rfl,rfl,rfl,rfl⟩ | ⟨rfl,rfl,rfl,rfl,rfl,rfl,rfl⟩ | ⟨rfl,rfl,rfl,rfl,rfl,rfl,rfl⟩ | ⟨rfl,rfl,rfl,rfl,rfl,rfl,rfl⟩ | ⟨rfl,rfl,rfl,rfl,rfl,rfl,rfl⟩ | ⟨rfl,rfl,rfl,rfl,rfl,rfl,rfl⟩ | ⟨rfl,rfl,rfl,rfl,rfl,rfl,rfl⟩ | ⟨rfl,rfl,rfl,rfl,rfl,rfl,rfl⟩ | ⟨rfl,rfl,rfl,rfl,rfl,rfl,rfl⟩
 all_goals
  go_wp2_with (go_at_call 176;refine (AE.out _).mono ?_;rintro e w7 ⟨rfl,TG⟩;have K7:=K6.out.below TG;have p7:=K7.cell 7 _ rfl;have p8:=K7.cell 8 _ rfl;have p9:=K7.cell 9 _ rfl;have p0:=K7.cell 0 _ rfl)
  all_goals
   go_ret;refine ⟨vB ?_,?_⟩
   ·rw [HV.out]
    (try simp only [*])
    (try simp)
    (try (simp only [<- List.length_eq_zero_iff];omega))
   ·first | exact q01 B6.out TG | exact B6.out
end Go.Proofs.YtkfnkeflalcphaaGreatDoor

