/- Contracts of tree.inlineFields, blockFields, fits. Contracts of tree.blockFields, fits. Contracts of publisherref04.reference, anyOf, auto. Contract of publisherref04.inlineFields. -/
import Derived.Test.YtkfnkeflalcphaaGreatDoorKRfD
import Derived.BigGuardPart
set_option maxHeartbeats 8000000
set_option maxRecDepth 100000
open Go.Lib (hid)
namespace Go.Proofs.YtkfnkeflalcphaaGreatDoor
open Go.RowKit.Below renaming refl->jk6
open List renaming cons_append->jl5,nil_append->jl6
open Go.RowKit
set_option linter.unusedVariables false
set_option linter.unusedSimpArgs false
structure SH (w:World) (b o:Nat) (k:Int) (t d ti:ByteArray) (at_:At) (ar:List ByteArray) (ci:List Ci) (ks:List aj) (ac ap aa ai ak:Option Addr) (cc cp ca oG ck:Nat):Prop where
 cells:fT w b o k t d ti at_.id (.slice ac at_.cls.length cc) (.slice ap at_.aI.length cp) (.slice aa ar.length ca) (.slice ai ci.length oG) (.slice ak ks.length ck)
 rd:uh (·<w.heap.size) w at_ ar ci ks (.slice ac at_.cls.length cc) (.slice ap at_.aI.length cp) (.slice aa ar.length ca) (.slice ai ci.length oG) (.slice ak ks.length ck)
 lt:b<w.heap.size
theorem uh.up {w w':World} {at_:At} {ar:List ByteArray} {ci:List Ci} {ks:List aj} {vc vp va vi vk:Value} (h:uh (·<w.heap.size) w at_ ar ci ks vc vp va vi vk) (hb:Below w.heap.size w w'):uh (·<w'.heap.size) w' at_ ar ci ks vc vp va vi vk:=
 ⟨h.at_.up hb,h.args.up hb,h.dD.up hb,h.kids.up hb⟩
theorem SH.up {w w':World} {b o:Nat} {k:Int} {t d ti:ByteArray} {at_:At} {ar:List ByteArray} {ci:List Ci} {ks:List aj} {ac ap aa ai ak:Option Addr} {cc cp ca oG ck:Nat} (h:SH w b o k t d ti at_ ar ci ks ac ap aa ai ak cc cp ca oG ck) (hb:Below w.heap.size w w'):SH w' b o k t d ti at_ ar ci ks ac ap aa ai ak cc cp ca oG ck:=
 ⟨h.cells.at2 (hb.block b h.lt),h.rd.up hb,Nat.lt_of_lt_of_le h.lt hb.size⟩
theorem fI {ok:Nat->Prop} {w:World} {k:Nat} {l:List D} {a:Option Addr} {n c:Nat} (h:Rd ok w (.sl k l) [.slice a n c]):n=l.length/\n<=c/\c<=maxLen:=by
 obtain ⟨a',c',h1,h2⟩:=h.ay;have h3:n=l.length/\c=c':=by simp at h1;exact ⟨h1.2.1,h1.2.2⟩
 obtain ⟨rfl,rfl⟩:=h3;exact ⟨rfl,h2.le,h2.max⟩
theorem Dx (k:Int):k=1\/k=2\/k=3\/k=4\/k=5\/k=6\/k=7\/k=8\/k=9\/k=10\/k=11\/k=12\/k=13\/k=14\/k=15\/k=16\/(k<1\/16<k):=by omega
theorem rG (w:World) (b o:Nat) (k:Int) (t d ti:ByteArray) (at_:At) (ar:List ByteArray) (ci:List Ci) (ks:List aj) (ac ap aa ai ak:Option Addr) (cc cp ca oG ck:Nat) (h:SH w b o k t d ti at_ ar ci ks ac ap aa ai ak cc cp ca oG ck) : Calls Tryz.prog 160 #[.pointer (some ⟨b,o,none⟩)] w (dH (.bool (q0z k t d ti at_ ar ci ks)) w):=by
 have l1:=(fI h.rd.at_.cls).2;have l2:=(fI h.rd.at_.aI).2;obtain ⟨-,l3,m3⟩:=fI h.rd.args;obtain ⟨-,l4,m4⟩:=fI h.rd.dD;obtain ⟨-,l5,m5⟩:=fI h.rd.kids;unfold maxLen at m3 m4 m5;have AE:=hid (fun w=>oH at_ ac ap cc cp w (by omega) (by omega));clear l1 l2;have HP:=hid h;obtain ⟨c0,c1,c2,c3,c4,c5,c6,c7,c8,c9⟩:=h.cells;have e1:=uS ar;have e2:=uS ci;have e3:=uS ks;have HV:Hid (q0z k t d ti at_ ar ci ks=(decide (1<=k)&&decide (k<=16)&&(([1,4,5,9,10,12,14,15]:List Int).contains k||aZ t)&&(([9,10,16]:List Int).contains k||aZ d)&&(([9,10,14]:List Int).contains k||aZ ti) &&
 (([10,11]:List Int).contains k||at_.none)&&(([6,7,8,9,10,11]:List Int).contains k||ks.isEmpty)&&(decide (k=15)||ar.isEmpty)&&(decide (k=13)||ci.isEmpty))):=rfl
 have HD:=hid (dI d).symm;have HT:=hid (dI t).symm;have YH:=hid (dI ti).symm;obtain ⟨V,hV⟩:∃ V,V=q0z k t d ti at_ ar ci ks:=⟨_,rfl⟩
 rw [<- hV] at HV ⊢;generalize at_.none=bn at *
 generalize ar.isEmpty=ba at *;generalize ci.isEmpty=bc at *;generalize ks.isEmpty=bk at *;clear hV h;rcases Dx k with rfl | rfl | rfl | rfl | rfl | rfl | rfl | rfl | rfl | rfl | rfl | rfl | rfl | rfl | rfl | rfl | hk
 case inr.inr.inr.inr.inr.inr.inr.inr.inr.inr.inr.inr.inr.inr.inr.inr=>
  have hv:V=false:=by
   rw [HV.out];have:(decide (1<=k)&&decide (k<=16))=false:=by rw [Bool.and_eq_false_iff];simp;omega
   rw [this];rfl
  have HE:=hid hv;rcases hk with hk | hk
  all_goals
   clear hv e1 e2 e3;go_enter Tryz.func160,Tryz.ntmps160;simp only [List.append_eq,jl5,jl6];go_wp2;go_ret;exact ⟨by rw [HE.out];rfl,jk6 _ _⟩
 all_goals
  go_enter Tryz.func160,Tryz.ntmps160;simp only [List.append_eq,jl5,jl6];go_wp2_with (go_at_call 165;refine (AE.out _).mono ?_;rintro e w1 ⟨rfl,hb1⟩;obtain ⟨p0,p1,p2,p3,p4,p5,p6,p7,p8,p9⟩:=(HP.out.up hb1).cells)
  all_goals
   go_ret;refine ⟨Du ?_,?_⟩
   ·rw [HV.out,HD.out,HT.out,YH.out];simp only [*];simp
   ·first | exact hb1 | exact jk6 _ _
open Go.RowKit
structure P7 (w:World) (b o:Nat) (k lv:Int) (i t d ti:ByteArray) (at_:At) (li:List aj) (ks:List ah) (ac ap al ak:Option Addr) (cc cp cl ck:Nat):Prop where
 cells:cu w b o k lv i t d ti at_.id (.slice ac at_.cls.length cc) (.slice ap at_.aI.length cp) (.slice al li.length cl) (.slice ak ks.length ck)
 rd:kE (·<w.heap.size) w at_ li ks (.slice ac at_.cls.length cc) (.slice ap at_.aI.length cp) (.slice al li.length cl) (.slice ak ks.length ck)
 lt:b<w.heap.size
theorem kE.up {w w':World} {at_:At} {li:List aj} {ks:List ah} {vc vp vl vk:Value} (h:kE (·<w.heap.size) w at_ li ks vc vp vl vk) (hb:Below w.heap.size w w'):kE (·<w'.heap.size) w' at_ li ks vc vp vl vk:=
 ⟨h.at_.up hb,h.line.up hb,h.kids.up hb⟩
theorem P7.up {w w':World} {b o:Nat} {k lv:Int} {i t d ti:ByteArray} {at_:At} {li:List aj} {ks:List ah} {ac ap al ak:Option Addr} {cc cp cl ck:Nat} (h:P7 w b o k lv i t d ti at_ li ks ac ap al ak cc cp cl ck) (hb:Below w.heap.size w w'):P7 w' b o k lv i t d ti at_ li ks ac ap al ak cc cp cl ck:=
 ⟨h.cells.at2 (hb.block b h.lt),h.rd.up hb,Nat.lt_of_lt_of_le h.lt hb.size⟩
theorem EK (k:Int):k=1\/k=2\/k=3\/k=4\/k=5\/k=6\/k=7\/k=8\/k=9\/k=10\/k=11\/k=12\/k=13\/k=14\/k=15\/(k<1\/15<k):=by omega
theorem tJ (w:World) (b o:Nat) (k lv:Int) (i t d ti:ByteArray) (at_:At) (li:List aj) (ks:List ah) (ac ap al ak:Option Addr) (cc cp cl ck:Nat) (h:P7 w b o k lv i t d ti at_ li ks ac ap al ak cc cp cl ck) : Calls Tryz.prog 132 #[.pointer (some ⟨b,o,none⟩)] w (dH (.bool (Cq k lv i t d ti at_ li ks)) w):=by
 have l1:=(fI h.rd.at_.cls).2;have l2:=(fI h.rd.at_.aI).2;obtain ⟨-,l4,m4⟩:=fI h.rd.line;obtain ⟨-,l5,m5⟩:=fI h.rd.kids;unfold maxLen at m4 m5;have AE:=hid (fun w=>oH at_ ac ap cc cp w (by omega) (by omega));clear l1 l2;have HP:=hid h;obtain ⟨c0,c1,c2,c3,c4,c5,c6,c7,c8,c9,c10⟩:=h.cells;have e2:=uS li;have e3:=uS ks;have HV:Hid (Cq k lv i t d ti at_ li ks=(decide (1<=k)&&decide (k<=15)&&(([2,8]:List Int).contains k||decide (lv=0))&&(([3,10,13,14,15]:List Int).contains k||aZ i)&&(([3,4]:List Int).contains k||aZ t) &&
 (decide (k=15)||(aZ d&&aZ ti))&&(([2,4,13]:List Int).contains k||at_.none)&&(([1,2,12]:List Int).contains k||li.isEmpty)&&(([6,7,8,9,10,11,13,14]:List Int).contains k||ks.isEmpty))):=rfl
 have HI:=hid (dI i).symm;have HD:=hid (dI d).symm;have HT:=hid (dI t).symm;have YH:=hid (dI ti).symm;have HLV:Hid (decide (lv=0)=(lv==0)):=by show _=_;rw [Bool.eq_iff_iff];simp
 obtain ⟨V,hV⟩:∃ V,V=Cq k lv i t d ti at_ li ks:=⟨_,rfl⟩
 rw [<- hV] at HV ⊢;generalize at_.none=bn at *
 generalize li.isEmpty=bl at *;generalize ks.isEmpty=bk at *;clear hV h;rcases EK k with rfl | rfl | rfl | rfl | rfl | rfl | rfl | rfl | rfl | rfl | rfl | rfl | rfl | rfl | rfl | hk
 case inr.inr.inr.inr.inr.inr.inr.inr.inr.inr.inr.inr.inr.inr.inr=>
  have hv:V=false:=by
   rw [HV.out];have:(decide (1<=k)&&decide (k<=15))=false:=by rw [Bool.and_eq_false_iff];simp;omega
   rw [this];rfl
  have HE:=hid hv;rcases hk with hk | hk
  all_goals
   clear hv e2 e3;go_enter Tryz.func132,Tryz.ntmps132;simp only [List.append_eq,jl5,jl6];go_wp2;go_ret;exact ⟨by rw [HE.out];rfl,jk6 _ _⟩
 all_goals
  go_enter Tryz.func132,Tryz.ntmps132;simp only [List.append_eq,jl5,jl6];go_wp2_with (go_at_call 165;refine (AE.out _).mono ?_;rintro e w1 ⟨rfl,hb1⟩;obtain ⟨p0,p1,p2,p3,p4,p5,p6,p7,p8,p9,J3⟩:=(HP.out.up hb1).cells)
  all_goals
   go_ret;refine ⟨Du ?_,?_⟩
   ·rw [HV.out,HI.out,HD.out,HT.out,YH.out,HLV.out];first | (simp only [*];done) | (simp only [*];simp;done) | (simp;done) | (simp;intros;contradiction) | (simp_all;done)
   ·first | exact hb1 | exact jk6 _ _
theorem ja3 (w:World) (T:TypeId) (a b c:Int):∀ j k,([a,b,c]:List Int)[j]?=some k->(w.alloc (.cells #[.int .i64 a,.int .i64 b,.int .i64 c] T)).cell? ⟨w.heap.size,j,none⟩=some (.int .i64 k):=by
 intro j k h;refine FR w [.int .i64 a,.int .i64 b,.int .i64 c] T j _ ?_
 match j,h with
 | 0,h=>simp at h;subst h;rfl
 | 1,h=>simp at h;subst h;rfl
 | 2,h=>simp at h;subst h;rfl
theorem Md (w:World) (T:TypeId) (a b:Int):∀ j k,([a,b]:List Int)[j]?=some k->(w.alloc (.cells #[.int .i64 a,.int .i64 b] T)).cell? ⟨w.heap.size,j,none⟩=some (.int .i64 k):=by
 intro j k h;refine FR w [.int .i64 a,.int .i64 b] T j _ ?_
 match j,h with
 | 0,h=>simp at h;subst h;rfl
 | 1,h=>simp at h;subst h;rfl
theorem Sy (w:World) (T:TypeId) (a b c d f:Int):∀ j k,([a,b,c,d,f]:List Int)[j]?=some k->(w.alloc (.cells #[.int .i64 a,.int .i64 b,.int .i64 c,.int .i64 d,.int .i64 f] T)).cell? ⟨w.heap.size,j,none⟩=some (.int .i64 k):=by
 intro j k h;refine FR w [.int .i64 a,.int .i64 b,.int .i64 c,.int .i64 d,.int .i64 f] T j _ ?_
 match j,h with
 | 0,h=>simp at h;subst h;rfl
 | 1,h=>simp at h;subst h;rfl
 | 2,h=>simp at h;subst h;rfl
 | 3,h=>simp at h;subst h;rfl
 | 4,h=>simp at h;subst h;rfl
theorem Mg (k par:Int) (w:World):Calls Tryz.prog 133 #[.int .i64 k,.int .i64 par] w (dH (.bool (gK k par)) w):=by
 have OO:=hid (j6 k [9,11,12] w.heap.size 3 _ (by simp) (ja3 w 3 9 11 12));simp only [List.length_cons,List.length_nil,Nat.reduceAdd] at OO;obtain ⟨V,hV⟩:∃ V,V=gK k par:=⟨_,rfl⟩;rw [<- hV];have HV:=hid hV;obtain ⟨cb,hcb⟩:∃ cb,([9,11,12]:List Int).contains k=cb:=⟨_,rfl⟩;rw [hcb] at OO;have HN:=hid hcb;clear hV hcb;go_enter Tryz.func133,Tryz.ntmps133;go_wp2_with (go_at_call 161;refine OO.out.mono ?_;rintro e w1 ⟨rfl,rfl⟩)
 all_goals
  go_ret;refine ⟨Du ?_,?_⟩
  ·rw [HV.out];unfold gK;simp only [beq_iff_eq,beq_eq_false_iff_ne,ne_eq] at *
   (repeat' split)<;>first | omega | (rw [Bool.eq_iff_iff];simp;done) | (rw [HN.out];done) | (simp;omega) | skip
  ·first | exact (jk6 _ _).alloc (Nat.le_refl _) _ | exact jk6 _ _
open Go.RowKit
open Go.RowKit
end Go.Proofs.YtkfnkeflalcphaaGreatDoor

