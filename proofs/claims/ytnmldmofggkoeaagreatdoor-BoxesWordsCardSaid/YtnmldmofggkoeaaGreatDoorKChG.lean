/- Contracts of tree.inlineFields, blockFields, fits. Contracts of tree.blockFields, fits. -/
import Derived.Test.YtnmldmofggkoeaaGreatDoorKRfD
import Derived.BigGuardPart
set_option maxHeartbeats 8000000
set_option maxRecDepth 100000
open Go.Lib (hid)
namespace Go.Proofs.YtnmldmofggkoeaaGreatDoor
open Go.RowKit.Below renaming refl->YH
open List renaming cons_append->YV,nil_append->YW
open Go renaming World->Zu
open Go.RowKit
set_option linter.unusedVariables false
set_option linter.unusedSimpArgs false
structure IL (w:Zu) (b o:Nat) (k:Int) (t d ti:ByteArray) (at_:At) (ar:List ByteArray) (ci:List Ci) (ks:List ah) (ac ap aa ai ak:Option Addr) (cc cp ca qE ck:Nat):Prop where
 cells:dD w b o k t d ti at_.id (.slice ac at_.cls.length cc) (.slice ap at_.aT.length cp) (.slice aa ar.length ca) (.slice ai ci.length qE) (.slice ak ks.length ck)
 rd:Gu (·<w.heap.size) w at_ ar ci ks (.slice ac at_.cls.length cc) (.slice ap at_.aT.length cp) (.slice aa ar.length ca) (.slice ai ci.length qE) (.slice ak ks.length ck)
 lt:b<w.heap.size
theorem Gu.up {w w':Zu} {at_:At} {ar:List ByteArray} {ci:List Ci} {ks:List ah} {vc vp va vi vk:Value} (h:Gu (·<w.heap.size) w at_ ar ci ks vc vp va vi vk) (hb:Below w.heap.size w w'):Gu (·<w'.heap.size) w' at_ ar ci ks vc vp va vi vk:=
 ⟨h.at_.up hb,h.args.up hb,h.gq.up hb,h.kids.up hb⟩
theorem IL.up {w w':Zu} {b o:Nat} {k:Int} {t d ti:ByteArray} {at_:At} {ar:List ByteArray} {ci:List Ci} {ks:List ah} {ac ap aa ai ak:Option Addr} {cc cp ca qE ck:Nat} (h:IL w b o k t d ti at_ ar ci ks ac ap aa ai ak cc cp ca qE ck) (hb:Below w.heap.size w w'):IL w' b o k t d ti at_ ar ci ks ac ap aa ai ak cc cp ca qE ck:=
 ⟨h.cells.at2 (hb.block b h.lt),h.rd.up hb,Nat.lt_of_lt_of_le h.lt hb.size⟩
theorem dn {ok:Nat->Prop} {w:Zu} {k:Nat} {l:List D} {a:Option Addr} {n c:Nat} (h:Rd ok w (.sl k l) [.slice a n c]):n=l.length/\n<=c/\c<=maxLen:=by
 obtain ⟨a',c',h1,h2⟩:=h.aD;have h3:n=l.length/\c=c':=by simp at h1;exact ⟨h1.2.1,h1.2.2⟩
 obtain ⟨rfl,rfl⟩:=h3;exact ⟨rfl,h2.le,h2.max⟩
theorem vI (k:Int):k=1\/k=2\/k=3\/k=4\/k=5\/k=6\/k=7\/k=8\/k=9\/k=10\/k=11\/k=12\/k=13\/k=14\/k=15\/k=16\/(k<1\/16<k):=by omega
theorem lY (w:Zu) (b o:Nat) (k:Int) (t d ti:ByteArray) (at_:At) (ar:List ByteArray) (ci:List Ci) (ks:List ah) (ac ap aa ai ak:Option Addr) (cc cp ca qE ck:Nat) (h:IL w b o k t d ti at_ ar ci ks ac ap aa ai ak cc cp ca qE ck) : Calls Tryz.prog 137 #[.pointer (some ⟨b,o,none⟩)] w (dO (.bool (zM k t d ti at_ ar ci ks)) w):=by
 have l1:=(dn h.rd.at_.cls).2;have l2:=(dn h.rd.at_.aT).2;obtain ⟨-,l3,m3⟩:=dn h.rd.args;obtain ⟨-,l4,m4⟩:=dn h.rd.gq;obtain ⟨-,l5,m5⟩:=dn h.rd.kids;unfold maxLen at m3 m4 m5;have AE:=hid (fun w=>ko at_ ac ap cc cp w (by omega) (by omega));clear l1 l2;have HP:=hid h;obtain ⟨c0,c1,c2,c3,c4,c5,c6,c7,c8,c9⟩:=h.cells;have e1:=oO ar;have e2:=oO ci;have e3:=oO ks;have HV:Hid (zM k t d ti at_ ar ci ks=(decide (1<=k)&&decide (k<=16)&&(([1,4,5,9,10,12,14,15]:List Int).contains k||dR t)&&(([9,10,16]:List Int).contains k||dR d)&&(([9,10,14]:List Int).contains k||dR ti) &&
 (([10,11]:List Int).contains k||at_.none)&&(([6,7,8,9,10,11]:List Int).contains k||ks.isEmpty)&&(decide (k=15)||ar.isEmpty)&&(decide (k=13)||ci.isEmpty))):=rfl
 have HD:=hid (bI d).symm;have HT:=hid (bI t).symm;have NC:=hid (bI ti).symm;obtain ⟨V,hV⟩:∃ V,V=zM k t d ti at_ ar ci ks:=⟨_,rfl⟩
 rw [<- hV] at HV ⊢;generalize at_.none=bn at *
 generalize ar.isEmpty=ba at *;generalize ci.isEmpty=bc at *;generalize ks.isEmpty=bk at *;clear hV h;rcases vI k with rfl | rfl | rfl | rfl | rfl | rfl | rfl | rfl | rfl | rfl | rfl | rfl | rfl | rfl | rfl | rfl | hk
 case inr.inr.inr.inr.inr.inr.inr.inr.inr.inr.inr.inr.inr.inr.inr.inr=>
  have hv:V=false:=by
   rw [HV.out];have:(decide (1<=k)&&decide (k<=16))=false:=by rw [Bool.and_eq_false_iff];simp;omega
   rw [this];rfl
  have HE:=hid hv;rcases hk with hk | hk
  all_goals
   clear hv e1 e2 e3;go_enter Tryz.func137,Tryz.ntmps137;simp only [List.append_eq,YV,YW];go_wp2;go_ret;exact ⟨by rw [HE.out];rfl,YH _ _⟩
 all_goals
  go_enter Tryz.func137,Tryz.ntmps137;simp only [List.append_eq,YV,YW];go_wp2_with (go_at_call 86;refine (AE.out _).mono ?_;rintro e w1 ⟨rfl,hb1⟩;obtain ⟨p0,p1,p2,p3,p4,p5,p6,p7,p8,p9⟩:=(HP.out.up hb1).cells)
  all_goals
   go_ret;refine ⟨u7 ?_,?_⟩
   ·rw [HV.out,HD.out,HT.out,NC.out];simp only [*];simp
   ·first | exact hb1 | exact YH _ _
open Go.RowKit
structure Gv (w:Zu) (b o:Nat) (k lv:Int) (i t d ti:ByteArray) (at_:At) (li:List ah) (ks:List aj) (ac ap al ak:Option Addr) (cc cp cl ck:Nat):Prop where
 cells:fG w b o k lv i t d ti at_.id (.slice ac at_.cls.length cc) (.slice ap at_.aT.length cp) (.slice al li.length cl) (.slice ak ks.length ck)
 rd:xg (·<w.heap.size) w at_ li ks (.slice ac at_.cls.length cc) (.slice ap at_.aT.length cp) (.slice al li.length cl) (.slice ak ks.length ck)
 lt:b<w.heap.size
theorem xg.up {w w':Zu} {at_:At} {li:List ah} {ks:List aj} {vc vp vl vk:Value} (h:xg (·<w.heap.size) w at_ li ks vc vp vl vk) (hb:Below w.heap.size w w'):xg (·<w'.heap.size) w' at_ li ks vc vp vl vk:=
 ⟨h.at_.up hb,h.line.up hb,h.kids.up hb⟩
theorem Gv.up {w w':Zu} {b o:Nat} {k lv:Int} {i t d ti:ByteArray} {at_:At} {li:List ah} {ks:List aj} {ac ap al ak:Option Addr} {cc cp cl ck:Nat} (h:Gv w b o k lv i t d ti at_ li ks ac ap al ak cc cp cl ck) (hb:Below w.heap.size w w'):Gv w' b o k lv i t d ti at_ li ks ac ap al ak cc cp cl ck:=
 ⟨h.cells.at2 (hb.block b h.lt),h.rd.up hb,Nat.lt_of_lt_of_le h.lt hb.size⟩
theorem vJ (k:Int):k=1\/k=2\/k=3\/k=4\/k=5\/k=6\/k=7\/k=8\/k=9\/k=10\/k=11\/k=12\/k=13\/k=14\/k=15\/(k<1\/15<k):=by omega
theorem ng (w:Zu) (b o:Nat) (k lv:Int) (i t d ti:ByteArray) (at_:At) (li:List ah) (ks:List aj) (ac ap al ak:Option Addr) (cc cp cl ck:Nat) (h:Gv w b o k lv i t d ti at_ li ks ac ap al ak cc cp cl ck) : Calls Tryz.prog 71 #[.pointer (some ⟨b,o,none⟩)] w (dO (.bool (D9 k lv i t d ti at_ li ks)) w):=by
 have l1:=(dn h.rd.at_.cls).2;have l2:=(dn h.rd.at_.aT).2;obtain ⟨-,l4,m4⟩:=dn h.rd.line;obtain ⟨-,l5,m5⟩:=dn h.rd.kids;unfold maxLen at m4 m5;have AE:=hid (fun w=>ko at_ ac ap cc cp w (by omega) (by omega));clear l1 l2;have HP:=hid h;obtain ⟨c0,c1,c2,c3,c4,c5,c6,c7,c8,c9,c10⟩:=h.cells;have e2:=oO li;have e3:=oO ks;have HV:Hid (D9 k lv i t d ti at_ li ks=(decide (1<=k)&&decide (k<=15)&&(([2,8]:List Int).contains k||decide (lv=0))&&(([3,10,13,14,15]:List Int).contains k||dR i)&&(([3,4]:List Int).contains k||dR t) &&
 (decide (k=15)||(dR d&&dR ti))&&(([2,4,13]:List Int).contains k||at_.none)&&(([1,2,12]:List Int).contains k||li.isEmpty)&&(([6,7,8,9,10,11,13,14]:List Int).contains k||ks.isEmpty))):=rfl
 have HI:=hid (bI i).symm;have HD:=hid (bI d).symm;have HT:=hid (bI t).symm;have NC:=hid (bI ti).symm;have MS:Hid (decide (lv=0)=(lv==0)):=by show _=_;rw [Bool.eq_iff_iff];simp
 obtain ⟨V,hV⟩:∃ V,V=D9 k lv i t d ti at_ li ks:=⟨_,rfl⟩
 rw [<- hV] at HV ⊢;generalize at_.none=bn at *
 generalize li.isEmpty=bl at *;generalize ks.isEmpty=bk at *;clear hV h;rcases vJ k with rfl | rfl | rfl | rfl | rfl | rfl | rfl | rfl | rfl | rfl | rfl | rfl | rfl | rfl | rfl | hk
 case inr.inr.inr.inr.inr.inr.inr.inr.inr.inr.inr.inr.inr.inr.inr=>
  have hv:V=false:=by
   rw [HV.out];have:(decide (1<=k)&&decide (k<=15))=false:=by rw [Bool.and_eq_false_iff];simp;omega
   rw [this];rfl
  have HE:=hid hv;rcases hk with hk | hk
  all_goals
   clear hv e2 e3;go_enter Tryz.func71,Tryz.ntmps71;simp only [List.append_eq,YV,YW];go_wp2;go_ret;exact ⟨by rw [HE.out];rfl,YH _ _⟩
 all_goals
  go_enter Tryz.func71,Tryz.ntmps71;simp only [List.append_eq,YV,YW];go_wp2_with (go_at_call 86;refine (AE.out _).mono ?_;rintro e w1 ⟨rfl,hb1⟩;obtain ⟨p0,p1,p2,p3,p4,p5,p6,p7,p8,p9,Ea⟩:=(HP.out.up hb1).cells)
  all_goals
   go_ret;refine ⟨u7 ?_,?_⟩
   ·rw [HV.out,HI.out,HD.out,HT.out,NC.out,MS.out];first | (simp only [*];done) | (simp only [*];simp;done) | (simp;done) | (simp;intros;contradiction) | (simp_all;done)
   ·first | exact hb1 | exact YH _ _
theorem ND (w:Zu) (T:TypeId) (a b c:Int):∀ j k,([a,b,c]:List Int)[j]?=some k->(w.alloc (.cells #[.int .i64 a,.int .i64 b,.int .i64 c] T)).cell? ⟨w.heap.size,j,none⟩=some (.int .i64 k):=by
 intro j k h;refine bQ w [.int .i64 a,.int .i64 b,.int .i64 c] T j _ ?_
 match j,h with
 | 0,h=>simp at h;subst h;rfl
 | 1,h=>simp at h;subst h;rfl
 | 2,h=>simp at h;subst h;rfl
theorem Eb (w:Zu) (T:TypeId) (a b:Int):∀ j k,([a,b]:List Int)[j]?=some k->(w.alloc (.cells #[.int .i64 a,.int .i64 b] T)).cell? ⟨w.heap.size,j,none⟩=some (.int .i64 k):=by
 intro j k h;refine bQ w [.int .i64 a,.int .i64 b] T j _ ?_
 match j,h with
 | 0,h=>simp at h;subst h;rfl
 | 1,h=>simp at h;subst h;rfl
theorem IQ (w:Zu) (T:TypeId) (a b c d f:Int):∀ j k,([a,b,c,d,f]:List Int)[j]?=some k->(w.alloc (.cells #[.int .i64 a,.int .i64 b,.int .i64 c,.int .i64 d,.int .i64 f] T)).cell? ⟨w.heap.size,j,none⟩=some (.int .i64 k):=by
 intro j k h;refine bQ w [.int .i64 a,.int .i64 b,.int .i64 c,.int .i64 d,.int .i64 f] T j _ ?_
 match j,h with
 | 0,h=>simp at h;subst h;rfl
 | 1,h=>simp at h;subst h;rfl
 | 2,h=>simp at h;subst h;rfl
 | 3,h=>simp at h;subst h;rfl
 | 4,h=>simp at h;subst h;rfl
theorem Ec (k par:Int) (w:Zu):Calls Tryz.prog 72 #[.int .i64 k,.int .i64 par] w (dO (.bool (jf k par)) w):=by
 have OO:=hid (gD k [9,11,12] w.heap.size 3 _ (by simp) (ND w 3 9 11 12));simp only [List.length_cons,List.length_nil,Nat.reduceAdd] at OO;obtain ⟨V,hV⟩:∃ V,V=jf k par:=⟨_,rfl⟩;rw [<- hV];have HV:=hid hV;obtain ⟨cb,hcb⟩:∃ cb,([9,11,12]:List Int).contains k=cb:=⟨_,rfl⟩;rw [hcb] at OO;have HN:=hid hcb;clear hV hcb;go_enter Tryz.func72,Tryz.ntmps72;go_wp2_with (go_at_call 87;refine OO.out.mono ?_;rintro e w1 ⟨rfl,rfl⟩)
 all_goals
  go_ret;refine ⟨u7 ?_,?_⟩
  ·rw [HV.out];unfold jf;simp only [beq_iff_eq,beq_eq_false_iff_ne,ne_eq] at *
   (repeat' split)<;>first | omega | (rw [Bool.eq_iff_iff];simp;done) | (rw [HN.out];done) | (simp;omega) | skip
  ·first | exact (YH _ _).alloc (Nat.le_refl _) _ | exact YH _ _
end Go.Proofs.YtnmldmofggkoeaaGreatDoor

