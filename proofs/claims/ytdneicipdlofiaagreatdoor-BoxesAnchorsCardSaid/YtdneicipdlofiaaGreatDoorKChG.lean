/- Contracts of tree.inlineFields, blockFields, fits. Contracts of tree.blockFields, fits. -/
import Derived.Test.YtdneicipdlofiaaGreatDoorKPlParse
import Derived.BigGuardPart
set_option maxHeartbeats 8000000
set_option maxRecDepth 100000
open Go.Lib (hid)
namespace Go.Proofs.YtdneicipdlofiaaGreatDoor
open Go.RowKit.Below renaming refl->jox
open List renaming cons_append->jpx,nil_append->jpz
open Go.RowKit
set_option linter.unusedVariables false
set_option linter.unusedSimpArgs false
structure Vk (w:World) (b o:Nat) (k:Int) (t d ti:ByteArray) (at_:At) (ar:List ByteArray) (ci:List Ci) (ks:List aj) (ac ap aa ai ak:Option Addr) (cc cp ca oo ck:Nat):Prop where
 cells:gL w b o k t d ti at_.id (.slice ac at_.cls.length cc) (.slice ap at_.aJ.length cp) (.slice aa ar.length ca) (.slice ai ci.length oo) (.slice ak ks.length ck)
 rd:Tj (·<w.heap.size) w at_ ar ci ks (.slice ac at_.cls.length cc) (.slice ap at_.aJ.length cp) (.slice aa ar.length ca) (.slice ai ci.length oo) (.slice ak ks.length ck)
 lt:b<w.heap.size
theorem Tj.up {w w':World} {at_:At} {ar:List ByteArray} {ci:List Ci} {ks:List aj} {vc vp va vi vk:Value} (h:Tj (·<w.heap.size) w at_ ar ci ks vc vp va vi vk) (hb:Below w.heap.size w w'):Tj (·<w'.heap.size) w' at_ ar ci ks vc vp va vi vk:=
 ⟨h.at_.up hb,h.args.up hb,h.ji.up hb,h.kids.up hb⟩
theorem Vk.up {w w':World} {b o:Nat} {k:Int} {t d ti:ByteArray} {at_:At} {ar:List ByteArray} {ci:List Ci} {ks:List aj} {ac ap aa ai ak:Option Addr} {cc cp ca oo ck:Nat} (h:Vk w b o k t d ti at_ ar ci ks ac ap aa ai ak cc cp ca oo ck) (hb:Below w.heap.size w w'):Vk w' b o k t d ti at_ ar ci ks ac ap aa ai ak cc cp ca oo ck:=
 ⟨h.cells.at2 (hb.block b h.lt),h.rd.up hb,Nat.lt_of_lt_of_le h.lt hb.size⟩
theorem fE {ok:Nat->Prop} {w:World} {k:Nat} {l:List D} {a:Option Addr} {n c:Nat} (h:Rd ok w (.sl k l) [.slice a n c]):n=l.length/\n<=c/\c<=maxLen:=by
 obtain ⟨a',c',h1,h2⟩:=h.aC;have h3:n=l.length/\c=c':=by simp at h1;exact ⟨h1.2.1,h1.2.2⟩
 obtain ⟨rfl,rfl⟩:=h3;exact ⟨rfl,h2.le,h2.max⟩
theorem EZ (k:Int):k=1\/k=2\/k=3\/k=4\/k=5\/k=6\/k=7\/k=8\/k=9\/k=10\/k=11\/k=12\/k=13\/k=14\/k=15\/k=16\/(k<1\/16<k):=by omega
theorem sP (w:World) (b o:Nat) (k:Int) (t d ti:ByteArray) (at_:At) (ar:List ByteArray) (ci:List Ci) (ks:List aj) (ac ap aa ai ak:Option Addr) (cc cp ca oo ck:Nat) (h:Vk w b o k t d ti at_ ar ci ks ac ap aa ai ak cc cp ca oo ck) : Calls Tryz.prog 267 #[.pointer (some ⟨b,o,none⟩)] w (gu (.bool (zh k t d ti at_ ar ci ks)) w):=by
 have l1:=(fE h.rd.at_.cls).2;have l2:=(fE h.rd.at_.aJ).2;obtain ⟨-,l3,m3⟩:=fE h.rd.args;obtain ⟨-,l4,m4⟩:=fE h.rd.ji;obtain ⟨-,l5,m5⟩:=fE h.rd.kids;unfold maxLen at m3 m4 m5;have AE:=hid (fun w=>pI at_ ac ap cc cp w (by omega) (by omega));clear l1 l2;have HP:=hid h;obtain ⟨c0,c1,c2,c3,c4,c5,c6,c7,c8,c9⟩:=h.cells;have e1:=xw ar;have e2:=xw ci;have e3:=xw ks;have HV:Hid (zh k t d ti at_ ar ci ks=(decide (1<=k)&&decide (k<=16)&&(([1,4,5,9,10,12,14,15]:List Int).contains k||eP t)&&(([9,10,16]:List Int).contains k||eP d)&&(([9,10,14]:List Int).contains k||eP ti) &&
 (([10,11]:List Int).contains k||at_.none)&&(([6,7,8,9,10,11]:List Int).contains k||ks.isEmpty)&&(decide (k=15)||ar.isEmpty)&&(decide (k=13)||ci.isEmpty))):=rfl
 have HD:=hid (Ct d).symm;have HT:=hid (Ct t).symm;have WJ:=hid (Ct ti).symm;obtain ⟨V,hV⟩:∃ V,V=zh k t d ti at_ ar ci ks:=⟨_,rfl⟩
 rw [<- hV] at HV ⊢;generalize at_.none=bn at *
 generalize ar.isEmpty=ba at *;generalize ci.isEmpty=bc at *;generalize ks.isEmpty=bk at *;clear hV h;rcases EZ k with rfl | rfl | rfl | rfl | rfl | rfl | rfl | rfl | rfl | rfl | rfl | rfl | rfl | rfl | rfl | rfl | hk
 case inr.inr.inr.inr.inr.inr.inr.inr.inr.inr.inr.inr.inr.inr.inr.inr=>
  have hv:V=false:=by
   rw [HV.out];have:(decide (1<=k)&&decide (k<=16))=false:=by rw [Bool.and_eq_false_iff];simp;omega
   rw [this];rfl
  have HE:=hid hv;rcases hk with hk | hk
  all_goals
   clear hv e1 e2 e3;go_enter Tryz.func267,Tryz.ntmps267;simp only [List.append_eq,jpx,jpz];go_wp2;go_ret;exact ⟨by rw [HE.out];rfl,jox _ _⟩
 all_goals
  go_enter Tryz.func267,Tryz.ntmps267;simp only [List.append_eq,jpx,jpz];go_wp2_with (go_at_call 189;refine (AE.out _).mono ?_;rintro e w1 ⟨rfl,hb1⟩;obtain ⟨p0,p1,p2,p3,p4,p5,p6,p7,p8,p9⟩:=(HP.out.up hb1).cells)
  all_goals
   go_ret;refine ⟨E8 ?_,?_⟩
   ·rw [HV.out,HD.out,HT.out,WJ.out];simp only [*];simp
   ·first | exact hb1 | exact jox _ _
open Go.RowKit
structure Q5 (w:World) (b o:Nat) (k lv:Int) (i t d ti:ByteArray) (at_:At) (li:List aj) (ks:List ah) (ac ap al ak:Option Addr) (cc cp cl ck:Nat):Prop where
 cells:dx w b o k lv i t d ti at_.id (.slice ac at_.cls.length cc) (.slice ap at_.aJ.length cp) (.slice al li.length cl) (.slice ak ks.length ck)
 rd:rQ (·<w.heap.size) w at_ li ks (.slice ac at_.cls.length cc) (.slice ap at_.aJ.length cp) (.slice al li.length cl) (.slice ak ks.length ck)
 lt:b<w.heap.size
theorem rQ.up {w w':World} {at_:At} {li:List aj} {ks:List ah} {vc vp vl vk:Value} (h:rQ (·<w.heap.size) w at_ li ks vc vp vl vk) (hb:Below w.heap.size w w'):rQ (·<w'.heap.size) w' at_ li ks vc vp vl vk:=
 ⟨h.at_.up hb,h.line.up hb,h.kids.up hb⟩
theorem Q5.up {w w':World} {b o:Nat} {k lv:Int} {i t d ti:ByteArray} {at_:At} {li:List aj} {ks:List ah} {ac ap al ak:Option Addr} {cc cp cl ck:Nat} (h:Q5 w b o k lv i t d ti at_ li ks ac ap al ak cc cp cl ck) (hb:Below w.heap.size w w'):Q5 w' b o k lv i t d ti at_ li ks ac ap al ak cc cp cl ck:=
 ⟨h.cells.at2 (hb.block b h.lt),h.rd.up hb,Nat.lt_of_lt_of_le h.lt hb.size⟩
theorem E9 (k:Int):k=1\/k=2\/k=3\/k=4\/k=5\/k=6\/k=7\/k=8\/k=9\/k=10\/k=11\/k=12\/k=13\/k=14\/k=15\/(k<1\/15<k):=by omega
theorem uM (w:World) (b o:Nat) (k lv:Int) (i t d ti:ByteArray) (at_:At) (li:List aj) (ks:List ah) (ac ap al ak:Option Addr) (cc cp cl ck:Nat) (h:Q5 w b o k lv i t d ti at_ li ks ac ap al ak cc cp cl ck) : Calls Tryz.prog 148 #[.pointer (some ⟨b,o,none⟩)] w (gu (.bool (EH k lv i t d ti at_ li ks)) w):=by
 have l1:=(fE h.rd.at_.cls).2;have l2:=(fE h.rd.at_.aJ).2;obtain ⟨-,l4,m4⟩:=fE h.rd.line;obtain ⟨-,l5,m5⟩:=fE h.rd.kids;unfold maxLen at m4 m5;have AE:=hid (fun w=>pI at_ ac ap cc cp w (by omega) (by omega));clear l1 l2;have HP:=hid h;obtain ⟨c0,c1,c2,c3,c4,c5,c6,c7,c8,c9,c10⟩:=h.cells;have e2:=xw li;have e3:=xw ks;have HV:Hid (EH k lv i t d ti at_ li ks=(decide (1<=k)&&decide (k<=15)&&(([2,8]:List Int).contains k||decide (lv=0))&&(([3,10,13,14,15]:List Int).contains k||eP i)&&(([3,4]:List Int).contains k||eP t) &&
 (decide (k=15)||(eP d&&eP ti))&&(([2,4,13]:List Int).contains k||at_.none)&&(([1,2,12]:List Int).contains k||li.isEmpty)&&(([6,7,8,9,10,11,13,14]:List Int).contains k||ks.isEmpty))):=rfl
 have HI:=hid (Ct i).symm;have HD:=hid (Ct d).symm;have HT:=hid (Ct t).symm;have WJ:=hid (Ct ti).symm;have HLV:Hid (decide (lv=0)=(lv==0)):=by show _=_;rw [Bool.eq_iff_iff];simp
 obtain ⟨V,hV⟩:∃ V,V=EH k lv i t d ti at_ li ks:=⟨_,rfl⟩
 rw [<- hV] at HV ⊢;generalize at_.none=bn at *
 generalize li.isEmpty=bl at *;generalize ks.isEmpty=bk at *;clear hV h;rcases E9 k with rfl | rfl | rfl | rfl | rfl | rfl | rfl | rfl | rfl | rfl | rfl | rfl | rfl | rfl | rfl | hk
 case inr.inr.inr.inr.inr.inr.inr.inr.inr.inr.inr.inr.inr.inr.inr=>
  have hv:V=false:=by
   rw [HV.out];have:(decide (1<=k)&&decide (k<=15))=false:=by rw [Bool.and_eq_false_iff];simp;omega
   rw [this];rfl
  have HE:=hid hv;rcases hk with hk | hk
  all_goals
   clear hv e2 e3;go_enter Tryz.func148,Tryz.ntmps148;simp only [List.append_eq,jpx,jpz];go_wp2;go_ret;exact ⟨by rw [HE.out];rfl,jox _ _⟩
 all_goals
  go_enter Tryz.func148,Tryz.ntmps148;simp only [List.append_eq,jpx,jpz];go_wp2_with (go_at_call 189;refine (AE.out _).mono ?_;rintro e w1 ⟨rfl,hb1⟩;obtain ⟨p0,p1,p2,p3,p4,p5,p6,p7,p8,p9,Gz⟩:=(HP.out.up hb1).cells)
  all_goals
   go_ret;refine ⟨E8 ?_,?_⟩
   ·rw [HV.out,HI.out,HD.out,HT.out,WJ.out,HLV.out];first | (simp only [*];done) | (simp only [*];simp;done) | (simp;done) | (simp;intros;contradiction) | (simp_all;done)
   ·first | exact hb1 | exact jox _ _
theorem jck (w:World) (T:TypeId) (a b c:Int):∀ j k,([a,b,c]:List Int)[j]?=some k->(w.alloc (.cells #[.int .i64 a,.int .i64 b,.int .i64 c] T)).cell? ⟨w.heap.size,j,none⟩=some (.int .i64 k):=by
 intro j k h;refine q16 w [.int .i64 a,.int .i64 b,.int .i64 c] T j _ ?_
 match j,h with
 | 0,h=>simp at h;subst h;rfl
 | 1,h=>simp at h;subst h;rfl
 | 2,h=>simp at h;subst h;rfl
theorem Pt (w:World) (T:TypeId) (a b:Int):∀ j k,([a,b]:List Int)[j]?=some k->(w.alloc (.cells #[.int .i64 a,.int .i64 b] T)).cell? ⟨w.heap.size,j,none⟩=some (.int .i64 k):=by
 intro j k h;refine q16 w [.int .i64 a,.int .i64 b] T j _ ?_
 match j,h with
 | 0,h=>simp at h;subst h;rfl
 | 1,h=>simp at h;subst h;rfl
theorem Vl (w:World) (T:TypeId) (a b c d f:Int):∀ j k,([a,b,c,d,f]:List Int)[j]?=some k->(w.alloc (.cells #[.int .i64 a,.int .i64 b,.int .i64 c,.int .i64 d,.int .i64 f] T)).cell? ⟨w.heap.size,j,none⟩=some (.int .i64 k):=by
 intro j k h;refine q16 w [.int .i64 a,.int .i64 b,.int .i64 c,.int .i64 d,.int .i64 f] T j _ ?_
 match j,h with
 | 0,h=>simp at h;subst h;rfl
 | 1,h=>simp at h;subst h;rfl
 | 2,h=>simp at h;subst h;rfl
 | 3,h=>simp at h;subst h;rfl
 | 4,h=>simp at h;subst h;rfl
theorem Pv (k par:Int) (w:World):Calls Tryz.prog 149 #[.int .i64 k,.int .i64 par] w (gu (.bool (dD k par)) w):=by
 have OO:=hid (kS k [9,11,12] w.heap.size 3 _ (by simp) (jck w 3 9 11 12));simp only [List.length_cons,List.length_nil,Nat.reduceAdd] at OO;obtain ⟨V,hV⟩:∃ V,V=dD k par:=⟨_,rfl⟩;rw [<- hV];have HV:=hid hV;obtain ⟨cb,hcb⟩:∃ cb,([9,11,12]:List Int).contains k=cb:=⟨_,rfl⟩;rw [hcb] at OO;have HN:=hid hcb;clear hV hcb;go_enter Tryz.func149,Tryz.ntmps149;go_wp2_with (go_at_call 190;refine OO.out.mono ?_;rintro e w1 ⟨rfl,rfl⟩)
 all_goals
  go_ret;refine ⟨E8 ?_,?_⟩
  ·rw [HV.out];unfold dD;simp only [beq_iff_eq,beq_eq_false_iff_ne,ne_eq] at *
   (repeat' split)<;>first | omega | (rw [Bool.eq_iff_iff];simp;done) | (rw [HN.out];done) | (simp;omega) | skip
  ·first | exact (jox _ _).alloc (Nat.le_refl _) _ | exact jox _ _
end Go.Proofs.YtdneicipdlofiaaGreatDoor

