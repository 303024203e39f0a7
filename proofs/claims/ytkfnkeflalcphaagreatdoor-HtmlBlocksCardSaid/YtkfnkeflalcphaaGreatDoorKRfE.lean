/- Contracts of tree.inlineFields, blockFields, fits. Contracts of tree.blockFields, fits. Contracts of publisherref04.reference, anyOf, auto. Contract of publisherref04.inlineFields. -/
import Derived.Test.YtkfnkeflalcphaaGreatDoorKRfD
import Derived.BigGuardPart
set_option maxHeartbeats 8000000
set_option maxRecDepth 100000
open Go.Lib (hid)
namespace Go.Proofs.YtkfnkeflalcphaaGreatDoor
open Go.RowKit.Below renaming refl->jD7
open Bool renaming eq_iff_iff->jDk
open Go renaming World->jG9
open Go.RowKit
set_option linter.unusedVariables false
set_option linter.unusedSimpArgs false
structure Y6 (w:jG9) (b o:Nat) (k:Int) (t d ti:ByteArray) (at_:At) (ar:List ByteArray) (ci:List Ci) (ks:List aj) (ac ap aa ai ak:Option Addr) (cc cp ca gu ck:Nat):Prop where
 cells:gy w b o k t d ti at_.id (.slice ac at_.cls.length cc) (.slice ap at_.aD.length cp) (.slice aa ar.length ca) (.slice ai ci.length gu) (.slice ak ks.length ck)
 rd:qV (·<w.heap.size) w at_ ar ci ks (.slice ac at_.cls.length cc) (.slice ap at_.aD.length cp) (.slice aa ar.length ca) (.slice ai ci.length gu) (.slice ak ks.length ck)
 lt:b<w.heap.size
theorem qV.up {w w':jG9} {at_:At} {ar:List ByteArray} {ci:List Ci} {ks:List aj} {vc vp va vi vk:Value} (h:qV (·<w.heap.size) w at_ ar ci ks vc vp va vi vk) (hb:Below w.heap.size w w'):qV (·<w'.heap.size) w' at_ ar ci ks vc vp va vi vk:=
 ⟨h.at_.up hb,h.args.up hb,h.fu.up hb,h.kids.up hb⟩
theorem Y6.up {w w':jG9} {b o:Nat} {k:Int} {t d ti:ByteArray} {at_:At} {ar:List ByteArray} {ci:List Ci} {ks:List aj} {ac ap aa ai ak:Option Addr} {cc cp ca gu ck:Nat} (h:Y6 w b o k t d ti at_ ar ci ks ac ap aa ai ak cc cp ca gu ck) (hb:Below w.heap.size w w'):Y6 w' b o k t d ti at_ ar ci ks ac ap aa ai ak cc cp ca gu ck:=
 ⟨h.cells.at2 (hb.block b h.lt),h.rd.up hb,Nat.lt_of_lt_of_le h.lt hb.size⟩
theorem rX {ok:Nat->Prop} {w:jG9} {k:Nat} {l:List D} {a:Option Addr} {n c:Nat} (h:Rd ok w (.sl k l) [.slice a n c]):n=l.length/\n<=c/\c<=maxLen:=by
 obtain ⟨a',c',h1,h2⟩:=h.ay;have h3:n=l.length/\c=c':=by simp at h1;exact ⟨h1.2.1,h1.2.2⟩
 obtain ⟨rfl,rfl⟩:=h3;exact ⟨rfl,h2.le,h2.max⟩
theorem rY (k:Int):k=1\/k=2\/k=3\/k=4\/k=5\/k=6\/k=7\/k=8\/k=9\/k=10\/k=11\/k=12\/k=13\/k=14\/k=15\/k=16\/(k<1\/16<k):=by omega
theorem DV{P:Prop}(h:P:=by
 go_wp2;go_ret;exact ⟨by rw [HE.out];rfl,Below.refl _ _⟩):P:=h
theorem NJ{P Q:Prop}(q:Q)(h:Nonempty Q->P:=by
 intro qQ;simp only [List.append_eq,List.cons_append,List.nil_append];exact qQ.elim fun x=>x):P:=h ⟨q⟩
theorem jh7{P:Prop}(h:P:=by
 rw [HV.out];have:(decide (1<=k)&&decide (k<=16))=false:=by rw [Bool.and_eq_false_iff];simp;omega
 rw [this];rfl):P:=h
theorem uW (w:jG9) (b o:Nat) (k:Int) (t d ti:ByteArray) (at_:At) (ar:List ByteArray) (ci:List Ci) (ks:List aj) (ac ap aa ai ak:Option Addr) (cc cp ca gu ck:Nat) (h:Y6 w b o k t d ti at_ ar ci ks ac ap aa ai ak cc cp ca gu ck) : Calls Tryz.prog 160 #[.pointer (some ⟨b,o,none⟩)] w (eX (.bool (xV k t d ti at_ ar ci ks)) w):=by
 have l1:=(rX h.rd.at_.cls).2;have l2:=(rX h.rd.at_.aD).2;obtain ⟨-,l3,m3⟩:=rX h.rd.args;obtain ⟨-,l4,m4⟩:=rX h.rd.fu;obtain ⟨-,l5,m5⟩:=rX h.rd.kids;unfold maxLen at m3 m4 m5;have AE:=hid (fun w=>qM at_ ac ap cc cp w (by omega) (by omega));clear l1 l2;have HP:=hid h;obtain ⟨c0,c1,c2,c3,c4,c5,c6,c7,c8,c9⟩:=h.cells;have e1:=jR ar;have e2:=jR ci;have e3:=jR ks;have HV:Hid (xV k t d ti at_ ar ci ks=(decide (1<=k)&&decide (k<=16)&&(([1,4,5,9,10,12,14,15]:List Int).contains k||aW t)&&(([9,10,16]:List Int).contains k||aW d)&&(([9,10,14]:List Int).contains k||aW ti) &&
 (([10,11]:List Int).contains k||at_.none)&&(([6,7,8,9,10,11]:List Int).contains k||ks.isEmpty)&&(decide (k=15)||ar.isEmpty)&&(decide (k=13)||ci.isEmpty))):=rfl
 have HD:=hid (oN d).symm;have HT:=hid (oN t).symm;have HTI:=hid (oN ti).symm;obtain ⟨V,hV⟩:∃ V,V=xV k t d ti at_ ar ci ks:=⟨_,rfl⟩
 rw [<- hV] at HV ⊢;generalize at_.none=bn at *
 generalize ar.isEmpty=ba at *;generalize ci.isEmpty=bc at *;generalize ks.isEmpty=bk at *;clear hV h;rcases rY k with rfl | rfl | rfl | rfl | rfl | rfl | rfl | rfl | rfl | rfl | rfl | rfl | rfl | rfl | rfl | rfl | hk
 case inr.inr.inr.inr.inr.inr.inr.inr.inr.inr.inr.inr.inr.inr.inr.inr=>
  have hv:V=false:=by exact jh7
  have HE:=hid hv;rcases hk with hk | hk
  all_goals
   clear hv e1 e2 e3;go_enter Tryz.func160,Tryz.ntmps160;refine NJ ?_;exact DV
 all_goals
  go_enter Tryz.func160,Tryz.ntmps160;refine NJ ?_;go_wp2_with (go_at_call 165;refine (AE.out _).mono ?_;rintro e w1 ⟨rfl,hb1⟩;obtain ⟨p0,p1,p2,p3,p4,p5,p6,p7,p8,p9⟩:=(HP.out.up hb1).cells)
  all_goals
   go_ret;refine ⟨wF ?_,?_⟩
   ·rw [HV.out,HD.out,HT.out,HTI.out];simp only [*];simp
   ·first | exact hb1 | exact jD7 _ _
open Go.RowKit
structure V6 (w:jG9) (b o:Nat) (k lv:Int) (i t d ti:ByteArray) (at_:At) (li:List aj) (ks:List ah) (ac ap al ak:Option Addr) (cc cp cl ck:Nat):Prop where
 cells:dh w b o k lv i t d ti at_.id (.slice ac at_.cls.length cc) (.slice ap at_.aD.length cp) (.slice al li.length cl) (.slice ak ks.length ck)
 rd:eP (·<w.heap.size) w at_ li ks (.slice ac at_.cls.length cc) (.slice ap at_.aD.length cp) (.slice al li.length cl) (.slice ak ks.length ck)
 lt:b<w.heap.size
theorem eP.up {w w':jG9} {at_:At} {li:List aj} {ks:List ah} {vc vp vl vk:Value} (h:eP (·<w.heap.size) w at_ li ks vc vp vl vk) (hb:Below w.heap.size w w'):eP (·<w'.heap.size) w' at_ li ks vc vp vl vk:=
 ⟨h.at_.up hb,h.line.up hb,h.kids.up hb⟩
theorem V6.up {w w':jG9} {b o:Nat} {k lv:Int} {i t d ti:ByteArray} {at_:At} {li:List aj} {ks:List ah} {ac ap al ak:Option Addr} {cc cp cl ck:Nat} (h:V6 w b o k lv i t d ti at_ li ks ac ap al ak cc cp cl ck) (hb:Below w.heap.size w w'):V6 w' b o k lv i t d ti at_ li ks ac ap al ak cc cp cl ck:=
 ⟨h.cells.at2 (hb.block b h.lt),h.rd.up hb,Nat.lt_of_lt_of_le h.lt hb.size⟩
theorem tY (k:Int):k=1\/k=2\/k=3\/k=4\/k=5\/k=6\/k=7\/k=8\/k=9\/k=10\/k=11\/k=12\/k=13\/k=14\/k=15\/(k<1\/15<k):=by omega
theorem jh8{P:Prop}(h:P:=by
 rw [HV.out];have:(decide (1<=k)&&decide (k<=15))=false:=by rw [Bool.and_eq_false_iff];simp;omega
 rw [this];rfl):P:=h
theorem wJ (w:jG9) (b o:Nat) (k lv:Int) (i t d ti:ByteArray) (at_:At) (li:List aj) (ks:List ah) (ac ap al ak:Option Addr) (cc cp cl ck:Nat) (h:V6 w b o k lv i t d ti at_ li ks ac ap al ak cc cp cl ck) : Calls Tryz.prog 132 #[.pointer (some ⟨b,o,none⟩)] w (eX (.bool (xW k lv i t d ti at_ li ks)) w):=by
 have l1:=(rX h.rd.at_.cls).2;have l2:=(rX h.rd.at_.aD).2;obtain ⟨-,l4,m4⟩:=rX h.rd.line;obtain ⟨-,l5,m5⟩:=rX h.rd.kids;unfold maxLen at m4 m5;have AE:=hid (fun w=>qM at_ ac ap cc cp w (by omega) (by omega));clear l1 l2;have HP:=hid h;obtain ⟨c0,c1,c2,c3,c4,c5,c6,c7,c8,c9,c10⟩:=h.cells;have e2:=jR li;have e3:=jR ks;have HV:Hid (xW k lv i t d ti at_ li ks=(decide (1<=k)&&decide (k<=15)&&(([2,8]:List Int).contains k||decide (lv=0))&&(([3,10,13,14,15]:List Int).contains k||aW i)&&(([3,4]:List Int).contains k||aW t) &&
 (decide (k=15)||(aW d&&aW ti))&&(([2,4,13]:List Int).contains k||at_.none)&&(([1,2,12]:List Int).contains k||li.isEmpty)&&(([6,7,8,9,10,11,13,14]:List Int).contains k||ks.isEmpty))):=rfl
 have HI:=hid (oN i).symm;have HD:=hid (oN d).symm;have HT:=hid (oN t).symm;have HTI:=hid (oN ti).symm;have HLV:Hid (decide (lv=0)=(lv==0)):=by show _=_;rw [jDk];simp
 obtain ⟨V,hV⟩:∃ V,V=xW k lv i t d ti at_ li ks:=⟨_,rfl⟩
 rw [<- hV] at HV ⊢;generalize at_.none=bn at *
 generalize li.isEmpty=bl at *;generalize ks.isEmpty=bk at *;clear hV h;rcases tY k with rfl | rfl | rfl | rfl | rfl | rfl | rfl | rfl | rfl | rfl | rfl | rfl | rfl | rfl | rfl | hk
 case inr.inr.inr.inr.inr.inr.inr.inr.inr.inr.inr.inr.inr.inr.inr=>
  have hv:V=false:=by exact jh8
  have HE:=hid hv;rcases hk with hk | hk
  all_goals
   clear hv e2 e3;go_enter Tryz.func132,Tryz.ntmps132;refine NJ ?_;exact DV
 all_goals
  go_enter Tryz.func132,Tryz.ntmps132;refine NJ ?_;go_wp2_with (go_at_call 165;refine (AE.out _).mono ?_;rintro e w1 ⟨rfl,hb1⟩;obtain ⟨p0,p1,p2,p3,p4,p5,p6,p7,p8,p9,sj⟩:=(HP.out.up hb1).cells)
  all_goals
   go_ret;refine ⟨wF ?_,?_⟩
   ·rw [HV.out,HI.out,HD.out,HT.out,HTI.out,HLV.out];first | (simp only [*];done) | (simp only [*];simp;done) | (simp;done) | (simp;intros;contradiction) | (simp_all;done)
   ·first | exact hb1 | exact jD7 _ _
theorem jv2 (w:jG9) (T:TypeId) (a b c:Int):∀ j k,([a,b,c]:List Int)[j]?=some k->(w.alloc (.cells #[.int .i64 a,.int .i64 b,.int .i64 c] T)).cell? ⟨w.heap.size,j,none⟩=some (.int .i64 k):=by
 intro j k h;refine F5 w [.int .i64 a,.int .i64 b,.int .i64 c] T j _ ?_
 match j,h with
 | 0,h=>simp at h;subst h;rfl
 | 1,h=>simp at h;subst h;rfl
 | 2,h=>simp at h;subst h;rfl
theorem QF (w:jG9) (T:TypeId) (a b:Int):∀ j k,([a,b]:List Int)[j]?=some k->(w.alloc (.cells #[.int .i64 a,.int .i64 b] T)).cell? ⟨w.heap.size,j,none⟩=some (.int .i64 k):=by
 intro j k h;refine F5 w [.int .i64 a,.int .i64 b] T j _ ?_
 match j,h with
 | 0,h=>simp at h;subst h;rfl
 | 1,h=>simp at h;subst h;rfl
theorem YV (w:jG9) (T:TypeId) (a b c d f:Int):∀ j k,([a,b,c,d,f]:List Int)[j]?=some k->(w.alloc (.cells #[.int .i64 a,.int .i64 b,.int .i64 c,.int .i64 d,.int .i64 f] T)).cell? ⟨w.heap.size,j,none⟩=some (.int .i64 k):=by
 intro j k h;refine F5 w [.int .i64 a,.int .i64 b,.int .i64 c,.int .i64 d,.int .i64 f] T j _ ?_
 match j,h with
 | 0,h=>simp at h;subst h;rfl
 | 1,h=>simp at h;subst h;rfl
 | 2,h=>simp at h;subst h;rfl
 | 3,h=>simp at h;subst h;rfl
 | 4,h=>simp at h;subst h;rfl
theorem QI (k par:Int) (w:jG9):Calls Tryz.prog 133 #[.int .i64 k,.int .i64 par] w (eX (.bool (dU k par)) w):=by
 have OO:=hid (lg k [9,11,12] w.heap.size 3 _ (by simp) (jv2 w 3 9 11 12));simp only [List.length_cons,List.length_nil,Nat.reduceAdd] at OO;obtain ⟨V,hV⟩:∃ V,V=dU k par:=⟨_,rfl⟩;rw [<- hV];have HV:=hid hV;obtain ⟨cb,hcb⟩:∃ cb,([9,11,12]:List Int).contains k=cb:=⟨_,rfl⟩;rw [hcb] at OO;have HN:=hid hcb;clear hV hcb;go_enter Tryz.func133,Tryz.ntmps133;go_wp2_with (go_at_call 161;refine OO.out.mono ?_;rintro e w1 ⟨rfl,rfl⟩)
 all_goals
  go_ret;refine ⟨wF ?_,?_⟩
  ·rw [HV.out];unfold dU;simp only [beq_iff_eq,beq_eq_false_iff_ne,ne_eq] at *
   (repeat' split)<;>first | omega | (rw [jDk];simp;done) | (rw [HN.out];done) | (simp;omega) | skip
  ·first | exact (jD7 _ _).alloc (Nat.le_refl _) _ | exact jD7 _ _
open Go.RowKit
theorem iW (k:Int) (ks:List Int) (w:jG9) (T:TypeId) (hks:ks.length<=1000) : Calls Tryz.prog 175 #[.int .i64 k,.slice (some ⟨w.heap.size,0,none⟩) ks.length ks.length] (w.alloc (.cells (ks.map (Value.int .i64)).toArray T)) fun e w'=>e=.returned (.bool (ks.contains k))/\Below w.heap.size w w':=by
 refine (YC k ks w.heap.size ks.length _ hks (fun j x hx=>?_)).mono fun e w' h=>⟨h.1,by rw [<- h.2];exact (jD7 _ _).alloc (Nat.le_refl _) _⟩
 have:=Gh w (ks.map (Value.int .i64)) T j (.int .i64 x) (by rw [List.getElem?_map,hx];rfl);exact jf3
theorem Ap (k:Int) (w:jG9):Calls Tryz.prog 243 #[.int .i64 k] w (eX (.bool (dw.contains k)) w):=by
 have IL:=hid (iW k [9,16,12,14,13] w 3 (by decide));have HV:Hid (dw.contains k=([9,16,12,14,13]:List Int).contains k):=rfl;generalize dw.contains k=V at *;generalize ([9,16,12,14,13]:List Int).contains k=V2 at *;go_enter Tryz.func243,Tryz.ntmps243;go_wp2_with fail
 refine IL.out.mono ?_;rintro e w1 ⟨rfl,b1⟩;have HB:=hid b1;clear b1 IL;go_wp2;go_ret;exact ⟨by rw [HV.out];rfl,HB.out⟩
def jh9 (l:List aj) (ks:List Int) (w:jG9) (vi:Value) (wr:jG9):Prop:=∃ k:Nat,k<=l.length/\vi=.int .i64 k/\aj.cZ ks (l.take k)=false/\Below w.heap.size w wr
theorem jp3 (k:Int):bS.contains k=((k==2)||(k==3)):=by unfold bS;rw [jDk];simp
theorem jr{P:Prop}(h:P:=by
 go_wp2;go_ret;exact ⟨by rw [HE.out];rfl,HB.out⟩):P:=h
theorem jhj{P:Prop}(h:P:=by
 clear b2;go_wp2;go_roundw;case rel=>exact ⟨k+1,by omega,by go_num,by rw [gV.out,HN.out,HX.out];rfl,HB2.out⟩
 case measure=>simp [intOf];omega):P:=h
theorem NK{P:Prop}(h:P:=by
 go_wp2;go_ret;exact ⟨by rw [HE.out];rfl,HB2.out⟩):P:=h
theorem Aq (n:Nat):∀ (l:List aj) (v:Value) (le:Bool) (w:jG9),aj.aY l<=n->Rd (·<w.heap.size) w (bG l) [v] -> Calls Tryz.prog 209 #[v,.bool le] w (eX (.bool (aj.cZ (if le then bS else dw) l)) w):=by
 induction n using Nat.strongRecOn with
 | _ n ih=>
  intro l v le w hn hrd;obtain ⟨a,cp,hv,hs⟩:=Rd.ay hrd;obtain rfl:v=.slice a l.length cp:=by simpa using hv
  have hcap:l.length<=cp:=by simpa using hs.le
  have hmx:=hs.max;unfold maxLen at hmx;have HR:=hid hrd;have IH:=hid ih;obtain ⟨ks,hks⟩:∃ ks,ks=if le then bS else dw:=⟨_,rfl⟩
  rw [<- hks];have Kl:=hid hks;have R0:Hid (jh9 l ks w (.int .i64 0) w):=⟨0,Nat.zero_le _,rfl,by rw [List.take_zero,aj.cZ],jD7 _ _⟩;obtain ⟨V,hV⟩:∃ V,V=aj.cZ ks l:=⟨_,rfl⟩;rw [<- hV];have HV:=hid hV;clear hs hv hrd ih hks hV;go_enter Tryz.func209,Tryz.ntmps209;go_wp2
  go_loopw [5] (fun i wr=>jh9 l ks w i wr) (fun i _=>l.length-(intOf i).toNat)
  case atStart=>exact R0.out
  case round=>
   clear R0;obtain ⟨k,hk,rfl,hno,hbel⟩:=hrel;have HN:=hid hno;have HB:=hid hbel;clear hno;by_cases hlt:k<l.length
   ·obtain ⟨x,hx⟩:∃ x,l[k]?=some x:=⟨_,List.getElem?_eq_getElem hlt⟩;have hsn:=aj.DR ks hx;have HG:=hid (aj.Ak ks hx);obtain ⟨kd,t,d,ti,at_,ar,ci,kids⟩:=x;obtain ⟨a',cp',hv',hs'⟩:=Rd.ay (HR.out.up hbel);obtain ⟨rfl,rfl⟩:a'=a/\cp'=cp:=by simp at hv';exact ⟨hv'.1.symm,hv'.2.symm⟩
    obtain ⟨b,off,vc,vp,va,vi,vk,rfl,hok,hbl,hcl,hR⟩:=L9 hs' hx;obtain ⟨c0,-,-,-,-,-,-,-,-,c9⟩:=hcl;have hsz:=aj.bE l k _ hx;rw [aj.sz] at hsz;have AK:=hid (fun (w2:jG9) (h2:Below wr.heap.size wr w2)=>IH.out (aj.aY kids) (by omega) kids vk le w2 (Nat.le_refl _) (hR.kids.up h2));rw [<- Kl.out] at AK;obtain ⟨ak,nk,ck,rfl⟩:=Rd.zK hR.kids;have HX:Hid ((aj.mk kd t d ti at_ ar ci kids).KZ ks=(ks.contains kd||aj.cZ ks kids)):=by show _=_;rw [aj.KZ]
    have gV:=hid hsn;have yQ:Hid (∀ w2,Below wr.heap.size wr w2->w2.cell? ⟨b,off+k*10+9,none⟩=some (.slice ak nk ck)):=fun w2 h2=>by rw [h2.cell (p:=⟨b,off+k*10+9,none⟩) hbl];exact c9
    clear hx hR hsn hv' hs';cases le with
    | false=>
     obtain rfl:ks=dw:=Kl.out;have RF:=hid (Ap kd);cases h1:dw.contains kd with
     | true=>
      rw [h1] at RF HX;refine Al ?_;intro HE;clear h1 hbel;go_wp2_with fail
      refine (RF.out _).mono ?_;rintro e w1 ⟨rfl,b1⟩;have HB1:=hid (q01 HB.out b1);clear b1;go_wp2;go_ret;exact ⟨by rw [HE.out];rfl,HB1.out⟩
     | false=>
      rw [h1] at RF HX;clear h1 hbel;cases h2:aj.cZ dw kids
      all_goals
       rw [h2] at AK HX
      case true=>
       refine Al ?_;intro HE;clear h2;go_wp2_with fail
       refine (RF.out _).mono ?_;rintro e w1 ⟨rfl,b1⟩;have c9:=yQ.out w1 b1;have HB1:=hid b1;clear b1;go_wp2_with fail
       refine (AK.out _ HB1.out).mono ?_;rintro e w2 ⟨rfl,b2⟩;have HB2:=hid (q01 (q01 HB.out HB1.out) b2);clear b2;exact NK
      case false=>
       clear h2;go_wp2_with fail
       refine (RF.out _).mono ?_;rintro e w1 ⟨rfl,b1⟩;have c9:=yQ.out w1 b1;have HB1:=hid b1;clear b1;go_wp2_with fail
       refine (AK.out _ HB1.out).mono ?_;rintro e w2 ⟨rfl,b2⟩;have HB2:=hid (q01 (q01 HB.out HB1.out) b2);exact jhj
    | true=>
     obtain rfl:ks=bS:=Kl.out;rw [jp3] at HX;clear hbel;cases h1:(kd==2) with
     | true=>
      rw [h1] at HX;refine Al ?_;intro HE;exact jr
     | false=>
      cases h3:(kd==3) with
      | true=>
       rw [h1,h3] at HX;refine Al ?_;intro HE;exact jr
      | false=>
       rw [h1,h3] at HX;cases h2:aj.cZ bS kids
       all_goals
        rw [h2] at AK HX
       case true=>
        refine Al ?_;intro HE;clear h2;go_wp2_with fail
        refine (AK.out _ (jD7 _ _)).mono ?_;rintro e w2 ⟨rfl,b2⟩;have HB2:=hid (q01 HB.out b2);clear b2;exact NK
       case false=>
        clear h2;go_wp2_with fail
        refine (AK.out _ (jD7 _ _)).mono ?_;rintro e w2 ⟨rfl,b2⟩;have HB2:=hid (q01 HB.out b2);exact jhj
   ·have HE:Hid (V=false):=by
     show V=false;rw [HV.out];have:=HN.out
     rwa [List.take_of_length_le (by omega)] at this
    clear hbel;exact jr
theorem kI{P Q:Prop}(q:Q)(h:Nonempty Q->P:=by
 intro qQ
 (try simp only [List.append_eq,List.cons_append,List.nil_append])
 exact qQ.elim fun x=>x):P:=h ⟨q⟩
theorem jhk{P:Prop}(h:P:=by
 have q3:decide ((65:Int)<=(s[k].toNat:Int))=true:=by rw [eb];simp;omega
 have q4:decide ((s[k].toNat:Int)<=(90:Int))=false:=by rw [eb];simp;omega
 have HT:Hid (B=false):=by show B=false;rw [HB2.out,HLT.out];simp;omega
 clear eb h;go_wp2_with fail
 go_meet
 exact ⟨by rw [HT.out],rfl⟩):P:=h
theorem Vh{P:Prop}(h:P:=by
 clear eb h;go_wp2_with fail
 go_meet
 exact ⟨by rw [HT.out],rfl⟩):P:=h
theorem PE (s:ByteArray) (w:jG9) (hs:s.size<=1000000000) : Calls Tryz.prog 286 #[.string s] w (eX (.bool (mH s)) w):=by
 have HV:Hid (mH s=(decide (2<=gq s)&&decide (gq s<=20)&&decide (s.data.toList[gq s]?=some 58)&&dG s&&!mV s [32,60,62])):=rfl;have RL:=hid (fun w=>V7 s w hs);have HH:=hid (fun w=>jo s ⟨#[32,60,62]⟩ w hs (by decide));change Hid (∀ w,Calls Tryz.prog 215 #[.string s,.string ⟨#[32,60,62]⟩] w (eX (.bool (mV s [32,60,62])) w)) at HH;have jz8:Hid (∀ k,k<=s.data.toList.length->(∀ j x,j<k->s.data.toList[j]?=some x->dY x.toNat=true)->(∀ x,s.data.toList[k]?=some x->dY x.toNat=false)->gq s=k):=fun k h1 h2 h3=>qL (fun c=>dY c.toNat) _ k h1 h2 h3
 generalize mH s=V at *;generalize gq s=R at *;generalize dG s=L at *;generalize mV s [32,60,62]=H at *;go_enter Tryz.func286,Tryz.ntmps286;refine kI ?_;go_wp2
 go_loop [3] (fun vi=>∃ k:Nat,k<=s.size/\vi=.int .i64 k/\∀ j x,j<k->s.data.toList[j]?=some x->dY x.toNat=true) (fun i=>s.size-(intOf i).toNat)
 case atStart=>exact ⟨0,Nat.zero_le _,rfl,fun j x hj=>by omega⟩
 case round=>
  obtain ⟨k,hk,rfl,hall⟩:=hrel;have Fw:=hid hall;clear hall;obtain ⟨B,hB⟩:∃ B,B=(decide (k<s.size)&&dY (bt s k)):=⟨_,rfl⟩;have HB:=hid hB;clear hB;go_upto_region 2 with (fail)
  go_cut [31] (fun s31 wx=>s31=.bool B/\w=wx)
  case first=>
   by_cases hlt:k<s.size
   ·have eb:=jk s k hlt;have hbl:=fZ s k;have HB2:Hid (B=dY (bt s k)):=by show B=_;rw [HB.out,decide_eq_true hlt];rfl
    have HLT:Hid (dY (bt s k)=(decide (97<=bt s k/\bt s k<=122)||decide (65<=bt s k/\bt s k<=90))):=by show _=_;unfold dY nI;rw [jDk];simp
    generalize bt s k=c at *;rcases (by omega:(97<=c/\c<=122)\/(122<c)\/(c<65)\/(65<=c/\c<=90)\/(90<c/\c<97)) with h | h | h | h | h
    ·have q1:decide ((97:Int)<=(s[k].toNat:Int))=true:=by rw [eb];simp;omega
     have q2:decide ((s[k].toNat:Int)<=(122:Int))=true:=by rw [eb];simp;omega
     have HT:Hid (B=true):=by show B=true;rw [HB2.out,HLT.out];simp;omega
     exact Vh
    ·have q1:decide ((97:Int)<=(s[k].toNat:Int))=true:=by rw [eb];simp;omega
     have q2:decide ((s[k].toNat:Int)<=(122:Int))=false:=by rw [eb];simp;omega
     exact jhk
    ·have q1:decide ((97:Int)<=(s[k].toNat:Int))=false:=by rw [eb];simp;omega
     have q3:decide ((65:Int)<=(s[k].toNat:Int))=false:=by rw [eb];simp;omega
     have HT:Hid (B=false):=by show B=false;rw [HB2.out,HLT.out];simp;omega
     exact Vh
    ·have q1:decide ((97:Int)<=(s[k].toNat:Int))=false:=by rw [eb];simp;omega
     have q3:decide ((65:Int)<=(s[k].toNat:Int))=true:=by rw [eb];simp;omega
     have q4:decide ((s[k].toNat:Int)<=(90:Int))=true:=by rw [eb];simp;omega
     have HT:Hid (B=true):=by show B=true;rw [HB2.out,HLT.out];simp;omega
     exact Vh
    ·have q1:decide ((97:Int)<=(s[k].toNat:Int))=false:=by rw [eb];simp;omega
     exact jhk
   ·have HT:Hid (B=false):=by show B=false;rw [HB.out,decide_eq_false hlt];rfl
    have q1:decide ((k:Int)<(s.size:Int))=false:=by simp;omega
    go_wp2_with fail
    go_meet
    exact ⟨by rw [HT.out],rfl⟩
  case rest=>
   obtain ⟨rfl,rfl⟩:=hcut;cases B with
   | true=>
    have hb:=HB.out;have hlt:k<s.size:=by
     rcases Nat.lt_or_ge k s.size with h | h
     ·exact h
     ·rw [decide_eq_false (by omega)] at hb;cases hb
    have HC:Hid (dY (bt s k)=true):=by show _=true;rw [decide_eq_true hlt] at hb;exact hb.symm
    clear hb;go_wp2
    go_round
    case rel=>
     refine ⟨k+1,by omega,by go_num,fun j x hj hx=>?_⟩;rcases Nat.lt_or_ge j k with h | h
     ·exact Fw.out j x h hx
     ·have:j=k:=by omega
      subst this;rw [Cc s j hlt] at hx;obtain rfl:=Option.some.inj hx;rw [jk s j hlt];exact HC.out
    case measure=>simp [intOf];omega
   | false=>
    have hR:R=k:=jz8.out k (by simpa using hk) Fw.out (fun x hx=>by
     have h1:=(List.getElem?_eq_some_iff.1 hx).1;have hlt:k<s.size:=by simpa using h1
     rw [Cc s k hlt] at hx;obtain rfl:=Option.some.inj hx;have hb:=HB.out;rw [decide_eq_true hlt] at hb;rw [jk s k hlt];exact hb.symm)
    subst hR;have rO:=HV.out;by_cases h2:2<=R;case neg=>
     have q1:decide ((2:Int)<=(R:Int))=false:=by simp;omega
     have HE:Hid (V=false):=by show V=false;rw [rO,decide_eq_false h2];rfl
     clear rO;exact DV
    have q1:decide ((2:Int)<=(R:Int))=true:=by simp;omega
    by_cases h20:R<=20;case neg=>
     have q2:decide ((R:Int)<=(20:Int))=false:=by simp;omega
     have HE:Hid (V=false):=by show V=false;rw [rO,decide_eq_true h2,decide_eq_false h20];rfl
     clear rO;exact DV
    have q2:decide ((R:Int)<=(20:Int))=true:=by simp;omega
    by_cases hlt:R<s.size;case neg=>
     have q3:decide ((R:Int)<(s.size:Int))=false:=by simp;omega
     have HE:Hid (V=false):=by show V=false;have h0:s.data.toList[R]?=none:=List.getElem?_eq_none (by simp;omega);rw [rO,decide_eq_true h2,decide_eq_true h20,h0];simp
     clear rO;exact DV
    have q3:decide ((R:Int)<(s.size:Int))=true:=by simp;omega
    have h58:decide (s.data.toList[R]?=some 58)=((s[R].toNat:Int)==58):=by rw [Cc s R hlt,jDk];simp [<- UInt8.toNat_inj];omega
    rw [h58,decide_eq_true h2,decide_eq_true h20] at rO;have Lu:=hid rO;clear rO h58;cases hc:((s[R].toNat:Int)==58) with
    | false=>
     rw [hc] at Lu;have HE:Hid (V=false):=Lu.out;exact DV
    | true=>
     rw [hc] at Lu;cases L with
     | false=>
      have HE:Hid (V=false):=Lu.out;go_wp2_with fail
      refine (RL.out _).mono ?_;rintro e w1 ⟨rfl,b1⟩;have HB1:=hid b1;clear b1;go_wp2;go_ret;exact ⟨by rw [HE.out];rfl,HB1.out⟩
     | true=>
      have HE:Hid (V=!H):=Lu.out;go_wp2_with fail
      refine (RL.out _).mono ?_;rintro e w1 ⟨rfl,b1⟩;have HB1:=hid b1;clear b1;go_wp2_with fail
      refine (HH.out _).mono ?_;rintro e w2 ⟨rfl,b2⟩;have HB2:=hid (q01 HB1.out b2);clear b2;exact NK
open Go.RowKit
theorem Vi (k:Int):(k<1\/16<k)\/(1<=k/\k<=16)/\( (([1,4,5,9,10,12,14,15]:List Int).contains k=true/\([9,10,16]:List Int).contains k=false/\([9,10,14]:List Int).contains k=false/\([10,11]:List Int).contains k=false/\([6,7,8,9,10,11]:List Int).contains k=false/\(k==15)=false/\(k==13)=false) \/ (([1,4,5,9,10,12,14,15]:List Int).contains k=false/\([9,10,16]:List Int).contains k=false/\([9,10,14]:List Int).contains k=false/\([10,11]:List Int).contains k=false/\([6,7,8,9,10,11]:List Int).contains k=false/\(k==15)=false/\(k==13)=false) \/ (([1,4,5,9,10,12,14,15]:List Int).contains k=false/\([9,10,16]:List Int).contains k=false/\([9,10,14]:List Int).contains k=false/\([10,11]:List Int).contains k=false/\([6,7,8,9,10,11]:List Int).contains k=true/\(k==15)=false/\(k==13)=false) \/ (([1,4,5,9,10,12,14,15]:List Int).contains k=true/\([9,10,16]:List Int).contains k=true/\([9,10,14]:List Int).contains k=true/\([10,11]:List Int).contains k=false/\([6,7,8,9,10,11]:List Int).contains k=true/\(k==15)=false/\(k==13)=false) \/ (([1,4,5,9,10,12,14,15]:List Int).contains k=true/\([9,10,16]:List Int).contains k=true/\([9,10,14]:List Int).contains k=true/\([10,11]:List Int).contains k=true/\([6,7,8,9,10,11]:List Int).contains k=true/\(k==15)=false/\(k==13)=false) \/ (([1,4,5,9,10,12,14,15]:List Int).contains k=false/\([9,10,16]:List Int).contains k=false/\([9,10,14]:List Int).contains k=false/\([10,11]:List Int).contains k=true/\([6,7,8,9,10,11]:List Int).contains k=true/\(k==15)=false/\(k==13)=false) \/ (([1,4,5,9,10,12,14,15]:List Int).contains k=false/\([9,10,16]:List Int).contains k=false/\([9,10,14]:List Int).contains k=false/\([10,11]:List Int).contains k=false/\([6,7,8,9,10,11]:List Int).contains k=false/\(k==15)=false/\(k==13)=true) \/ (([1,4,5,9,10,12,14,15]:List Int).contains k=true/\([9,10,16]:List Int).contains k=false/\([9,10,14]:List Int).contains k=true/\([10,11]:List Int).contains k=false/\([6,7,8,9,10,11]:List Int).contains k=false/\(k==15)=false/\(k==13)=false) \/ (([1,4,5,9,10,12,14,15]:List Int).contains k=true/\([9,10,16]:List Int).contains k=false/\([9,10,14]:List Int).contains k=false/\([10,11]:List Int).contains k=false/\([6,7,8,9,10,11]:List Int).contains k=false/\(k==15)=true/\(k==13)=false) \/ (([1,4,5,9,10,12,14,15]:List Int).contains k=false/\([9,10,16]:List Int).contains k=true/\([9,10,14]:List Int).contains k=false/\([10,11]:List Int).contains k=false/\([6,7,8,9,10,11]:List Int).contains k=false/\(k==15)=false/\(k==13)=false)):=by
 rcases rY k with rfl | rfl | rfl | rfl | rfl | rfl | rfl | rfl | rfl | rfl | rfl | rfl | rfl | rfl | rfl | rfl | hk
 case inr.inr.inr.inr.inr.inr.inr.inr.inr.inr.inr.inr.inr.inr.inr.inr=>exact .inl hk
 all_goals (right;simp)
theorem tZ (w:jG9) (k:Int) (t d ti:ByteArray) (at_:At) (ar:List ByteArray) (ci:List Ci) (ks:List aj) (ac ap aa ai ak:Option Addr) (cc cp ca gu ck:Nat) (h:qV (·<w.heap.size) w at_ ar ci ks (.slice ac at_.cls.length cc) (.slice ap at_.aD.length cp) (.slice aa ar.length ca) (.slice ai ci.length gu) (.slice ak ks.length ck)) : Calls Tryz.prog 282 #[.agg #[.int .i64 k,.string t,.string d,.string ti,.string at_.id,.slice ac at_.cls.length cc,.slice ap at_.aD.length cp,.slice aa ar.length ca,.slice ai ci.length gu,.slice ak ks.length ck]] w (eX (.bool (xV k t d ti at_ ar ci ks)) w):=by
 have l1:=(rX h.at_.cls).2;have l2:=(rX h.at_.aD).2;obtain ⟨-,l3,m3⟩:=rX h.args;obtain ⟨-,l4,m4⟩:=rX h.fu;obtain ⟨-,l5,m5⟩:=rX h.kids;unfold maxLen at m3 m4 m5;have AE:=hid (fun w=>oI at_ ac ap cc cp w (by omega) (by omega));clear l1 l2;have HV:Hid (xV k t d ti at_ ar ci ks=(decide (1<=k)&&decide (k<=16)&&(([1,4,5,9,10,12,14,15]:List Int).contains k||t.toList.isEmpty)&&(([9,10,16]:List Int).contains k||d.toList.isEmpty)&&(([9,10,14]:List Int).contains k||ti.toList.isEmpty) &&
 (([10,11]:List Int).contains k||at_.none)&&(([6,7,8,9,10,11]:List Int).contains k||((ks.length:Int)==0))&&((k==15)||((ar.length:Int)==0))&&((k==13)||((ci.length:Int)==0)))):=by show _=_;rw [oN,oN,oN,jR,jR,jR];rfl
 obtain ⟨V,hV⟩:∃ V,V=xV k t d ti at_ ar ci ks:=⟨_,rfl⟩
 rw [<- hV] at HV ⊢;have Vj:=Vi k;have IL1:=hid (fun (w:jG9)=>iW k [1,4,5,9,10,12,14,15] w 3 (by decide));have IL2:=hid (fun (w:jG9)=>iW k [9,10,16] w 3 (by decide));have IL3:=hid (fun (w:jG9)=>iW k [9,10,14] w 3 (by decide));have IL4:=hid (fun (w:jG9)=>iW k [10,11] w 3 (by decide));have IL5:=hid (fun (w:jG9)=>iW k [6,7,8,9,10,11] w 3 (by decide));generalize ([1,4,5,9,10,12,14,15]:List Int).contains k=b1 at *;generalize ([9,10,16]:List Int).contains k=b2 at *;generalize ([9,10,14]:List Int).contains k=b3 at *;generalize ([10,11]:List Int).contains k=b4 at *;generalize ([6,7,8,9,10,11]:List Int).contains k=b5 at *;generalize at_.none=bn at *
 obtain ⟨w1,hw1⟩:∃ w1,w1=w.alloc (.cells #[.int .i64 k,.string t,.string d,.string ti,.string at_.id,.slice ac at_.cls.length cc,.slice ap at_.aD.length cp,.slice aa ar.length ca,.slice ai ci.length gu,.slice ak ks.length ck] 66):=⟨_,rfl⟩;have k1:CB 66 w.heap.size [.int .i64 k,.string t,.string d,.string ti,.string at_.id,.slice ac at_.cls.length cc,.slice ap at_.aD.length cp,.slice aa ar.length ca,.slice ai ci.length gu,.slice ak ks.length ck] w1:=by rw [hw1];exact CB.new _ _ _
 have B1:Hid (Below w.heap.size w w1):=by show Below _ _ _;rw [hw1];exact (jD7 _ _).alloc (Nat.le_refl _) _
 have p0:=k1.cell 0 _ rfl;have K1:=hid k1;clear hV h k1;go_enter Tryz.func282,Tryz.ntmps282;simp only [List.append_eq,List.cons_append,List.nil_append];go_upto_region 1 with (fail)
 rw [<- hw1];clear hw1;go_wp2_with fail
 refine (IL1.out w1).mono ?_;rintro e w2 ⟨rfl,b2⟩;have K2:=hid (K1.out.below b2);have B2:=hid (q01 B1.out b2);have p0:=K2.out.cell 0 _ rfl;clear b2 K1 B1;go_wp2_with fail
 refine (IL2.out w2).mono ?_;rintro e w3 ⟨rfl,b3⟩;have K3:=hid (K2.out.below b3);have B3:=hid (q01 B2.out b3);have p0:=K3.out.cell 0 _ rfl;clear b3 K2 B2;go_wp2_with fail
 refine (IL3.out w3).mono ?_;rintro e w4 ⟨rfl,b4⟩;have K4:=hid (K3.out.below b4);have B4:=hid (q01 B3.out b4);have p0:=K4.out.cell 0 _ rfl;clear b4 K3 B3;go_wp2_with fail
 refine (IL4.out w4).mono ?_;rintro e w5 ⟨rfl,b5⟩;have K5:=hid (K4.out.below b5);have B5:=hid (q01 B4.out b5);have p0:=K5.out.cell 0 _ rfl;clear b5 K4 B4;go_wp2_with fail
 refine (IL5.out w5).mono ?_;rintro e w6 ⟨rfl,b6⟩;have K6:=hid (K5.out.below b6);have B6:=hid (q01 B5.out b6);have p0:=K6.out.cell 0 _ rfl;clear b6 K5 B5;have p0:=K6.out.cell 0 _ rfl;have p1:=K6.out.cell 1 _ rfl;have p2:=K6.out.cell 2 _ rfl;have p3:=K6.out.cell 3 _ rfl;have p4:=K6.out.cell 4 _ rfl;have p5:=K6.out.cell 5 _ rfl;have p6:=K6.out.cell 6 _ rfl;have p7:=K6.out.cell 7 _ rfl;have p8:=K6.out.cell 8 _ rfl;have p9:=K6.out.cell 9 _ rfl;rcases Vj with hk | ⟨⟨hk1,hk2⟩,hpat⟩
 ·have hv:V=false:=by
   exact jh7
  have HE:=hid hv;by_cases hk1:1<=k
  ·have q1:decide ((1:Int)<=k)=true:=by simpa using hk1
   have q2:decide (k<=(16:Int))=false:=by simp;omega
   clear hv hk;go_wp2;go_ret;exact ⟨by rw [HE.out];rfl,B6.out⟩
  ·have q1:decide ((1:Int)<=k)=false:=by simpa using hk1
   clear hv hk;go_wp2;go_ret;exact ⟨by rw [HE.out];rfl,B6.out⟩
 have q1:decide ((1:Int)<=k)=true:=by simpa using hk1
 have q2:decide (k<=(16:Int))=true:=by simpa using hk2
 rw [q1,q2] at HV;generalize jz9:(k==15)=Qb at *;generalize jCj:(k==13)=q13 at *;clear hk1 hk2;rcases hpat with ⟨rfl,rfl,rfl,rfl,rfl,rfl,rfl⟩ | ⟨rfl,rfl,rfl,rfl,rfl,rfl,rfl⟩ | ⟨rfl,rfl,rfl,rfl,rfl,rfl,rfl⟩ | ⟨rfl,rfl,rfl,rfl,rfl,rfl,rfl⟩ | ⟨rfl,rfl,rfl,rfl,rfl,rfl,rfl⟩ | ⟨rfl,rfl,rfl,rfl,rfl,rfl,rfl⟩ | ⟨rfl,rfl,rfl,rfl,rfl,rfl,rfl⟩ | ⟨rfl,rfl,rfl,rfl,rfl,rfl,rfl⟩ | ⟨rfl,rfl,rfl,rfl,rfl,rfl,rfl⟩ | ⟨rfl,rfl,rfl,rfl,rfl,rfl,rfl⟩
 all_goals
  go_wp2_with (go_at_call 176;refine (AE.out _).mono ?_;rintro e w7 ⟨rfl,Ql⟩;have K7:=K6.out.below Ql;have p7:=K7.cell 7 _ rfl;have p8:=K7.cell 8 _ rfl;have p9:=K7.cell 9 _ rfl;have p0:=K7.cell 0 _ rfl)
  all_goals
   go_ret;refine ⟨wF ?_,?_⟩
   ·rw [HV.out]
    (try simp only [*])
    (try simp)
    (try (simp only [<- List.length_eq_zero_iff];omega))
   ·first | exact q01 B6.out Ql | exact B6.out
end Go.Proofs.YtkfnkeflalcphaaGreatDoor

