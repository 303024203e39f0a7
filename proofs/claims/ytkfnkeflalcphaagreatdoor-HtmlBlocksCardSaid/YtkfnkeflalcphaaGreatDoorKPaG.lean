/- Contracts of attr.Parse$1 (spaces) and attr.Parse$2 (an item). The contract of attr.Parse. -/
import Derived.Test.YtkfnkeflalcphaaGreatDoorKPaE
import Derived.Test.YtkfnkeflalcphaaGreatDoorKInlines
set_option maxHeartbeats 4000000
set_option maxRecDepth 100000
open Go.Lib (hid)
namespace Go.Proofs.YtkfnkeflalcphaaGreatDoor
open Option.some renaming inj->jE0
open Go.World renaming size_alloc->jE5
open Go renaming World->jG9
open Go.RowKit
set_option linter.unusedVariables false
set_option linter.unusedSimpArgs false
structure K1 (c:Nat) (w w':jG9):Prop where
 os:w'.os=w.os
 tape:w'.tape=w.tape
 output:w'.output=w.output
 size:w'.heap.size=w.heap.size
 block:∀ k,k≠c->w'.heap[k]?=w.heap[k]?
theorem K1.refl (c:Nat) (w:jG9):K1 c w w:=⟨rfl,rfl,rfl,rfl,fun _ _=>rfl⟩
theorem K1.set {c:Nat} {w w1:jG9} (h:K1 c w w1) (j:Nat) (u:Value):K1 c w (w1.setCell ⟨c,j,none⟩ u):=
 ⟨h.os,h.tape,h.output,by simpa [World.setCell] using h.size,fun k hk=>(Below.heap_setCell w1 ⟨c,j,none⟩ u k hk).trans (h.block k hk)⟩
def jo3 (s:ByteArray) (i c:Nat) (w:jG9) (e:Ending) (w':jG9):Prop:=
 ∃ q:Nat,i<=q/\q<=s.size/\aN s q=cu (aN s i)/\e=.returned (.bool (decide ((aN s i).head?=some 32)))/\aH c (.int .i64 q) 3 w'/\K1 c w w'
def je1 (s:ByteArray) (i c:Nat) (w wr:jG9):Prop:=
 ∃ q:Nat,i<=q/\q<=s.size/\cu (aN s q)=cu (aN s i)/\(q=i\/(aN s i).head?=some 32)/\aH c (.int .i64 q) 3 wr/\K1 c w wr
def Dw (w:jG9) (c:Nat):Nat:=match w.cell? ⟨c,0,none⟩ with
 | some v=>(intOf v).toNat
 | none=>0
theorem pQ {w:jG9} {c q:Nat} {t:TypeId} (h:aH c (.int .i64 q) t w):Dw w c=q:=by unfold Dw;rw [h.cell];simp [intOf]
theorem zU (s:ByteArray) (i c sb:Nat) (w:jG9) (hs:s.size<=100000) (hi:i<=s.size) (hc:aH c (.int .i64 i) 3 w) (hb:aH sb (.string s) 9 w) (hne:sb≠c) : Calls Tryz.prog 255 #[.pointer (some ⟨c,0,none⟩),.pointer (some ⟨sb,0,none⟩)] w (jo3 s i c w):=by
 have p0:=hc.cell;have R0:Hid (je1 s i c w w):=⟨i,Nat.le_refl _,hi,rfl,.inl rfl,hc,K1.refl _ _⟩;have HB:=hid hb;clear hc hb;go_enter Tryz.func255,Tryz.ntmps255;go_wp2;clear p0
 go_loopw [] (fun wr=>je1 s i c w wr) (fun wr=>s.size-Dw wr c)
 case atStart=>exact R0.out
 case round=>
  clear R0;obtain ⟨q,hq1,hq2,hsk,hhd,hbx,hk⟩:=hrel;have c0:=hbx.cell;have f0:=hbx.free;have s0:wr.cell? ⟨sb,0,none⟩=some (.string s):=by have:aH sb (.string s) 9 wr:=(hk.block sb hne).trans HB.out;exact this.cell
  have pY:=hid hbx;have HK:=hid hk;have Kw:=hid hsk;have Yq:=hid hhd;clear hbx hk hsk hhd;by_cases hlt:q<s.size
  ·have hcn:=q0z s q hlt;by_cases h32:s[q]=32
   ·have q1:((s[q].toNat:Int)==32)=true:=by rw [h32];rfl
    have jo4:Hid (cu (aN s (q+1))=cu (aN s i)):=by show _=_;rw [<- Kw.out,hcn];unfold cu;rw [List.dropWhile_cons_of_pos (by rw [h32];rfl)]
    have jo5:Hid ((aN s i).head?=some 32):=by
     rcases Yq.out with h | h
     ·show _=_;rw [<- h,hcn,h32];rfl
     ·exact h
    have ju2:=hid (pY.out.set (.int .i64 ((q+1:Nat):Int)));clear hcn h32;go_wp2;go_roundw;case rel=>exact ⟨q+1,by omega,by omega,jo4.out,.inr jo5.out,ju2.out,HK.out.set 0 _⟩
    case measure=>
     have e1:=pQ pY.out;have e2:=pQ ju2.out;show s.size-Dw (wr.setCell ⟨c,0,none⟩ (.int .i64 ((q+1:Nat):Int))) c<s.size-Dw wr c;rw [e1,e2];omega
   ·have q1:((s[q].toNat:Int)==32)=false:=by
     rw [beq_eq_false_iff_ne];intro e;exact h32 (by rw [<- UInt8.toNat_inj];show _=32;omega)
    have HF:Hid (aN s q=cu (aN s i)):=by show _=_;rw [<- Kw.out,hcn];unfold cu;rw [List.dropWhile_cons_of_neg (by unfold eZ;simp [h32])]
    have HV:Hid (decide (i<q)=decide ((aN s i).head?=some 32)):=by
     show _=_;rcases Yq.out with h | h
     ·subst h;rw [hcn,List.head?_cons];simp [h32]
     ·rw [h];have:i≠q:=by
       rintro rfl;rw [hcn,List.head?_cons] at h;exact h32 (jE0 h)
      simp;omega
    clear hcn h32;go_wp2;go_ret;exact ⟨q,hq1,hq2,HF.out,by rw [<- HV.out];rfl,pY.out,HK.out⟩
  ·have HF:Hid (aN s q=cu (aN s i)):=by
    show _=_;rw [<- Kw.out,q1z s q (by omega)];rfl
   have HV:Hid (decide (i<q)=decide ((aN s i).head?=some 32)):=by
    show _=_;rcases Yq.out with h | h
    ·subst h;rw [q1z s q (by omega)];simp
    ·rw [h];have:i≠q:=by
      rintro rfl;rw [q1z s i (by omega)] at h;simp at h
     simp;omega
   go_wp2;go_ret;exact ⟨q,hq1,hq2,HF.out,by rw [<- HV.out];rfl,pY.out,HK.out⟩
structure Ky (B b c:Nat) (w w':jG9):Prop where
 os:w'.os=w.os
 tape:w'.tape=w.tape
 output:w'.output=w.output
 size:w.heap.size<=w'.heap.size
 block:∀ k,k<B->k≠b->k≠c->w'.heap[k]?=w.heap[k]?
section
variable {B b c:Nat} {w w1 w2:jG9}
theorem Ky.trans (h:Ky B b c w w1) (k:Ky B b c w1 w2):Ky B b c w w2:=
 ⟨k.os.trans h.os,k.tape.trans h.tape,k.output.trans h.output,Nat.le_trans h.size k.size,fun i h1 h2 h3=>(k.block i h1 h2 h3).trans (h.block i h1 h2 h3)⟩
theorem Ky.ofx (h:Kx B b w w1):Ky B b c w w1:=⟨h.os,h.tape,h.output,h.size,fun k h1 h2 _=>h.block k h1 h2⟩
theorem Ky.of1 (h:K1 c w w1):Ky B b c w w1:=⟨h.os,h.tape,h.output,Nat.le_of_eq h.size.symm,fun k _ _ h2=>h.block k h2⟩
end
theorem rC.k1 {B b c:Nat} {a:At} {vc vp:Value} {w w1:jG9} (h:rC B b a vc vp w) (hk:K1 c w w1) (hcb:c≠b) (hcB:c<B):rC B b a vc vp w1:=by
 refine ⟨(hk.block b (Ne.symm hcb)).trans h.ab,?_,?_,h.lt,by rw [hk.size];exact h.le⟩
 ·have hg:w.grownBy w1 (some c):=⟨hk.os,hk.tape,hk.output,Nat.le_of_eq hk.size.symm,fun k _ hne=>hk.block k (fun e=>hne (by rw [e]))⟩;refine h.cls.kept hg ?_;cases hv:vc.ownBlock with
  | none=>exact .inl rfl
  | some g=>right;intro e;have:=(h.cls.lt g hv).1;have:=jE0 e;omega
 ·have hg:w.grownBy w1 (some c):=⟨hk.os,hk.tape,hk.output,Nat.le_of_eq hk.size.symm,fun k _ hne=>hk.block k (fun e=>hne (by rw [e]))⟩;refine h.aD.kept hg ?_;cases hv:vp.ownBlock with
  | none=>exact .inl rfl
  | some g=>right;intro e;have:=(h.aD.lt g hv).1;have:=jE0 e;omega
def jo6 (B b c:Nat) (a:At) (s:ByteArray) (i:Nat) (w:jG9) (e:Ending) (w':jG9):Prop:=
 ∃ n:Int,e=.returned (.int .i64 n)/\Ky B b c w w' /\
  ((n=0/\∃ (a':At) (q:Nat),q<=s.size/\kE a (aN s i)=some (a',aN s q)/\a'.cls.length<=32/\a'.aD.length<=32/\aH c (.int .i64 q) 3 w'/\∃ vc vp,rC B b a' vc vp w')\/(n≠0/\kE a (aN s i)=none))
theorem BG (B b c sb:Nat) (a:At) (s:ByteArray) (i:Nat) (vc vp:Value) (w:jG9) (h:rC B b a vc vp w) (hl:a.cls.length<=32) (hp:a.aD.length<=32) (hs:s.size<=100000) (hi:i<s.size) (hbx:aH c (.int .i64 i) 3 w) (hbs:aH sb (.string s) 9 w) (hcB:c<B) (hcb:c≠b) : Calls Tryz.prog 256 #[.pointer (some ⟨b,0,none⟩),.pointer (some ⟨sb,0,none⟩),.pointer (some ⟨c,0,none⟩)] w (jo6 B b c a s i w):=by
 have RI:=hid (EZ B b a s i vc vp w h hl hp hs hi);have c0:=hbx.cell;have s0:=hbs.cell;have pY:=hid hbx;clear h hbx hbs;go_enter Tryz.func256,Tryz.ntmps256;go_wp2_with fail
 refine RI.out.mono ?_;rintro e w1 ⟨t,n,rfl,hk,hres⟩;have hb1:aH c (.int .i64 i) 3 w1:=(hk.block c hcB hcb).trans pY.out;have f1:=hb1.free;have c1:=hb1.cell;have HB1:=hid hb1;have HK:=hid hk;have iO:=hid hres;clear c0 s0 hk hres hb1;go_wp2;go_ret;have hk1:K1 c w1 (w1.setCell ⟨c,0,none⟩ (.int .i64 t)):=(K1.refl c w1).set 0 _;refine ⟨n,rfl,(Ky.ofx HK.out).trans (Ky.of1 hk1),?_⟩;rcases iO.out with ⟨h1,a',q,h2,rfl,h4,h5,h6,Qe,Qf,h7⟩ | h1
 ·exact .inl ⟨h1,a',q,h2,h4,h5,h6,HB1.out.set _,Qe,Qf,h7.k1 hk1 hcb hcB⟩
 ·exact .inr h1
open Go.RowKit
def KS (s:ByteArray) (i0:Nat) (w:jG9) (e:Ending) (w':jG9):Prop:=
 ∃ (x:ByteArray) (a1:Option Addr) (n1 c1:Nat) (a2:Option Addr) (n2 c2:Nat) (t n:Int),e=.returned (.tuple #[.agg #[.string x,.slice a1 n1 c1,.slice a2 n2 c2],.int .i64 t,.int .i64 n])/\Below w.heap.size w w' /\
  ((n=0/\∃ (a':At) (q:Nat),q<=s.size/\t=q/\q22 (aN s i0)=some (a',aN s q))\/(n≠0/\q22 (aN s i0)=none))
structure vX (s:ByteArray) (w:jG9) (a:At) (i:Nat) (vc vp:Value) (wr:jG9):Prop where
 str:aH w.heap.size (.string s) 9 wr
 res:AB (w.heap.size+1) [.string ⟨#[]⟩,.slice none 0 0,.slice none 0 0] wr
 at_:rC (w.heap.size+4) (w.heap.size+2) a vc vp wr
 pos:aH (w.heap.size+3) (.int .i64 i) 3 wr
 aM:Below w.heap.size w wr
def je2 (s:ByteArray) (R:Option (At × List UInt8)) (w:jG9) (v:Value) (wr:jG9):Prop:=
 ∃ (f:Nat) (a:At) (sep:Bool) (i:Nat) (vc vp:Value),i<=s.size/\v=.bool sep/\s.size-i+1<=f/\vY f a sep (aN s i)=R/\a.cls.length<=32/\a.aD.length<=32/\vX s w a i vc vp wr
section
variable {s:ByteArray} {w wr w1:jG9} {a a':At} {i q:Nat} {vc vp Qe Qf:Value}
theorem vX.k1 (h:vX s w a i vc vp wr) (hk:K1 (w.heap.size+3) wr w1) (hb:aH (w.heap.size+3) (.int .i64 q) 3 w1):vX s w a q vc vp w1:=
 ⟨(hk.block _ (by omega)).trans h.str,(hk.block _ (by omega)).trans h.res,h.at_.k1 hk (by omega) (by omega),hb,
  ⟨hk.os.trans h.aM.os,hk.tape.trans h.aM.tape,hk.output.trans h.aM.output,by rw [hk.size];exact h.aM.size,fun k hk2=>(hk.block k (by omega)).trans (h.aM.block k hk2)⟩⟩
theorem vX.ky (h:vX s w a i vc vp wr) (hk:Ky (w.heap.size+4) (w.heap.size+2) (w.heap.size+3) wr w1) (hb:aH (w.heap.size+3) (.int .i64 q) 3 w1) (ha:rC (w.heap.size+4) (w.heap.size+2) a' Qe Qf w1):vX s w a' q Qe Qf w1:=
 ⟨(hk.block _ (by omega) (by omega) (by omega)).trans h.str,(hk.block _ (by omega) (by omega) (by omega)).trans h.res,ha,hb,
  ⟨hk.os.trans h.aM.os,hk.tape.trans h.aM.tape,hk.output.trans h.aM.output,Nat.le_trans h.aM.size hk.size,fun k hk2=>(hk.block k (by omega) (by omega) (by omega)).trans (h.aM.block k hk2)⟩⟩
end
theorem zV (f:Nat) (a:At) (sep:Bool) (h:1<=f):vY f a sep []=none:=by obtain ⟨g,rfl⟩:∃ g,f=g+1:=⟨f-1,by omega⟩;rw [vY,if_neg (by simp),if_pos (.inl rfl)]
theorem tC (f:Nat) (a:At) (sep:Bool) (r:List UInt8) (h:1<=f):vY f a sep (125::r)=some (a,r):=by obtain ⟨g,rfl⟩:∃ g,f=g+1:=⟨f-1,by omega⟩;rw [vY,List.head?_cons,if_pos rfl];rfl
theorem tF (f:Nat) (a:At) (c:UInt8) (r:List UInt8) (h:1<=f) (hc:c≠125):vY f a false (c::r)=none:=by obtain ⟨g,rfl⟩:∃ g,f=g+1:=⟨f-1,by omega⟩;rw [vY,List.head?_cons,if_neg (fun e=>hc (jE0 e)),if_pos (.inr rfl)]
theorem zW (f:Nat) (a:At) (c:UInt8) (r:List UInt8) (h:1<=f) (hc:c≠125) (hi:kE a (c::r)=none):vY f a true (c::r)=none:=by obtain ⟨g,rfl⟩:∃ g,f=g+1:=⟨f-1,by omega⟩;rw [vY,List.head?_cons,if_neg (fun e=>hc (jE0 e)),if_neg (by simp),hi]
theorem vZ (f:Nat) (a a':At) (c:UInt8) (r l':List UInt8) (h:1<=f) (hc:c≠125) (hi:kE a (c::r)=some (a',l')):vY f a true (c::r)=vY (f-1) a' (decide (l'.head?=some 32)) (cu l'):=by obtain ⟨g,rfl⟩:∃ g,f=g+1:=⟨f-1,by omega⟩;rw [vY,List.head?_cons,if_neg (fun e=>hc (jE0 e)),if_neg (by simp),hi];rfl
theorem AB.made (w:jG9) (cs:List Value):AB w.heap.size cs (w.alloc (.cells cs.toArray 45)):=heap_alloc_new w _
theorem AB.alloc {p:Nat} {cs:List Value} {w:jG9} (h:AB p cs w) (o:Obj):AB p cs (w.alloc o):=(Below.heap_alloc w o p h.lt).trans h
theorem uQ (l:List UInt8):(cu l).length<=l.length:=(List.dropWhile_sublist _).length_le
theorem Dx (a a':At) (s:ByteArray) (i q:Nat) (hi:i<s.size) (hq:q<=s.size) (h:kE a (aN s i)=some (a',aN s q)):i<q:=by obtain ⟨p,h1,h2,_⟩:=Dy a a' _ _ h;have e:=congrArg List.length h1;rw [List.length_append,iG,iG] at e;have:=List.length_pos_iff.2 h2;omega
theorem je3{P Q:Prop}(q:Q)(h:Nonempty Q->P:=by
 intro qQ;have lQ:=q0z s i0 BD;have uR:s[i0]=123:=by rw [<- UInt8.toNat_inj,jk s i0 BD];exact hb0
 obtain ⟨R,hR⟩:∃ R,R=q22 (aN s i0):=⟨_,rfl⟩;have Yr:=hid hR;have HR0:Hid (vY (s.size-i0) ⟨bY [],[],[]⟩ true (cu (aN s (i0+1)))=R):=by show _=_;rw [hR];unfold q22;rw [<- iG,lQ,uR];rfl
 have q1:decide ((s.size:Int)<=(i0:Int))=false:=by simp;omega
 have q2:((s[i0].toNat:Int) != 123)=false:=by rw [jk s i0 BD,hb0];rfl
 revert lQ uR R hR Yr HR0 q1 q2;exact qQ.elim fun x=>x):P:=h ⟨q⟩
theorem je4{P:Prop}(h:P:=by
 go_enter Tryz.func226,Tryz.ntmps226;go_wp2;rw [<- HW.out];exact bodyPost_ret (v:=.tuple #[.agg #[.string ⟨#[]⟩,.slice none 0 0,.slice none 0 0],.int .i64 0,.int .i64 5]) (by simp [results,Tryz.results226,go_sem,R0.out,R1.out,R2.out]) rfl ⟨_,_,_,_,_,_,_,_,_,rfl,HB.out,.inr ⟨by decide,HIT.out⟩⟩):P:=h
theorem je5{P Q:Prop}(q:Q)(h:Nonempty Q->P:=by
 intro qQ;have HIT:Hid (q22 (aN s i0)=none):=by
  show _=_;unfold q22;rw [if_neg];intro h;rcases Nat.lt_or_ge i0 s.size with h1 | h1
  ·rw [lN s i0 h1] at h;have h2:s[i0]=123:=Option.some.inj h;exact uR ⟨h1,by rw [<- jk s i0 h1,h2];rfl⟩
  ·rw [q1z s i0 h1] at h;cases h
 have hc:(s.size<=i0)\/(i0<s.size/\bt s i0≠123):=by omega
 revert HIT hc;exact qQ.elim fun x=>x):P:=h ⟨q⟩
theorem je6{P:Prop}(h:P:=by
 go_wp2;exact bodyPost_ret (v:=.tuple #[.agg #[.string ⟨#[]⟩,.slice none 0 0,.slice none 0 0],.int .i64 0,.int .i64 5]) (by simp [results,Tryz.results226,go_sem,r0,r1,r2]) rfl ⟨_,_,_,_,_,_,_,_,_,rfl,FB.out _ _ _,.inr ⟨by decide,Yr.out.symm.trans HV.out⟩⟩):P:=h
theorem Pf (s:ByteArray) (i0:Nat) (w:jG9) (hs:s.size<=100000) (hi0:i0<=s.size) : Calls Tryz.prog 226 #[.string s,.int .i64 i0] w (KS s i0 w):=by
 have hmf:∀ (fn:Fn) (first cap:Array Value) (w:jG9),(Instr.makeFunc fn first cap).run Tryz.prog w=.ok (.func fn first cap) w:=fun _ _ _ _=>rfl
 by_cases uR:i0<s.size/\bt s i0=123;case neg=>
  refine je5 ?_;intro HIT hc;have HB:Hid (Below w.heap.size w ((w.alloc (.cells #[.string s] 9)).alloc (.cells #[.string ⟨#[]⟩,.slice none 0 0,.slice none 0 0] 45))):=((Below.refl _ _).alloc (Nat.le_refl _) _).alloc (by simp) _;obtain ⟨w1,hw1⟩:∃ w1,w1=(w.alloc (.cells #[.string s] 9)).alloc (.cells #[.string ⟨#[]⟩,.slice none 0 0,.slice none 0 0] 45):=⟨_,rfl⟩;rw [<- hw1] at HB;have hab:AB (w.heap.size+1) [.string ⟨#[]⟩,.slice none 0 0,.slice none 0 0] w1:=by
   rw [hw1];have:=AB.made (w.alloc (.cells #[.string s] 9)) [.string ⟨#[]⟩,.slice none 0 0,.slice none 0 0]
   rwa [jE5] at this
  have r0:=hab.cell 0 _ rfl;have r1:=hab.cell 1 _ rfl;have r2:=hab.cell 2 _ rfl;have HW:=hid hw1;have R0:=hid r0;have R1:=hid r1;have R2:=hid r2;clear uR hw1 r0 r1 r2 hab;rcases hc with hc | ⟨hc,hb⟩
  ·have q1:decide ((s.size:Int)<=(i0:Int))=true:=by simp;omega
   exact je4
  ·refine H9 ?_;intro q1;have q2:((s[i0].toNat:Int) != 123)=true:=by rw [jk s i0 hc,bne_iff_ne];omega
   exact je4
 case pos=>
  obtain ⟨BD,hb0⟩:=uR;refine je3 ?_;intro lQ uR R hR Yr HR0 q1 q2;obtain ⟨w4,hw4⟩:∃ w4,w4=(((w.alloc (.cells #[.string s] 9)).alloc (.cells #[.string ⟨#[]⟩,.slice none 0 0,.slice none 0 0] 45)).alloc (.cells #[.string ⟨#[]⟩,.slice none 0 0,.slice none 0 0] 45)).alloc (.cells #[.int .i64 ((i0:Int)+1)] 3):=⟨_,rfl⟩;have M0:vX s w ⟨⟨#[]⟩,[],[]⟩ (i0+1) (.slice none 0 0) (.slice none 0 0) w4:=by
   rw [hw4];refine ⟨?_,?_,⟨?_,sw _ _ _ _,sw _ _ _ _,by omega,?_⟩,?_,?_⟩
   ·exact (((aH.new w _ _).alloc _).alloc _).alloc _
   ·have:=AB.made (w.alloc (.cells #[.string s] 9)) [.string ⟨#[]⟩,.slice none 0 0,.slice none 0 0];rw [jE5] at this;exact (this.alloc _).alloc _
   ·have:=AB.made ((w.alloc (.cells #[.string s] 9)).alloc (.cells #[.string ⟨#[]⟩,.slice none 0 0,.slice none 0 0] 45)) [.string ⟨#[]⟩,.slice none 0 0,.slice none 0 0];rw [jE5,jE5] at this;exact this.alloc _
   ·simp only [jE5];omega
   ·have:=aH.new (((w.alloc (.cells #[.string s] 9)).alloc (.cells #[.string ⟨#[]⟩,.slice none 0 0,.slice none 0 0] 45)).alloc (.cells #[.string ⟨#[]⟩,.slice none 0 0,.slice none 0 0] 45)) (.int .i64 ((i0:Int)+1)) 3;simp only [jE5] at this;exact this
   ·exact (((Below.refl _ _).alloc (Nat.le_refl _) _).alloc (by simp) _ |>.alloc (by simp only [jE5];omega) _).alloc (by simp only [jE5];omega) _
  have SP:=hid (zU s (i0+1) (w.heap.size+3) w.heap.size w4 hs (by omega) M0.pos M0.str (by omega));have M0:=hid M0;clear lQ uR hR hb0;go_enter Tryz.func226,Tryz.ntmps226;go_wp2_with fail
  rw [<- hw4];clear hw4;have e0:decide ((i0:Int)<0)=false:=by simp
  have e1:decide (s.size<=i0)=false:=by simp;omega
  simp only [e0,e1,Bool.or_false,show w.heap.size+1+1=w.heap.size+2 from rfl,show w.heap.size+2+1=w.heap.size+3 from rfl];clear e0 e1 q1 q2;refine SP.out.mono ?_;rintro e w5 ⟨q,h1,h2,h3,rfl,h5,h6⟩;have M5:=M0.out.k1 h6 h5;have RL:Hid (je2 s R w (.bool true) w5):=by refine ⟨s.size-i0,_,true,q,_,_,h2,rfl,by omega,?_,by simp,by simp,M5⟩;rw [h3];exact HR0.out
  clear M5 h1 h2 h3 h5 h6 SP M0 HR0;go_wp2
  go_loopw [11] (fun v wr=>je2 s R w v wr) (fun _ wr=>s.size-Dw wr (w.heap.size+3))
  case atStart=>exact RL.out
  case round=>
   clear RL;obtain ⟨f,a,sep,i,vc,vp,hi,rfl,hf,hpg,hcl,hpl,hM⟩:=hrel;have ps:=hM.str.cell;have pc:=hM.pos.cell;have r0:=hM.res.cell 0 _ rfl;have r1:=hM.res.cell 1 _ rfl;have r2:=hM.res.cell 2 _ rfl;have g0:=hM.res.free 0;have g1:=hM.res.free 1;have g2:=hM.res.free 2;have FB:Hid (∀ u0 u1 u2,Below w.heap.size w (((wr.setCell ⟨w.heap.size+1,0,none⟩ u0).setCell ⟨w.heap.size+1,1,none⟩ u1).setCell ⟨w.heap.size+1,2,none⟩ u2)):=fun u0 u1 u2=>((hM.aM.setCell (p:=⟨w.heap.size+1,0,none⟩) (by simp) _).setCell (p:=⟨w.heap.size+1,1,none⟩) (by simp) _).setCell (p:=⟨w.heap.size+1,2,none⟩) (by simp) _
   have HM:=hid hM;have HP:=hid hM.pos;have Ji:=hid hpg;clear hM hpg;by_cases hlt:i<s.size
   ·have hcn:=q0z s i hlt;have e1:decide ((s.size:Int)<=(i:Int))=false:=by simp;omega
    by_cases mq:s[i]=125
    ·have e2:((s[i].toNat:Int)==125)=true:=by rw [mq];rfl
     have HV:Hid (R=some (a,aN s (i+1))):=by show R=_;rw [<- Ji.out,hcn,mq,tC _ _ _ _ (by omega)]
     obtain ⟨xa,xc,rfl⟩:=kW HM.out.at_.cls
     obtain ⟨ya,yc,rfl⟩:=kW HM.out.at_.aD
     obtain ⟨a0,a1,a2⟩:=HM.out.at_.at3
     clear hcn mq Ji;go_upto_region 12 with (fail)
     go_region
     all_goals
      go_wp2;exact bodyPost_ret (v:=.tuple #[.agg #[.string a.id,.slice xa a.cls.length xc,.slice ya a.aD.length yc],.int .i64 ((i:Int)+1),.int .i64 0]) (by simp [results,Tryz.results226,go_sem,r0,r1,r2]) rfl ⟨_,_,_,_,_,_,_,_,_,rfl,⟨(FB.out (.string a.id) (.slice xa a.cls.length xc) (.slice ya a.aD.length yc)).os,(FB.out (.string a.id) (.slice xa a.cls.length xc) (.slice ya a.aD.length yc)).tape,(FB.out (.string a.id) (.slice xa a.cls.length xc) (.slice ya a.aD.length yc)).output,(FB.out (.string a.id) (.slice xa a.cls.length xc) (.slice ya a.aD.length yc)).size,(FB.out (.string a.id) (.slice xa a.cls.length xc) (.slice ya a.aD.length yc)).block⟩,.inl ⟨rfl,a,i+1,by omega,by simp,Yr.out.symm.trans HV.out⟩⟩
    ·have e2:((s[i].toNat:Int)==125)=false:=by
      rw [beq_eq_false_iff_ne];intro e;exact mq (by rw [<- UInt8.toNat_inj];show _=125;omega)
     cases sep with
     | false=>
      have HV:Hid (R=none):=by show R=_;rw [<- Ji.out,hcn,tF _ _ _ _ (by omega) mq]
      clear hcn mq Ji;exact je6
     | true=>
      have IT:=hid (BG (w.heap.size+4) (w.heap.size+2) (w.heap.size+3) w.heap.size a s i vc vp wr HM.out.at_ hcl hpl hs hlt HM.out.pos HM.out.str (by omega) (by omega));clear FB;go_wp2_with fail
      refine IT.out.mono ?_;rintro e w1 ⟨n,rfl,hk,hres⟩;have str1:aH w.heap.size (.string s) 9 w1:=(hk.block _ (by omega) (by omega) (by omega)).trans HM.out.str;have res1:AB (w.heap.size+1) [.string ⟨#[]⟩,.slice none 0 0,.slice none 0 0] w1:=(hk.block _ (by omega) (by omega) (by omega)).trans HM.out.res;have wh:Below w.heap.size w w1:=⟨hk.os.trans HM.out.aM.os,hk.tape.trans HM.out.aM.tape,hk.output.trans HM.out.aM.output,Nat.le_trans HM.out.aM.size hk.size,fun k hk2=>(hk.block k (by omega) (by omega) (by omega)).trans (HM.out.aM.block k hk2)⟩;clear ps pc r0 r1 r2 g0 g1 g2;have r0:=res1.cell 0 _ rfl;have r1:=res1.cell 1 _ rfl;have r2:=res1.cell 2 _ rfl;have g0:=res1.free 0;have g1:=res1.free 1;have g2:=res1.free 2;have FB:Hid (∀ u0 u1 u2,Below w.heap.size w (((w1.setCell ⟨w.heap.size+1,0,none⟩ u0).setCell ⟨w.heap.size+1,1,none⟩ u1).setCell ⟨w.heap.size+1,2,none⟩ u2)):=fun u0 u1 u2=>((wh.setCell (p:=⟨w.heap.size+1,0,none⟩) (by simp) _).setCell (p:=⟨w.heap.size+1,1,none⟩) (by simp) _).setCell (p:=⟨w.heap.size+1,2,none⟩) (by simp) _
      have HK:=hid hk;have jC9:=hid str1;clear hk res1 wh str1;by_cases hn:n=0
      ·subst hn;obtain ⟨a',q,hq,HI,hc2,hp2,HB2,Qe,Qf,HA2⟩:∃ (a':At) (q:Nat),q<=s.size/\Hid (kE a (aN s i)=some (a',aN s q))/\a'.cls.length<=32/\a'.aD.length<=32/\Hid (aH (w.heap.size+3) (.int .i64 q) 3 w1)/\∃ vc vp,Hid (rC (w.heap.size+4) (w.heap.size+2) a' vc vp w1):=by
        rcases hres with ⟨_,h⟩ | ⟨h,_⟩
        ·exact h
        ·exact absurd rfl h
       have M1:=hid (HM.out.ky HK.out HB2.out HA2.out);have SP:=hid (zU s q (w.heap.size+3) w.heap.size w1 hs hq M1.out.pos M1.out.str (by omega));have hiq:=Dx a a' s i q hlt hq HI.out;have jo7:Hid (vY (f-1) a' (decide ((aN s q).head?=some 32)) (cu (aN s q))=R):=by show _=_;rw [<- Ji.out,hcn];refine (vZ f a a' _ _ _ (by omega) mq ?_).symm;rw [<- hcn];exact HI.out
       clear hcn mq Ji HI HM hres r0 r1 r2 g0 g1 g2 FB;go_wp2_with fail
       refine SP.out.mono ?_;rintro e w2 ⟨q2,h1,h2,h3,rfl,h5,h6⟩;have M2:=hid (M1.out.k1 h6 h5);have H3:=hid h3;clear h3 h5 h6;go_wp2;go_roundw;case rel=>exact ⟨f-1,a',_,q2,_,_,h2,rfl,by omega,by rw [H3.out];exact jo7.out,hc2,hp2,M2.out⟩
       case measure=>
        rw [pQ M2.out.pos,pQ HP.out];omega
      ·have e3:(n != 0)=true:=by rw [bne_iff_ne];exact hn
       have HV:Hid (R=none):=by
        show R=_;rcases hres with ⟨h,_⟩ | ⟨_,h⟩
        ·exact absurd h hn
        ·rw [<- Ji.out,hcn];exact zW f a _ _ (by omega) mq (by rw [<- hcn];exact h)
       clear hcn mq Ji hres;go_wp2;exact bodyPost_ret (v:=.tuple #[.agg #[.string ⟨#[]⟩,.slice none 0 0,.slice none 0 0],.int .i64 0,.int .i64 n]) (by simp [results,Tryz.results226,go_sem,r0,r1,r2]) rfl ⟨_,_,_,_,_,_,_,_,_,rfl,FB.out _ _ _,.inr ⟨hn,Yr.out.symm.trans HV.out⟩⟩
   ·have e1:decide ((s.size:Int)<=(i:Int))=true:=by simp;omega
    have HV:Hid (R=none):=by show R=_;rw [<- Ji.out,q1z s i (by omega),zV _ _ _ (by omega)]
    clear Ji;exact je6
end Go.Proofs.YtkfnkeflalcphaaGreatDoor

