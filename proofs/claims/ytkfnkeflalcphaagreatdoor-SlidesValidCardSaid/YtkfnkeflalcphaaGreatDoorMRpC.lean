/- Contracts of attr.Parse$1 (spaces) and attr.Parse$2 (an item). The contract of attr.Parse. Contracts of publisherref03.word from any index, value, hasKey at a row of one's own. Contracts of publisherref03.class, item: attributes that are handed by value, their rows of one's own. The contract of publisherref03.Parse. -/
import Derived.Test.YtkfnkeflalcphaaGreatDoorMPaE
import Derived.Test.YtkfnkeflalcphaaGreatDoorMInlines
set_option maxHeartbeats 4000000
set_option maxRecDepth 100000
open Go.Lib (hid)
namespace Go.Proofs.YtkfnkeflalcphaaGreatDoor
open Tryz
open Go.RowKit.Below renaming refl->jK7
open Nat renaming le_refl->jK8,le_trans->jK9
open Option.some renaming inj->jL0
open Go.World renaming size_alloc->jL5,setCell->jM1
open Go renaming World->jN9,Value->jNk
open Go.RowKit renaming Below->jNj
open Go.RowKit
set_option linter.unusedVariables false
set_option linter.unusedSimpArgs false
structure K1 (c:Nat) (w w':jN9):Prop where
 os:w'.os=w.os
 tape:w'.tape=w.tape
 output:w'.output=w.output
 size:w'.heap.size=w.heap.size
 block:∀ k,k≠c->w'.heap[k]?=w.heap[k]?
theorem K1.refl (c:Nat) (w:jN9):K1 c w w:=⟨rfl,rfl,rfl,rfl,fun _ _=>rfl⟩
theorem K1.set {c:Nat} {w w1:jN9} (h:K1 c w w1) (j:Nat) (u:jNk):K1 c w (w1.setCell ⟨c,j,none⟩ u):=
 ⟨h.os,h.tape,h.output,by simpa [jM1] using h.size,fun k hk=>(Below.heap_setCell w1 ⟨c,j,none⟩ u k hk).trans (h.block k hk)⟩
def ju9 (s:ByteArray) (i c:Nat) (w:jN9) (e:Ending) (w':jN9):Prop:=
 ∃ q:Nat,i<=q/\q<=s.size/\aP s q=cu (aP s i)/\e=.returned (.bool (decide ((aP s i).head?=some 32)))/\aH c (.int .i64 q) 3 w'/\K1 c w w'
def jm1 (s:ByteArray) (i c:Nat) (w wr:jN9):Prop:=
 ∃ q:Nat,i<=q/\q<=s.size/\cu (aP s q)=cu (aP s i)/\(q=i\/(aP s i).head?=some 32)/\aH c (.int .i64 q) 3 wr/\K1 c w wr
def FH (w:jN9) (c:Nat):Nat:=match w.cell? ⟨c,0,none⟩ with
 | some v=>(intOf v).toNat
 | none=>0
theorem ql {w:jN9} {c q:Nat} {t:TypeId} (h:aH c (.int .i64 q) t w):FH w c=q:=by unfold FH;rw [h.cell];simp [intOf]
theorem Cq (s:ByteArray) (i c sb:Nat) (w:jN9) (hs:s.size<=100000) (hi:i<=s.size) (hc:aH c (.int .i64 i) 3 w) (hb:aH sb (.string s) 9 w) (hne:sb≠c) : Calls prog 255 #[.pointer (some ⟨c,0,none⟩),.pointer (some ⟨sb,0,none⟩)] w (ju9 s i c w):=by
 have p0:=hc.cell;have R0:Hid (jm1 s i c w w):=⟨i,jK8 _,hi,rfl,.inl rfl,hc,K1.refl _ _⟩;have HB:=hid hb;clear hc hb;go_enter func255,ntmps255;go_wp2;clear p0
 go_loopw [] (fun wr=>jm1 s i c w wr) (fun wr=>s.size-FH wr c)
 case atStart=>exact R0.out
 case round=>
  clear R0;obtain ⟨q,hq1,hq2,hsk,hhd,hbx,hk⟩:=hrel;have c0:=hbx.cell;have f0:=hbx.free;have s0:wr.cell? ⟨sb,0,none⟩=some (.string s):=by have:aH sb (.string s) 9 wr:=(hk.block sb hne).trans HB.out;exact this.cell
  have lK:=hid hbx;have HK:=hid hk;have Sq:=hid hsk;have HHD:=hid hhd;clear hbx hk hsk hhd;by_cases hlt:q<s.size
  ·have hcn:=Dc s q hlt;by_cases h32:s[q]=32
   ·have q1:((s[q].toNat:Int)==32)=true:=by rw [h32];rfl
    have juj:Hid (cu (aP s (q+1))=cu (aP s i)):=by show _=_;rw [<- Sq.out,hcn];unfold cu;rw [List.dropWhile_cons_of_pos (by rw [h32];rfl)]
    have juk:Hid ((aP s i).head?=some 32):=by
     rcases HHD.out with h | h
     ·show _=_;rw [<- h,hcn,h32];rfl
     ·exact h
    have jB6:=hid (lK.out.set (.int .i64 ((q+1:Nat):Int)));clear hcn h32;go_wp2;go_roundw;case rel=>exact ⟨q+1,by omega,by omega,juj.out,.inr juk.out,jB6.out,HK.out.set 0 _⟩
    case measure=>
     have e1:=ql lK.out;have e2:=ql jB6.out;show s.size-FH (wr.setCell ⟨c,0,none⟩ (.int .i64 ((q+1:Nat):Int))) c<s.size-FH wr c;rw [e1,e2];omega
   ·have q1:((s[q].toNat:Int)==32)=false:=by
     rw [beq_eq_false_iff_ne];intro e;exact h32 (by rw [<- UInt8.toNat_inj];show _=32;omega)
    have HF:Hid (aP s q=cu (aP s i)):=by show _=_;rw [<- Sq.out,hcn];unfold cu;rw [List.dropWhile_cons_of_neg (by unfold eZ;simp [h32])]
    have HV:Hid (decide (i<q)=decide ((aP s i).head?=some 32)):=by
     show _=_;rcases HHD.out with h | h
     ·subst h;rw [hcn,List.head?_cons];simp [h32]
     ·rw [h];have:i≠q:=by
       rintro rfl;rw [hcn,List.head?_cons] at h;exact h32 (jL0 h)
      simp;omega
    clear hcn h32;go_wp2;go_ret;exact ⟨q,hq1,hq2,HF.out,by rw [<- HV.out];rfl,lK.out,HK.out⟩
  ·have HF:Hid (aP s q=cu (aP s i)):=by
    show _=_;rw [<- Sq.out,JZ s q (by omega)];rfl
   have HV:Hid (decide (i<q)=decide ((aP s i).head?=some 32)):=by
    show _=_;rcases HHD.out with h | h
    ·subst h;rw [JZ s q (by omega)];simp
    ·rw [h];have:i≠q:=by
      rintro rfl;rw [JZ s i (by omega)] at h;simp at h
     simp;omega
   go_wp2;go_ret;exact ⟨q,hq1,hq2,HF.out,by rw [<- HV.out];rfl,lK.out,HK.out⟩
structure Ky (B b c:Nat) (w w':jN9):Prop where
 os:w'.os=w.os
 tape:w'.tape=w.tape
 output:w'.output=w.output
 size:w.heap.size<=w'.heap.size
 block:∀ k,k<B->k≠b->k≠c->w'.heap[k]?=w.heap[k]?
section
variable {B b c:Nat} {w w1 w2:jN9}
theorem Ky.trans (h:Ky B b c w w1) (k:Ky B b c w1 w2):Ky B b c w w2:=
 ⟨k.os.trans h.os,k.tape.trans h.tape,k.output.trans h.output,jK9 h.size k.size,fun i h1 h2 h3=>(k.block i h1 h2 h3).trans (h.block i h1 h2 h3)⟩
theorem Ky.ofx (h:Kx B b w w1):Ky B b c w w1:=⟨h.os,h.tape,h.output,h.size,fun k h1 h2 _=>h.block k h1 h2⟩
theorem Ky.of1 (h:K1 c w w1):Ky B b c w w1:=⟨h.os,h.tape,h.output,Nat.le_of_eq h.size.symm,fun k _ _ h2=>h.block k h2⟩
end
theorem rX.k1 {B b c:Nat} {a:At} {vc vp:jNk} {w w1:jN9} (h:rX B b a vc vp w) (hk:K1 c w w1) (hcb:c≠b) (hcB:c<B):rX B b a vc vp w1:=by
 refine ⟨(hk.block b (Ne.symm hcb)).trans h.ab,?_,?_,h.lt,by rw [hk.size];exact h.le⟩
 ·have hg:w.grownBy w1 (some c):=⟨hk.os,hk.tape,hk.output,Nat.le_of_eq hk.size.symm,fun k _ hne=>hk.block k (fun e=>hne (by rw [e]))⟩;refine h.cls.kept hg ?_;cases hv:vc.ownBlock with
  | none=>exact .inl rfl
  | some g=>right;intro e;have:=(h.cls.lt g hv).1;have:=jL0 e;omega
 ·have hg:w.grownBy w1 (some c):=⟨hk.os,hk.tape,hk.output,Nat.le_of_eq hk.size.symm,fun k _ hne=>hk.block k (fun e=>hne (by rw [e]))⟩;refine h.aD.kept hg ?_;cases hv:vp.ownBlock with
  | none=>exact .inl rfl
  | some g=>right;intro e;have:=(h.aD.lt g hv).1;have:=jL0 e;omega
def juq (B b c:Nat) (a:At) (s:ByteArray) (i:Nat) (w:jN9) (e:Ending) (w':jN9):Prop:=
 ∃ n:Int,e=.returned (.int .i64 n)/\Ky B b c w w' /\
  ((n=0/\∃ (a':At) (q:Nat),q<=s.size/\kW a (aP s i)=some (a',aP s q)/\a'.cls.length<=32/\a'.aD.length<=32/\aH c (.int .i64 q) 3 w'/\∃ vc vp,rX B b a' vc vp w')\/(n≠0/\kW a (aP s i)=none))
theorem D7 (B b c sb:Nat) (a:At) (s:ByteArray) (i:Nat) (vc vp:jNk) (w:jN9) (h:rX B b a vc vp w) (hl:a.cls.length<=32) (hp:a.aD.length<=32) (hs:s.size<=100000) (hi:i<s.size) (hbx:aH c (.int .i64 i) 3 w) (hbs:aH sb (.string s) 9 w) (hcB:c<B) (hcb:c≠b) : Calls prog 256 #[.pointer (some ⟨b,0,none⟩),.pointer (some ⟨sb,0,none⟩),.pointer (some ⟨c,0,none⟩)] w (juq B b c a s i w):=by
 have RI:=hid (G7 B b a s i vc vp w h hl hp hs hi);have c0:=hbx.cell;have s0:=hbs.cell;have lK:=hid hbx;clear h hbx hbs;go_enter func256,ntmps256;go_wp2_with fail
 refine RI.out.mono ?_;rintro e w1 ⟨t,n,rfl,hk,hres⟩;have hb1:aH c (.int .i64 i) 3 w1:=(hk.block c hcB hcb).trans lK.out;have f1:=hb1.free;have c1:=hb1.cell;have HB1:=hid hb1;have HK:=hid hk;have ji:=hid hres;clear c0 s0 hk hres hb1;go_wp2;go_ret;have hk1:K1 c w1 (w1.setCell ⟨c,0,none⟩ (.int .i64 t)):=(K1.refl c w1).set 0 _;refine ⟨n,rfl,(Ky.ofx HK.out).trans (Ky.of1 hk1),?_⟩;rcases ji.out with ⟨h1,a',q,h2,rfl,h4,h5,h6,J8,J9,h7⟩ | h1
 ·exact .inl ⟨h1,a',q,h2,h4,h5,h6,HB1.out.set _,J8,J9,h7.k1 hk1 hcb hcB⟩
 ·exact .inr h1
open Go.RowKit
def N9 (s:ByteArray) (i0:Nat) (w:jN9) (e:Ending) (w':jN9):Prop:=
 ∃ (x:ByteArray) (a1:Option Addr) (n1 c1:Nat) (a2:Option Addr) (n2 c2:Nat) (t n:Int),e=.returned (.tuple #[.agg #[.string x,.slice a1 n1 c1,.slice a2 n2 c2],.int .i64 t,.int .i64 n])/\jNj w.heap.size w w' /\
  ((n=0/\∃ (a':At) (q:Nat),q<=s.size/\t=q/\q22 (aP s i0)=some (a',aP s q))\/(n≠0/\q22 (aP s i0)=none))
structure xZ (s:ByteArray) (w:jN9) (a:At) (i:Nat) (vc vp:jNk) (wr:jN9):Prop where
 str:aH w.heap.size (.string s) 9 wr
 res:AB (w.heap.size+1) [.string ⟨#[]⟩,.slice none 0 0,.slice none 0 0] wr
 at_:rX (w.heap.size+4) (w.heap.size+2) a vc vp wr
 pos:aH (w.heap.size+3) (.int .i64 i) 3 wr
 aY:jNj w.heap.size w wr
def jm2 (s:ByteArray) (R:Option (At × List UInt8)) (w:jN9) (v:jNk) (wr:jN9):Prop:=
 ∃ (f:Nat) (a:At) (sep:Bool) (i:Nat) (vc vp:jNk),i<=s.size/\v=.bool sep/\s.size-i+1<=f/\xV f a sep (aP s i)=R/\a.cls.length<=32/\a.aD.length<=32/\xZ s w a i vc vp wr
section
variable {s:ByteArray} {w wr w1:jN9} {a a':At} {i q:Nat} {vc vp J8 J9:jNk}
theorem xZ.k1 (h:xZ s w a i vc vp wr) (hk:K1 (w.heap.size+3) wr w1) (hb:aH (w.heap.size+3) (.int .i64 q) 3 w1):xZ s w a q vc vp w1:=
 ⟨(hk.block _ (by omega)).trans h.str,(hk.block _ (by omega)).trans h.res,h.at_.k1 hk (by omega) (by omega),hb,
  ⟨hk.os.trans h.aY.os,hk.tape.trans h.aY.tape,hk.output.trans h.aY.output,by rw [hk.size];exact h.aY.size,fun k hk2=>(hk.block k (by omega)).trans (h.aY.block k hk2)⟩⟩
theorem xZ.ky (h:xZ s w a i vc vp wr) (hk:Ky (w.heap.size+4) (w.heap.size+2) (w.heap.size+3) wr w1) (hb:aH (w.heap.size+3) (.int .i64 q) 3 w1) (ha:rX (w.heap.size+4) (w.heap.size+2) a' J8 J9 w1):xZ s w a' q J8 J9 w1:=
 ⟨(hk.block _ (by omega) (by omega) (by omega)).trans h.str,(hk.block _ (by omega) (by omega) (by omega)).trans h.res,ha,hb,
  ⟨hk.os.trans h.aY.os,hk.tape.trans h.aY.tape,hk.output.trans h.aY.output,jK9 h.aY.size hk.size,fun k hk2=>(hk.block k (by omega) (by omega) (by omega)).trans (h.aY.block k hk2)⟩⟩
end
theorem Cr (f:Nat) (a:At) (sep:Bool) (h:1<=f):xV f a sep []=none:=by obtain ⟨g,rfl⟩:∃ g,f=g+1:=⟨f-1,by omega⟩;rw [xV,if_neg (by simp),if_pos (.inl rfl)]
theorem uT (f:Nat) (a:At) (sep:Bool) (r:List UInt8) (h:1<=f):xV f a sep (125::r)=some (a,r):=by obtain ⟨g,rfl⟩:∃ g,f=g+1:=⟨f-1,by omega⟩;rw [xV,List.head?_cons,if_pos rfl];rfl
theorem uU (f:Nat) (a:At) (c:UInt8) (r:List UInt8) (h:1<=f) (hc:c≠125):xV f a false (c::r)=none:=by obtain ⟨g,rfl⟩:∃ g,f=g+1:=⟨f-1,by omega⟩;rw [xV,List.head?_cons,if_neg (fun e=>hc (jL0 e)),if_pos (.inr rfl)]
theorem Ct (f:Nat) (a:At) (c:UInt8) (r:List UInt8) (h:1<=f) (hc:c≠125) (hi:kW a (c::r)=none):xV f a true (c::r)=none:=by obtain ⟨g,rfl⟩:∃ g,f=g+1:=⟨f-1,by omega⟩;rw [xV,List.head?_cons,if_neg (fun e=>hc (jL0 e)),if_neg (by simp),hi]
theorem yg (f:Nat) (a a':At) (c:UInt8) (r l':List UInt8) (h:1<=f) (hc:c≠125) (hi:kW a (c::r)=some (a',l')):xV f a true (c::r)=xV (f-1) a' (decide (l'.head?=some 32)) (cu l'):=by obtain ⟨g,rfl⟩:∃ g,f=g+1:=⟨f-1,by omega⟩;rw [xV,List.head?_cons,if_neg (fun e=>hc (jL0 e)),if_neg (by simp),hi];rfl
theorem AB.made (w:jN9) (cs:List jNk):AB w.heap.size cs (w.alloc (.cells cs.toArray 45)):=heap_alloc_new w _
theorem AB.alloc {p:Nat} {cs:List jNk} {w:jN9} (h:AB p cs w) (o:Obj):AB p cs (w.alloc o):=(Below.heap_alloc w o p h.lt).trans h
theorem wR (l:List UInt8):(cu l).length<=l.length:=(List.dropWhile_sublist _).length_le
theorem FI (a a':At) (s:ByteArray) (i q:Nat) (hi:i<s.size) (hq:q<=s.size) (h:kW a (aP s i)=some (a',aP s q)):i<q:=by obtain ⟨p,h1,h2,_⟩:=Fe a a' _ _ h;have e:=congrArg List.length h1;rw [List.length_append,iY,iY] at e;have:=List.length_pos_iff.2 h2;omega
theorem jm3{P Q:Prop}(q:Q)(h:Nonempty Q->P:=by
 intro qQ;have l9:=Dc s i0 DX;have wS:s[i0]=123:=by rw [<- UInt8.toNat_inj,jE s i0 DX];exact hb0
 obtain ⟨R,hR⟩:∃ R,R=q22 (aP s i0):=⟨_,rfl⟩;have Qn:=hid hR;have HR0:Hid (xV (s.size-i0) ⟨bX [],[],[]⟩ true (cu (aP s (i0+1)))=R):=by show _=_;rw [hR];unfold q22;rw [<- iY,l9,wS];rfl
 have q1:decide ((s.size:Int)<=(i0:Int))=false:=by simp;omega
 have q2:((s[i0].toNat:Int) != 123)=false:=by rw [jE s i0 DX,hb0];rfl
 revert l9 wS R hR Qn HR0 q1 q2;exact qQ.elim fun x=>x):P:=h ⟨q⟩
theorem jm4{P:Prop}(h:P:=by
 go_enter func226,ntmps226;go_wp2;rw [<- HW.out];exact bodyPost_ret (v:=.tuple #[.agg #[.string ⟨#[]⟩,.slice none 0 0,.slice none 0 0],.int .i64 0,.int .i64 5]) (by simp [results,results226,go_sem,R0.out,R1.out,R2.out]) rfl ⟨_,_,_,_,_,_,_,_,_,rfl,HB.out,.inr ⟨by decide,HIT.out⟩⟩):P:=h
theorem jm5{P Q:Prop}(q:Q)(h:Nonempty Q->P:=by
 intro qQ;have HIT:Hid (q22 (aP s i0)=none):=by
  show _=_;unfold q22;rw [if_neg];intro h;rcases Nat.lt_or_ge i0 s.size with h1 | h1
  ·rw [l8 s i0 h1] at h;have h2:s[i0]=123:=Option.some.inj h;exact wS ⟨h1,by rw [<- jE s i0 h1,h2];rfl⟩
  ·rw [JZ s i0 h1] at h;cases h
 have hc:(s.size<=i0)\/(i0<s.size/\bt s i0≠123):=by omega
 revert HIT hc;exact qQ.elim fun x=>x):P:=h ⟨q⟩
theorem jm6{P:Prop}(h:P:=by
 go_wp2;exact bodyPost_ret (v:=.tuple #[.agg #[.string ⟨#[]⟩,.slice none 0 0,.slice none 0 0],.int .i64 0,.int .i64 5]) (by simp [results,results226,go_sem,r0,r1,r2]) rfl ⟨_,_,_,_,_,_,_,_,_,rfl,FB.out _ _ _,.inr ⟨by decide,Qn.out.symm.trans HV.out⟩⟩):P:=h
theorem Sr (s:ByteArray) (i0:Nat) (w:jN9) (hs:s.size<=100000) (hi0:i0<=s.size) : Calls prog 226 #[.string s,.int .i64 i0] w (N9 s i0 w):=by
 have hmf:∀ (fn:Fn) (first cap:Array jNk) (w:jN9),(Instr.makeFunc fn first cap).run prog w=.ok (.func fn first cap) w:=fun _ _ _ _=>rfl
 by_cases wS:i0<s.size/\bt s i0=123;case neg=>
  refine jm5 ?_;intro HIT hc;have HB:Hid (jNj w.heap.size w ((w.alloc (.cells #[.string s] 9)).alloc (.cells #[.string ⟨#[]⟩,.slice none 0 0,.slice none 0 0] 45))):=((jK7 _ _).alloc (jK8 _) _).alloc (by simp) _;obtain ⟨w1,hw1⟩:∃ w1,w1=(w.alloc (.cells #[.string s] 9)).alloc (.cells #[.string ⟨#[]⟩,.slice none 0 0,.slice none 0 0] 45):=⟨_,rfl⟩;rw [<- hw1] at HB;have hab:AB (w.heap.size+1) [.string ⟨#[]⟩,.slice none 0 0,.slice none 0 0] w1:=by
   rw [hw1];have:=AB.made (w.alloc (.cells #[.string s] 9)) [.string ⟨#[]⟩,.slice none 0 0,.slice none 0 0]
   rwa [jL5] at this
  have r0:=hab.cell 0 _ rfl;have r1:=hab.cell 1 _ rfl;have r2:=hab.cell 2 _ rfl;have HW:=hid hw1;have R0:=hid r0;have R1:=hid r1;have R2:=hid r2;clear wS hw1 r0 r1 r2 hab;rcases hc with hc | ⟨hc,hb⟩
  ·have q1:decide ((s.size:Int)<=(i0:Int))=true:=by simp;omega
   exact jm4
  ·refine J4 ?_;intro q1;have q2:((s[i0].toNat:Int) != 123)=true:=by rw [jE s i0 hc,bne_iff_ne];omega
   exact jm4
 case pos=>
  obtain ⟨DX,hb0⟩:=wS;refine jm3 ?_;intro l9 wS R hR Qn HR0 q1 q2;obtain ⟨w4,hw4⟩:∃ w4,w4=(((w.alloc (.cells #[.string s] 9)).alloc (.cells #[.string ⟨#[]⟩,.slice none 0 0,.slice none 0 0] 45)).alloc (.cells #[.string ⟨#[]⟩,.slice none 0 0,.slice none 0 0] 45)).alloc (.cells #[.int .i64 ((i0:Int)+1)] 3):=⟨_,rfl⟩;have M0:xZ s w ⟨⟨#[]⟩,[],[]⟩ (i0+1) (.slice none 0 0) (.slice none 0 0) w4:=by
   rw [hw4];refine ⟨?_,?_,⟨?_,uS _ _ _ _,uS _ _ _ _,by omega,?_⟩,?_,?_⟩
   ·exact (((aH.new w _ _).alloc _).alloc _).alloc _
   ·have:=AB.made (w.alloc (.cells #[.string s] 9)) [.string ⟨#[]⟩,.slice none 0 0,.slice none 0 0];rw [jL5] at this;exact (this.alloc _).alloc _
   ·have:=AB.made ((w.alloc (.cells #[.string s] 9)).alloc (.cells #[.string ⟨#[]⟩,.slice none 0 0,.slice none 0 0] 45)) [.string ⟨#[]⟩,.slice none 0 0,.slice none 0 0];rw [jL5,jL5] at this;exact this.alloc _
   ·simp only [jL5];omega
   ·have:=aH.new (((w.alloc (.cells #[.string s] 9)).alloc (.cells #[.string ⟨#[]⟩,.slice none 0 0,.slice none 0 0] 45)).alloc (.cells #[.string ⟨#[]⟩,.slice none 0 0,.slice none 0 0] 45)) (.int .i64 ((i0:Int)+1)) 3;simp only [jL5] at this;exact this
   ·exact (((jK7 _ _).alloc (jK8 _) _).alloc (by simp) _ |>.alloc (by simp only [jL5];omega) _).alloc (by simp only [jL5];omega) _
  have SP:=hid (Cq s (i0+1) (w.heap.size+3) w.heap.size w4 hs (by omega) M0.pos M0.str (by omega));have M0:=hid M0;clear l9 wS hR hb0;go_enter func226,ntmps226;go_wp2_with fail
  rw [<- hw4];clear hw4;have e0:decide ((i0:Int)<0)=false:=by simp
  have e1:decide (s.size<=i0)=false:=by simp;omega
  simp only [e0,e1,Bool.or_false,show w.heap.size+1+1=w.heap.size+2 from rfl,show w.heap.size+2+1=w.heap.size+3 from rfl];clear e0 e1 q1 q2;refine SP.out.mono ?_;rintro e w5 ⟨q,h1,h2,h3,rfl,h5,h6⟩;have M5:=M0.out.k1 h6 h5;have RL:Hid (jm2 s R w (.bool true) w5):=by refine ⟨s.size-i0,_,true,q,_,_,h2,rfl,by omega,?_,by simp,by simp,M5⟩;rw [h3];exact HR0.out
  clear M5 h1 h2 h3 h5 h6 SP M0 HR0;go_wp2
  go_loopw [11] (fun v wr=>jm2 s R w v wr) (fun _ wr=>s.size-FH wr (w.heap.size+3))
  case atStart=>exact RL.out
  case round=>
   clear RL;obtain ⟨f,a,sep,i,vc,vp,hi,rfl,hf,hpg,hcl,hpl,hM⟩:=hrel;have ps:=hM.str.cell;have pc:=hM.pos.cell;have r0:=hM.res.cell 0 _ rfl;have r1:=hM.res.cell 1 _ rfl;have r2:=hM.res.cell 2 _ rfl;have g0:=hM.res.free 0;have g1:=hM.res.free 1;have g2:=hM.res.free 2;have FB:Hid (∀ u0 u1 u2,jNj w.heap.size w (((wr.setCell ⟨w.heap.size+1,0,none⟩ u0).setCell ⟨w.heap.size+1,1,none⟩ u1).setCell ⟨w.heap.size+1,2,none⟩ u2)):=fun u0 u1 u2=>((hM.aY.setCell (p:=⟨w.heap.size+1,0,none⟩) (by simp) _).setCell (p:=⟨w.heap.size+1,1,none⟩) (by simp) _).setCell (p:=⟨w.heap.size+1,2,none⟩) (by simp) _
   have HM:=hid hM;have HP:=hid hM.pos;have L8:=hid hpg;clear hM hpg;by_cases hlt:i<s.size
   ·have hcn:=Dc s i hlt;have e1:decide ((s.size:Int)<=(i:Int))=false:=by simp;omega
    by_cases mX:s[i]=125
    ·have e2:((s[i].toNat:Int)==125)=true:=by rw [mX];rfl
     have HV:Hid (R=some (a,aP s (i+1))):=by show R=_;rw [<- L8.out,hcn,mX,uT _ _ _ _ (by omega)]
     obtain ⟨xa,xc,rfl⟩:=lD HM.out.at_.cls
     obtain ⟨ya,yc,rfl⟩:=lD HM.out.at_.aD
     obtain ⟨a0,a1,a2⟩:=HM.out.at_.at3
     clear hcn mX L8;go_upto_region 12 with (fail)
     go_region
     all_goals
      go_wp2;exact bodyPost_ret (v:=.tuple #[.agg #[.string a.id,.slice xa a.cls.length xc,.slice ya a.aD.length yc],.int .i64 ((i:Int)+1),.int .i64 0]) (by simp [results,results226,go_sem,r0,r1,r2]) rfl ⟨_,_,_,_,_,_,_,_,_,rfl,⟨(FB.out (.string a.id) (.slice xa a.cls.length xc) (.slice ya a.aD.length yc)).os,(FB.out (.string a.id) (.slice xa a.cls.length xc) (.slice ya a.aD.length yc)).tape,(FB.out (.string a.id) (.slice xa a.cls.length xc) (.slice ya a.aD.length yc)).output,(FB.out (.string a.id) (.slice xa a.cls.length xc) (.slice ya a.aD.length yc)).size,(FB.out (.string a.id) (.slice xa a.cls.length xc) (.slice ya a.aD.length yc)).block⟩,.inl ⟨rfl,a,i+1,by omega,by simp,Qn.out.symm.trans HV.out⟩⟩
    ·have e2:((s[i].toNat:Int)==125)=false:=by
      rw [beq_eq_false_iff_ne];intro e;exact mX (by rw [<- UInt8.toNat_inj];show _=125;omega)
     cases sep with
     | false=>
      have HV:Hid (R=none):=by show R=_;rw [<- L8.out,hcn,uU _ _ _ _ (by omega) mX]
      clear hcn mX L8;exact jm6
     | true=>
      have IT:=hid (D7 (w.heap.size+4) (w.heap.size+2) (w.heap.size+3) w.heap.size a s i vc vp wr HM.out.at_ hcl hpl hs hlt HM.out.pos HM.out.str (by omega) (by omega));clear FB;go_wp2_with fail
      refine IT.out.mono ?_;rintro e w1 ⟨n,rfl,hk,hres⟩;have str1:aH w.heap.size (.string s) 9 w1:=(hk.block _ (by omega) (by omega) (by omega)).trans HM.out.str;have res1:AB (w.heap.size+1) [.string ⟨#[]⟩,.slice none 0 0,.slice none 0 0] w1:=(hk.block _ (by omega) (by omega) (by omega)).trans HM.out.res;have xW:jNj w.heap.size w w1:=⟨hk.os.trans HM.out.aY.os,hk.tape.trans HM.out.aY.tape,hk.output.trans HM.out.aY.output,jK9 HM.out.aY.size hk.size,fun k hk2=>(hk.block k (by omega) (by omega) (by omega)).trans (HM.out.aY.block k hk2)⟩;clear ps pc r0 r1 r2 g0 g1 g2;have r0:=res1.cell 0 _ rfl;have r1:=res1.cell 1 _ rfl;have r2:=res1.cell 2 _ rfl;have g0:=res1.free 0;have g1:=res1.free 1;have g2:=res1.free 2;have FB:Hid (∀ u0 u1 u2,jNj w.heap.size w (((w1.setCell ⟨w.heap.size+1,0,none⟩ u0).setCell ⟨w.heap.size+1,1,none⟩ u1).setCell ⟨w.heap.size+1,2,none⟩ u2)):=fun u0 u1 u2=>((xW.setCell (p:=⟨w.heap.size+1,0,none⟩) (by simp) _).setCell (p:=⟨w.heap.size+1,1,none⟩) (by simp) _).setCell (p:=⟨w.heap.size+1,2,none⟩) (by simp) _
      have HK:=hid hk;have jJj:=hid str1;clear hk res1 xW str1;by_cases hn:n=0
      ·subst hn;obtain ⟨a',q,hq,HI,hc2,hp2,HB2,J8,J9,HA2⟩:∃ (a':At) (q:Nat),q<=s.size/\Hid (kW a (aP s i)=some (a',aP s q))/\a'.cls.length<=32/\a'.aD.length<=32/\Hid (aH (w.heap.size+3) (.int .i64 q) 3 w1)/\∃ vc vp,Hid (rX (w.heap.size+4) (w.heap.size+2) a' vc vp w1):=by
        rcases hres with ⟨_,h⟩ | ⟨h,_⟩
        ·exact h
        ·exact absurd rfl h
       have M1:=hid (HM.out.ky HK.out HB2.out HA2.out);have SP:=hid (Cq s q (w.heap.size+3) w.heap.size w1 hs hq M1.out.pos M1.out.str (by omega));have hiq:=FI a a' s i q hlt hq HI.out;have jux:Hid (xV (f-1) a' (decide ((aP s q).head?=some 32)) (cu (aP s q))=R):=by show _=_;rw [<- L8.out,hcn];refine (yg f a a' _ _ _ (by omega) mX ?_).symm;rw [<- hcn];exact HI.out
       clear hcn mX L8 HI HM hres r0 r1 r2 g0 g1 g2 FB;go_wp2_with fail
       refine SP.out.mono ?_;rintro e w2 ⟨q2,h1,h2,h3,rfl,h5,h6⟩;have M2:=hid (M1.out.k1 h6 h5);have H3:=hid h3;clear h3 h5 h6;go_wp2;go_roundw;case rel=>exact ⟨f-1,a',_,q2,_,_,h2,rfl,by omega,by rw [H3.out];exact jux.out,hc2,hp2,M2.out⟩
       case measure=>
        rw [ql M2.out.pos,ql HP.out];omega
      ·have e3:(n != 0)=true:=by rw [bne_iff_ne];exact hn
       have HV:Hid (R=none):=by
        show R=_;rcases hres with ⟨h,_⟩ | ⟨_,h⟩
        ·exact absurd h hn
        ·rw [<- L8.out,hcn];exact Ct f a _ _ (by omega) mX (by rw [<- hcn];exact h)
       clear hcn mX L8 hres;go_wp2;exact bodyPost_ret (v:=.tuple #[.agg #[.string ⟨#[]⟩,.slice none 0 0,.slice none 0 0],.int .i64 0,.int .i64 n]) (by simp [results,results226,go_sem,r0,r1,r2]) rfl ⟨_,_,_,_,_,_,_,_,_,rfl,FB.out _ _ _,.inr ⟨hn,Qn.out.symm.trans HV.out⟩⟩
   ·have e1:decide ((s.size:Int)<=(i:Int))=true:=by simp;omega
    have HV:Hid (R=none):=by show R=_;rw [<- L8.out,JZ s i (by omega),Cr _ _ _ (by omega)]
    clear L8;exact jm6
open Go.RowKit
theorem mY (s:ByteArray) (i0:Nat) (w:jN9) (hs:s.size<=1000000000) (hi:i0<=s.size) : Calls prog 114 #[.string s,.int .i64 i0] w fun e w'=>e=.returned (.int .i64 (jC s i0:Nat))/\w=w':=by
 obtain ⟨V,hV⟩:∃ V,V=jC s i0:=⟨_,rfl⟩;rw [<- hV];have HV:=hid hV;clear hV;go_enter func114,ntmps114;go_wp2
 go_loop [1] (fun vi=>∃ k:Nat,i0+k<=s.size/\vi=.int .i64 ((i0+k:Nat):Int)/\∀ j x,j<k->(aP s i0)[j]?=some x->gM x=true) (fun i=>s.size-(intOf i).toNat)
 case atStart=>exact ⟨0,hi,rfl,fun j x hj=>by omega⟩
 case round=>
  obtain ⟨k,hk,rfl,hall⟩:=hrel;have HA:=hid hall;obtain ⟨q,hq⟩:∃ q,q=i0+k:=⟨_,rfl⟩;rw [<- hq] at hk ⊢;have HQ:=hid hq;have hlk:k<=(aP s i0).length:=by rw [iY];omega
  clear hall hq;by_cases hlt:q<s.size
  ·have hgl:=UInt8.toNat_lt s[q];have IN:=hid (fun w=>FJ s[q].toNat w hgl);have HG:Hid ((aP s i0)[k]?=some s[q]):=by
    exact jhj
   cases hn:Il s[q].toNat with
   | true=>
    rw [hn] at IN;have HN:=hid hn;clear hn;go_wp2_with fail
    refine (IN.out _).mono ?_;rintro e w1 ⟨rfl,rfl⟩;go_wp2
    go_round
    case rel=>
     refine ⟨k+1,by have:=HQ.out;omega,by have:=HQ.out;congr 1;omega,fun j x hj hx=>?_⟩;exact P6
    case measure=>simp [intOf];omega
   | false=>
    rw [hn] at IN;have hw:V=q:=by exact jh9
    exact P7
  ·exact jh8
def qm (s:ByteArray) (i:Nat) (w:jN9) (e:Ending) (w':jN9):Prop:=
 (∃ (v:ByteArray) (n:Int) (b:Bool),e=.returned (.tuple #[.string v,.int .i64 n,.bool b])/\((b=true/\∃ q:Nat,q<=s.size/\n=q/\Bz (aP s i)=some (v,aP s q))\/(b=false/\Bz (aP s i)=none)))/\jNj w.heap.size w w'
def XM (s:ByteArray) (R:Option (List UInt8 × List UInt8)) (w:jN9) (vi vo:jNk) (wr:jN9):Prop:=
 ∃ (i:Nat) (acc:List UInt8),i<=s.size/\vi=.int .i64 i/\vo=.string (bX acc)/\bO (aP s i) acc=R/\acc.length<=i/\w=wr
theorem Qo (acc:List UInt8) (s:ByteArray) (i:Nat) (h:i<s.size):bX acc++s.extract i (i+1)=bX (acc++[s[i]]):=by
 apply ByteArray.ext;apply Array.toList_inj.1;unfold bX;rw [ByteArray.data_append,Array.toList_append,ByteArray.data_extract,Array.toList_extract];have h1:i<s.data.toList.length:=by simpa using h
 have h2:s.data.toList.extract i (i+1)=[s[i]]:=by rw [List.extract_eq_take_drop,List.drop_eq_getElem_cons h1,show i+1-i=1 by omega];rfl
 rw [h2]
theorem jm7{P:Prop}(h:P:=by
 cases NX
 all_goals
  go_enter func288,ntmps288;go_wp2_with fail
  refine (WE.out _).mono ?_;rintro e w1 ⟨rfl,rfl⟩;go_wp2_with fail
  refine (NM.out _).mono ?_;rintro e w2 ⟨rfl,rfl⟩;go_wp2
  go_ret3
  first | exact oK.out (by simp) | exact uV.out (by simp)):P:=h
theorem Oa (s:ByteArray) (i0:Nat) (w:jN9) (hs:s.size<=1000000) (hi:i0<=s.size) : Calls prog 288 #[.string s,.int .i64 i0] w (qm s i0 w):=by
 by_cases hq:i0<s.size/\bt s i0=34;case neg=>
  have WE:=hid (fun w=>mY s i0 w (by omega) hi);refine jhq ?_;intro hwl hwg hhd BJ hvs;have NM:=hid (fun w=>TS (s.extract i0 (jC s i0)) w hvs);generalize jC s i0=T at *;have oK:Hid (dQ (s.extract i0 T)=true->qm s i0 w (.returned (.tuple #[.string (s.extract i0 T),.int .i64 (T:Int),.bool true])) w):=by intro hn;exact ⟨⟨_,_,_,rfl,.inl ⟨rfl,T,hwl,rfl,by rw [BJ.out,if_pos hn]⟩⟩,jK7 _ _⟩
  have uV:Hid (dQ (s.extract i0 T)=false->qm s i0 w (.returned (.tuple #[.string ⟨#[]⟩,.int .i64 0,.bool false])) w):=by intro hn;exact ⟨⟨_,_,_,rfl,.inr ⟨rfl,by rw [BJ.out,if_neg (by rw [hn];decide)]⟩⟩,jK7 _ _⟩
  have hc:(s.size<=i0)\/(i0<s.size/\bt s i0≠34):=by omega
  have q3:decide ((s.size:Int)<(i0:Int))=false:=by simp;omega
  clear hhd hvs hq;generalize dQ (s.extract i0 T)=NX at *;rcases hc with hc | ⟨hc,hb⟩
  ·have q1:decide ((s.size:Int)<=(i0:Int))=true:=by simp;omega
   exact jm7
  ·refine J4 ?_;intro q1;have q2:((s[i0].toNat:Int) != 34)=true:=by rw [jE s i0 hc,bne_iff_ne];omega
   exact jm7
 case pos=>
  obtain ⟨DX,hb0⟩:=hq;refine jhx ?_;intro l9 rW BJ R hR;rw [<- hR] at BJ;refine J4 ?_;intro q1;have q2:((s[i0].toNat:Int) != 34)=false:=by rw [jE s i0 DX,hb0];rfl
  have R0:Hid (XM s R w (.int .i64 ((i0+1:Nat):Int)) (.string ⟨#[]⟩) w):=⟨i0+1,[],by omega,rfl,rfl,hR.symm,Nat.zero_le _,rfl⟩;clear l9 rW hR hb0;go_enter func288,ntmps288
  (try simp only [List.append_eq,List.cons_append,List.nil_append])
  go_wp2;have q0:decide (s.size<=i0)=false:=by simp;omega
  simp only [q0];clear q0
  go_loopw [1,8] (fun vi vo wr=>XM s R w vi vo wr) (fun i _ _=>s.size-(intOf i).toNat)
  case atStart=>exact R0.out
  case round=>
   clear R0 q1 q2;obtain ⟨i,acc,hi,rfl,rfl,hqv,hal,rfl⟩:=hrel;have TM:=hid hqv;have has:(bX acc).size=acc.length:=List.size_toArray;clear hqv;by_cases hlt:i<s.size
   ·have hcn:=Dc s i hlt;have eb:=jE s i hlt;have g1:decide ((s.size:Int)<=(i:Int))=false:=by simp;omega
    by_cases rW:s[i]=34
    ·have q3:((s[i].toNat:Int) != 34)=false:=by rw [rW];rfl
     have Y3:Hid (R=some (acc,aP s (i+1))):=by show R=_;rw [<- TM.out,hcn,bO.eq_def];simp only;rw [if_pos rW]
     have CV:=hid (fun w=>Cu (bX acc) w (by omega));have oK:Hid (cZ (bX acc)=true->∀ w',jNj w.heap.size w w'->qm s i0 w (.returned (.tuple #[.string (bX acc),.int .i64 ((i:Int)+1),.bool true])) w'):=by intro hl w' hw';refine ⟨⟨_,_,_,rfl,.inl ⟨rfl,i+1,by omega,by simp,?_⟩⟩,hw'⟩;rw [BJ.out,Y3.out];simp [hl]
     have uV:Hid (cZ (bX acc)=false->∀ w',jNj w.heap.size w w'->qm s i0 w (.returned (.tuple #[.string ⟨#[]⟩,.int .i64 0,.bool false])) w'):=by intro hl w' hw';refine ⟨⟨_,_,_,rfl,.inr ⟨rfl,?_⟩⟩,hw'⟩;rw [BJ.out,Y3.out];simp [hl]
     clear hcn rW eb;generalize cZ (bX acc)=LL at *;cases LL
     all_goals
      go_wp2_with fail
      refine (CV.out _).mono ?_;rintro e w3 ⟨rfl,hb3⟩;go_wp2
      go_ret3
      first | exact oK.out (by simp) _ hb3 | exact uV.out (by simp) _ hb3
    ·have q3:((s[i].toNat:Int) != 34)=true:=by
      rw [bne_iff_ne];intro e;exact rW (by rw [<- UInt8.toNat_inj];show _=34;omega)
     by_cases E8:s[i]=92
     ·have q4:((s[i].toNat:Int)==92)=true:=by rw [E8];rfl
      by_cases hlt2:i+1<s.size
      ·have J5:=Dc s (i+1) hlt2;have hgl:=UInt8.toNat_lt s[i+1];have q5:decide ((s.size:Int)<=(i:Int)+1)=false:=by simp;omega
       have hsn:=Qo acc s (i+1) hlt2;by_cases hd:s[i+1]=34\/s[i+1]=92
       ·refine ji0 ?_;intro LW;refine jhz ?_;intro hde;have kg:=hid hsn;clear hcn J5 hd rW E8 eb hsn;rcases hde with q6 | ⟨q6,q7⟩
        all_goals
         go_wp2;go_roundw;case rel=>exact ⟨i+1+1,acc++[s[i+1]],(by omega),(by go_num),(by rw [<- kg.out]),LW.out,(by simp;omega),rfl⟩
         case measure=>simp [intOf];omega
       ·have Y3:Hid (Bz (aP s i0)=none):=by
         show _=none;have:R=none:=by rw [<- TM.out,hcn,J5,bO.eq_def];simp only;rw [if_neg rW,if_pos E8,if_neg hd]
         rw [BJ.out,this]
        have q6:((s[i+1].toNat:Int) != 34)=true:=by rw [bne_iff_ne];intro e;exact hd (.inl (by rw [<- UInt8.toNat_inj];show _=34;omega))
        have q7:((s[i+1].toNat:Int) != 92)=true:=by rw [bne_iff_ne];intro e;exact hd (.inr (by rw [<- UInt8.toNat_inj];show _=92;omega))
        clear hcn J5 hd rW E8 eb hsn;go_wp2
        go_ret3
        exact ⟨⟨_,_,_,rfl,.inr ⟨rfl,Y3.out⟩⟩,jK7 _ _⟩
      ·have q5:decide ((s.size:Int)<=(i:Int)+1)=true:=by simp;omega
       have Y3:Hid (Bz (aP s i0)=none):=by
        show _=none;have:R=none:=by rw [<- TM.out,hcn,JZ s (i+1) (by omega),bO.eq_def];simp only;rw [if_neg rW,if_pos E8]
        rw [BJ.out,this]
       clear hcn rW E8 eb;go_wp2
       go_ret3
       exact ⟨⟨_,_,_,rfl,.inr ⟨rfl,Y3.out⟩⟩,jK7 _ _⟩
     ·have q4:((s[i].toNat:Int)==92)=false:=by
       rw [beq_eq_false_iff_ne];intro e;exact E8 (by rw [<- UInt8.toNat_inj];show _=92;omega)
      have LW:Hid (bO (aP s (i+1)) (acc++[s[i]])=R):=by
       show _=R;rw [<- TM.out,hcn]
       conv=>rhs;rw [bO.eq_def]
       simp only;rw [if_neg rW,if_neg E8]
      have kg:=hid (Qo acc s i hlt);clear hcn rW E8 eb;go_wp2;go_roundw;case rel=>exact ⟨i+1,acc++[s[i]],(by omega),(by go_num),(by rw [<- kg.out]),LW.out,(by simp;omega),rfl⟩
      case measure=>simp [intOf];omega
   ·have hie:i=s.size:=by omega
    have g1:decide ((s.size:Int)<=(i:Int))=true:=by simp;omega
    have Y3:Hid (Bz (aP s i0)=none):=by
     show _=none;have:R=none:=by rw [<- TM.out,JZ s i (by omega),bO.eq_def]
     rw [BJ.out,this]
    clear hie;go_wp2
    go_ret3
    exact ⟨⟨_,_,_,rfl,.inr ⟨rfl,Y3.out⟩⟩,jK7 _ _⟩
theorem Ho (l:List Pr) (x:ByteArray) (B:Nat) (v:jNk) (w:jN9) (h:w.ownsRow B 61 2 v l.length (J6 l)) (hl:l.length<=100000) : Calls prog 214 #[v,.string x] w fun e w'=>e=.returned (.bool (dO (l.map Pr.key) x))/\w=w':=by
 obtain ⟨av,cv,rfl⟩:=lD h;obtain ⟨V,hV⟩:∃ V,V=dO (l.map Pr.key) x:=⟨_,rfl⟩;rw [<- hV];have H:=hid h;have HV:=hid hV;clear hV h;go_enter func214,ntmps214;go_wp2
 go_loop [5] (fun vi=>∃ k:Nat,k<=l.length/\vi=.int .i64 k/\V=dO ((l.map Pr.key).drop k) x) (fun i=>l.length-(intOf i).toNat)
 case atStart=>exact ⟨0,Nat.zero_le _,rfl,HV.out⟩
 case round=>
  obtain ⟨k,hk,rfl,hv⟩:=hrel;by_cases hlt:k<l.length
  ·obtain ⟨p,hp⟩:∃ p,l[k]?=some p:=⟨_,List.getElem?_eq_getElem hlt⟩;obtain ⟨g,cap,TJ,hcap⟩:=oJ H.out (by omega);obtain ⟨rfl,rfl⟩:av=some ⟨g,0,none⟩/\cv=cap:=by simpa using TJ
   have c0:w.cell? ⟨g,k*2,none⟩=some (.string p.key):=by rw [H.out.cellAt (k*2) (by omega)];exact (oQ l k p hp).1
   rw [wG (l.map Pr.key) k p.key x (by rw [List.getElem?_map,hp];rfl)] at hv;have LX:=hid hv;clear hv hp TJ HV;by_cases he:p.key=x
   ·subst he;have q1:(p.key.toList==p.key.toList)=true:=beq_self_eq_true _;go_wp2;go_ret;exact ⟨by rw [LX.out];simp,rfl⟩
   ·have q1:(p.key.toList==x.toList)=false:=vQ he;have jaz:Hid (V=dO ((l.map Pr.key).drop (k+1)) x):=by show V=_;rw [LX.out];simp [he]
    exact ji1
  ·have LX:Hid (V=false):=by show V=false;rw [hv,List.drop_eq_nil_of_le (by simp;omega)];rfl
   clear hv HV;go_wp2;go_ret;exact ⟨by rw [LX.out];rfl,rfl⟩
open Go.RowKit
structure wT (B:Nat) (a:At) (vc vp:jNk) (w:jN9):Prop where
 cls:w.ownsRow B 9 1 vc a.cls.length (a.cls.map Value.string)
 aD:w.ownsRow B 61 2 vp a.aD.length (J6 a.aD)
 le:B<=w.heap.size
section
variable {B p:Nat} {a:At} {vc vp v1:jNk} {w w1:jN9} {cs:List jNk}
theorem wT.below (h:wT B a vc vp w) (hb:jNj w.heap.size w w1):wT B a vc vp w1:=
 ⟨UW h.cls hb,UW h.aD hb,jK9 h.le hb.size⟩
theorem wT.off (h:wT B a vc vp w) (hp:AB p cs w):vc.ownBlock≠some p/\vp.ownBlock≠some p:=by
 constructor
 ·intro e;obtain ⟨c1,f1,e1⟩:=Lib.ownsRow_kind h.cls p e;unfold AB at hp;rw [e1] at hp;simp at hp
 ·intro e;obtain ⟨c1,f1,e1⟩:=Lib.ownsRow_kind h.aD p e;unfold AB at hp;rw [e1] at hp;simp at hp
theorem KU {e:TypeId} {k n:Nat} {v:jNk} {xs:List jNk} (h:w.ownsRow B e k v n xs) (hp:v.ownBlock≠some p) (j:Nat) (u:jNk):(w.setCell ⟨p,j,none⟩ u).ownsRow B e k v n xs:=by
 refine h.kept (row:=some p) ⟨rfl,rfl,rfl,by simp [jM1],fun i _ hne=>Below.heap_setCell w ⟨p,j,none⟩ u i (fun e=>hne (by rw [e]))⟩ ?_;cases hv:v.ownBlock with
 | none=>exact .inl rfl
 | some g=>right;intro e;exact hp (by rw [hv];exact e)
theorem wT.set (h:wT B a vc vp w) (hp:AB p cs w) (j:Nat) (u:jNk):wT B a vc vp (w.setCell ⟨p,j,none⟩ u):=
 ⟨KU h.cls (h.off hp).1 j u,KU h.aD (h.off hp).2 j u,by simpa [jM1] using h.le⟩
theorem wT.apart (h:wT B a vc vp w):vc.ownBlock=none\/vc.ownBlock≠vp.ownBlock:=by
 cases hc:vc.ownBlock with
 | none=>exact .inl rfl
 | some g=>
  exact ji2
theorem wT.apart' (h:wT B a vc vp w):vp.ownBlock=none\/vp.ownBlock≠vc.ownBlock:=by exact ji3
theorem wT.Wx {x:ByteArray} {o:Obj} (h:wT B a vc vp w) (hg:(w.alloc o).grownBy w1 vc.ownBlock) (hown:w1.ownsRow B 9 1 v1 (a.cls.length+1) (a.cls.map Value.string++[.string x])) : wT B ⟨a.id,a.cls++[x],a.aD⟩ v1 vp w1/\jNj B w w1/\∀ p cs,AB p cs w->AB p cs w1:=by
 refine P8 ?_;intro hal h0;have hr:∀ g,vc.ownBlock=some g->B<=g:=fun g hgv=>(h.cls.lt g hgv).1
 refine ⟨⟨by simpa using hown,h0.aD.kept hg h.apart',jK9 h0.le hg.size⟩,?_,fun p cs hp=>?_⟩
 ·exact ((hal.mono h.le).grown hg h0.le hr)
 ·exact (hg.block p (hp.alloc o).lt (fun e=>(h.off hp).1 e.symm)).trans (hp.alloc o)
theorem wT.pushP {x:Pr} {o:Obj} (h:wT B a vc vp w) (hg:(w.alloc o).grownBy w1 vp.ownBlock) (hown:w1.ownsRow B 61 2 v1 (a.aD.length+1) (J6 a.aD++pcs x)) : wT B ⟨a.id,a.cls,a.aD++[x]⟩ vc v1 w1/\jNj B w w1/\∀ p cs,AB p cs w->AB p cs w1:=by
 refine P8 ?_;intro hal h0;have hr:∀ g,vp.ownBlock=some g->B<=g:=fun g hgv=>(h.aD.lt g hgv).1
 refine ⟨⟨h0.cls.kept hg h.apart,?_,jK9 h0.le hg.size⟩,?_,fun p cs hp=>?_⟩
 ·have e:J6 (a.aD++[x])=J6 a.aD++pcs x:=by simp [J6]
  rw [e];simpa using hown
 ·exact ((hal.mono h.le).grown hg h0.le hr)
 ·exact (hg.block p (hp.alloc o).lt (fun e=>(h.off hp).2 e.symm)).trans (hp.alloc o)
def jk (w:jN9) (p:Nat) (a b c:jNk):jN9:=((w.setCell ⟨p,0,none⟩ a).setCell ⟨p,1,none⟩ b).setCell ⟨p,2,none⟩ c
theorem wT.jk (h:wT B a vc vp w) (hp:AB p cs w) (x y z:jNk):wT B a vc vp (jk w p x y z):=
 ((h.set hp 0 x).set (hp.set 0 x) 1 y).set ((hp.set 0 x).set 1 y) 2 z
theorem L9 {B:Nat} {w0:jN9} (h:jNj B w0 w) (hp:B<=p) (x y z:jNk):jNj B w0 (jk w p x y z):=
 ((h.setCell (p:=⟨p,0,none⟩) hp x).setCell (p:=⟨p,1,none⟩) hp y).setCell (p:=⟨p,2,none⟩) hp z
end
def KA (w w':jN9):Prop:=w.heap.size<=w'.heap.size/\∀ p cs,AB p cs w->AB p cs w'
theorem KA.of {w w':jN9} (h:jNj w.heap.size w w'):KA w w':=⟨h.size,fun p cs hp=>(h.block p hp.lt).trans hp⟩
theorem KA.trans {w w1 w2:jN9} (h:KA w w1) (k:KA w1 w2):KA w w2:=⟨jK9 h.1 k.1,fun p cs hp=>k.2 p cs (h.2 p cs hp)⟩
theorem KA.set {w w1:jN9} (h:KA w w1) {p:Nat} (hp:w.heap.size<=p) (j:Nat) (u:jNk):KA w (w1.setCell ⟨p,j,none⟩ u):=
 ⟨by simpa [jM1] using h.1,fun q cs hq=>(h.2 q cs hq).far (by have:=hq.lt;omega) j u⟩
theorem KA.jk {w w1:jN9} (h:KA w w1) {p:Nat} (hp:w.heap.size<=p) (x y z:jNk):KA w (jk w1 p x y z):=((h.set hp 0 x).set hp 1 y).set hp 2 z
theorem KA.alloc {w w1:jN9} (h:KA w w1) (o:Obj):KA w (w1.alloc o):=⟨jK9 h.1 (by simp),fun p cs hp=>(h.2 p cs hp).alloc o⟩
def jbz (B:Nat) (a a':At) (bad:Prop) (w:jN9) (e:Ending) (w':jN9):Prop:=
 ∃ (vc vp:jNk) (n:Int),e=.returned (.tuple #[.agg #[.string a.id,vc,vp],.int .i64 n])/\jNj B w w'/\KA w w'/\((∃ a1 n1 c1,vc=.slice a1 n1 c1)/\∃ a2 n2 c2,vp=.slice a2 n2 c2)/\((n=0/\¬ bad/\wT B a' vc vp w')\/(n≠0/\bad))
theorem Qp{P Q:Prop}(q:Q)(h:Nonempty Q->P:=by
 intro qQ;have r0:=j2.cell 0 _ rfl;have r1:=j2.cell 1 _ rfl;have r2:=j2.cell 2 _ rfl;have f0:=j2.free 0;have f1:=j2.free 1;have f2:=j2.free 2;revert r0 r1 r2 f0 f1 f2;exact qQ.elim fun x=>x):P:=h ⟨q⟩
theorem jm8{P:Prop}(h:P:=by
 rw [hw1];have:=AB.made (w.alloc (.cells #[.string a.id,.slice av a.cls.length cv,.slice ap a.aD.length cp] 45)) [.string ⟨#[]⟩,.slice none 0 0,.slice none 0 0]
 rwa [World.size_alloc] at this):P:=h
theorem Ob (B:Nat) (a:At) (x:ByteArray) (vc vp:jNk) (w:jN9) (h:wT B a vc vp w) (hc:a.cls.length<=100000) : Calls prog 287 #[.agg #[.string a.id,vc,vp],.string x] w (jbz B a ⟨a.id,a.cls++[x],a.aD⟩ (dO a.cls x=true\/32<=a.cls.length) w):=by
 obtain ⟨i0,hi0,hz0,hz1,hz2⟩:=info_parts Jd;obtain ⟨av,cv,rfl⟩:=lD h.cls;obtain ⟨ap,cp,rfl⟩:=lD h.aD;obtain ⟨w1,hw1⟩:∃ w1,w1=(w.alloc (.cells #[.string a.id,.slice av a.cls.length cv,.slice ap a.aD.length cp] 45)).alloc (.cells #[.string ⟨#[]⟩,.slice none 0 0,.slice none 0 0] 45):=⟨_,rfl⟩;have b1:jNj w.heap.size w w1:=by rw [hw1];exact ((jK7 _ _).alloc (jK8 _) _).alloc (by simp) _
 have k1:AB w.heap.size [.string a.id,.slice av a.cls.length cv,.slice ap a.aD.length cp] w1:=by rw [hw1];exact (AB.made w _).alloc _
 have k2:AB (w.heap.size+1) [.string ⟨#[]⟩,.slice none 0 0,.slice none 0 0] w1:=by exact jm8
 have A1:=hid (h.below b1);have HT:=hid (uW a.cls x _ w1 (Dt.mE A1.out.cls));obtain ⟨V,hV⟩:∃ V,V=dO a.cls x:=⟨_,rfl⟩;rw [<- hV] at HT;have HV:=hid hV;have hle:=h.le;have K1:=hid k1;have K2:=hid k2;have B1:=hid b1;have KW:=hid (KA.of b1);have p0:=k1.cell 0 _ rfl;have p1:=k1.cell 1 _ rfl;have p2:=k1.cell 2 _ rfl;have g1:=k1.free 1;have r0:=k2.cell 0 _ rfl;have r1:=k2.cell 1 _ rfl;have r2:=k2.cell 2 _ rfl;have f0:=k2.free 0;have f1:=k2.free 1;have f2:=k2.free 2;clear hV h k1 k2 b1;cases V with
 | true=>
  go_enter func287,ntmps287;go_upto_region 1 with (fail)
  rw [<- hw1];clear hw1;go_wp2_with fail
  refine HT.out.mono ?_;rintro e w2 ⟨rfl,rfl⟩;go_wp2;exact bodyPost_ret (v:=.tuple #[.agg #[.string a.id,.slice av a.cls.length cv,.slice ap a.aD.length cp],.int .i64 7]) (by simp [results,results287,go_sem,r0,r1,r2]) rfl ⟨_,_,_,rfl,L9 (p:=w.heap.size+1) (B1.out.mono hle) (by omega) _ _ _,KW.out.jk (by omega) _ _ _,⟨⟨_,_,_,rfl⟩,_,_,_,rfl⟩,.inr ⟨by decide,.inl HV.out.symm⟩⟩
 | false=>
  by_cases h32:32<=a.cls.length
  ·have q1:decide ((32:Int)<=(a.cls.length:Int))=true:=by simp;omega
   go_enter func287,ntmps287;go_upto_region 1 with (fail)
   rw [<- hw1];clear hw1;go_wp2_with fail
   refine HT.out.mono ?_;rintro e w2 ⟨rfl,rfl⟩;go_wp2;exact bodyPost_ret (v:=.tuple #[.agg #[.string a.id,.slice av a.cls.length cv,.slice ap a.aD.length cp],.int .i64 3]) (by simp [results,results287,go_sem,r0,r1,r2]) rfl ⟨_,_,_,rfl,L9 (p:=w.heap.size+1) (B1.out.mono hle) (by omega) _ _ _,KW.out.jk (by omega) _ _ _,⟨⟨_,_,_,rfl⟩,_,_,_,rfl⟩,.inr ⟨by decide,.inr h32⟩⟩
  ·have q1:decide ((32:Int)<=(a.cls.length:Int))=false:=by simp;omega
   have hmx:a.cls.length<32:=by omega
   go_enter func287,ntmps287;go_upto_region 1 with (fail)
   rw [<- hw1];clear hw1;go_wp2_with fail
   refine HT.out.mono ?_;rintro e w2 ⟨rfl,rfl⟩;go_wp2_with (at_builtin;go_loud (refine Iu _ rfl (.tmp 17) (.tmp 19) 43 rfl B 9 i0 _ 1 16 underlying43 hi0 hz0 hz1 hz2 rfl (by decide) (.slice av a.cls.length cv) a.cls.length (a.cls.map Value.string) rfl (A1.out.cls.alloc _) (w1.heap.size+1) (some ⟨w1.heap.size,0,none⟩) 1 1 [.string x] rfl ?g1 ?g2 ?g3 ?g4 ?g5 ?_))
   case g1=>exact ⟨rfl,fun _=>⟨_,rfl,by simp,JA w1 [.string x] _⟩⟩
   case g2=>intro u hu;simp at hu;subst hu;rfl
   case g3=>unfold maxLen;omega
   case g4=>omega
   case g5=>have:=A1.out.le;simp;omega
   intro v1 w2 hown hg _;obtain ⟨a1,c1,rfl⟩:=lD hown;obtain ⟨HR,HB,HP⟩:=A1.out.Wx hg hown;have j1:=HP _ _ K1.out;have j2:=HP _ _ K2.out;have HB2:jNj B w w2:=(B1.out.mono hle).trans HB;have hw2:w1.heap.size<=w2.heap.size:=by have:=hg.size;rw [jL5] at this;omega
   have HK2:KA w w2:=KW.out.trans ⟨hw2,HP⟩;clear p0 p1 p2 g1 r0 r1 r2 f0 f1 f2 hown hg HP HB;have p0:=j1.cell 0 _ rfl;have p1:=j1.cell 1 _ rfl;have p2:=j1.cell 2 _ rfl;have g1:=j1.free 1;refine Qp ?_;intro r0 r1 r2 f0 f1 f2;have HRS:=hid (((HR.set j1 1 (.slice a1 (a.cls.length+1) c1)).jk (j2.far (by omega) 1 (.slice a1 (a.cls.length+1) c1)) (.string a.id) (.slice a1 (a.cls.length+1) c1) (.slice ap a.aD.length cp)));have W9:=hid (L9 (p:=w.heap.size+1) (HB2.setCell (p:=⟨w.heap.size,1,none⟩) hle (.slice a1 (a.cls.length+1) c1)) (by omega) (.string a.id) (.slice a1 (a.cls.length+1) c1) (.slice ap a.aD.length cp));have Je:=hid ((HK2.set (p:=w.heap.size) (jK8 _) 1 (.slice a1 (a.cls.length+1) c1)).jk (p:=w.heap.size+1) (by omega) (.string a.id) (.slice a1 (a.cls.length+1) c1) (.slice ap a.aD.length cp));clear HR HB2 HK2 hw2 j1 j2;go_wp2;exact bodyPost_ret (v:=.tuple #[.agg #[.string a.id,.slice a1 (a.cls.length+1) c1,.slice ap a.aD.length cp],.int .i64 0]) (by simp [results,results287,go_sem,r0,r1,r2]) rfl ⟨_,_,_,rfl,W9.out,Je.out,⟨⟨_,_,_,rfl⟩,_,_,_,rfl⟩,.inl ⟨rfl,by rintro (h | h);(rw [<- HV.out] at h;cases h);omega,HRS.out⟩⟩
def Hq (B:Nat) (a:At) (s:ByteArray) (i:Nat) (w:jN9) (e:Ending) (w':jN9):Prop:=
 ∃ (x:ByteArray) (vc vp:jNk) (t n:Int),e=.returned (.tuple #[.agg #[.string x,vc,vp],.int .i64 t,.int .i64 n])/\jNj B w w'/\KA w w'/\((∃ a1 n1 c1,vc=.slice a1 n1 c1)/\∃ a2 n2 c2,vp=.slice a2 n2 c2) /\
  ((n=0/\∃ (a':At) (q:Nat),q<=s.size/\t=q/\kW a (aP s i)=some (a',aP s q)/\a'.id=x/\a'.cls.length<=32/\a'.aD.length<=32/\wT B a' vc vp w')\/(n≠0/\kW a (aP s i)=none))
theorem KV{P:Prop}(h:P:=by
 go_enter func269,ntmps269;go_upto_region 1 with (fail)
 rw [<- hw1];clear hw1;go_wp2_with fail
 refine (WE.out _).mono ?_;rintro e w2 ⟨rfl,rfl⟩;go_wp2_with fail
 refine (NM.out _).mono ?_;rintro e w2 ⟨rfl,rfl⟩;go_wp2;exact bodyPost_ret (v:=.tuple #[.agg #[.string a.id,.slice av a.cls.length cv,.slice ap a.aD.length cp],.int .i64 0,.int .i64 5]) (by simp [results,results269,go_sem,r0,r1,r2]) rfl (uV.out _ _ _ (L9 (p:=w.heap.size+1) BW.out (by omega) _ _ _) (KW.out.jk (by omega) _ _ _) (by decide) gG.out)):P:=h
theorem Sv (B:Nat) (a:At) (s:ByteArray) (i:Nat) (vc vp:jNk) (w:jN9) (h:wT B a vc vp w) (hc:a.cls.length<=32) (hp:a.aD.length<=32) (hs:s.size<=100000) (hi:i<s.size) : Calls prog 269 #[.agg #[.string a.id,vc,vp],.string s,.int .i64 i] w (Hq B a s i w):=by
 obtain ⟨i0,hi0,hz0,hz1,hz2⟩:=info_parts qZ;obtain ⟨av,cv,rfl⟩:=lD h.cls;obtain ⟨ap,cp,rfl⟩:=lD h.aD;obtain ⟨w1,hw1⟩:∃ w1,w1=(w.alloc (.cells #[.string a.id,.slice av a.cls.length cv,.slice ap a.aD.length cp] 45)).alloc (.cells #[.string ⟨#[]⟩,.slice none 0 0,.slice none 0 0] 45):=⟨_,rfl⟩;have b1:jNj w.heap.size w w1:=by rw [hw1];exact ((jK7 _ _).alloc (jK8 _) _).alloc (by simp) _
 have k1:AB w.heap.size [.string a.id,.slice av a.cls.length cv,.slice ap a.aD.length cp] w1:=by rw [hw1];exact (AB.made w _).alloc _
 have k2:AB (w.heap.size+1) [.string ⟨#[]⟩,.slice none 0 0,.slice none 0 0] w1:=by exact jm8
 have A1:=hid (h.below b1);have hle:=h.le;have K1:=hid k1;have K2:=hid k2;have BW:=hid (b1.mono hle);have KW:=hid (KA.of b1);have p0:=k1.cell 0 _ rfl;have p1:=k1.cell 1 _ rfl;have p2:=k1.cell 2 _ rfl;have g0:=k1.free 0;have g2:=k1.free 2;have r0:=k2.cell 0 _ rfl;have r1:=k2.cell 1 _ rfl;have r2:=k2.cell 2 _ rfl;have f0:=k2.free 0;have f1:=k2.free 1;have f2:=k2.free 2;have hsz:w.heap.size+2<=w1.heap.size:=by rw [hw1];simp [jL5]
 have hcn:=Dc s i hi;have uV:Hid (∀ (w':jN9) (t n:Int),jNj B w w'->KA w w'->n≠0->kW a (aP s i)=none->Hq B a s i w (.returned (.tuple #[.agg #[.string a.id,.slice av a.cls.length cv,.slice ap a.aD.length cp],.int .i64 t,.int .i64 n])) w'):=
  fun w' t n hb hk hn hz=>⟨_,_,_,_,_,rfl,hb,hk,⟨⟨_,_,_,rfl⟩,_,_,_,rfl⟩,.inr ⟨hn,hz⟩⟩
 clear h k1 k2 b1;by_cases Fa:s[i]=35
 ·have q1:((s[i].toNat:Int)==35)=true:=by rw [Fa];rfl
  have hsg:uL (aP s i)=aP s (i+1):=by rw [hcn,Fa];rfl
  have HIT:=jO a s i (i+1) hsg (by omega);rw [hcn,Fa,List.head?_cons,if_pos rfl] at HIT;rw [<- Fa,<- hcn] at HIT;have HIT:=hid HIT;have WE:Hid (∀ w,Calls prog 114 #[.string s,.int .i64 ((i:Int)+1)] w fun e w'=>e=.returned (.int .i64 (jC s (i+1):Nat))/\w=w'):=fun w=>mY s (i+1) w (by omega) (by omega)
  have hwl:=jX s (i+1) (by omega);have hwg:i+1<=jC s (i+1):=Nat.le_add_right _ _;generalize jC s (i+1)=T at *;have hvs:(s.extract (i+1) T).size<=1000000000:=by rw [ByteArray.size_extract];omega
  have NM:=hid (fun w=>TS (s.extract (i+1) T) w hvs);generalize dQ (s.extract (i+1) T)=NX at *;clear hcn hsg hvs Fa;cases NX with
  | false=>
   have gG:Hid (kW a (aP s i)=none):=HIT.out;exact KV
  | true=>
   have gG:Hid (kW a (aP s i)=if aV a.id=false then none else some (⟨s.extract (i+1) T,a.cls,a.aD⟩,aP s T)):=HIT.out;cases hem:aV a.id with
   | false=>
    have hie:a.id.toList.isEmpty=false:=by rw [pI];exact hem
    have mV:Hid (kW a (aP s i)=none):=by show _=_;rw [gG.out,if_pos hem]
    clear HIT gG hem;go_enter func269,ntmps269;go_upto_region 1 with (fail)
    rw [<- hw1];clear hw1;go_wp2_with fail
    refine (WE.out _).mono ?_;rintro e w2 ⟨rfl,rfl⟩;go_wp2_with fail
    refine (NM.out _).mono ?_;rintro e w2 ⟨rfl,rfl⟩;go_wp2;exact bodyPost_ret (v:=.tuple #[.agg #[.string a.id,.slice av a.cls.length cv,.slice ap a.aD.length cp],.int .i64 0,.int .i64 7]) (by simp [results,results269,go_sem,r0,r1,r2]) rfl (uV.out _ _ _ (L9 (p:=w.heap.size+1) BW.out (by omega) _ _ _) (KW.out.jk (by omega) _ _ _) (by decide) mV.out)
   | true=>
    have hie:a.id.toList.isEmpty=true:=by rw [pI];exact hem
    have mV:Hid (kW a (aP s i)=some (⟨s.extract (i+1) T,a.cls,a.aD⟩,aP s T)):=by show _=_;rw [gG.out,hem];rfl
    have HR:=hid ((A1.out.set K1.out 0 (.string (s.extract (i+1) T))).jk (K2.out.far (by omega) 0 (.string (s.extract (i+1) T))) (.string (s.extract (i+1) T)) (.slice av a.cls.length cv) (.slice ap a.aD.length cp));have HB:=hid (L9 (p:=w.heap.size+1) (BW.out.setCell (p:=⟨w.heap.size,0,none⟩) hle (.string (s.extract (i+1) T))) (by omega) (.string (s.extract (i+1) T)) (.slice av a.cls.length cv) (.slice ap a.aD.length cp));have Je:=hid ((KW.out.set (p:=w.heap.size) (jK8 _) 0 (.string (s.extract (i+1) T))).jk (p:=w.heap.size+1) (by omega) (.string (s.extract (i+1) T)) (.slice av a.cls.length cv) (.slice ap a.aD.length cp));clear HIT gG hem;go_enter func269,ntmps269;go_upto_region 1 with (fail)
    rw [<- hw1];clear hw1;go_wp2_with fail
    refine (WE.out _).mono ?_;rintro e w2 ⟨rfl,rfl⟩;go_wp2_with fail
    refine (NM.out _).mono ?_;rintro e w2 ⟨rfl,rfl⟩;go_wp2;exact bodyPost_ret (v:=.tuple #[.agg #[.string (s.extract (i+1) T),.slice av a.cls.length cv,.slice ap a.aD.length cp],.int .i64 (T:Int),.int .i64 0]) (by simp [results,results269,go_sem,r0,r1,r2]) rfl ⟨_,_,_,_,_,rfl,HB.out,Je.out,⟨⟨_,_,_,rfl⟩,_,_,_,rfl⟩,.inl ⟨rfl,⟨s.extract (i+1) T,a.cls,a.aD⟩,T,hwl,rfl,mV.out,rfl,hc,hp,⟨HR.out.cls,HR.out.aD,HR.out.le⟩⟩⟩
 ·have q1:((s[i].toNat:Int)==35)=false:=by
   rw [beq_eq_false_iff_ne];intro e;exact Fa (by rw [<- UInt8.toNat_inj];show _=35;omega)
  by_cases h46:s[i]=46
  ·have q2:((s[i].toNat:Int)==46)=true:=by rw [h46];rfl
   have hsg:uL (aP s i)=aP s (i+1):=by rw [hcn,h46];rfl
   have HIT:=jO a s i (i+1) hsg (by omega);rw [hcn,h46,List.head?_cons,if_neg (show ¬ (some (46:UInt8)=some 35) by decide),if_pos rfl] at HIT;rw [<- h46,<- hcn] at HIT;have HIT:=hid HIT;have WE:Hid (∀ w,Calls prog 114 #[.string s,.int .i64 ((i:Int)+1)] w fun e w'=>e=.returned (.int .i64 (jC s (i+1):Nat))/\w=w'):=fun w=>mY s (i+1) w (by omega) (by omega)
   have hwl:=jX s (i+1) (by omega);have hwg:i+1<=jC s (i+1):=Nat.le_add_right _ _;generalize jC s (i+1)=T at *;have hvs:(s.extract (i+1) T).size<=1000000000:=by rw [ByteArray.size_extract];omega
   have NM:=hid (fun w=>TS (s.extract (i+1) T) w hvs);have AC:=hid (Ob B a (s.extract (i+1) T) _ _ w1 A1.out (by omega));generalize dQ (s.extract (i+1) T)=NX at *;clear hcn hsg hvs Fa h46;cases NX with
   | false=>
    have gG:Hid (kW a (aP s i)=none):=HIT.out;exact KV
   | true=>
    go_enter func269,ntmps269;go_upto_region 1 with (fail)
    rw [<- hw1];clear hw1;go_wp2_with fail
    refine (WE.out _).mono ?_;rintro e w2 ⟨rfl,rfl⟩;go_wp2_with fail
    refine (NM.out _).mono ?_;rintro e w2 ⟨rfl,rfl⟩;go_wp2_with fail
    refine AC.out.mono ?_;rintro e w3 ⟨J8,J9,n,rfl,hb3,hk3,hsv,hres⟩;have ji:=hid hres;have j2:=hk3.2 _ _ K2.out;have hs3:w.heap.size+2<=w3.heap.size:=jK9 hsz hk3.1;obtain ⟨⟨a1,n1,c1,rfl⟩,a2,n2,c2,rfl⟩:=hsv;have jB7:Hid (Hq B a s i w (.returned (.tuple #[.agg #[.string a.id,.slice a1 n1 c1,.slice a2 n2 c2],.int .i64 (T:Int),.int .i64 n])) ((jk w3 (w.heap.size+1) (.string a.id) (.slice a1 n1 c1) (.slice a2 n2 c2)).alloc (.cells #[.string a.id,.slice a1 n1 c1,.slice a2 n2 c2] 45))):=by
     refine ⟨_,_,_,_,_,rfl,(L9 (p:=w.heap.size+1) (BW.out.trans hb3) (by omega) _ _ _).alloc (by simp [jk,jM1];omega) _,((KW.out.trans hk3).jk (p:=w.heap.size+1) (by omega) _ _ _).alloc _,⟨⟨_,_,_,rfl⟩,_,_,_,rfl⟩,?_⟩;rcases ji.out with ⟨h1,h2,h3⟩ | ⟨h1,h2⟩
     ·refine .inl ⟨h1,⟨a.id,a.cls++[s.extract (i+1) T],a.aD⟩,T,hwl,rfl,?_,rfl,?_,hp,(h3.jk j2 _ _ _).below ((jK7 _ _).alloc (jK8 _) _)⟩
      ·rw [HIT.out,if_neg (by decide),if_neg (fun e=>h2 (.inl e)),if_neg (fun e=>h2 (.inr e))]
      ·simp only [List.length_append,List.length_singleton];have:¬ 32<=a.cls.length:=fun e=>h2 (.inr e)
       omega
     ·exact ji7
    clear hb3 hk3 hres ji p0 p1 p2 g0 g2 r0 r1 r2 f0 f1 f2;refine Qp ?_;intro r0 r1 r2 f0 f1 f2;clear j2;have hlt3:w.heap.size+1<w3.heap.size:=by omega
    go_wp2;exact bodyPost_ret (v:=.tuple #[.agg #[.string a.id,.slice a1 n1 c1,.slice a2 n2 c2],.int .i64 (T:Int),.int .i64 n]) (by simp [results,results269,go_sem,r0,r1,r2,hlt3]) rfl jB7.out
  ·have q2:((s[i].toNat:Int)==46)=false:=by
    rw [beq_eq_false_iff_ne];intro e;exact h46 (by rw [<- UInt8.toNat_inj];show _=46;omega)
   have hsg:uL (aP s i)=aP s i:=by exact ji8
   have HIT:=jO a s i i hsg (by omega);rw [show (aP s i).head?=some s[i] from l8 s i hi,if_neg (fun e=>Fa (jL0 e)),if_neg (fun e=>h46 (jL0 e))] at HIT;have HIT:=hid HIT;have WE:Hid (∀ w,Calls prog 114 #[.string s,.int .i64 (i:Int)] w fun e w'=>e=.returned (.int .i64 (jC s i:Nat))/\w=w'):=fun w=>mY s i w (by omega) (by omega)
   have hwl:=jX s i (by omega);have hwg:i<=jC s i:=Nat.le_add_right _ _;generalize jC s i=T at *;have hvs:(s.extract i T).size<=1000000000:=by rw [ByteArray.size_extract];omega
   have NM:=hid (fun w=>TS (s.extract i T) w hvs);generalize dQ (s.extract i T)=NX at *;clear hcn hsg hvs Fa h46;cases NX with
   | false=>
    have gG:Hid (kW a (aP s i)=none):=HIT.out;exact KV
   | true=>
    by_cases hT:T<s.size
    ·have hcT:=Dc s T hT;have q3:decide ((s.size:Int)<=(T:Int))=false:=by simp;omega
     by_cases RG:s[T]=61
     ·have q4:((s[T].toNat:Int) != 61)=false:=by rw [RG];rfl
      have gG:Hid (kW a (aP s i)=match Bz (aP s (T+1)) with
       | none=>none
       | some (v,r)=>if dO (keysOf a) (s.extract i T)=true then none else if 32<=a.aD.length then none
        else some (⟨a.id,a.cls,a.aD++[⟨s.extract i T,v⟩]⟩,r)):=by
       show _=_;rw [HIT.out,if_neg (by decide),hcT,RG];rfl
      have RV:Hid (∀ w,Calls prog 288 #[.string s,.int .i64 ((T:Int)+1)] w (qm s (T+1) w)):=fun w=>Oa s (T+1) w (by omega) (by omega)
      clear HIT hcT RG;go_enter func269,ntmps269;go_upto_region 1 with (fail)
      rw [<- hw1];clear hw1;go_wp2_with fail
      refine (WE.out _).mono ?_;rintro e w2 ⟨rfl,rfl⟩;go_wp2_with fail
      refine (NM.out _).mono ?_;rintro e w2 ⟨rfl,rfl⟩;go_wp2_with fail
      refine (RV.out _).mono ?_;rintro e w3 ⟨⟨v,n,bb,rfl,hres⟩,hbel⟩;have A3:=hid (A1.out.below hbel);have BW3:=hid (BW.out.trans (hbel.mono A1.out.le));have KW3:=hid (KW.out.trans (KA.of hbel));have K13:=hid ((KA.of hbel).2 _ _ K1.out);have K23:=hid ((KA.of hbel).2 _ _ K2.out);have ji:=hid hres;clear hres hbel p0 p1 p2 g0 g2 r0 r1 r2 f0 f1 f2;have p0:=K13.out.cell 0 _ rfl;have p1:=K13.out.cell 1 _ rfl;have p2:=K13.out.cell 2 _ rfl;have g2:=K13.out.free 2;have r0:=K23.out.cell 0 _ rfl;have r1:=K23.out.cell 1 _ rfl;have r2:=K23.out.cell 2 _ rfl;have f0:=K23.out.free 0;have f1:=K23.out.free 1;have f2:=K23.out.free 2;cases bb with
      | false=>
       have mV:Hid (kW a (aP s i)=none):=by
        show _=_;rcases ji.out with ⟨h1,_⟩ | ⟨_,h1⟩
        ·cases h1
        ·rw [gG.out,h1]
       clear gG;go_wp2;exact bodyPost_ret (v:=.tuple #[.agg #[.string a.id,.slice av a.cls.length cv,.slice ap a.aD.length cp],.int .i64 0,.int .i64 5]) (by simp [results,results269,go_sem,r0,r1,r2]) rfl (uV.out _ _ _ (L9 (p:=w.heap.size+1) BW3.out (by omega) _ _ _) (KW3.out.jk (by omega) _ _ _) (by decide) mV.out)
      | true=>
       obtain ⟨q,hq,rfl,HVq⟩:∃ q:Nat,q<=s.size/\n=q/\Hid (Bz (aP s (T+1))=some (v,aP s q)):=by
        rcases ji.out with ⟨_,h⟩ | ⟨h1,_⟩
        ·exact h
        ·cases h1
       have HKY:=hid (fun w (h:w.ownsRow B 61 2 (.slice ap a.aD.length cp) a.aD.length (J6 a.aD))=>Ho a.aD (s.extract i T) B _ w h (by omega));have mV:Hid (kW a (aP s i)=if dO (keysOf a) (s.extract i T)=true then none else if 32<=a.aD.length then none
        else some (⟨a.id,a.cls,a.aD++[⟨s.extract i T,v⟩]⟩,aP s q)):=by show _=_;rw [gG.out,HVq.out]
       obtain ⟨V,hV⟩:∃ V,V=dO (keysOf a) (s.extract i T):=⟨_,rfl⟩;have hV2:dO (a.aD.map Pr.key) (s.extract i T)=V:=hV.symm;rw [hV2] at HKY;rw [<- hV] at mV;clear gG HVq ji hV hV2;cases V with
       | true=>
        have XO:Hid (kW a (aP s i)=none):=mV.out;go_wp2_with fail
        refine (HKY.out _ A3.out.aD).mono ?_;rintro e w4 ⟨rfl,rfl⟩;go_wp2;exact bodyPost_ret (v:=.tuple #[.agg #[.string a.id,.slice av a.cls.length cv,.slice ap a.aD.length cp],.int .i64 0,.int .i64 7]) (by simp [results,results269,go_sem,r0,r1,r2]) rfl (uV.out _ _ _ (L9 (p:=w.heap.size+1) BW3.out (by omega) _ _ _) (KW3.out.jk (by omega) _ _ _) (by decide) XO.out)
       | false=>
        by_cases h32:32<=a.aD.length
        ·have q5:decide ((32:Int)<=(a.aD.length:Int))=true:=by simp;omega
         have XO:Hid (kW a (aP s i)=none):=by show _=_;rw [mV.out,if_neg (by decide),if_pos h32]
         go_wp2_with fail
         refine (HKY.out _ A3.out.aD).mono ?_;rintro e w4 ⟨rfl,rfl⟩;go_wp2;exact bodyPost_ret (v:=.tuple #[.agg #[.string a.id,.slice av a.cls.length cv,.slice ap a.aD.length cp],.int .i64 0,.int .i64 3]) (by simp [results,results269,go_sem,r0,r1,r2]) rfl (uV.out _ _ _ (L9 (p:=w.heap.size+1) BW3.out (by omega) _ _ _) (KW3.out.jk (by omega) _ _ _) (by decide) XO.out)
        ·have q5:decide ((32:Int)<=(a.aD.length:Int))=false:=by simp;omega
         have XO:Hid (kW a (aP s i)=some (⟨a.id,a.cls,a.aD++[⟨s.extract i T,v⟩]⟩,aP s q)):=by show _=_;rw [mV.out,if_neg (by decide),if_neg h32]
         go_wp2_with fail
         refine (HKY.out _ A3.out.aD).mono ?_;rintro e w4 ⟨rfl,rfl⟩;go_wp2_with (at_builtin;refine Iu _ rfl (.tmp 102) (.tmp 106) 24 rfl B 61 i0 _ 2 32 underlying24 hi0 hz0 hz1 hz2 rfl (by decide) (.slice ap a.aD.length cp) a.aD.length (J6 a.aD) rfl (A3.out.aD.alloc _) (w3.heap.size+1) (some ⟨w3.heap.size,0,none⟩) 1 1 [.string (s.extract i T),.string v] rfl ?g1 ?g2 ?g3 ?g4 ?g5 ?_)
         case g1=>exact ⟨rfl,fun _=>⟨_,rfl,by simp,JA w3 [.string (s.extract i T),.string v] _⟩⟩
         case g2=>intro u hu;simp at hu;rcases hu with rfl | rfl<;>rfl
         case g3=>unfold maxLen;omega
         case g4=>omega
         case g5=>have:=A3.out.le;simp;omega
         intro v1 w4 hown hg _;obtain ⟨a1,c1,rfl⟩:=lD hown;obtain ⟨HR,HB,HP⟩:=A3.out.pushP (x:=⟨s.extract i T,v⟩) hg hown;have j1:=HP _ _ K13.out;have j2:=HP _ _ K23.out;have hw4:w3.heap.size<=w4.heap.size:=by have:=hg.size;rw [jL5] at this;omega
         have HRF:=hid ((HR.set j1 2 (.slice a1 (a.aD.length+1) c1)).jk (j2.far (by omega) 2 (.slice a1 (a.aD.length+1) c1)) (.string a.id) (.slice av a.cls.length cv) (.slice a1 (a.aD.length+1) c1));have Sw:=hid (L9 (p:=w.heap.size+1) ((BW3.out.trans HB).setCell (p:=⟨w.heap.size,2,none⟩) hle (.slice a1 (a.aD.length+1) c1)) (by omega) (.string a.id) (.slice av a.cls.length cv) (.slice a1 (a.aD.length+1) c1));have HKF:=hid (((KW3.out.trans ⟨hw4,HP⟩).set (p:=w.heap.size) (jK8 _) 2 (.slice a1 (a.aD.length+1) c1)).jk (p:=w.heap.size+1) (by omega) (.string a.id) (.slice av a.cls.length cv) (.slice a1 (a.aD.length+1) c1));clear p0 p1 p2 g2 r0 r1 r2 f0 f1 f2 hown hg HP HB HR hw4;have p0:=j1.cell 0 _ rfl;have p1:=j1.cell 1 _ rfl;have p2:=j1.cell 2 _ rfl;have g2:=j1.free 2;refine Qp ?_;intro r0 r1 r2 f0 f1 f2;clear j1 j2;go_wp2;have hl1:(a.aD++[(⟨s.extract i T,v⟩:Pr)]).length<=32:=by simp only [List.length_append,List.length_singleton];omega
         exact bodyPost_ret (v:=.tuple #[.agg #[.string a.id,.slice av a.cls.length cv,.slice a1 (a.aD.length+1) c1],.int .i64 (q:Int),.int .i64 0]) (by simp [results,results269,go_sem,r0,r1,r2]) rfl ⟨_,_,_,_,_,rfl,Sw.out,HKF.out,⟨⟨_,_,_,rfl⟩,_,_,_,rfl⟩,.inl ⟨rfl,⟨a.id,a.cls,a.aD++[⟨s.extract i T,v⟩]⟩,q,hq,rfl,XO.out,rfl,hc,hl1,HRF.out⟩⟩
     ·have q4:((s[T].toNat:Int) != 61)=true:=by rw [bne_iff_ne];intro e;exact RG (by rw [<- UInt8.toNat_inj];show _=61;omega)
      have gG:Hid (kW a (aP s i)=none):=by show _=_;rw [HIT.out,if_neg (by decide),l8 s T hT,if_neg (fun e=>RG (jL0 e))]
      clear HIT hcT RG;exact KV
    ·have q3:decide ((s.size:Int)<=(T:Int))=true:=by simp;omega
     have gG:Hid (kW a (aP s i)=none):=by show _=_;rw [HIT.out,if_neg (by decide),JZ s T (by omega),if_neg (by simp)]
     clear HIT;exact KV
open Go.RowKit
structure Pm3 (w:jN9) (a:At) (vc vp:jNk) (wr:jN9):Prop where
 res:AB w.heap.size [.string ⟨#[]⟩,.slice none 0 0,.slice none 0 0] wr
 at_:AB (w.heap.size+1) [.string a.id,vc,vp] wr
 av:wT (w.heap.size+2) a vc vp wr
 sl:(∃ a1 n1 c1,vc=.slice a1 n1 c1)/\∃ a2 n2 c2,vp=.slice a2 n2 c2
 aY:jNj w.heap.size w wr
def XP (s:ByteArray) (i0:Nat) (R:Option (At × List UInt8)) (w:jN9) (vp vn:jNk) (wr:jN9):Prop:=
 ∃ (f:Nat) (a:At) (p n:Nat) (xc xp:jNk),p<=s.size/\vp=.int .i64 p/\vn=.int .i64 n/\s.size-p+1<=f/\n+i0+1<=p/\xV f a (decide (n=0)||decide ((aP s p).head?=some 32)) (cu (aP s p))=R/\a.cls.length<=32/\a.aD.length<=32/\Pm3 w a xc xp wr
theorem jm9{P:Prop}(h:P:=by
 go_enter func245,ntmps245;go_upto_region 1 with (fail)
 rw [<- hw1];clear hw1;go_wp2;exact bodyPost_ret (v:=.tuple #[.agg #[.string ⟨#[]⟩,.slice none 0 0,.slice none 0 0],.int .i64 0,.int .i64 5]) (by simp [results,results245,go_sem,r0,r1,r2]) rfl ⟨_,_,_,_,_,_,_,_,_,rfl,HB.out,.inr ⟨by decide,HIT.out⟩⟩):P:=h
theorem jmj{P:Prop}(h:P:=by
 go_wp2;exact bodyPost_ret (v:=.tuple #[.agg #[.string ⟨#[]⟩,.slice none 0 0,.slice none 0 0],.int .i64 0,.int .i64 5]) (by simp [results,results245,go_sem,r0,r1,r2]) rfl ⟨_,_,_,_,_,_,_,_,_,rfl,FB.out _ _ _,.inr ⟨by decide,Qn.out.symm.trans HV.out⟩⟩):P:=h
theorem Oc (s:ByteArray) (i0:Nat) (w:jN9) (hs:s.size<=100000) (hi0:i0<=s.size) : Calls prog 245 #[.string s,.int .i64 i0] w (N9 s i0 w):=by
 by_cases wS:i0<s.size/\bt s i0=123;case neg=>
  refine jm5 ?_;intro HIT hc;obtain ⟨w1,hw1⟩:∃ w1,w1=w.alloc (.cells #[.string ⟨#[]⟩,.slice none 0 0,.slice none 0 0] 45):=⟨_,rfl⟩;have hab:AB w.heap.size [.string ⟨#[]⟩,.slice none 0 0,.slice none 0 0] w1:=by rw [hw1];exact AB.made w _
  refine XR ?_;intro b1;have HB:=hid (L9 (p:=w.heap.size) b1 (jK8 _) (.string ⟨#[]⟩) (.slice none 0 0) (.slice none 0 0));have r0:=hab.cell 0 _ rfl;have r1:=hab.cell 1 _ rfl;have r2:=hab.cell 2 _ rfl;have f0:=hab.free 0;have f1:=hab.free 1;have f2:=hab.free 2;clear wS hab b1;rcases hc with hc | ⟨hc,hb⟩
  ·have q1:decide ((s.size:Int)<=(i0:Int))=true:=by simp;omega
   exact jm9
  ·refine J4 ?_;intro q1;have q2:((s[i0].toNat:Int) != 123)=true:=by rw [jE s i0 hc,bne_iff_ne];omega
   exact jm9
 case pos=>
  obtain ⟨DX,hb0⟩:=wS;refine jm3 ?_;intro l9 wS R hR Qn HR0 q1 q2;obtain ⟨w4,hw4⟩:∃ w4,w4=(w.alloc (.cells #[.string ⟨#[]⟩,.slice none 0 0,.slice none 0 0] 45)).alloc (.cells #[.string ⟨#[]⟩,.slice none 0 0,.slice none 0 0] 45):=⟨_,rfl⟩;have M0:Pm3 w ⟨⟨#[]⟩,[],[]⟩ (.slice none 0 0) (.slice none 0 0) w4:=by
   rw [hw4];refine ⟨(AB.made w _).alloc _,?_,⟨uS _ _ _ _,uS _ _ _ _,by simp [jL5]⟩,⟨⟨_,_,_,rfl⟩,_,_,_,rfl⟩,((jK7 _ _).alloc (jK8 _) _).alloc (by simp) _⟩;have:=AB.made (w.alloc (.cells #[.string ⟨#[]⟩,.slice none 0 0,.slice none 0 0] 45)) [.string ⟨#[]⟩,.slice none 0 0,.slice none 0 0]
   rwa [jL5] at this
  have R0:Hid (XP s i0 R w (.int .i64 ((i0+1:Nat):Int)) (.int .i64 0) w4):=⟨s.size-i0,_,i0+1,0,_,_,by omega,rfl,rfl,by omega,by omega,HR0.out,by simp,by simp,M0⟩;clear l9 wS hR hb0 HR0 M0;go_enter func245,ntmps245;go_upto_region 4 with (fail)
  rw [<- hw4];clear hw4;go_wp2;have q0:decide (s.size<=i0)=false:=by simp;omega
  have q00:decide ((i0:Int)<0)=false:=by simp
  simp only [q0,q00,Bool.or_false];clear q0 q00
  go_loopw [8,9] (fun vp vn wr=>XP s i0 R w vp vn wr) (fun vp _ _=>s.size-(intOf vp).toNat)
  case atStart=>exact R0.out
  case round=>
   clear R0 q1 q2;obtain ⟨f,a,p,n,xc,xp,hp,rfl,rfl,hf,hnp,hpg,hcl,hpl,hM⟩:=hrel;have q9:decide ((n:Int)<=(s.size:Int))=true:=by simp;omega
   have L8:=hid hpg;have HM:=hid hM;have HS0:Hid (∃ q:Nat,p<=q/\q<=s.size/\Value.int .i64 (p:Int)=.int .i64 q/\cu (aP s q)=cu (aP s p)/\(q=p\/(aP s p).head?=some 32)):=⟨p,jK8 _,hp,rfl,rfl,.inl rfl⟩;clear hpg hM;go_wp2
   go_loop [10] (fun vq=>∃ q:Nat,p<=q/\q<=s.size/\vq=.int .i64 q/\cu (aP s q)=cu (aP s p)/\(q=p\/(aP s p).head?=some 32)) (fun vq=>s.size-(intOf vq).toNat)
   case atStart=>exact HS0.out
   case round=>
    clear HS0;obtain ⟨q,hpq,hq,rfl,hsk,hhd⟩:=hrel;have Sq:=hid hsk;have HHD:=hid hhd;clear hsk hhd;by_cases hlt:q<s.size
    ·have hcn:=Dc s q hlt;have g1:decide ((s.size:Int)<=(q:Int))=false:=by simp;omega
     by_cases h32:s[q]=32
     ·have q1:((s[q].toNat:Int)==32)=true:=by rw [h32];rfl
      have juj:Hid (cu (aP s (q+1))=cu (aP s p)):=by show _=_;rw [<- Sq.out,hcn];unfold cu;rw [List.dropWhile_cons_of_pos (by rw [h32];rfl)]
      have juk:Hid ((aP s p).head?=some 32):=by
       rcases HHD.out with h | h
       ·show _=_;rw [<- h,hcn,h32];rfl
       ·exact h
      clear hcn h32;go_wp2
      go_round
      case rel=>exact ⟨q+1,by omega,by omega,by go_num,juj.out,.inr juk.out⟩
      case measure=>simp [intOf];omega
     ·have q1:((s[q].toNat:Int)==32)=false:=by
       rw [beq_eq_false_iff_ne];intro e;exact h32 (by rw [<- UInt8.toNat_inj];show _=32;omega)
      have hF:aP s q=cu (aP s p):=by rw [<- Sq.out,hcn];unfold cu;rw [List.dropWhile_cons_of_neg (by unfold eZ;simp [h32])]
      have hPQ:xV f a (decide (n=0)||decide ((aP s p).head?=some 32)) (aP s q)=R:=by rw [hF];exact L8.out
      have hsep:(decide ((aP s p).head?=some 32))=decide (q≠p):=by
       rcases HHD.out with h | h
       ·subst h;rw [hcn,List.head?_cons];simp [h32]
       ·rw [h];have:q≠p:=by
         rintro rfl;rw [hcn,List.head?_cons] at h;exact h32 (jL0 h)
        simp [this]
      rw [hsep] at hPQ;have HPQ:=hid hPQ;obtain ⟨⟨xa,xn,xk,rfl⟩,ya,yn,yk,rfl⟩:=HM.out.sl;have r0:=HM.out.res.cell 0 _ rfl;have r1:=HM.out.res.cell 1 _ rfl;have r2:=HM.out.res.cell 2 _ rfl;have f0:=HM.out.res.free 0;have f1:=HM.out.res.free 1;have f2:=HM.out.res.free 2;have p0:=HM.out.at_.cell 0 _ rfl
      have p1:=HM.out.at_.cell 1 _ rfl
      have p2:=HM.out.at_.cell 2 _ rfl
      have l0:=HM.out.at_.free 0
      have l1:=HM.out.at_.free 1
      have l2:=HM.out.at_.free 2
      have FB:=hid (fun x y z=>L9 (p:=w.heap.size) HM.out.aY (jK8 _) x y z);by_cases mX:s[q]=125
      ·have e2:((s[q].toNat:Int)==125)=true:=by rw [mX];rfl
       have HV:Hid (R=some (a,aP s (q+1))):=by show R=_;rw [<- HPQ.out,hcn,mX,uT _ _ _ _ (by omega)]
       clear hcn mX h32 hF hPQ hsep;go_wp2;exact bodyPost_ret (v:=.tuple #[.agg #[.string a.id,.slice xa xn xk,.slice ya yn yk],.int .i64 ((q:Int)+1),.int .i64 0]) (by simp [results,results245,go_sem,r0,r1,r2]) rfl ⟨_,_,_,_,_,_,_,_,_,rfl,FB.out _ _ _,.inl ⟨rfl,a,q+1,by omega,by simp,Qn.out.symm.trans HV.out⟩⟩
      ·have e2:((s[q].toNat:Int)==125)=false:=by
        rw [beq_eq_false_iff_ne];intro e;exact mX (by rw [<- UInt8.toNat_inj];show _=125;omega)
       by_cases hbad:0<n/\q=p
       ·have e3:decide ((0:Int)<(n:Int))=true:=by simp;omega
        have e4:((q:Int)==(p:Int))=true:=by rw [beq_iff_eq];omega
        have e3n:decide (0<n)=true:=by simp;omega
        have e4n:(q==p)=true:=by rw [beq_iff_eq];omega
        have HV:Hid (R=none):=by
         show R=_;have h1:(decide (n=0)||decide (q≠p))=false:=by rw [decide_eq_false (by omega),decide_eq_false (by omega)];rfl
         have:=HPQ.out;rw [h1,hcn,uU _ _ _ _ (by omega) mX] at this;exact this.symm
        clear hcn mX h32 hF hPQ hsep hbad;exact jmj
       ·have h1:(decide (n=0)||decide (q≠p))=true:=by
         by_cases hn:n=0
         ·rw [decide_eq_true hn];rfl
         ·rw [decide_eq_false hn,Bool.false_or,decide_eq_true_eq];intro e;exact hbad ⟨by omega,e⟩
        have ou:Hid (xV f a true (aP s q)=R):=by show _=_;rw [<- h1];exact HPQ.out
        have e34:(decide ((0:Int)<(n:Int))=false/\decide (0<n)=false)\/(decide ((0:Int)<(n:Int))=true/\decide (0<n)=true/\((q:Int)==(p:Int))=false/\(q==p)=false):=by
         by_cases hn:n=0
         ·left;exact ⟨by simp;omega,by simp;omega⟩
         ·right;exact ⟨by simp;omega,by simp;omega,by rw [beq_eq_false_iff_ne];intro e;exact hbad ⟨by omega,by omega⟩,by rw [beq_eq_false_iff_ne];intro e;exact hbad ⟨by omega,e⟩⟩
        have IT:=hid (Sv (w.heap.size+2) a s q _ _ wr HM.out.av hcl hpl hs hlt);have jB8:Hid (s[q]≠125):=mX;clear hcn mX h32 hF hPQ hsep hbad h1 FB HPQ;rcases e34 with ⟨e3,e3n⟩ | ⟨e3,e3n,e4,e4n⟩
        all_goals
         go_wp2_with fail
         refine IT.out.mono ?_;rintro e w1 ⟨x,J8,J9,t,m,rfl,hb1,hk1,hsl,hres⟩;obtain ⟨⟨xa',xn',xk',rfl⟩,ya',yn',yk',rfl⟩:=hsl;have j2:=hk1.2 _ _ HM.out.res;have j1:=hk1.2 _ _ HM.out.at_
         have hBW:jNj w.heap.size w w1:=HM.out.aY.trans (hb1.mono (by omega));have hz1:w.heap.size+2<=w1.heap.size:=jK9 HM.out.av.le hk1.1;have ji:=hid hres;clear r0 r1 r2 f0 f1 f2 p0 p1 p2 l0 l1 l2 hres hb1 hk1;refine Qp ?_;intro r0 r1 r2 f0 f1 f2;have l0:=j1.free 0;have l1:=j1.free 1;have l2:=j1.free 2;have p0:=j1.cell 0 _ rfl;have p1:=j1.cell 1 _ rfl;have p2:=j1.cell 2 _ rfl;have J1:=hid j1;have J2:=hid j2;have Kw:=hid hBW;have Sw:=hid ((L9 (p:=w.heap.size) hBW (jK8 _) (.string ⟨#[]⟩) (.slice none 0 0) (.slice none 0 0)).alloc (by simp [jk,jM1];omega) (.cells #[.string x,.slice xa' xn' xk',.slice ya' yn' yk'] 45));clear j1 j2 hBW;have hlt3:w.heap.size+1<w1.heap.size:=by omega
         have jG0:w.heap.size<w1.heap.size:=by omega
         by_cases hm:m=0
         ·subst hm;obtain ⟨a',q2,hq2,rfl,HI,rfl,hc2,hp2,HA2⟩:∃ (a':At) (q2:Nat),q2<=s.size/\t=q2/\Hid (kW a (aP s q)=some (a',aP s q2))/\a'.id=x/\a'.cls.length<=32/\a'.aD.length<=32/\Hid (wT (w.heap.size+2) a' (.slice xa' xn' xk') (.slice ya' yn' yk') w1):=by
           rcases ji.out with ⟨_,h⟩ | ⟨h,_⟩
           ·exact h
           ·exact absurd rfl h
          have hqq:=FI a a' s q q2 hlt hq2 HI.out;have jux:Hid (xV (f-1) a' (decide (n+1=0)||decide ((aP s q2).head?=some 32)) (cu (aP s q2))=R):=by show _=_;rw [decide_eq_false (by omega),Bool.false_or,<- ou.out,Dc s q hlt];refine (yg f a a' _ _ _ (by omega) jB8.out ?_).symm;rw [<- Dc s q hlt];exact HI.out
          have HMF:Hid (Pm3 w a' (.slice xa' xn' xk') (.slice ya' yn' yk') ((jk w1 (w.heap.size+1) (.string a'.id) (.slice xa' xn' xk') (.slice ya' yn' yk')).alloc (.cells #[.string a'.id,.slice xa' xn' xk',.slice ya' yn' yk'] 45))):=by refine ⟨(((J2.out.far (by omega) 0 _).far (by omega) 1 _).far (by omega) 2 _).alloc _,(((J1.out.set 0 _).set 1 _).set 2 _).alloc _,?_,⟨⟨_,_,_,rfl⟩,_,_,_,rfl⟩,(L9 (p:=w.heap.size+1) Kw.out (by omega) _ _ _).alloc (by simp [jk,jM1];omega) _⟩;exact (HA2.out.jk J1.out _ _ _).below ((jK7 _ _).alloc (jK8 _) _)
          clear ji Sw HI ou HM Kw;go_wp2;go_roundw;case rel=>exact ⟨f-1,a',q2,n+1,_,_,hq2,rfl,by go_num,by omega,by omega,jux.out,hc2,hp2,HMF.out⟩
          case measure=>simp [intOf];omega
         ·have e5:(m != 0)=true:=by rw [bne_iff_ne];exact hm
          have HV:Hid (R=none):=by
           show R=_;rcases ji.out with ⟨h,_⟩ | ⟨_,h⟩
           ·exact absurd h hm
           ·rw [<- ou.out,Dc s q hlt];exact Ct f a _ _ (by omega) jB8.out (by rw [<- Dc s q hlt];exact h)
          clear ji ou HM Kw;go_wp2;exact bodyPost_ret (v:=.tuple #[.agg #[.string ⟨#[]⟩,.slice none 0 0,.slice none 0 0],.int .i64 0,.int .i64 m]) (by simp [results,results245,go_sem,r0,r1,r2,jG0]) rfl ⟨_,_,_,_,_,_,_,_,_,rfl,Sw.out,.inr ⟨hm,Qn.out.symm.trans HV.out⟩⟩
    ·have g1:decide ((s.size:Int)<=(q:Int))=true:=by simp;omega
     have HV:Hid (R=none):=by
      show R=_;have h1:cu (aP s p)=[]:=by rw [<- Sq.out,JZ s q (by omega)];rfl
      have:=L8.out;rw [h1,Cr _ _ _ (by omega)] at this;exact this.symm
     have r0:=HM.out.res.cell 0 _ rfl;have r1:=HM.out.res.cell 1 _ rfl;have r2:=HM.out.res.cell 2 _ rfl;have f0:=HM.out.res.free 0;have f1:=HM.out.res.free 1;have f2:=HM.out.res.free 2;have FB:=hid (fun x y z=>L9 (p:=w.heap.size) HM.out.aY (jK8 _) x y z);exact jmj
end Go.Proofs.YtkfnkeflalcphaaGreatDoor

