/- Contracts of attr.Parse$1 (spaces) and attr.Parse$2 (an item). The contract of attr.Parse. -/
import Derived.Test.YtdneicipdlofiaaGreatDoorKPaE
import Derived.Test.YtdneicipdlofiaaGreatDoorKInlines
set_option maxHeartbeats 4000000
set_option maxRecDepth 100000
open Go.Lib (hid)
namespace Go.Proofs.YtdneicipdlofiaaGreatDoor
open Option.some renaming inj->jp7
open Go.World renaming size_alloc->jpq
open Go renaming World->js1
open Go.RowKit
set_option linter.unusedVariables false
set_option linter.unusedSimpArgs false
structure K1 (c:Nat) (w w':js1):Prop where
 os:w'.os=w.os
 tape:w'.tape=w.tape
 output:w'.output=w.output
 size:w'.heap.size=w.heap.size
 block:∀ k,k≠c->w'.heap[k]?=w.heap[k]?
theorem K1.refl (c:Nat) (w:js1):K1 c w w:=⟨rfl,rfl,rfl,rfl,fun _ _=>rfl⟩
theorem K1.set {c:Nat} {w w1:js1} (h:K1 c w w1) (j:Nat) (u:Value):K1 c w (w1.setCell ⟨c,j,none⟩ u):=
 ⟨h.os,h.tape,h.output,by simpa [World.setCell] using h.size,fun k hk=>(Below.heap_setCell w1 ⟨c,j,none⟩ u k hk).trans (h.block k hk)⟩
def Ye (s:ByteArray) (i c:Nat) (w:js1) (e:Ending) (w':js1):Prop:=
 ∃ q:Nat,i<=q/\q<=s.size/\bB s q=iw (bB s i)/\e=.returned (.bool (decide ((bB s i).head?=some 32)))/\aH c (.int .i64 q) 3 w'/\K1 c w w'
def VG (s:ByteArray) (i c:Nat) (w wr:js1):Prop:=
 ∃ q:Nat,i<=q/\q<=s.size/\iw (bB s q)=iw (bB s i)/\(q=i\/(bB s i).head?=some 32)/\aH c (.int .i64 q) 3 wr/\K1 c w wr
def Bh (w:js1) (c:Nat):Nat:=match w.cell? ⟨c,0,none⟩ with
 | some v=>(intOf v).toNat
 | none=>0
theorem nV {w:js1} {c q:Nat} {t:TypeId} (h:aH c (.int .i64 q) t w):Bh w c=q:=by unfold Bh;rw [h.cell];simp [intOf]
theorem xU (s:ByteArray) (i c sb:Nat) (w:js1) (hs:s.size<=100000) (hi:i<=s.size) (hc:aH c (.int .i64 i) 3 w) (hb:aH sb (.string s) 9 w) (hne:sb≠c) : Calls Tryz.prog 296 #[.pointer (some ⟨c,0,none⟩),.pointer (some ⟨sb,0,none⟩)] w (Ye s i c w):=by
 have p0:=hc.cell;have R0:Hid (VG s i c w w):=⟨i,Nat.le_refl _,hi,rfl,.inl rfl,hc,K1.refl _ _⟩;have HB:=hid hb;clear hc hb;go_enter Tryz.func296,Tryz.ntmps296;go_wp2;clear p0
 go_loopw [] (fun wr=>VG s i c w wr) (fun wr=>s.size-Bh wr c)
 case atStart=>exact R0.out
 case round=>
  clear R0;obtain ⟨q,hq1,hq2,hsk,hhd,hbx,hk⟩:=hrel;have c0:=hbx.cell;have f0:=hbx.free;have s0:wr.cell? ⟨sb,0,none⟩=some (.string s):=by have:aH sb (.string s) 9 wr:=(hk.block sb hne).trans HB.out;exact this.cell
  have vv:=hid hbx;have HK:=hid hk;have HSK:=hid hsk;have HHD:=hid hhd;clear hbx hk hsk hhd;by_cases hlt:q<s.size
  ·have hcn:=fG s q hlt;by_cases h32:s[q]=32
   ·have q1:((s[q].toNat:Int)==32)=true:=by rw [h32];rfl
    have jk7:Hid (iw (bB s (q+1))=iw (bB s i)):=by show _=_;rw [<- HSK.out,hcn];unfold iw;rw [List.dropWhile_cons_of_pos (by rw [h32];rfl)]
    have jk8:Hid ((bB s i).head?=some 32):=by
     rcases HHD.out with h | h
     ·show _=_;rw [<- h,hcn,h32];rfl
     ·exact h
    have jek:=hid (vv.out.set (.int .i64 ((q+1:Nat):Int)));clear hcn h32;go_wp2;go_roundw;case rel=>exact ⟨q+1,by omega,by omega,jk7.out,.inr jk8.out,jek.out,HK.out.set 0 _⟩
    case measure=>
     have e1:=nV vv.out;have e2:=nV jek.out;show s.size-Bh (wr.setCell ⟨c,0,none⟩ (.int .i64 ((q+1:Nat):Int))) c<s.size-Bh wr c;rw [e1,e2];omega
   ·have q1:((s[q].toNat:Int)==32)=false:=by
     rw [beq_eq_false_iff_ne];intro e;exact h32 (by rw [<- UInt8.toNat_inj];show _=32;omega)
    have HF:Hid (bB s q=iw (bB s i)):=by show _=_;rw [<- HSK.out,hcn];unfold iw;rw [List.dropWhile_cons_of_neg (by unfold isSp;simp [h32])]
    have HV:Hid (decide (i<q)=decide ((bB s i).head?=some 32)):=by
     show _=_;rcases HHD.out with h | h
     ·subst h;rw [hcn,List.head?_cons];simp [h32]
     ·rw [h];have:i≠q:=by
       rintro rfl;rw [hcn,List.head?_cons] at h;exact h32 (jp7 h)
      simp;omega
    clear hcn h32;go_wp2;go_ret;exact ⟨q,hq1,hq2,HF.out,by rw [<- HV.out];rfl,vv.out,HK.out⟩
  ·have HF:Hid (bB s q=iw (bB s i)):=by
    show _=_;rw [<- HSK.out,gN s q (by omega)];rfl
   have HV:Hid (decide (i<q)=decide ((bB s i).head?=some 32)):=by
    show _=_;rcases HHD.out with h | h
    ·subst h;rw [gN s q (by omega)];simp
    ·rw [h];have:i≠q:=by
      rintro rfl;rw [gN s i (by omega)] at h;simp at h
     simp;omega
   go_wp2;go_ret;exact ⟨q,hq1,hq2,HF.out,by rw [<- HV.out];rfl,vv.out,HK.out⟩
structure Ky (B b c:Nat) (w w':js1):Prop where
 os:w'.os=w.os
 tape:w'.tape=w.tape
 output:w'.output=w.output
 size:w.heap.size<=w'.heap.size
 block:∀ k,k<B->k≠b->k≠c->w'.heap[k]?=w.heap[k]?
section
variable {B b c:Nat} {w w1 w2:js1}
theorem Ky.trans (h:Ky B b c w w1) (k:Ky B b c w1 w2):Ky B b c w w2:=
 ⟨k.os.trans h.os,k.tape.trans h.tape,k.output.trans h.output,Nat.le_trans h.size k.size,fun i h1 h2 h3=>(k.block i h1 h2 h3).trans (h.block i h1 h2 h3)⟩
theorem Ky.ofx (h:Kx B b w w1):Ky B b c w w1:=⟨h.os,h.tape,h.output,h.size,fun k h1 h2 _=>h.block k h1 h2⟩
theorem Ky.of1 (h:K1 c w w1):Ky B b c w w1:=⟨h.os,h.tape,h.output,Nat.le_of_eq h.size.symm,fun k _ _ h2=>h.block k h2⟩
end
theorem pR.k1 {B b c:Nat} {a:At} {vc vp:Value} {w w1:js1} (h:pR B b a vc vp w) (hk:K1 c w w1) (hcb:c≠b) (hcB:c<B):pR B b a vc vp w1:=by
 refine ⟨(hk.block b (Ne.symm hcb)).trans h.ab,?_,?_,h.lt,by rw [hk.size];exact h.le⟩
 ·have hg:w.grownBy w1 (some c):=⟨hk.os,hk.tape,hk.output,Nat.le_of_eq hk.size.symm,fun k _ hne=>hk.block k (fun e=>hne (by rw [e]))⟩;refine h.cls.kept hg ?_;cases hv:vc.ownBlock with
  | none=>exact .inl rfl
  | some g=>right;intro e;have:=(h.cls.lt g hv).1;have:=jp7 e;omega
 ·have hg:w.grownBy w1 (some c):=⟨hk.os,hk.tape,hk.output,Nat.le_of_eq hk.size.symm,fun k _ hne=>hk.block k (fun e=>hne (by rw [e]))⟩;refine h.aJ.kept hg ?_;cases hv:vp.ownBlock with
  | none=>exact .inl rfl
  | some g=>right;intro e;have:=(h.aJ.lt g hv).1;have:=jp7 e;omega
def Yf (B b c:Nat) (a:At) (s:ByteArray) (i:Nat) (w:js1) (e:Ending) (w':js1):Prop:=
 ∃ n:Int,e=.returned (.int .i64 n)/\Ky B b c w w' /\
  ((n=0/\∃ (a':At) (q:Nat),q<=s.size/\bU a (bB s i)=some (a',bB s q)/\a'.cls.length<=32/\a'.aJ.length<=32/\aH c (.int .i64 q) 3 w'/\∃ vc vp,pR B b a' vc vp w')\/(n≠0/\bU a (bB s i)=none))
theorem zI (B b c sb:Nat) (a:At) (s:ByteArray) (i:Nat) (vc vp:Value) (w:js1) (h:pR B b a vc vp w) (hl:a.cls.length<=32) (hp:a.aJ.length<=32) (hs:s.size<=100000) (hi:i<s.size) (hbx:aH c (.int .i64 i) 3 w) (hbs:aH sb (.string s) 9 w) (hcB:c<B) (hcb:c≠b) : Calls Tryz.prog 297 #[.pointer (some ⟨b,0,none⟩),.pointer (some ⟨sb,0,none⟩),.pointer (some ⟨c,0,none⟩)] w (Yf B b c a s i w):=by
 have RI:=hid (Dh B b a s i vc vp w h hl hp hs hi);have c0:=hbx.cell;have s0:=hbs.cell;have vv:=hid hbx;clear h hbx hbs;go_enter Tryz.func297,Tryz.ntmps297;go_wp2_with fail
 refine RI.out.mono ?_;rintro e w1 ⟨t,n,rfl,hk,hres⟩;have hb1:aH c (.int .i64 i) 3 w1:=(hk.block c hcB hcb).trans vv.out;have f1:=hb1.free;have c1:=hb1.cell;have HB1:=hid hb1;have HK:=hid hk;have gy:=hid hres;clear c0 s0 hk hres hb1;go_wp2;go_ret;have hk1:K1 c w1 (w1.setCell ⟨c,0,none⟩ (.int .i64 t)):=(K1.refl c w1).set 0 _;refine ⟨n,rfl,(Ky.ofx HK.out).trans (Ky.of1 hk1),?_⟩;rcases gy.out with ⟨h1,a',q,h2,rfl,h4,h5,h6,Rh,bS,h7⟩ | h1
 ·exact .inl ⟨h1,a',q,h2,h4,h5,h6,HB1.out.set _,Rh,bS,h7.k1 hk1 hcb hcB⟩
 ·exact .inr h1
open Go.RowKit
def Qd (s:ByteArray) (i0:Nat) (w:js1) (e:Ending) (w':js1):Prop:=
 ∃ (x:ByteArray) (a1:Option Addr) (n1 c1:Nat) (a2:Option Addr) (n2 c2:Nat) (t n:Int),e=.returned (.tuple #[.agg #[.string x,.slice a1 n1 c1,.slice a2 n2 c2],.int .i64 t,.int .i64 n])/\Below w.heap.size w w' /\
  ((n=0/\∃ (a':At) (q:Nat),q<=s.size/\t=q/\Di (bB s i0)=some (a',bB s q))\/(n≠0/\Di (bB s i0)=none))
structure uw (s:ByteArray) (w:js1) (a:At) (i:Nat) (vc vp:Value) (wr:js1):Prop where
 str:aH w.heap.size (.string s) 9 wr
 res:AB (w.heap.size+1) [.string ⟨#[]⟩,.slice none 0 0,.slice none 0 0] wr
 at_:pR (w.heap.size+4) (w.heap.size+2) a vc vp wr
 pos:aH (w.heap.size+3) (.int .i64 i) 3 wr
 gH:Below w.heap.size w wr
def VH (s:ByteArray) (R:Option (At × List UInt8)) (w:js1) (v:Value) (wr:js1):Prop:=
 ∃ (f:Nat) (a:At) (sep:Bool) (i:Nat) (vc vp:Value),i<=s.size/\v=.bool sep/\s.size-i+1<=f/\yR f a sep (bB s i)=R/\a.cls.length<=32/\a.aJ.length<=32/\uw s w a i vc vp wr
section
variable {s:ByteArray} {w wr w1:js1} {a a':At} {i q:Nat} {vc vp Rh bS:Value}
theorem uw.k1 (h:uw s w a i vc vp wr) (hk:K1 (w.heap.size+3) wr w1) (hb:aH (w.heap.size+3) (.int .i64 q) 3 w1):uw s w a q vc vp w1:=
 ⟨(hk.block _ (by omega)).trans h.str,(hk.block _ (by omega)).trans h.res,h.at_.k1 hk (by omega) (by omega),hb,
  ⟨hk.os.trans h.gH.os,hk.tape.trans h.gH.tape,hk.output.trans h.gH.output,by rw [hk.size];exact h.gH.size,fun k hk2=>(hk.block k (by omega)).trans (h.gH.block k hk2)⟩⟩
theorem uw.ky (h:uw s w a i vc vp wr) (hk:Ky (w.heap.size+4) (w.heap.size+2) (w.heap.size+3) wr w1) (hb:aH (w.heap.size+3) (.int .i64 q) 3 w1) (ha:pR (w.heap.size+4) (w.heap.size+2) a' Rh bS w1):uw s w a' q Rh bS w1:=
 ⟨(hk.block _ (by omega) (by omega) (by omega)).trans h.str,(hk.block _ (by omega) (by omega) (by omega)).trans h.res,ha,hb,
  ⟨hk.os.trans h.gH.os,hk.tape.trans h.gH.tape,hk.output.trans h.gH.output,Nat.le_trans h.gH.size hk.size,fun k hk2=>(hk.block k (by omega) (by omega) (by omega)).trans (h.gH.block k hk2)⟩⟩
end
theorem IJ (f:Nat) (a:At) (sep:Bool) (h:1<=f):yR f a sep []=none:=by obtain ⟨g,rfl⟩:∃ g,f=g+1:=⟨f-1,by omega⟩;rw [yR,if_neg (by simp),if_pos (.inl rfl)]
theorem Dj (f:Nat) (a:At) (sep:Bool) (r:List UInt8) (h:1<=f):yR f a sep (125::r)=some (a,r):=by obtain ⟨g,rfl⟩:∃ g,f=g+1:=⟨f-1,by omega⟩;rw [yR,List.head?_cons,if_pos rfl];rfl
theorem Dk (f:Nat) (a:At) (c:UInt8) (r:List UInt8) (h:1<=f) (hc:c≠125):yR f a false (c::r)=none:=by obtain ⟨g,rfl⟩:∃ g,f=g+1:=⟨f-1,by omega⟩;rw [yR,List.head?_cons,if_neg (fun e=>hc (jp7 e)),if_pos (.inr rfl)]
theorem IL (f:Nat) (a:At) (c:UInt8) (r:List UInt8) (h:1<=f) (hc:c≠125) (hi:bU a (c::r)=none):yR f a true (c::r)=none:=by obtain ⟨g,rfl⟩:∃ g,f=g+1:=⟨f-1,by omega⟩;rw [yR,List.head?_cons,if_neg (fun e=>hc (jp7 e)),if_neg (by simp),hi]
theorem FP (f:Nat) (a a':At) (c:UInt8) (r l':List UInt8) (h:1<=f) (hc:c≠125) (hi:bU a (c::r)=some (a',l')):yR f a true (c::r)=yR (f-1) a' (decide (l'.head?=some 32)) (iw l'):=by obtain ⟨g,rfl⟩:∃ g,f=g+1:=⟨f-1,by omega⟩;rw [yR,List.head?_cons,if_neg (fun e=>hc (jp7 e)),if_neg (by simp),hi];rfl
theorem AB.made (w:js1) (cs:List Value):AB w.heap.size cs (w.alloc (.cells cs.toArray 37)):=heap_alloc_new w _
theorem AB.alloc {p:Nat} {cs:List Value} {w:js1} (h:AB p cs w) (o:Obj):AB p cs (w.alloc o):=(Below.heap_alloc w o p h.lt).trans h
theorem sW (l:List UInt8):(iw l).length<=l.length:=(List.dropWhile_sublist _).length_le
theorem Mk (a a':At) (s:ByteArray) (i q:Nat) (hi:i<s.size) (hq:q<=s.size) (h:bU a (bB s i)=some (a',bB s q)):i<q:=by obtain ⟨p,h1,h2,_⟩:=Bj a a' _ _ h;have e:=congrArg List.length h1;rw [List.length_append,lN,lN] at e;have:=List.length_pos_iff.2 h2;omega
theorem Ml (s:ByteArray) (i0:Nat) (w:js1) (hs:s.size<=100000) (hi0:i0<=s.size) : Calls Tryz.prog 270 #[.string s,.int .i64 i0] w (Qd s i0 w):=by
 have hmf:∀ (fn:Fn) (first cap:Array Value) (w:js1),(Instr.makeFunc fn first cap).run Tryz.prog w=.ok (.func fn first cap) w:=fun _ _ _ _=>rfl
 by_cases Mq:i0<s.size/\bt s i0=123;case neg=>
  have HIT:Hid (Di (bB s i0)=none):=by
   show _=_;unfold Di;rw [if_neg];intro h;rcases Nat.lt_or_ge i0 s.size with h1 | h1
   ·rw [rD s i0 h1] at h;have h2:s[i0]=123:=jp7 h;exact Mq ⟨h1,by rw [<- bN s i0 h1,h2];rfl⟩
   ·rw [gN s i0 h1] at h;cases h
  have hc:(s.size<=i0)\/(i0<s.size/\bt s i0≠123):=by omega
  have HB:Hid (Below w.heap.size w ((w.alloc (.cells #[.string s] 9)).alloc (.cells #[.string ⟨#[]⟩,.slice none 0 0,.slice none 0 0] 37))):=((Below.refl _ _).alloc (Nat.le_refl _) _).alloc (by simp) _;obtain ⟨w1,hw1⟩:∃ w1,w1=(w.alloc (.cells #[.string s] 9)).alloc (.cells #[.string ⟨#[]⟩,.slice none 0 0,.slice none 0 0] 37):=⟨_,rfl⟩;rw [<- hw1] at HB;have hab:AB (w.heap.size+1) [.string ⟨#[]⟩,.slice none 0 0,.slice none 0 0] w1:=by
   rw [hw1];have:=AB.made (w.alloc (.cells #[.string s] 9)) [.string ⟨#[]⟩,.slice none 0 0,.slice none 0 0]
   rwa [jpq] at this
  have r0:=hab.cell 0 _ rfl;have r1:=hab.cell 1 _ rfl;have r2:=hab.cell 2 _ rfl;have HW:=hid hw1;have R0:=hid r0;have R1:=hid r1;have R2:=hid r2;clear Mq hw1 r0 r1 r2 hab;rcases hc with hc | ⟨hc,hb⟩
  ·have q1:decide ((s.size:Int)<=(i0:Int))=true:=by simp;omega
   go_enter Tryz.func270,Tryz.ntmps270;go_wp2;rw [<- HW.out];exact bodyPost_ret (v:=.tuple #[.agg #[.string ⟨#[]⟩,.slice none 0 0,.slice none 0 0],.int .i64 0,.int .i64 5]) (by simp [results,Tryz.results270,go_sem,R0.out,R1.out,R2.out]) rfl ⟨_,_,_,_,_,_,_,_,_,rfl,HB.out,.inr ⟨by decide,HIT.out⟩⟩
  ·have q1:decide ((s.size:Int)<=(i0:Int))=false:=by simp;omega
   have q2:((s[i0].toNat:Int) != 123)=true:=by rw [bN s i0 hc,bne_iff_ne];omega
   go_enter Tryz.func270,Tryz.ntmps270;go_wp2;rw [<- HW.out];exact bodyPost_ret (v:=.tuple #[.agg #[.string ⟨#[]⟩,.slice none 0 0,.slice none 0 0],.int .i64 0,.int .i64 5]) (by simp [results,Tryz.results270,go_sem,R0.out,R1.out,R2.out]) rfl ⟨_,_,_,_,_,_,_,_,_,rfl,HB.out,.inr ⟨by decide,HIT.out⟩⟩
 case pos=>
  obtain ⟨IE,hb0⟩:=Mq;have FL:=fG s i0 IE;have Mq:s[i0]=123:=by rw [<- UInt8.toNat_inj,bN s i0 IE];exact hb0
  obtain ⟨R,hR⟩:∃ R,R=Di (bB s i0):=⟨_,rfl⟩;have HRE:=hid hR;have HR0:Hid (yR (s.size-i0) ⟨bR [],[],[]⟩ true (iw (bB s (i0+1)))=R):=by show _=_;rw [hR];unfold Di;rw [<- lN,FL,Mq];rfl
  have q1:decide ((s.size:Int)<=(i0:Int))=false:=by simp;omega
  have q2:((s[i0].toNat:Int) != 123)=false:=by rw [bN s i0 IE,hb0];rfl
  obtain ⟨w4,hw4⟩:∃ w4,w4=(((w.alloc (.cells #[.string s] 9)).alloc (.cells #[.string ⟨#[]⟩,.slice none 0 0,.slice none 0 0] 37)).alloc (.cells #[.string ⟨#[]⟩,.slice none 0 0,.slice none 0 0] 37)).alloc (.cells #[.int .i64 ((i0:Int)+1)] 3):=⟨_,rfl⟩;have M0:uw s w ⟨⟨#[]⟩,[],[]⟩ (i0+1) (.slice none 0 0) (.slice none 0 0) w4:=by
   rw [hw4];refine ⟨?_,?_,⟨?_,Nv _ _ _ _,Nv _ _ _ _,by omega,?_⟩,?_,?_⟩
   ·exact (((aH.new w _ _).alloc _).alloc _).alloc _
   ·have:=AB.made (w.alloc (.cells #[.string s] 9)) [.string ⟨#[]⟩,.slice none 0 0,.slice none 0 0];rw [jpq] at this;exact (this.alloc _).alloc _
   ·have:=AB.made ((w.alloc (.cells #[.string s] 9)).alloc (.cells #[.string ⟨#[]⟩,.slice none 0 0,.slice none 0 0] 37)) [.string ⟨#[]⟩,.slice none 0 0,.slice none 0 0];rw [jpq,jpq] at this;exact this.alloc _
   ·simp only [jpq];omega
   ·have:=aH.new (((w.alloc (.cells #[.string s] 9)).alloc (.cells #[.string ⟨#[]⟩,.slice none 0 0,.slice none 0 0] 37)).alloc (.cells #[.string ⟨#[]⟩,.slice none 0 0,.slice none 0 0] 37)) (.int .i64 ((i0:Int)+1)) 3;simp only [jpq] at this;exact this
   ·exact (((Below.refl _ _).alloc (Nat.le_refl _) _).alloc (by simp) _ |>.alloc (by simp only [jpq];omega) _).alloc (by simp only [jpq];omega) _
  have SP:=hid (xU s (i0+1) (w.heap.size+3) w.heap.size w4 hs (by omega) M0.pos M0.str (by omega));have M0:=hid M0;clear FL Mq hR hb0;go_enter Tryz.func270,Tryz.ntmps270;go_wp2_with fail
  rw [<- hw4];clear hw4;have e0:decide ((i0:Int)<0)=false:=by simp
  have e1:decide (s.size<=i0)=false:=by simp;omega
  simp only [e0,e1,Bool.or_false,show w.heap.size+1+1=w.heap.size+2 from rfl,show w.heap.size+2+1=w.heap.size+3 from rfl];clear e0 e1 q1 q2;refine SP.out.mono ?_;rintro e w5 ⟨q,h1,h2,h3,rfl,h5,h6⟩;have M5:=M0.out.k1 h6 h5;have RL:Hid (VH s R w (.bool true) w5):=by refine ⟨s.size-i0,_,true,q,_,_,h2,rfl,by omega,?_,by simp,by simp,M5⟩;rw [h3];exact HR0.out
  clear M5 h1 h2 h3 h5 h6 SP M0 HR0;go_wp2
  go_loopw [11] (fun v wr=>VH s R w v wr) (fun _ wr=>s.size-Bh wr (w.heap.size+3))
  case atStart=>exact RL.out
  case round=>
   clear RL;obtain ⟨f,a,sep,i,vc,vp,hi,rfl,hf,hpg,hcl,hpl,hM⟩:=hrel;have ps:=hM.str.cell;have pc:=hM.pos.cell;have r0:=hM.res.cell 0 _ rfl;have r1:=hM.res.cell 1 _ rfl;have r2:=hM.res.cell 2 _ rfl;have g0:=hM.res.free 0;have g1:=hM.res.free 1;have g2:=hM.res.free 2;have FB:Hid (∀ u0 u1 u2,Below w.heap.size w (((wr.setCell ⟨w.heap.size+1,0,none⟩ u0).setCell ⟨w.heap.size+1,1,none⟩ u1).setCell ⟨w.heap.size+1,2,none⟩ u2)):=fun u0 u1 u2=>((hM.gH.setCell (p:=⟨w.heap.size+1,0,none⟩) (by simp) _).setCell (p:=⟨w.heap.size+1,1,none⟩) (by simp) _).setCell (p:=⟨w.heap.size+1,2,none⟩) (by simp) _
   have HM:=hid hM;have HP:=hid hM.pos;have Ri:=hid hpg;clear hM hpg;by_cases hlt:i<s.size
   ·have hcn:=fG s i hlt;have e1:decide ((s.size:Int)<=(i:Int))=false:=by simp;omega
    by_cases zJ:s[i]=125
    ·have e2:((s[i].toNat:Int)==125)=true:=by rw [zJ];rfl
     have HV:Hid (R=some (a,bB s (i+1))):=by show R=_;rw [<- Ri.out,hcn,zJ,Dj _ _ _ _ (by omega)]
     obtain ⟨xa,xc,rfl⟩:=q01 HM.out.at_.cls
     obtain ⟨ya,yc,rfl⟩:=q01 HM.out.at_.aJ
     obtain ⟨a0,a1,a2⟩:=HM.out.at_.at3
     clear hcn zJ Ri;go_upto_region 12 with (fail)
     go_region
     all_goals
      go_wp2;exact bodyPost_ret (v:=.tuple #[.agg #[.string a.id,.slice xa a.cls.length xc,.slice ya a.aJ.length yc],.int .i64 ((i:Int)+1),.int .i64 0]) (by simp [results,Tryz.results270,go_sem,r0,r1,r2]) rfl ⟨_,_,_,_,_,_,_,_,_,rfl,⟨(FB.out (.string a.id) (.slice xa a.cls.length xc) (.slice ya a.aJ.length yc)).os,(FB.out (.string a.id) (.slice xa a.cls.length xc) (.slice ya a.aJ.length yc)).tape,(FB.out (.string a.id) (.slice xa a.cls.length xc) (.slice ya a.aJ.length yc)).output,(FB.out (.string a.id) (.slice xa a.cls.length xc) (.slice ya a.aJ.length yc)).size,(FB.out (.string a.id) (.slice xa a.cls.length xc) (.slice ya a.aJ.length yc)).block⟩,.inl ⟨rfl,a,i+1,by omega,by simp,HRE.out.symm.trans HV.out⟩⟩
    ·have e2:((s[i].toNat:Int)==125)=false:=by
      rw [beq_eq_false_iff_ne];intro e;exact zJ (by rw [<- UInt8.toNat_inj];show _=125;omega)
     cases sep with
     | false=>
      have HV:Hid (R=none):=by show R=_;rw [<- Ri.out,hcn,Dk _ _ _ _ (by omega) zJ]
      clear hcn zJ Ri;go_wp2;exact bodyPost_ret (v:=.tuple #[.agg #[.string ⟨#[]⟩,.slice none 0 0,.slice none 0 0],.int .i64 0,.int .i64 5]) (by simp [results,Tryz.results270,go_sem,r0,r1,r2]) rfl ⟨_,_,_,_,_,_,_,_,_,rfl,FB.out _ _ _,.inr ⟨by decide,HRE.out.symm.trans HV.out⟩⟩
     | true=>
      have IT:=hid (zI (w.heap.size+4) (w.heap.size+2) (w.heap.size+3) w.heap.size a s i vc vp wr HM.out.at_ hcl hpl hs hlt HM.out.pos HM.out.str (by omega) (by omega));clear FB;go_wp2_with fail
      refine IT.out.mono ?_;rintro e w1 ⟨n,rfl,hk,hres⟩;have str1:aH w.heap.size (.string s) 9 w1:=(hk.block _ (by omega) (by omega) (by omega)).trans HM.out.str;have res1:AB (w.heap.size+1) [.string ⟨#[]⟩,.slice none 0 0,.slice none 0 0] w1:=(hk.block _ (by omega) (by omega) (by omega)).trans HM.out.res;have VI:Below w.heap.size w w1:=⟨hk.os.trans HM.out.gH.os,hk.tape.trans HM.out.gH.tape,hk.output.trans HM.out.gH.output,Nat.le_trans HM.out.gH.size hk.size,fun k hk2=>(hk.block k (by omega) (by omega) (by omega)).trans (HM.out.gH.block k hk2)⟩;clear ps pc r0 r1 r2 g0 g1 g2;have r0:=res1.cell 0 _ rfl;have r1:=res1.cell 1 _ rfl;have r2:=res1.cell 2 _ rfl;have g0:=res1.free 0;have g1:=res1.free 1;have g2:=res1.free 2;have FB:Hid (∀ u0 u1 u2,Below w.heap.size w (((w1.setCell ⟨w.heap.size+1,0,none⟩ u0).setCell ⟨w.heap.size+1,1,none⟩ u1).setCell ⟨w.heap.size+1,2,none⟩ u2)):=fun u0 u1 u2=>((VI.setCell (p:=⟨w.heap.size+1,0,none⟩) (by simp) _).setCell (p:=⟨w.heap.size+1,1,none⟩) (by simp) _).setCell (p:=⟨w.heap.size+1,2,none⟩) (by simp) _
      have HK:=hid hk;have jo0:=hid str1;clear hk res1 VI str1;by_cases hn:n=0
      ·subst hn;obtain ⟨a',q,hq,HI,hc2,hp2,HB2,Rh,bS,HA2⟩:∃ (a':At) (q:Nat),q<=s.size/\Hid (bU a (bB s i)=some (a',bB s q))/\a'.cls.length<=32/\a'.aJ.length<=32/\Hid (aH (w.heap.size+3) (.int .i64 q) 3 w1)/\∃ vc vp,Hid (pR (w.heap.size+4) (w.heap.size+2) a' vc vp w1):=by
        rcases hres with ⟨_,h⟩ | ⟨h,_⟩
        ·exact h
        ·exact absurd rfl h
       have M1:=hid (HM.out.ky HK.out HB2.out HA2.out);have SP:=hid (xU s q (w.heap.size+3) w.heap.size w1 hs hq M1.out.pos M1.out.str (by omega));have hiq:=Mk a a' s i q hlt hq HI.out;have jk9:Hid (yR (f-1) a' (decide ((bB s q).head?=some 32)) (iw (bB s q))=R):=by show _=_;rw [<- Ri.out,hcn];refine (FP f a a' _ _ _ (by omega) zJ ?_).symm;rw [<- hcn];exact HI.out
       clear hcn zJ Ri HI HM hres r0 r1 r2 g0 g1 g2 FB;go_wp2_with fail
       refine SP.out.mono ?_;rintro e w2 ⟨q2,h1,h2,h3,rfl,h5,h6⟩;have M2:=hid (M1.out.k1 h6 h5);have H3:=hid h3;clear h3 h5 h6;go_wp2;go_roundw;case rel=>exact ⟨f-1,a',_,q2,_,_,h2,rfl,by omega,by rw [H3.out];exact jk9.out,hc2,hp2,M2.out⟩
       case measure=>
        rw [nV M2.out.pos,nV HP.out];omega
      ·have e3:(n != 0)=true:=by rw [bne_iff_ne];exact hn
       have HV:Hid (R=none):=by
        show R=_;rcases hres with ⟨h,_⟩ | ⟨_,h⟩
        ·exact absurd h hn
        ·rw [<- Ri.out,hcn];exact IL f a _ _ (by omega) zJ (by rw [<- hcn];exact h)
       clear hcn zJ Ri hres;go_wp2;exact bodyPost_ret (v:=.tuple #[.agg #[.string ⟨#[]⟩,.slice none 0 0,.slice none 0 0],.int .i64 0,.int .i64 n]) (by simp [results,Tryz.results270,go_sem,r0,r1,r2]) rfl ⟨_,_,_,_,_,_,_,_,_,rfl,FB.out _ _ _,.inr ⟨hn,HRE.out.symm.trans HV.out⟩⟩
   ·have e1:decide ((s.size:Int)<=(i:Int))=true:=by simp;omega
    have HV:Hid (R=none):=by show R=_;rw [<- Ri.out,gN s i (by omega),IJ _ _ _ (by omega)]
    clear Ri;go_wp2;exact bodyPost_ret (v:=.tuple #[.agg #[.string ⟨#[]⟩,.slice none 0 0,.slice none 0 0],.int .i64 0,.int .i64 5]) (by simp [results,Tryz.results270,go_sem,r0,r1,r2]) rfl ⟨_,_,_,_,_,_,_,_,_,rfl,FB.out _ _ _,.inr ⟨by decide,HRE.out.symm.trans HV.out⟩⟩
end Go.Proofs.YtdneicipdlofiaaGreatDoor

