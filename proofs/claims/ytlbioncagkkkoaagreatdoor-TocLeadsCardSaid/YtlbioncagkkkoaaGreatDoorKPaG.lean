/- Contracts of attr.Parse$1 (spaces) and attr.Parse$2 (an item). The contract of attr.Parse. -/
import Derived.Test.YtlbioncagkkkoaaGreatDoorKPaE
import Derived.Test.YtlbioncagkkkoaaGreatDoorKInlines
import Derived.BigGuard
namespace Go.Proofs.YtlbioncagkkkoaaGreatDoor
open Go.RowKit
set_option linter.unusedVariables false
set_option linter.unusedSimpArgs false
structure K1 (c:Nat) (w w':World):Prop where
 os:w'.os=w.os
 tape:w'.tape=w.tape
 output:w'.output=w.output
 size:w'.heap.size=w.heap.size
 block:∀ k,k≠c->w'.heap[k]?=w.heap[k]?
theorem K1.refl (c:Nat) (w:World):K1 c w w:=⟨rfl,rfl,rfl,rfl,fun _ _=>rfl⟩
theorem K1.set {c:Nat} {w w1:World} (h:K1 c w w1) (j:Nat) (u:Value):K1 c w (w1.setCell ⟨c,j,none⟩ u):=
 ⟨h.os,h.tape,h.output,by simpa [World.setCell] using h.size,fun k hk=>(Below.heap_setCell w1 ⟨c,j,none⟩ u k hk).trans (h.block k hk)⟩
structure Ky (B b c:Nat) (w w':World):Prop where
 os:w'.os=w.os
 tape:w'.tape=w.tape
 output:w'.output=w.output
 size:w.heap.size<=w'.heap.size
 block:∀ k,k<B->k≠b->k≠c->w'.heap[k]?=w.heap[k]?
section
variable {B b c:Nat} {w w1 w2:World}
theorem Ky.refl (B b c:Nat) (w:World):Ky B b c w w:=⟨rfl,rfl,rfl,Nat.le_refl _,fun _ _ _ _=>rfl⟩
theorem Ky.trans (h:Ky B b c w w1) (k:Ky B b c w1 w2):Ky B b c w w2:=
 ⟨k.os.trans h.os,k.tape.trans h.tape,k.output.trans h.output,Nat.le_trans h.size k.size,fun i h1 h2 h3=>(k.block i h1 h2 h3).trans (h.block i h1 h2 h3)⟩
end
theorem AtO.k1 {B b c:Nat} {a:At} {vc vp:Value} {w w1:World} (h:AtO B b a vc vp w) (hk:K1 c w w1) (hcb:c≠b) (hcB:c<B):AtO B b a vc vp w1:=by
 refine ⟨(hk.block b (Ne.symm hcb)).trans h.ab,?_,?_,h.lt,by rw [hk.size];exact h.le⟩
 ·have hg:w.grownBy w1 (some c):=⟨hk.os,hk.tape,hk.output,Nat.le_of_eq hk.size.symm,fun k _ hne=>hk.block k (fun e=>hne (by rw [e]))⟩
  refine h.cls.kept hg ?_
  cases hv:vc.ownBlock with
  | none=>exact .inl rfl
  | some g=>right;intro e;have:=(h.cls.lt g hv).1;have:=Option.some.inj e;omega
 ·have hg:w.grownBy w1 (some c):=⟨hk.os,hk.tape,hk.output,Nat.le_of_eq hk.size.symm,fun k _ hne=>hk.block k (fun e=>hne (by rw [e]))⟩
  refine h.prs.kept hg ?_
  cases hv:vp.ownBlock with
  | none=>exact .inl rfl
  | some g=>right;intro e;have:=(h.prs.lt g hv).1;have:=Option.some.inj e;omega
open Go.RowKit
def PrPost (s:ByteArray) (i0:Nat) (w:World) (e:Ending) (w':World):Prop:=
 ∃ (x:ByteArray) (a1:Option Addr) (n1 c1:Nat) (a2:Option Addr) (n2 c2:Nat) (t n:Int),e=.returned (.tuple #[.agg #[.string x,.slice a1 n1 c1,.slice a2 n2 c2],.int .i64 t,.int .i64 n])/\Below w.heap.size w w' /\
  ((n=0/\∃ (a':At) (q:Nat),q<=s.size/\t=q/\parseL (frm s i0)=some (a',frm s q))\/(n≠0/\parseL (frm s i0)=none))
structure PsMem (s:ByteArray) (w:World) (a:At) (i:Nat) (vc vp:Value) (wr:World):Prop where
 str:Box1 w.heap.size (.string s) 9 wr
 res:AB (w.heap.size+1) [.string ⟨#[]⟩,.slice none 0 0,.slice none 0 0] wr
 at_:AtO (w.heap.size+4) (w.heap.size+2) a vc vp wr
 pos:Box1 (w.heap.size+3) (.int .i64 i) 3 wr
 bel:Below w.heap.size w wr
section
variable {s:ByteArray} {w wr w1:World} {a a':At} {i q:Nat} {vc vp vc' vp':Value}
theorem PsMem.k1 (h:PsMem s w a i vc vp wr) (hk:K1 (w.heap.size+3) wr w1) (hb:Box1 (w.heap.size+3) (.int .i64 q) 3 w1):PsMem s w a q vc vp w1:=
 ⟨(hk.block _ (by omega)).trans h.str,(hk.block _ (by omega)).trans h.res,h.at_.k1 hk (by omega) (by omega),hb,
  ⟨hk.os.trans h.bel.os,hk.tape.trans h.bel.tape,hk.output.trans h.bel.output,by rw [hk.size];exact h.bel.size,fun k hk2=>(hk.block k (by omega)).trans (h.bel.block k hk2)⟩⟩
theorem PsMem.ky (h:PsMem s w a i vc vp wr) (hk:Ky (w.heap.size+4) (w.heap.size+2) (w.heap.size+3) wr w1) (hb:Box1 (w.heap.size+3) (.int .i64 q) 3 w1) (ha:AtO (w.heap.size+4) (w.heap.size+2) a' vc' vp' w1):PsMem s w a' q vc' vp' w1:=
 ⟨(hk.block _ (by omega) (by omega) (by omega)).trans h.str,(hk.block _ (by omega) (by omega) (by omega)).trans h.res,ha,hb,
  ⟨hk.os.trans h.bel.os,hk.tape.trans h.bel.tape,hk.output.trans h.bel.output,Nat.le_trans h.bel.size hk.size,fun k hk2=>(hk.block k (by omega) (by omega) (by omega)).trans (h.bel.block k hk2)⟩⟩
end
theorem parseG_end (f:Nat) (a:At) (sep:Bool) (h:1<=f):parseG f a sep []=none:=by
 obtain ⟨g,rfl⟩:∃ g,f=g+1:=⟨f-1,by omega⟩
 rw [parseG,if_neg (by simp),if_pos (.inl rfl)]
theorem parseG_brace (f:Nat) (a:At) (sep:Bool) (r:List UInt8) (h:1<=f):parseG f a sep (125::r)=some (a,r):=by
 obtain ⟨g,rfl⟩:∃ g,f=g+1:=⟨f-1,by omega⟩
 rw [parseG,List.head?_cons,if_pos rfl]
 rfl
theorem parseG_nosep (f:Nat) (a:At) (c:UInt8) (r:List UInt8) (h:1<=f) (hc:c≠125):parseG f a false (c::r)=none:=by
 obtain ⟨g,rfl⟩:∃ g,f=g+1:=⟨f-1,by omega⟩
 rw [parseG,List.head?_cons,if_neg (fun e=>hc (Option.some.inj e)),if_pos (.inr rfl)]
theorem parseG_bad (f:Nat) (a:At) (c:UInt8) (r:List UInt8) (h:1<=f) (hc:c≠125) (hi:q2h a (c::r)=none):parseG f a true (c::r)=none:=by
 obtain ⟨g,rfl⟩:∃ g,f=g+1:=⟨f-1,by omega⟩
 rw [parseG,List.head?_cons,if_neg (fun e=>hc (Option.some.inj e)),if_neg (by simp),hi]
theorem parseG_next (f:Nat) (a a':At) (c:UInt8) (r l':List UInt8) (h:1<=f) (hc:c≠125) (hi:q2h a (c::r)=some (a',l')):parseG f a true (c::r)=parseG (f-1) a' (decide (l'.head?=some 32)) (q0t l'):=by
 obtain ⟨g,rfl⟩:∃ g,f=g+1:=⟨f-1,by omega⟩
 rw [parseG,List.head?_cons,if_neg (fun e=>hc (Option.some.inj e)),if_neg (by simp),hi]
 rfl
theorem AB.made (w:World) (cs:List Value):AB w.heap.size cs (w.alloc (.cells cs.toArray 44)):=heap_alloc_new w _
theorem AB.alloc {p:Nat} {cs:List Value} {w:World} (h:AB p cs w) (o:Obj):AB p cs (w.alloc o):=(Below.heap_alloc w o p h.lt).trans h
theorem item_less (a a':At) (s:ByteArray) (i q:Nat) (hi:i<s.size) (hq:q<=s.size) (h:q2h a (frm s i)=some (a',frm s q)):i<q:=by
 obtain ⟨p,h1,h2,_⟩:=itemL_pre a a' _ _ h
 have e:=congrArg List.length h1
 rw [List.length_append,frm_len,frm_len] at e
 have:=List.length_pos_iff.2 h2
 omega
end Go.Proofs.YtlbioncagkkkoaaGreatDoor
