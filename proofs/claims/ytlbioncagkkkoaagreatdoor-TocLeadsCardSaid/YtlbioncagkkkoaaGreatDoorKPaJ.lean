/- The contract of tree.closesMath. The pieces that strings.SplitSeq hands out at a line feed: the iterator within a fence, and the law of a range over it whose body may return. The contract of tree.checkMath: what closes a formula. -/
import Derived.Test.YtlbioncagkkkoaaGreatDoorKPaG
import Derived.Test.YtlbioncagkkkoaaGreatDoorKShelf
import Derived.BigGuardPart
import Derived.Test.YtlbioncagkkkoaaGreatDoorKEach
import Derived.Test.YtlbioncagkkkoaaGreatDoorKChU
namespace Go.Proofs.YtlbioncagkkkoaaGreatDoor
open Go.RowKit
set_option linter.unusedVariables false
set_option linter.unusedSimpArgs false
open Go.RowKit
def splitG:List UInt8->List UInt8->List (List UInt8)
 | acc,[]=>[acc]
 | acc,c::l=>if c=10 then acc::splitG [] l else splitG (acc++[c]) l
def pieces (s:ByteArray):List ByteArray:=(splitG [] s.data.toList).map bsOf
structure Kz (bs:Nat) (w W:World):Prop where
 os:W.os=w.os
 tape:W.tape=w.tape
 output:W.output=w.output
 size:w.heap.size<=W.heap.size
 block:∀ k,k<w.heap.size->k≠bs->W.heap[k]?=w.heap[k]?
structure Kr (bs res:Nat) (w W:World):Prop where
 os:W.os=w.os
 tape:W.tape=w.tape
 output:W.output=w.output
 size:w.heap.size<=W.heap.size
 block:∀ k,k<w.heap.size->k≠bs->k≠res->W.heap[k]?=w.heap[k]?
section
variable {bs res:Nat} {w W W1:World}
theorem Kz.refl (bs:Nat) (w:World):Kz bs w w:=⟨rfl,rfl,rfl,Nat.le_refl _,fun _ _ _=>rfl⟩
theorem Kz.below (h:Kz bs w W) (hb:Below W.heap.size W W1):Kz bs w W1:=
 ⟨hb.os.trans h.os,hb.tape.trans h.tape,hb.output.trans h.output,Nat.le_trans h.size hb.size,fun k h1 h2=>(hb.block k (Nat.lt_of_lt_of_le h1 h.size)).trans (h.block k h1 h2)⟩
theorem Kz.put (h:Kz bs w W) {l:Nat} (hl:w.heap.size<=l) (o:Obj):Kz bs w (W.putObj l o):=
 ⟨h.os,h.tape,h.output,by rw [World.putObj_size];exact h.size,fun k h1 h2=>(World.putObj_heap_other (by omega)).trans (h.block k h1 h2)⟩
theorem Kz.set (h:Kz bs w W) (u:Value):Kz bs w (W.setCell ⟨bs,0,none⟩ u):=
 ⟨h.os,h.tape,h.output,by simpa [World.setCell] using h.size,fun k h1 h2=>(Below.heap_setCell W ⟨bs,0,none⟩ u k h2).trans (h.block k h1 h2)⟩
theorem Kr.put (h:Kr bs res w W) {l:Nat} (hl:w.heap.size<=l) (o:Obj):Kr bs res w (W.putObj l o):=
 ⟨h.os,h.tape,h.output,by rw [World.putObj_size];exact h.size,fun k h1 h2 h3=>(World.putObj_heap_other (by omega)).trans (h.block k h1 h2 h3)⟩
end
open Go.RowKit
attribute [local go_sem] Oper.semAt_some
end Go.Proofs.YtlbioncagkkkoaaGreatDoor
