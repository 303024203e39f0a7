/- slug.Anchors: what its loops keep: the two boxes with rows of strings. -/
import Derived.Test.YtdneicipdlofiaaGreatDoorKSmPlA
import Derived.Maps.OwnIn
namespace Go.Proofs.YtdneicipdlofiaaGreatDoor
open Go.RowKit Go.Shelf
set_option linter.unusedVariables false
set_option linter.unusedSimpArgs false
attribute [local go_sem] Oper.semAt_some
def aj.id1:aj->Option ByteArray
 | .mk _ _ _ _ a _ _ _=>if a.id.data.toList=[] then none else some a.id
def bJ (l:List aj):List ByteArray:=l.filterMap aj.id1
structure TB (S p q:Nat) (W0:World) (us ts:List ByteArray) (vu vt:Value) (W:World):Prop where
 bp:aH p vu 35 W
 bq:aH q vt 35 W
 ou:W.ownsRow (S+5) 9 1 vu us.length (us.map Value.string)
 ot:W.ownsRow (S+5) 9 1 vt ts.length (ts.map Value.string)
 ne:∀ g,vu.ownBlock=some g->vt.ownBlock≠some g
 os:W.os=W0.os
 tape:W.tape=W0.tape
 output:W.output=W0.output
 size:S+5<=W.heap.size
 blk:∀ b,b<S+5->b≠p->b≠q->W.heap[b]?=W0.heap[b]?
section
variable {S p q:Nat} {W0 W W':World} {us ts:List ByteArray} {vu vt:Value}
end
end Go.Proofs.YtdneicipdlofiaaGreatDoor

