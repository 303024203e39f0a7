/- publisherref04.heavy: how many parts blocks have. publisherref04.Small: what it says of a document where it answers true. -/
import Derived.Test.YtnmldmofggkoeaaGreatDoorKSame
import Derived.Deep.RegionHeld3
namespace Go.Proofs.YtnmldmofggkoeaaGreatDoor
open Go.RowKit
set_option linter.unusedVariables false
set_option linter.unusedSimpArgs false
mutual
def aj.small:aj->Prop
 | .mk k lv i t d ti a li ks=>i.size<=300/\t.size<=300/\d.size<=300/\ti.size<=300/\a.short/\ah.aQ li/\ah.aW li<=120/\aj.aQ ks
def aj.aQ:List aj->Prop
 | []=>True
 | x::l=>x.small/\aj.aQ l
end
mutual
def aj.all:aj->Nat
 | .mk _ _ _ _ _ _ _ li ks=>1+ah.aW li+aj.aY ks
def aj.aY:List aj->Nat
 | []=>0
 | x::l=>x.all+aj.aY l
end
theorem aj.wW (l m:List aj):aj.aY (l++m)=aj.aY l+aj.aY m:=by
 induction l with
 | nil=>rw [aj.aY];simp
 | cons x l ih=>rw [List.cons_append,aj.aY,aj.aY,ih];omega
theorem aj.rR {l:List aj} {k:Nat} {x:aj} (hx:l[k]?=some x):aj.aY (l.take (k+1))=aj.aY (l.take k)+x.all:=by rw [List.take_add_one,hx,aj.wW];simp [aj.aY]
theorem fG.at2 {w w':World} {b o:Nat} {k lv:Int} {i t d ti id:ByteArray} {vc vp vl vk:Value} (h:fG w b o k lv i t d ti id vc vp vl vk) (hb:w'.heap[b]?=w.heap[b]?):fG w' b o k lv i t d ti id vc vp vl vk:=by obtain ⟨c0,c1,c2,c3,c4,c5,c6,c7,c8,c9,c10⟩:=h;exact ⟨(mg hb _).trans c0,(mg hb _).trans c1,(mg hb _).trans c2,(mg hb _).trans c3,(mg hb _).trans c4,(mg hb _).trans c5,(mg hb _).trans c6,(mg hb _).trans c7,(mg hb _).trans c8,(mg hb _).trans c9,(mg hb _).trans c10⟩
theorem Al {x:Int} (h1:-9223372036854775808<=x) (h2:x<=9223372036854775807):IntKind.i64.wrap x=x:=by rw [IntKind.wrap_i64];omega
def hvB (dp:Nat):Nat:=(22-dp)*(23*140737488355328)
open Go.RowKit
end Go.Proofs.YtnmldmofggkoeaaGreatDoor

