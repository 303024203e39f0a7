/- publisherref04.heavy: how many parts blocks have. publisherref04.Small: what it says of a document where it answers true. -/
import Derived.Test.YtnmldmofggkoeaaGreatDoorKSame
import Derived.Deep.RegionHeld3
namespace Go.Proofs.YtnmldmofggkoeaaGreatDoor
open Go.RowKit
set_option linter.unusedVariables false
set_option linter.unusedSimpArgs false
mutual
def aj.small:aj->Prop
 | .mk k lv i t d ti a li ks=>i.size<=300/\t.size<=300/\d.size<=300/\ti.size<=300/\a.short/\ah.aK li/\ah.aV li<=120/\aj.aK ks
def aj.aK:List aj->Prop
 | []=>True
 | x::l=>x.small/\aj.aK l
end
mutual
def aj.all:aj->Nat
 | .mk _ _ _ _ _ _ _ li ks=>1+ah.aV li+aj.bB ks
def aj.bB:List aj->Nat
 | []=>0
 | x::l=>x.all+aj.bB l
end
theorem aj.wO (l m:List aj):aj.bB (l++m)=aj.bB l+aj.bB m:=by
 induction l with
 | nil=>rw [aj.bB];simp
 | cons x l ih=>rw [List.cons_append,aj.bB,aj.bB,ih];omega
theorem aj.rG {l:List aj} {k:Nat} {x:aj} (hx:l[k]?=some x):aj.bB (l.take (k+1))=aj.bB (l.take k)+x.all:=by rw [List.take_add_one,hx,aj.wO];simp [aj.bB]
theorem fG.at2 {w w':World} {b o:Nat} {k lv:Int} {i t d ti id:ByteArray} {vc vp vl vk:Value} (h:fG w b o k lv i t d ti id vc vp vl vk) (hb:w'.heap[b]?=w.heap[b]?):fG w' b o k lv i t d ti id vc vp vl vk:=by obtain ⟨c0,c1,c2,c3,c4,c5,c6,c7,c8,c9,c10⟩:=h;exact ⟨(lF hb _).trans c0,(lF hb _).trans c1,(lF hb _).trans c2,(lF hb _).trans c3,(lF hb _).trans c4,(lF hb _).trans c5,(lF hb _).trans c6,(lF hb _).trans c7,(lF hb _).trans c8,(lF hb _).trans c9,(lF hb _).trans c10⟩
theorem Ac {x:Int} (h1:-9223372036854775808<=x) (h2:x<=9223372036854775807):IntKind.i64.wrap x=x:=by rw [IntKind.wrap_i64];omega
def hvB (dp:Nat):Nat:=(22-dp)*(23*140737488355328)
open Go.RowKit
end Go.Proofs.YtnmldmofggkoeaaGreatDoor

