/- Contracts of publisherref01.Text, Points, Fold. -/
import Derived.Test.YtkfnkeflalcphaaGreatDoorKAppend
import Derived.WalkSpells
namespace Go.Proofs.YtkfnkeflalcphaaGreatDoor
open Go.RowKit
set_option linter.unusedVariables false
set_option linter.unusedSimpArgs false
def oC (s:ByteArray):Nat->Nat->List (Nat × Nat)
 | 0,_=>[]
 | f+1,i=>if i<s.size then Utf8.decode s i::oC s f (i+(Utf8.decode s i).2) else []
theorem Db (s:ByteArray) (f i:Nat) (h:¬ i<s.size):oC s f i=[]:=by
 cases f with
 | zero=>rfl
 | succ f=>rw [oC,if_neg h]
theorem IW (s:ByteArray):∀ (f i:Nat),∀ p∈oC s f i,p.1<=1114111
 | 0,_=>by simp [oC]
 | f+1,i=>by
  rw [oC];split
  ·intro p hp;rcases List.mem_cons.1 hp with rfl | hp
   ·exact Lib.rune_le s i
   ·exact IW s f _ p hp
  ·simp
def pts (s:ByteArray):List (Nat × Nat):=oC s s.size 0
theorem tQ {w:World} {B:Nat} {e:TypeId} {k:Nat} {v:Value} {n:Nat} {xs:List Value} (h:w.ownsRow B e k v n xs):∃ a c,v=.slice a n c:=by
 rcases h.2 with ⟨rfl,rfl⟩ | ⟨g,cap,cur,rfl,_⟩
 ·exact ⟨none,0,rfl⟩
 ·exact ⟨_,_,rfl⟩
theorem q24 {α:Type} (l:List α) (k:Nat) (x:α) (h:l[k]?=some x):l.drop k=x::l.drop (k+1):=by obtain ⟨hk,rfl⟩:=List.getElem?_eq_some_iff.1 h;exact List.drop_eq_getElem_cons hk
end Go.Proofs.YtkfnkeflalcphaaGreatDoor

