/- Contracts of publisherref01.Text, Points, Fold. -/
import Derived.Test.YtkfnkeflalcphaaGreatDoorKAppend
import Derived.WalkSpells
namespace Go.Proofs.YtkfnkeflalcphaaGreatDoor
open Go.RowKit
set_option linter.unusedVariables false
set_option linter.unusedSimpArgs false
def oL (s:ByteArray):Nat->Nat->List (Nat × Nat)
 | 0,_=>[]
 | f+1,i=>if i<s.size then Utf8.decode s i::oL s f (i+(Utf8.decode s i).2) else []
theorem Du (s:ByteArray) (f i:Nat) (h:¬ i<s.size):oL s f i=[]:=by
 cases f with
 | zero=>rfl
 | succ f=>rw [oL,if_neg h]
theorem Jy (s:ByteArray):∀ (f i:Nat),∀ p∈oL s f i,p.1<=1114111
 | 0,_=>by simp [oL]
 | f+1,i=>by
  rw [oL];split
  ·intro p hp;rcases List.mem_cons.1 hp with rfl | hp
   ·exact Lib.rune_le s i
   ·exact Jy s f _ p hp
  ·simp
def pts (s:ByteArray):List (Nat × Nat):=oL s s.size 0
theorem sN {w:World} {B:Nat} {e:TypeId} {k:Nat} {v:Value} {n:Nat} {xs:List Value} (h:w.ownsRow B e k v n xs):∃ a c,v=.slice a n c:=by
 rcases h.2 with ⟨rfl,rfl⟩ | ⟨g,cap,cur,rfl,_⟩
 ·exact ⟨none,0,rfl⟩
 ·exact ⟨_,_,rfl⟩
theorem Qw {α:Type} (l:List α) (k:Nat) (x:α) (h:l[k]?=some x):l.drop k=x::l.drop (k+1):=by obtain ⟨hk,rfl⟩:=List.getElem?_eq_some_iff.1 h;exact List.drop_eq_getElem_cons hk
end Go.Proofs.YtkfnkeflalcphaaGreatDoor

