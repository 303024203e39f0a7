/- Contracts of publisherref01.Text, Points, Fold. -/
import Derived.Test.YtdneicipdlofiaaGreatDoorKAppend
import Derived.WalkSpells
namespace Go.Proofs.YtdneicipdlofiaaGreatDoor
open Go.RowKit
set_option linter.unusedVariables false
set_option linter.unusedSimpArgs false
theorem Jo:(Tryz.prog.info? 3).map (fun i=>(i.zero,i.size,i.bytes))=some (some (.int .i64 0),1,8):=by kernel_rfl
def bZ (s:ByteArray):Nat->Nat->List (Nat × Nat)
 | 0,_=>[]
 | f+1,i=>if i<s.size then Utf8.decode s i::bZ s f (i+(Utf8.decode s i).2) else []
theorem kT (s:ByteArray) (f i:Nat) (h:¬ i<s.size):bZ s f i=[]:=by
 cases f with
 | zero=>rfl
 | succ f=>rw [bZ,if_neg h]
theorem Kc (s:ByteArray):∀ (f i:Nat),∀ p∈bZ s f i,p.1<=1114111
 | 0,_=>by simp [bZ]
 | f+1,i=>by
  rw [bZ];split
  ·intro p hp;rcases List.mem_cons.1 hp with rfl | hp
   ·exact Lib.rune_le s i
   ·exact Kc s f _ p hp
  ·simp
def pts (s:ByteArray):List (Nat × Nat):=bZ s s.size 0
theorem q01 {w:World} {B:Nat} {e:TypeId} {k:Nat} {v:Value} {n:Nat} {xs:List Value} (h:w.ownsRow B e k v n xs):∃ a c,v=.slice a n c:=by
 rcases h.2 with ⟨rfl,rfl⟩ | ⟨g,cap,cur,rfl,_⟩
 ·exact ⟨none,0,rfl⟩
 ·exact ⟨_,_,rfl⟩
theorem NJ {α:Type} (l:List α) (k:Nat) (x:α) (h:l[k]?=some x):l.drop k=x::l.drop (k+1):=by obtain ⟨hk,rfl⟩:=List.getElem?_eq_some_iff.1 h;exact List.drop_eq_getElem_cons hk
end Go.Proofs.YtdneicipdlofiaaGreatDoor

