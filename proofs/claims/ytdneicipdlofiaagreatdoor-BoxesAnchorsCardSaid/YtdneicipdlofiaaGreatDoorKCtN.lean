/- Contract of (*count.levels).next: the counters of sections go up, and the value of the section. -/
import Derived.Test.YtdneicipdlofiaaGreatDoorKCtK
import Derived.Test.YtdneicipdlofiaaGreatDoorKSlugAll
namespace Go.Proofs.YtdneicipdlofiaaGreatDoor
open Go.RowKit
set_option linter.unusedVariables false
set_option linter.unusedSimpArgs false
section
variable {T:TypeId} {p:Nat} {c:List Nat} {k m i:Nat} {w wr w':World} {v v':Value}
end
theorem Ej (xs:List ByteArray) (sep:ByteArray) (v:Value) (w:World) (h:gQ w 1 v xs.length (xs.map Value.string)) (hl:(Lib.join (xs.map (·.data.toList)) sep.data.toList).length<=140737488355328) (hn:xs.length<=140737488355328) : Calls Tryz.prog 185 #[v,.string sep] w fun e w'=>e=.returned (.string ⟨(Lib.join (xs.map (·.data.toList)) sep.data.toList).toArray⟩)/\Below w.heap.size w w':=by
 obtain ⟨-,a,cap,rfl,hcap,hmx,hcs⟩:=h;by_cases h0:xs=[]
 ·subst h0;refine (Tryz.strings_Join_none a cap sep w).mono ?_;rintro e w' ⟨rfl,rfl⟩;exact ⟨rfl,Below.refl _ _⟩
 ·have hx:0<xs.length:=List.length_pos_iff.2 h0;rcases hcs with h1 | ⟨b,off,rfl,hc⟩
  ·omega
  ·refine Tryz.strings_Join b off cap xs sep w (fun j x hj=>?_) ?_ hn (by omega) hl
   ·have:=hc j (.string x) (by rw [List.getElem?_map,hj];rfl);simpa using this
   ·obtain ⟨x,hj⟩:∃ x,xs[0]?=some x:=⟨_,List.getElem?_eq_getElem hx⟩;exact jY (hc 0 (.string x) (by rw [List.getElem?_map,hj];rfl))
end Go.Proofs.YtdneicipdlofiaaGreatDoor

