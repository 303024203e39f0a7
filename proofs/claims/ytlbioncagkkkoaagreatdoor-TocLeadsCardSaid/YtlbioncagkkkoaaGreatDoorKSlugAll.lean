/- Maps of the call's own with texts as keys: numbers. The contract of slug.All. -/
import Derived.Test.YtlbioncagkkkoaaGreatDoorKTcM
import Derived.Lib.AppendIntMem
namespace Go.Proofs.YtlbioncagkkkoaaGreatDoor
open Go.RowKit Go.Maps
set_option linter.unusedVariables false
set_option linter.unusedSimpArgs false
def NumAt (w:World) (b n:Nat) (f:ByteArray->Int):Prop:=
 ∃ D:DataW Unit,w.ownsMap Tryz.prog 9 (plainElem Tryz.prog 3) b n D/\∀ s:ByteArray,D.atKey (sKey s) (.lit (.int .i64 0))=.lit (.int .i64 (f s))
theorem NumAt.look {w:World} {b n:Nat} {f:ByteArray->Int} (h:NumAt w b n f) (s:ByteArray) (hs:s.size<=maxLen) :
  (Instr.lookup 80 (.map (some b)) (.string s) false).run Tryz.prog w=.ok (.int .i64 (f s)) w:=by
 obtain ⟨D,hD,hat⟩:=h
 obtain ⟨c,hrun,hc,_⟩:=hD.lookup_int keyS Tryz.underlying80 Tryz.underlying3 (zeroI w) (sKey_of s hs)
 rw [hat s] at hc
 have:f s=c:=(Lit.int.inj (DataW.lit.inj hc)).2
 subst this;exact hrun
theorem NumAt.put {w:World} {b n:Nat} {f:ByteArray->Int} (h:NumAt w b n f) (s:ByteArray) (x:Int) (hs:s.size<=maxLen) (hn:n<maxLen) (hx:(Lit.int .i64 x).wf=true) :
  ∃ w',(Instr.mapUpdate 80 (.map (some b)) (.string s) (.int .i64 x)).run Tryz.prog w=.ok () w'/\NumAt w' b (n+1) (fun t=>if t=s then x else f t)/\w.grownBy w' (some b):=by
 obtain ⟨D,hD,hat⟩:=h
 obtain ⟨w',hrun,hD',hg⟩:=hD.update keyS Tryz.underlying80 hn (sKey_of s hs) (plainElem_int Tryz.underlying3 hx)
 refine ⟨w',hrun,⟨_,hD',fun t=>?_⟩,hg⟩
 by_cases e:t=s
 ·subst e
  rw [atKey_put_same (owns_isMap hD) (sKey_lit t)]
  show _=DataW.lit (.int .i64 (if t=t then x else f t))
  rw [if_pos rfl]
 ·rw [atKey_put_other (fun h=>e (sKey_inj _ _ h)),hat t]
  show _=DataW.lit (.int .i64 (if t=s then x else f t))
  rw [if_neg e]
theorem NumAt.made (w:World):NumAt (w.alloc (.map #[] 0)) w.heap.size 0 (fun _=>0):=
 ⟨_,World.ownsMap_made w _ _ _,fun s=>rfl⟩
theorem NumAt.kept {w w':World} {b n:Nat} {f:ByteArray->Int} {row:Option Nat} (h:NumAt w b n f) (hg:w.grownBy w' row) (hne:some b≠row):NumAt w' b n f:=by
 obtain ⟨D,hD,hat⟩:=h
 exact ⟨D,hD.kept hg hne,hat⟩
theorem NumAt.below {w w':World} {b n:Nat} {f:ByteArray->Int} (h:NumAt w b n f) (hb:Below w.heap.size w w'):NumAt w' b n f:=h.kept (q02 hb) (by simp)
open Go.RowKit
def PT (w : World) : Prop := 1 < w.heap.size ∧ Lib.TabIs Tryz.prog w "internal/strconv.uint64pow10" .u64 Lib.pow10Tab
theorem PT.below {w w':World} (h:PT w) (hb:Below w.heap.size w w'):PT w':=by
 refine ⟨Nat.lt_of_lt_of_le h.1 hb.size,?_⟩
 have hg : Tryz.prog.globalNamed "internal/strconv.uint64pow10" = some 1 := by kernel_rfl
 have h2:=h.2
 unfold Lib.TabIs World.var? at h2 ⊢
 rw [hg] at h2 ⊢
 simp only [Option.bind_some] at h2 ⊢
 rw [hb.block _ h.1]
 exact h2
theorem itoa_any (n:Nat) (w:World) (hn:n<=1000000) (ht:PT w) :
  Calls Tryz.prog 46 #[.int .i64 (n:Int)] w fun e w'=>e=.returned (.string ⟨(Lib.decDigits n).toArray⟩)/\Below w.heap.size w w':=by
 refine (Tryz.strconv_Itoa (n:Int) (by omega) (by omega) w ht.2).mono ?_
 rintro e w' ⟨rfl,k,os,rfl⟩
 refine ⟨?_,Lib.below_grow _ w (Nat.le_refl _) k os⟩
 have:Lib.itoa (n:Int)=Lib.decDigits n:=by unfold Lib.itoa;rw [if_neg (by omega)];simp
 rw [this]
end Go.Proofs.YtlbioncagkkkoaaGreatDoor

