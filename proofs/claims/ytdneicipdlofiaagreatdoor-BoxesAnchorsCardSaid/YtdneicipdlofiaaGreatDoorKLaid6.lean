/- The witness of a row that lists six tables of the library: a world in which they are laid; the table of powers of ten lies in memory. -/
import Derived.Test.YtdneicipdlofiaaGreatDoorRows
import Derived.Test.YtdneicipdlofiaaGreatDoorKSlugAll
import Derived.Test.YtdneicipdlofiaaGreatDoorKSame
import Derived.LaidMore
import Derived.Lay
import Derived.Stop.Joined
namespace Go.Proofs.YtdneicipdlofiaaGreatDoor
open Option.some renaming inj->jp7
open Go.ChangeShapes Go.WideShapes Go.ChangeAt Go.RowKit
set_option linter.unusedVariables false
set_option linter.unusedSimpArgs false
theorem own:ownKnob Tryz.prog.godebug=none:=by kernel_rfl
theorem laidOut:laidOutB Tryz.prog=true:=by kernel_rfl
theorem je2 : Tryz.prog.globalNamed "internal/strconv.uint64pow10" = some 2 := by kernel_rfl
theorem jjz:(Tryz.prog.globals[2]?).map (·.type)=some 287:=by kernel_rfl
abbrev tZ : List (String × DataW Unit) := [("math/bits.deBruijn32tab", Rows.laid_math_bits_deBruijn32tab), ("math/bits.deBruijn64tab", Rows.laid_math_bits_deBruijn64tab), ("internal/strconv.uint64pow10", Rows.laid_internal_strconv_uint64pow10), ("publisher/font.ascii", Rows.laid_publisher_font_ascii), ("unicode/utf8.acceptRanges", Rows.laid_unicode_utf8_acceptRanges), ("unicode/utf8.first", Rows.laid_unicode_utf8_first)]
theorem H9 (os:Os):(World.laidAll Tryz.prog os tZ).Shaped Tryz.prog:=World.shaped_of_ZipB (by kernel_rfl) (by kernel_rfl)
theorem SE (os:Os) (args:Array Value):laidMetH Tryz.prog tZ ((World.laidAll Tryz.prog os tZ).forCall (fun _ _=>0) ⟨#[],args,[]⟩).memory:=by rw [MakeChecks.laidMetH_plain _ _ _ (by kernel_rfl)];exact laidMet_laidAll _ (by kernel_rfl) (by kernel_rfl)
theorem XY : Tryz.prog.globalNamed "publisher/font.ascii" = some 1 := by kernel_rfl
theorem XZ:(Tryz.prog.globals[1]?).map (·.type)=some 248:=by kernel_rfl
theorem X0:Tryz.prog.cellsOf 5=1:=by kernel_rfl
theorem Iu {H:Type}:(Rows.laid_publisher_font_ascii:DataW H)=.agg (lM.map fun (n:Nat)=>.lit (.int .u8 (n:Int))):=rfl
theorem CZ {H:Type} {enc:TypeId × Value->H} {P:Program} {w:World} {base:Nat} {sp:Nat->Bool} {held:Bool} {fuel:Nat} {t:TypeId} {k:IntKind} {c:Value} {y:DataW H × List MemPlace} (ht:P.underlying t=some (.int k)) (h:DataW.trod enc P w base sp held fuel t [c]=some y):∃ n,c=.int k n/\y=(.lit (.int k n),[]):=by
 cases fuel with
 | zero=>simp [DataW.trod] at h
 | succ fuel=>
  cases c<;>simp [DataW.trod,ht] at h
  rename_i k' n
  obtain ⟨⟨rfl,_⟩,rfl⟩:=h;exact ⟨n,rfl,rfl⟩
theorem TG {H : Type} {enc : TypeId × Value → H} {W : World} {cs0 : Array Value} {f0 : Nat} {p0 : List MemPlace} {base : Nat} {sp : Nat → Bool} {held : Bool} (hg0 : Tryz.prog.globalNamed "publisher/font.ascii" = some 1) (hv0 : W.var? Tryz.prog "publisher/font.ascii" = some cs0) (hd0:DataW.trod enc Tryz.prog W base sp held f0 248 cs0.toList=some (Rows.laid_publisher_font_ascii,p0)):TabAt W:=by
 obtain ⟨xs,m,rfl,hx,hlen,hn,hel⟩:=DataW.trod_array Tryz.underlying248 hd0;rw [Iu] at hx;simp only [Prod.mk.injEq,DataW.agg.injEq] at hx;have hcl:cs0.toList.length=95:=by rw [hlen];kernel_rfl
 have hcell:∀ k,k<95->W.cell? ⟨1,k,none⟩=some (.int .u8 ((lM.getD k 0:Nat):Int)):=by
  intro k hk;have h1:=hel k hk;rw [X0,Nat.mul_one] at h1;obtain ⟨c,hc⟩:∃ c,cs0.toList[k]?=some c:=⟨_,List.getElem?_eq_getElem (by omega)⟩;have h2:(cs0.toList.drop k).take 1=[c]:=by rw [List.take_one,List.head?_drop,hc];rfl
  rw [h2] at h1;obtain ⟨y,hy⟩:∃ y,xs[k]?=some y:=⟨_,List.getElem?_eq_getElem (by omega)⟩;rw [hy] at h1;obtain ⟨n,rfl,rfl⟩:=CZ Tryz.underlying5 h1;have h3:(xs.map (·.1))[k]?=some (.lit (.int .u8 n)):=by rw [List.getElem?_map,hy];rfl
  rw [<- hx.1,List.getElem?_map] at h3;have hvc:=World.var?_cell hg0 hv0 k;rw [hvc];have hc':cs0[k]?=some (.int .u8 n):=by simpa using hc
  rw [hc',List.getD_eq_getElem?_getD];cases ha:lM[k]? with
  | none=>rw [ha] at h3;simp at h3
  | some a=>
   rw [ha] at h3;simp at h3;rw [<- h3];rfl
 exact ⟨jY (hcell 0 (by omega)),hcell⟩
theorem SG {W:World} (h:laidMetH Tryz.prog tZ W):PT W/\TabAt W:=by
 rw [MakeChecks.laidMetH_plain _ _ _ (by kernel_rfl)] at h;obtain ⟨ps,⟨g0,t0,cs0,f0,p0,q0,hg0,ht0,hv0,hd0,hr0,_⟩,_⟩:=h;obtain ⟨g1,t1,cs1,f1,p1,q1,hg1,ht1,hv1,hd1,hr1,_⟩:=hr0;obtain ⟨g2,t2,cs2,f2,p2,q2,hg2,ht2,hv2,hd2,hr2,_⟩:=hr1;obtain ⟨g3,t3,cs3,f3,p3,q3,hg3,ht3,hv3,hd3,_,_⟩:=hr2;obtain rfl:=jp7 (XY.symm.trans hg3);obtain rfl:=jp7 (XZ.symm.trans ht3);obtain rfl:=jp7 (je2.symm.trans hg2);obtain rfl:=jp7 (jjz.symm.trans ht2);have ht : Lib.TabIs Tryz.prog W "internal/strconv.uint64pow10" .u64 Lib.pow10Tab := by
  unfold Lib.TabIs;rw [hv2,<- Lib.cells_of_tab (zs:=Lib.pow10Tab) Tryz.underlying287 Tryz.underlying211 (by kernel_rfl) (by kernel_rfl) hd2]
 exact ⟨⟨jY (ht.cell je2 0 (by decide)),ht⟩,TG hg3 hv3 hd3⟩
end Go.Proofs.YtdneicipdlofiaaGreatDoor

