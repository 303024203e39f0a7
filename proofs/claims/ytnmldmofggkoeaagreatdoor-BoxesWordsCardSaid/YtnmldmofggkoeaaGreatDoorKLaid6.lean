/- The witness of a row that lists six tables of the library: a world in which they are laid; the table of powers of ten lies in memory. -/
import Derived.Test.YtnmldmofggkoeaaGreatDoorRows
import Derived.Test.YtnmldmofggkoeaaGreatDoorKSlugAll
import Derived.Test.YtnmldmofggkoeaaGreatDoorKSame
import Derived.LaidMore
import Derived.Lay
import Derived.Stop.Joined
namespace Go.Proofs.YtnmldmofggkoeaaGreatDoor
open Option.some renaming inj->YP
open Go.ChangeShapes Go.WideShapes Go.ChangeAt Go.RowKit
set_option linter.unusedVariables false
set_option linter.unusedSimpArgs false
theorem own:ownKnob Tryz.prog.godebug=none:=by kernel_rfl
theorem laidOut:laidOutB Tryz.prog=true:=by kernel_rfl
theorem Oy : Tryz.prog.globalNamed "internal/strconv.uint64pow10" = some 4 := by kernel_rfl
theorem Sb:(Tryz.prog.globals[4]?).map (·.type)=some 214:=by kernel_rfl
abbrev mO : List (String × DataW Unit) := [("math/bits.deBruijn32tab", Rows.laid_math_bits_deBruijn32tab), ("math/bits.deBruijn64tab", Rows.laid_math_bits_deBruijn64tab), ("internal/strconv.uint64pow10", Rows.laid_internal_strconv_uint64pow10), ("publisher/font.ascii", Rows.laid_publisher_font_ascii), ("unicode/utf8.acceptRanges", Rows.laid_unicode_utf8_acceptRanges), ("unicode/utf8.first", Rows.laid_unicode_utf8_first)]
theorem yP (os:Os):(World.laidAll Tryz.prog os mO).Shaped Tryz.prog:=World.shaped_of_ZipB (by kernel_rfl) (by kernel_rfl)
theorem GY (os:Os) (args:Array Value):laidMetH Tryz.prog mO ((World.laidAll Tryz.prog os mO).forCall (fun _ _=>0) ⟨#[],args,[]⟩).memory:=by rw [MakeChecks.laidMetH_plain _ _ _ (by kernel_rfl)];exact laidMet_laidAll _ (by kernel_rfl) (by kernel_rfl)
theorem Le : Tryz.prog.globalNamed "publisher/font.ascii" = some 1 := by kernel_rfl
theorem Lf:(Tryz.prog.globals[1]?).map (·.type)=some 164:=by kernel_rfl
theorem Lg:Tryz.prog.cellsOf 5=1:=by kernel_rfl
theorem yQ {H:Type}:(Rows.laid_publisher_font_ascii:DataW H)=.agg (ig.map fun (n:Nat)=>.lit (.int .u8 (n:Int))):=rfl
theorem tC {H:Type} {enc:TypeId × Value->H} {P:Program} {w:World} {base:Nat} {sp:Nat->Bool} {held:Bool} {fuel:Nat} {t:TypeId} {k:IntKind} {c:Value} {y:DataW H × List MemPlace} (ht:P.underlying t=some (.int k)) (h:DataW.trod enc P w base sp held fuel t [c]=some y):∃ n,c=.int k n/\y=(.lit (.int k n),[]):=by
 cases fuel with
 | zero=>simp [DataW.trod] at h
 | succ fuel=>
  cases c<;>simp [DataW.trod,ht] at h
  rename_i k' n
  obtain ⟨⟨rfl,_⟩,rfl⟩:=h;exact ⟨n,rfl,rfl⟩
theorem GZ {H : Type} {enc : TypeId × Value → H} {W : World} {cs0 : Array Value} {f0 : Nat} {p0 : List MemPlace} {base : Nat} {sp : Nat → Bool} {held : Bool} (hg0 : Tryz.prog.globalNamed "publisher/font.ascii" = some 1) (hv0 : W.var? Tryz.prog "publisher/font.ascii" = some cs0) (hd0:DataW.trod enc Tryz.prog W base sp held f0 164 cs0.toList=some (Rows.laid_publisher_font_ascii,p0)):TabAt W:=by
 obtain ⟨xs,m,rfl,hx,hlen,hn,hel⟩:=DataW.trod_array Tryz.underlying164 hd0;rw [yQ] at hx;simp only [Prod.mk.injEq,DataW.agg.injEq] at hx;have hcl:cs0.toList.length=95:=by rw [hlen];kernel_rfl
 have hcell:∀ k,k<95->W.cell? ⟨1,k,none⟩=some (.int .u8 ((ig.getD k 0:Nat):Int)):=by
  intro k hk;have h1:=hel k hk;rw [Lg,Nat.mul_one] at h1;obtain ⟨c,hc⟩:∃ c,cs0.toList[k]?=some c:=⟨_,List.getElem?_eq_getElem (by omega)⟩;have h2:(cs0.toList.drop k).take 1=[c]:=by rw [List.take_one,List.head?_drop,hc];rfl
  rw [h2] at h1;obtain ⟨y,hy⟩:∃ y,xs[k]?=some y:=⟨_,List.getElem?_eq_getElem (by omega)⟩;rw [hy] at h1;obtain ⟨n,rfl,rfl⟩:=tC Tryz.underlying5 h1;have h3:(xs.map (·.1))[k]?=some (.lit (.int .u8 n)):=by rw [List.getElem?_map,hy];rfl
  rw [<- hx.1,List.getElem?_map] at h3;have Xw:=World.var?_cell hg0 hv0 k;rw [Xw];have hc':cs0[k]?=some (.int .u8 n):=by simpa using hc
  rw [hc',List.getD_eq_getElem?_getD];cases ha:ig[k]? with
  | none=>rw [ha] at h3;simp at h3
  | some a=>
   rw [ha] at h3;simp at h3;rw [<- h3];rfl
 exact ⟨fM (hcell 0 (by omega)),hcell⟩
theorem G5 {W:World} (h:laidMetH Tryz.prog mO W):PT W/\TabAt W:=by
 rw [MakeChecks.laidMetH_plain _ _ _ (by kernel_rfl)] at h;obtain ⟨ps,⟨g0,t0,cs0,f0,p0,q0,hg0,ht0,hv0,hd0,hr0,_⟩,_⟩:=h;obtain ⟨g1,t1,cs1,f1,p1,q1,hg1,ht1,hv1,hd1,hr1,_⟩:=hr0;obtain ⟨g2,t2,cs2,f2,p2,q2,hg2,ht2,hv2,hd2,hr2,_⟩:=hr1;obtain ⟨g3,t3,Yu,f3,p3,q3,hg3,ht3,hv3,hd3,_,_⟩:=hr2;obtain rfl:=YP (Le.symm.trans hg3);obtain rfl:=YP (Lf.symm.trans ht3);obtain rfl:=YP (Oy.symm.trans hg2);obtain rfl:=YP (Sb.symm.trans ht2);have ht : Lib.TabIs Tryz.prog W "internal/strconv.uint64pow10" .u64 Lib.pow10Tab := by
  unfold Lib.TabIs;rw [hv2,<- Lib.cells_of_tab (zs:=Lib.pow10Tab) Tryz.underlying214 Tryz.underlying171 (by kernel_rfl) (by kernel_rfl) hd2]
 exact ⟨⟨fM (ht.cell Oy 0 (by decide)),ht⟩,GZ hg3 hv3 hd3⟩
end Go.Proofs.YtnmldmofggkoeaaGreatDoor

