/- Contracts of (*strings.Builder).copyCheck and WriteString over this seat's translation, after the shelf's own proofs (there the body of copyCheck is another one). Contracts of the writing methods of strings.Builder over this seat's translation, with the frame that reaches above the builder, after the shelf's own proofs. Contracts of strings.Builder where its buffer is younger than a given block: all blocks ahead of that one but the builder's own stand. -/
import Derived.Test.YtkfnkeflalcphaaGreatDoorMShelf
set_option maxHeartbeats 2000000
set_option maxRecDepth 100000
open Go.Lib (hid)
namespace Go.Proofs.YtkfnkeflalcphaaGreatDoor
open Tryz
open Go.RowKit.Below renaming heap_setCell->jL1
open Go renaming World->jN9,Value->jNk
open Go.RowKit Go.Lib
set_option linter.unusedVariables false
set_option linter.unusedSimpArgs false
theorem U1:(prog.info? 104).map (·.size)=some 2:=by kernel_rfl
theorem jrk:liesAt prog prog.depth 104 (2/prog.cellsOf 104) 0 104 1=true:=by kernel_rfl
theorem Gj:(prog.info? 5).map (fun i=>(i.zero,i.size,i.bytes))=some (some (.int .u8 0),1,1):=by kernel_rfl
theorem oF (b:Nat) (w:jN9) (h0:w.cell? ⟨b,0,none⟩=some (.pointer (some ⟨b,0,none⟩))) : Calls prog 156 #[.pointer (some ⟨b,0,none⟩)] w fun e w'=>e=.returned (.tuple #[])/\w'=w:=by
 obtain ⟨j,hj,_⟩:=Option.map_eq_some_iff.1 U1;go_enter func156,ntmps156;go_wp2;rw [Lib.run_neq_ptr_same w _ underlying101 hj];go_wp2
 go_end0
 exact ⟨rfl,rfl⟩
theorem nD (b:Nat) (w:jN9) (h0:w.cell? ⟨b,0,none⟩=some (.pointer none)) (hsh:w.shape? b=some (104,2)) (hfz:w.frozen? ⟨b,0,none⟩=false) : Calls prog 156 #[.pointer (some ⟨b,0,none⟩)] w fun e w'=>e=.returned (.tuple #[])/\w'=w.setCell ⟨b,0,none⟩ (.pointer (some ⟨b,0,none⟩)):=by
 obtain ⟨j,hj,hjs⟩:=Option.map_eq_some_iff.1 U1;go_enter func156,ntmps156;go_wp2;rw [Lib.run_to_unsafe w ⟨b,0,none⟩ underlying101 underlying184 hj (by rw [hjs];decide) hsh (Nat.zero_lt_succ 1)];simp only [Result.andThen];rw [Oper.upon_value];go_wp2;rw [run_callFunc_extern func194 (by kernel_rfl) (by kernel_rfl) (by kernel_rfl) (e:=Extern.AbiNoEscape.same) (by kernel_rfl)];rw [Lib.run_noEscape];simp only [Result.andThen];rw [Oper.upon_value];go_wp2;rw [Lib.run_from_unsafe w ⟨b,0,none⟩ underlying184 underlying101 hj hsh jrk];simp only [Result.andThen];rw [Oper.upon_value];go_wp2
 go_end0
 exact ⟨rfl,rfl⟩
open Go.RowKit Go.Lib
def Wrote (B b:Nat) (bs:List jNk) (w w':jN9):Prop:=
 Lib.IsBuilderF 104 5 B b bs w'/\Below B w w'/\Lib.OthersKept 5 (some b) w w'
theorem oG (B b:Nat) (bs:List jNk) (w:jN9) (h:Lib.IsBuilderF 104 5 B b bs w) : Calls prog 156 #[.pointer (some ⟨b,0,none⟩)] w fun e w'=>e=.returned (.tuple #[])/\(Lib.BuilderAtF 104 5 B b (.pointer (some ⟨b,0,none⟩)) bs w'/\Below B w w'/\Lib.OthersKept 5 (some b) w w'):=by
 rcases h with h | h
 ·refine (nD b w h.cell0 h.shape h.frozen0).mono ?_;rintro e w' ⟨rfl,rfl⟩;exact ⟨rfl,h.used _,(Below.refl B w).setCell (p:=⟨b,0,none⟩) h.1 _,(Lib.OthersKept.refl _ _ w).setCell ⟨b,0,none⟩ rfl _⟩
 ·refine (oF b w h.cell0).mono ?_;rintro e w' ⟨rfl,rfl⟩;exact ⟨rfl,h,Below.refl B _,Lib.OthersKept.refl _ _ _⟩
theorem U6{P:Prop}(h:P:=by
 rcases Nat.lt_or_ge b w1.heap.size with h' | h'
 ·exact h'
 ·simp [Array.getElem?_eq_none h'] at hbk):P:=h
theorem jf9{P:Prop}(h:P:=by
 exact ((hb1.alloc (by have:=hb1.size;omega) _).grown hgrow (by have:=hb1.size;simp;omega) (fun k hk=>(hown.lt k hk).1)).setCell (p:=⟨b,1,none⟩) hB _):P:=h
theorem kJ (B b:Nat) (bs:List jNk) (c:Int) (w:jN9) (h:Lib.IsBuilderF 104 5 B b bs w) (hlen:bs.length+1<=140737488355328) (hBw:B<=w.heap.size) : Calls prog 157 #[.pointer (some ⟨b,0,none⟩),.int .u8 c] w fun e w'=>e=.returned .nilIface/\Wrote B b (bs++[.int .u8 c]) w w':=by
 obtain ⟨i0,hi,hz0,hz1,hz2⟩:=info_parts Gj;have H:=hid h;clear h;go_enter func157,ntmps157;go_wp2_with fail
 refine (oG B b bs _ H.out).mono ?_;rintro e w1 ⟨rfl,h1,hb1,hk1⟩;obtain ⟨hB,v,hbk,hown,hne⟩:=h1;have c0:w1.cell? ⟨b,0,none⟩=some (.pointer (some ⟨b,0,none⟩)):=by rw [Lib.cell_of_heap hbk];rfl
 have c1:w1.cell? ⟨b,1,none⟩=some v:=by rw [Lib.cell_of_heap hbk];rfl
 go_wp2_with (at_builtin;refine wpList_append_ownF _ rfl _ _ 102 rfl B 5 i0 (.int .u8 0) 1 1 underlying102 hi hz0 hz1 hz2 rfl (by decide) _ _ _ rfl (hown.alloc _) ⟨w1.heap.size,0,none⟩ 1 1 [.int .u8 c] rfl rfl ?c1 ?c2 ?c3 ?c4 ?c5 ?_)
 case c1=>
  intro j u hj
  match j,hj with
  | 0,hj=>simp at hj;subst hj;simp [Addr.add]
 case c2=>intro u hu;simp at hu;subst hu;rfl
 case c3=>unfold maxLen;omega
 case c4=>omega
 case c5=>have:=hb1.size;simp;omega
 intro v' w2 hown' hgrow _;have hlt:b<w1.heap.size:=by exact U6
 have hb2:w2.heap[b]?=some (.cells #[.pointer (some ⟨b,0,none⟩),v] 104 (0,0)):=by rw [hgrow.block b (by simp;omega) (fun e=>hne e.symm),Lib.alloc_old w1 _ b hlt];exact hbk
 have d0:w2.cell? ⟨b,0,none⟩=some (.pointer (some ⟨b,0,none⟩)):=by rw [Lib.cell_of_heap hb2];rfl
 have d1:w2.cell? ⟨b,1,none⟩=some v:=by rw [Lib.cell_of_heap hb2];rfl
 have f1:w2.frozen? ⟨b,1,none⟩=false:=Lib.frozen_of_heap hb2 1;obtain ⟨g,cap,rfl⟩:∃ g cap,v'=.slice (some ⟨g,0,none⟩) (bs.length+1) cap:=by
  rcases hown'.2 with ⟨_,h0⟩ | ⟨g,cap,cur,fz,hv,_⟩
  ·omega
  ·exact ⟨g,cap,hv⟩
 go_wp2;go_ret;refine ⟨rfl,.inr ?_,?_,((hk1.alloc _).grown hgrow (Lib.ownsRowF_kind (hown.alloc _))).setCell ⟨b,1,none⟩ rfl _⟩
 ·exact Lib.BuilderAtF.put (T:=104) (e:=5) hB hb2 (bs':=bs++[.int .u8 c]) (by simpa using hown') (by decide)
 ·exact jf9
theorem Dh (B b:Nat) (bs:List jNk) (s:ByteArray) (w:jN9) (h:Lib.IsBuilderF 104 5 B b bs w) (hlen:bs.length+s.size<=140737488355328) (hBw:B<=w.heap.size) : Calls prog 119 #[.pointer (some ⟨b,0,none⟩),.string s] w fun e w'=>e=.returned (.tuple #[.int .i64 s.size,.nilIface])/\Wrote B b (bs++Lib.strCells s) w w':=by
 obtain ⟨i0,hi,hz0,hz1,hz2⟩:=info_parts Gj;have H:=hid h;clear h;go_enter func119,ntmps119;go_wp2_with fail
 refine (oG B b bs _ H.out).mono ?_;rintro e w1 ⟨rfl,h1,hb1,hk1⟩;obtain ⟨hB,v,hbk,hown,hne⟩:=h1;have c0:w1.cell? ⟨b,0,none⟩=some (.pointer (some ⟨b,0,none⟩)):=by rw [Lib.cell_of_heap hbk];rfl
 have c1:w1.cell? ⟨b,1,none⟩=some v:=by rw [Lib.cell_of_heap hbk];rfl
 go_wp2_with (at_builtin;refine Lib.wpList_append_own_stringF _ rfl _ _ 102 9 rfl B 5 i0 underlying102 underlying9 hi hz0 hz1 hz2 _ _ _ rfl hown s rfl ?c3 ?c4 ?c5 ?_)
 case c3=>unfold maxLen;omega
 case c4=>omega
 case c5=>have:=hb1.size;omega
 intro v' w2 hown' hgrow _;have hlt:b<w1.heap.size:=by exact U6
 have hb2:w2.heap[b]?=some (.cells #[.pointer (some ⟨b,0,none⟩),v] 104 (0,0)):=by rw [hgrow.block b hlt (fun e=>hne e.symm)];exact hbk
 have d0:w2.cell? ⟨b,0,none⟩=some (.pointer (some ⟨b,0,none⟩)):=by rw [Lib.cell_of_heap hb2];rfl
 have d1:w2.cell? ⟨b,1,none⟩=some v:=by rw [Lib.cell_of_heap hb2];rfl
 have f1:w2.frozen? ⟨b,1,none⟩=false:=Lib.frozen_of_heap hb2 1;obtain ⟨ao,n',cap,rfl⟩:∃ ao n' cap,v'=.slice ao n' cap:=by
  rcases hown'.2 with ⟨hv,_⟩ | ⟨g,cap,cur,fz,hv,_⟩
  ·exact ⟨_,_,_,hv⟩
  ·exact ⟨_,_,_,hv⟩
 go_wp2
 go_ret2
 refine ⟨rfl,.inr ?_,?_,(hk1.grown hgrow (Lib.ownsRowF_kind hown)).setCell ⟨b,1,none⟩ rfl _⟩
 ·exact Lib.BuilderAtF.put (T:=104) (e:=5) hB hb2 (bs':=bs++Lib.strCells s) (by simpa [Lib.strCells_length] using hown') (by decide)
 ·exact (hb1.grown hgrow (by have:=hb1.size;omega) (fun k hk=>(hown.lt k hk).1)).setCell (p:=⟨b,1,none⟩) hB _
theorem Ip (B b:Nat) (bs:List jNk) (r:Int) (hr0:-2147483648<=r) (hr1:r<=2147483647) (w:jN9) (h:Lib.IsBuilderF 104 5 B b bs w) (hlen:bs.length+4<=140737488355328) (hBw:B<=w.heap.size) : Calls prog 236 #[.pointer (some ⟨b,0,none⟩),.int .i32 r] w fun e w'=>e=.returned (.tuple #[.int .i64 (Lib.runeCells r).length,.nilIface])/\Wrote B b (bs++Lib.runeCells r) w w':=by
 have hk4:=Lib.runeCells_le r;have H:=hid h;clear h;go_enter func236,ntmps236;go_wp2_with fail
 refine (oG B b bs _ H.out).mono ?_;rintro e w1 ⟨rfl,h1,hb1,hk1⟩;obtain ⟨hB,v,hbk,hown,hne⟩:=h1;obtain ⟨ao,cap,rfl⟩:∃ ao cap,v=.slice ao bs.length cap:=by
  rcases hown.2 with ⟨hv,h0⟩ | ⟨g,cap,cur,fz,hv,_⟩
  ·exact ⟨none,0,by rw [hv,h0]⟩
  ·exact ⟨_,_,hv⟩
 have c0:w1.cell? ⟨b,0,none⟩=some (.pointer (some ⟨b,0,none⟩)):=by rw [Lib.cell_of_heap hbk];rfl
 have c1:w1.cell? ⟨b,1,none⟩=some (.slice ao bs.length cap):=by rw [Lib.cell_of_heap hbk];rfl
 go_wp2_with fail
 refine (Tryz.utf8_AppendRune_row B _ bs.length bs r hr0 hr1 _ hown hlen (by have:=hb1.size;omega)).mono ?_;rintro e w2 ⟨v',rfl,hown',o,hgrow⟩;have hlt:b<w1.heap.size:=by exact U6
 have hb2:w2.heap[b]?=some (.cells #[.pointer (some ⟨b,0,none⟩),.slice ao bs.length cap] 104 (0,0)):=by rw [hgrow.block b (by simp;omega) (fun e=>hne e.symm),Lib.alloc_old w1 _ b hlt];exact hbk
 have d0:w2.cell? ⟨b,0,none⟩=some (.pointer (some ⟨b,0,none⟩)):=by rw [Lib.cell_of_heap hb2];rfl
 have d1:w2.cell? ⟨b,1,none⟩=some (.slice ao bs.length cap):=by rw [Lib.cell_of_heap hb2];rfl
 have f1:w2.frozen? ⟨b,1,none⟩=false:=Lib.frozen_of_heap hb2 1;obtain ⟨g,cap',rfl⟩:∃ g cap',v'=.slice (some ⟨g,0,none⟩) (bs.length+(Lib.runeCells r).length) cap':=by
  rcases hown'.2 with ⟨_,h0⟩ | ⟨g,cap',cur,fz,hv,_⟩
  ·omega
  ·exact ⟨g,cap',hv⟩
 go_wp2
 go_ret2
 refine ⟨?_,.inr ?_,?_,((hk1.alloc _).grown hgrow (Lib.ownsRowF_kind (hown.alloc _))).setCell ⟨b,1,none⟩ rfl _⟩
 ·have e:((bs.length:Int)+((Lib.runeCells r).length:Int)-(bs.length:Int))=((Lib.runeCells r).length:Int):=by omega
  simp [e]
 ·exact Lib.BuilderAtF.put (T:=104) (e:=5) hB hb2 (bs':=bs++Lib.runeCells r) (by simpa using hown') (by decide)
 ·exact jf9
open Go.RowKit
def Ie (b U:Nat) (p:jNk) (bs:List jNk) (w:jN9):Prop:=
 b<U/\∃ v,w.heap[b]?=some (.cells #[p,v] 104 (0,0))/\w.ownsRowF U 5 1 v bs.length bs/\(bs=[]->v=.slice none 0 0)
def Gl (b U:Nat) (bs:List jNk) (w:jN9):Prop:=Ie b U (.pointer none) bs w\/Ie b U (.pointer (some ⟨b,0,none⟩)) bs w
structure nJ (b U:Nat) (w w':jN9):Prop where
 os:w'.os=w.os
 tape:w'.tape=w.tape
 output:w'.output=w.output
 size:w.heap.size<=w'.heap.size
 blk:∀ k,k<U->k≠b->w'.heap[k]?=w.heap[k]?
section
variable {b U:Nat} {bs:List jNk} {w w' w'':jN9} {p v:jNk}
theorem nJ.refl (b U:Nat) (w:jN9):nJ b U w w:=⟨rfl,rfl,rfl,Nat.le_refl _,fun _ _ _=>rfl⟩
theorem nJ.trans (h:nJ b U w w') (k:nJ b U w' w''):nJ b U w w'':=
 ⟨k.os.trans h.os,k.tape.trans h.tape,k.output.trans h.output,Nat.le_trans h.size k.size,fun j h1 h2=>(k.blk j h1 h2).trans (h.blk j h1 h2)⟩
theorem nJ.below {S:Nat} (h:nJ b U w w') (hS:S<=b) (hb:b<U):Below S w w':=⟨h.os,h.tape,h.output,h.size,fun k hk=>h.blk k (by omega) (by omega)⟩
theorem Ie.lt (h:Ie b U p bs w):b<w.heap.size:=by obtain ⟨-,v,h,-⟩:=h;exact (Array.getElem?_eq_some_iff.1 h).1
theorem Ie.cell0 (h:Ie b U p bs w):w.cell? ⟨b,0,none⟩=some p:=by obtain ⟨-,v,h,-⟩:=h;rw [Lib.cell_of_heap h];rfl
theorem Ie.shape (h:Ie b U p bs w):w.shape? b=some (104,2):=by obtain ⟨-,v,h,-⟩:=h;simp [World.shape?,h]
theorem Ie.frozen0 (h:Ie b U p bs w):w.frozen? ⟨b,0,none⟩=false:=by obtain ⟨-,v,h,-⟩:=h;exact Lib.frozen_of_heap h 0
theorem Jo{P:Prop}(h:P:=by
 simp [World.setCell,Array.getElem?_modify,h]):P:=h
theorem set_self {w:jN9} {b:Nat} {c:Array jNk} {t:TypeId} (h:w.heap[b]?=some (.cells c t (0,0))) (j:Nat) (u:jNk):(w.setCell ⟨b,j,none⟩ u).heap[b]?=some (.cells (c.setIfInBounds j u) t (0,0)):=by exact Jo
theorem nJ.set (w:jN9) (b U j:Nat) (u:jNk):nJ b U w (w.setCell ⟨b,j,none⟩ u):=
 ⟨rfl,rfl,rfl,by simp [World.setCell],fun k _ hk=>jL1 w ⟨b,j,none⟩ u k hk⟩
theorem nJ.grown {v:jNk} {n:Nat} {xs:List jNk} (hown:w.ownsRowF U 5 1 v n xs) (hg:w.grownBy w' v.ownBlock) (hU:U<=w.heap.size):nJ b U w w':=
 ⟨hg.os,hg.tape,hg.output,hg.size,fun k hk _=>hg.block k (by omega) (fun e=>by have:=(hown.lt k e.symm).1;omega)⟩
theorem vS {base n:Nat} {v:jNk} {xs:List jNk} {e:TypeId} (h:w.ownsRowF base e 1 v n xs) (hs:∀ k,v.ownBlock=some k->w'.heap[k]?=w.heap[k]?):w'.ownsRowF base e 1 v n xs:=by
 refine ⟨h.1,?_⟩;rcases h.2 with hn | ⟨g,cap,cur,fz,rfl,hb,hgg,rest⟩
 ·exact .inl hn
 ·exact .inr ⟨g,cap,cur,fz,rfl,hb,(hs g rfl).trans hgg,rest⟩
theorem Ie.used (h:Ie b U p bs w) (q:jNk):Ie b U q bs (w.setCell ⟨b,0,none⟩ q):=by obtain ⟨h1,v,h2,h3,h4⟩:=h;refine ⟨h1,v,by rw [set_self h2];rfl,vS h3 (fun k hk=>jL1 w ⟨b,0,none⟩ q k (fun e=>?_)),h4⟩;have e:k=b:=e;have:=(h3.lt k hk).1;omega
theorem Ie.same (h:Ie b U p bs w) (hs:∀ k,k<w.heap.size->w'.heap[k]?=w.heap[k]?):Ie b U p bs w':=by have hl:=h.lt;obtain ⟨h1,v,h2,h3,h4⟩:=h;exact ⟨h1,v,(hs b hl).trans h2,vS h3 (fun k hk=>hs k (h3.lt k hk).2),h4⟩
theorem Gl.below (h:Gl b U bs w) (hb:Below w.heap.size w w'):Gl b U bs w':=
 h.imp (fun h=>h.same (fun k hk=>hb.block k hk)) (fun h=>h.same (fun k hk=>hb.block k hk))
theorem Gl.lt (h:Gl b U bs w):b<w.heap.size:=h.elim (·.lt) (·.lt)
theorem Gl.new {n:Nat} (h:w.heap[b]?=some (.cells #[.pointer none,.slice none 0 0] 104 (0,0))) (hU:b<n):Gl b n [] w:=
 .inl ⟨hU,_,h,World.ownsRowF_nil _ _ _ _,fun _=>rfl⟩
end
theorem Jp (b U:Nat) (bs:List jNk) (w:jN9) (h:Gl b U bs w) : Calls prog 156 #[.pointer (some ⟨b,0,none⟩)] w fun e w'=>e=.returned (.tuple #[])/\Ie b U (.pointer (some ⟨b,0,none⟩)) bs w'/\nJ b U w w':=by
 rcases h with h | h
 ·refine (nD b w h.cell0 h.shape h.frozen0).mono ?_;rintro e w' ⟨rfl,rfl⟩;exact ⟨rfl,h.used _,nJ.set _ _ _ _ _⟩
 ·refine (oF b w h.cell0).mono ?_;rintro e w' ⟨rfl,rfl⟩;exact ⟨rfl,h,nJ.refl _ _ _⟩
def WrU (b U:Nat) (bs:List jNk) (s:ByteArray) (w:jN9) (e:Ending) (w':jN9):Prop:=
 e=.returned (.tuple #[.int .i64 s.size,.nilIface])/\Gl b U (bs++Lib.strCells s) w'/\nJ b U w w'
theorem Dx (b U:Nat) (bs:List jNk) (s:ByteArray) (w:jN9) (h:Gl b U bs w) (hlen:bs.length+s.size<=140737488355328) (hUw:U<=w.heap.size) (hs0:0<s.size) : Calls prog 119 #[.pointer (some ⟨b,0,none⟩),.string s] w (WrU b U bs s w):=by
 obtain ⟨i0,hi,hz0,hz1,hz2⟩:=info_parts Gj;have H:=hid h;have HS0:=hid hs0;clear h hs0;go_enter func119,ntmps119;go_wp2_with fail
 refine (Jp b U bs _ H.out).mono ?_;rintro e w1 ⟨rfl,h1,hb1⟩;have hlt:=h1.lt;obtain ⟨hB,v,hbk,hown,hne⟩:=h1;have c0:w1.cell? ⟨b,0,none⟩=some (.pointer (some ⟨b,0,none⟩)):=by rw [Lib.cell_of_heap hbk];rfl
 have c1:w1.cell? ⟨b,1,none⟩=some v:=by rw [Lib.cell_of_heap hbk];rfl
 have HNE:=hid hne;have HB1:=hid hb1;have hz1':=hb1.size;clear hne hb1;go_wp2_with (at_builtin;refine Lib.wpList_append_own_stringF _ rfl _ _ 102 9 rfl U 5 i0 underlying102 underlying9 hi hz0 hz1 hz2 _ _ _ rfl hown s rfl ?c3 ?c4 ?c5 ?_)
 case c3=>unfold maxLen;omega
 case c4=>omega
 case c5=>omega
 intro v' w2 hown' hgrow _;have hb2:w2.heap[b]?=some (.cells #[.pointer (some ⟨b,0,none⟩),v] 104 (0,0)):=by rw [hgrow.block b hlt (fun e=>by have:=(hown.lt b e.symm).1;omega)];exact hbk
 have d0:w2.cell? ⟨b,0,none⟩=some (.pointer (some ⟨b,0,none⟩)):=by rw [Lib.cell_of_heap hb2];rfl
 have d1:w2.cell? ⟨b,1,none⟩=some v:=by rw [Lib.cell_of_heap hb2];rfl
 have f1:w2.frozen? ⟨b,1,none⟩=false:=Lib.frozen_of_heap hb2 1;obtain ⟨ao,n',cap,rfl⟩:∃ ao n' cap,v'=.slice ao n' cap:=by
  rcases hown'.2 with ⟨hv,_⟩ | ⟨g,cap,cur,fz,hv,_⟩
  ·exact ⟨_,_,_,hv⟩
  ·exact ⟨_,_,_,hv⟩
 have B2:=hid (nJ.grown (b:=b) hown hgrow (by omega));go_wp2
 go_ret2
 refine ⟨rfl,.inr ⟨hB,.slice ao n' cap,by rw [set_self hb2];rfl,?_,fun e=>?_⟩,(HB1.out.trans B2.out).trans (nJ.set _ _ _ _ _)⟩
 ·have h9:w2.ownsRowF U 5 1 (.slice ao n' cap) (bs++Lib.strCells s).length (bs++Lib.strCells s):=by simpa [Lib.strCells_length] using hown'
  refine vS h9 (fun k hk=>jL1 w2 ⟨b,1,none⟩ _ k (fun e=>?_));have e:k=b:=e;have:=(h9.lt k hk).1;omega
 ·have h9:(bs++Lib.strCells s).length=0:=by rw [e];rfl
  rw [List.length_append,Lib.strCells_length] at h9;have:=HS0.out;omega
theorem Zw (b:Nat) (p v:jNk) (w:jN9) (h:w.heap[b]?=some (.cells #[p,v] 104 (0,0))) : Calls prog 129 #[.pointer (some ⟨b,0,none⟩)] w fun e w'=>e=.returned (.tuple #[])/\w'.heap[b]?=some (.cells #[.pointer none,.slice none 0 0] 104 (0,0))/\w.grownBy w' (some b):=by
 have c0:w.cell? ⟨b,0,none⟩=some p:=by rw [Lib.cell_of_heap h];rfl
 have c1:w.cell? ⟨b,1,none⟩=some v:=by rw [Lib.cell_of_heap h];rfl
 have f0:w.frozen? ⟨b,0,none⟩=false:=Lib.frozen_of_heap h 0;have f1:w.frozen? ⟨b,1,none⟩=false:=Lib.frozen_of_heap h 1;have H:=hid h;clear h;go_enter func129,ntmps129;go_wp2
 go_end0
 refine ⟨rfl,?_,?_⟩
 ·rw [set_self (set_self H.out 0 _) 1 _];rfl
 ·refine ⟨rfl,rfl,rfl,by simp [World.setCell],fun k hk hne=>?_⟩;have hne':k≠b:=fun e=>hne (by rw [e])
  exact (jL1 _ ⟨b,1,none⟩ _ k hne').trans (jL1 _ ⟨b,0,none⟩ _ k hne')
def StU (b U M:Nat) (l:List UInt8) (w:jN9) (e:Ending) (w':jN9):Prop:=
 e=.returned (.string ⟨l.toArray⟩)/\w'.os=w.os/\w'.tape=w.tape/\w'.output=w.output/\w'.heap.size=w.heap.size/\(∀ k,k<U->w'.heap[k]?=w.heap[k]?)/\(∀ k,M<=k->w'.heap[k]?=w.heap[k]?)
theorem QZ (b U:Nat) (l:List UInt8) (w0 w:jN9) (h:Gl b U (Lib.byteCells l) w0) (hw:Below w0.heap.size w0 w) : Calls prog 73 #[.pointer (some ⟨b,0,none⟩)] w (StU b U w0.heap.size l w):=by
 obtain ⟨p,hbU,v,hbk,hown,hnil⟩:∃ p,Ie b U p (Lib.byteCells l) w0:=by
  rcases h with h | h
  ·exact ⟨_,h⟩
  ·exact ⟨_,h⟩
 have hbl:b<w0.heap.size:=(Array.getElem?_eq_some_iff.1 hbk).1;by_cases h0:l=[]
 ·subst h0;obtain rfl:=hnil rfl;have hbk2:w.heap[b]?=some (.cells #[p,.slice none 0 0] 104 (0,0)):=(hw.block b hbl).trans hbk;have hUS:∀ (W:jN9) (q:Option Addr),(Builtin.unsafeString_ #[145,3] 9 #[.pointer q,.int .i64 0]).run prog W=.ok (.string .empty) W:=fun W q=>Lib.run_unsafeString_none W _ _ _ q
  have c1:w.drew.cell? ⟨b,1,none⟩=some (.slice none 0 0):=by have:w.drew.heap[b]?=some (.cells #[p,.slice none 0 0] 104 (0,0)):=hbk2;rw [Lib.cell_of_heap this];rfl
  have hSD:(Builtin.unsafeSliceData_ #[102] 145 #[.slice none 0 0]).run prog w.drew=.ok (.pointer none) w.drew:=rfl;clear hbk hown hnil hbk2 hw h;go_enter func73,ntmps73;go_wp2
  go_region
  all_goals (go_wp2;go_ret;exact ⟨rfl,rfl,rfl,rfl,rfl,fun _ _=>rfl,fun _ _=>rfl⟩)
 have hl0:l.length≠0:=by simpa using h0
 rw [Lib.byteCells_length] at hown;obtain ⟨g,cap,cur,fz,rfl,hbg,hg,hfz,hnc,hcm,hcs,htake⟩:∃ g cap cur fz,v=.slice (some ⟨g,0,none⟩) l.length cap/\U<=g/\w0.heap[g]?=some (.cells cur 5 fz)/\fz.2<=l.length*1/\l.length<=cap/\cap<=maxLen/\cur.size=cap*1/\cur.toList.take (l.length*1)=Lib.byteCells l:=by
  rcases hown.2 with ⟨_,hz⟩ | ⟨g,cap,cur,fz,hv,r⟩
  ·exact absurd hz hl0
  ·exact ⟨g,cap,cur,fz,hv,r⟩
 have hgl:g<w0.heap.size:=(Array.getElem?_eq_some_iff.1 hg).1;have hg2:w.heap[g]?=some (.cells cur 5 fz):=(hw.block g hgl).trans hg;have hbk2:w.heap[b]?=some (.cells #[p,.slice (some ⟨g,0,none⟩) l.length cap] 104 (0,0)):=(hw.block b hbl).trans hbk;have c1:w.drew.cell? ⟨b,1,none⟩=some (.slice (some ⟨g,0,none⟩) l.length cap):=by have:w.drew.heap[b]?=some (.cells #[p,.slice (some ⟨g,0,none⟩) l.length cap] 104 (0,0)):=hbk2;rw [Lib.cell_of_heap this];rfl
 have hSD:(Builtin.unsafeSliceData_ #[102] 145 #[.slice (some ⟨g,0,none⟩) l.length cap]).run prog w.drew=.ok (.pointer (some ⟨g,0,none⟩)) w.drew:=
  Lib.run_unsafeSliceData_row _ _ _ _ _ _ (by omega)
 have hUS:(Builtin.unsafeString_ #[145,3] 9 #[.pointer (some ⟨g,0,none⟩),.int .i64 l.length]).run prog w.drew=.ok (.string ⟨l.toArray⟩) (w.drew.freeze ⟨g,0,none⟩ l.length):=by
  refine Lib.run_unsafeString_row w.drew 145 3 9 5 underlying145 (by kernel_rfl) g cur.size (by have hg':w.drew.heap[g]?=some (.cells cur 5 fz):=hg2;simp [World.shape?,hg']) l h0 (by omega) (by unfold maxLen at hcm;omega) ?_;intro j x hx;have hj:cur[j]?=some (.int .u8 x.toNat):=by
   have h1:(Lib.byteCells l)[j]?=some (.int .u8 x.toNat):=by simp [Lib.byteCells,hx]
   rw [<- htake] at h1;have hjl:j<l.length*1:=by have:=(List.getElem?_eq_some_iff.1 hx).1;omega
   rw [List.getElem?_take_of_lt hjl] at h1;rw [<- h1];simp
  have hg':w.drew.heap[g]?=some (.cells cur 5 fz):=hg2;have e:((⟨g,0,none⟩:Addr).add j)=⟨g,j,none⟩:=by unfold Addr.add;split<;>simp_all
  rw [e,Lib.cell_of_heap hg'];exact hj
 have FK:Hid (StU b U w0.heap.size l w (.returned (.string ⟨l.toArray⟩)) (w.drew.freeze ⟨g,0,none⟩ l.length)):=by
  have hk:∀ k,g≠k->(w.drew.freeze ⟨g,0,none⟩ l.length).heap[k]?=w.heap[k]?:=by
   intro k hne';unfold World.freeze;split
   ·rfl
   ·show (Array.modify _ _ _)[k]?=_;rw [Array.getElem?_modify,if_neg hne'];rfl
  have hm:∀ (W:jN9) (a:Addr) (n:Nat),(W.freeze a n).os=W.os/\(W.freeze a n).tape=W.tape/\(W.freeze a n).output=W.output/\(W.freeze a n).heap.size=W.heap.size:=by
   intro W a n;unfold World.freeze;split
   ·exact ⟨rfl,rfl,rfl,rfl⟩
   ·exact ⟨rfl,rfl,rfl,by simp⟩
  obtain ⟨m1,m2,m3,m4⟩:=hm w.drew ⟨g,0,none⟩ l.length;exact ⟨rfl,m1,m2,m3,m4,fun k hlt=>hk k (by omega),fun k hle=>hk k (by omega)⟩
 clear hg hbk hown hbk2 hg2 htake hnil hw h;go_enter func73,ntmps73;go_wp2
 go_region
 all_goals (go_wp2;go_ret;exact FK.out)
end Go.Proofs.YtkfnkeflalcphaaGreatDoor

