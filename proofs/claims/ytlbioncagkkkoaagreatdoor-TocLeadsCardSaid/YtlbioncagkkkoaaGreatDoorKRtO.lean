/- Contract of (*count.levels).next: the counters of sections go up, and the value of the section. Contract of count.Numbers$1: the count of a kind goes up. What the closures of count.Numbers share, and how the steps of a round change it. Contract of count.Notes. Contracts of toc.levelOf and of the test of toc.Of. Contracts of the parts of publisherref22: num, in, kind, caption, value, counters. Contracts of publisherref22.value and counters. Contracts of publisherref22.value, kind, caption. Contracts of publisherref24.level, publisherref22.one. -/
import Derived.Test.YtlbioncagkkkoaaGreatDoorKTcG
import Derived.Test.YtlbioncagkkkoaaGreatDoorKSlugAll
import Derived.Test.YtlbioncagkkkoaaGreatDoorKShelf
import Derived.Test.YtlbioncagkkkoaaGreatDoorKPlMz
import Derived.Test.YtlbioncagkkkoaaGreatDoorKEnW
import Derived.Deep.RegionHeld3
import Derived.BigQuiet
import Derived.Deep.QuietTactic
import Derived.BigGuardPart
set_option maxHeartbeats 4000000
set_option maxRecDepth 100000
open Go.Lib (hid)
namespace Go.Proofs.YtlbioncagkkkoaaGreatDoor
open Go.RowKit
set_option linter.unusedVariables false
set_option linter.unusedSimpArgs false
def upI (c:List Nat) (k i:Nat):Nat:=if i+1<k then max (c.getD i 0) 1 else if i+1=k then c.getD i 0+1 else 0
def midC (c:List Nat) (k i:Nat):List Nat:=(List.range 6).map fun j=>if j<i then upI c k j else c.getD j 0
theorem midC_zero (c:List Nat) (k:Nat) (h:c.length=6):midC c k 0=c:=by
 match c,h with
 | [a0,a1,a2,a3,a4,a5],_=>rfl
theorem midC_six (c:List Nat) (k:Nat):midC c k 6=cntUp c k:=by
 unfold midC cntUp upI
 apply List.map_congr_left
 intro j hj
 rw [List.mem_range] at hj
 rw [if_pos hj]
theorem midC_len (c:List Nat) (k i:Nat):(midC c k i).length=6:=by unfold midC;simp
theorem midC_get (c:List Nat) (k i:Nat) (h:i<6):(midC c k i)[i]?=some (c.getD i 0):=by
 unfold midC
 rw [List.getElem?_map,List.getElem?_range h]
 simp
theorem midC_set (c:List Nat) (k i:Nat) (h:i<6):(midC c k i).set i (upI c k i)=midC c k (i+1):=by
 apply List.ext_getElem?
 intro j
 rw [List.getElem?_set]
 have hl:=midC_len c k i
 by_cases e:i=j
 ·subst e
  rw [if_pos rfl,if_pos (by omega)]
  unfold midC
  rw [List.getElem?_map,List.getElem?_range h]
  simp
 ·rw [if_neg e]
  unfold midC
  rw [List.getElem?_map,List.getElem?_map]
  by_cases hj:j<6
  ·rw [List.getElem?_range hj]
   simp only [Option.map_some]
   by_cases h1:j<i
   ·rw [if_pos h1,if_pos (by omega)]
   ·rw [if_neg h1,if_neg (by omega)]
  ·rw [List.getElem?_eq_none (by simp;omega)];rfl
def partsC (c:List Nat) (k n:Nat):List ByteArray:=(List.range n).map fun j=>decS (upI c k j)
theorem partsC_succ (c:List Nat) (k n:Nat):partsC c k (n+1)=partsC c k n++[decS (upI c k n)]:=by
 unfold partsC;rw [List.range_succ,List.map_append];rfl
theorem partsC_len (c:List Nat) (k n:Nat):(partsC c k n).length=n:=by unfold partsC;simp
theorem join_dot:∀ (l:List (List UInt8)),Lib.join l [46]=dotL l
 | []=>rfl
 | [x]=>by simp [Lib.join,dotL]
 | x::y::l=>by
  have:=join_dot (y::l)
  simp only [Lib.join,dotL] at this ⊢
  simp [this]
theorem partsC_all (c:List Nat) (k:Nat) (h:k<=6):(partsC c k k).map (·.data.toList)=((cntUp c k).take k).map Lib.decDigits:=by
 unfold partsC cntUp upI decS
 rw [<- List.map_take,List.take_range,Nat.min_eq_left h]
 simp
theorem dotL_len:∀ (l:List (List UInt8)) (n:Nat),(∀ x∈l,x.length<=n)->(dotL l).length<=l.length*(n+1)
 | [],_,_=>by simp [dotL]
 | [x],n,h=>by have:=h x (by simp);simp [dotL];omega
 | x::y::l,n,h=>by
  have h1:=h x (by simp)
  have h2:=dotL_len (y::l) n (fun z hz=>h z (by simp [hz]))
  simp only [dotL,List.length_append,List.length_cons] at h2 ⊢
  rw [Nat.add_mul]
  omega
theorem PT.grown {w w':World} {row:Option Nat} (h:PT w) (hg:w.grownBy w' row) (hne:some 1≠row):PT w':=by
 refine ⟨Nat.lt_of_lt_of_le h.1 hg.size,?_⟩
 have hgl : Tryz.prog.globalNamed "internal/strconv.uint64pow10" = some 1 := by kernel_rfl
 have h2:=h.2
 unfold Lib.TabIs World.var? at h2 ⊢
 rw [hgl] at h2 ⊢
 simp only [Option.bind_some] at h2 ⊢
 rw [hg.block _ h.1 hne]
 exact h2
theorem lvl_int (lv:Int):max 1 (min lv 6)=((lvlOf lv:Nat):Int):=by unfold lvlOf;split<;>(try split)<;>omega
theorem lvl_bd (lv:Int):1<=lvlOf lv/\lvlOf lv<=6:=by unfold lvlOf;split<;>(try split)<;>omega
def intC (c:List Nat):List Value:=c.map fun (n:Nat)=>.int .i64 (n:Int)
theorem intC_get (c:List Nat) (i:Nat) (n:Nat) (h:c[i]?=some n):(intC c)[i]?=some (.int .i64 (n:Int)):=by unfold intC;rw [List.getElem?_map,h];rfl
theorem intC_set (c:List Nat) (i n:Nat):(intC c).set i (.int .i64 (n:Int))=intC (c.set i n):=by unfold intC;rw [List.map_set]
theorem q1c {T:TypeId} {p:Nat} {cs:List Value} {w:World} (h:CB T p cs w) (j:Nat):w.frozen? ⟨p,j,none⟩=false:=by
 unfold CB at h
 simp [World.frozen?,h]
theorem cb_set {T:TypeId} {p:Nat} {cs:List Value} {w:World} (h:CB T p cs w) (j:Nat) (u:Value):CB T p (cs.set j u) (w.setCell ⟨p,j,none⟩ u):=by
 unfold CB at h ⊢
 simp [World.setCell,Array.getElem?_modify,h]
theorem q04 {T:TypeId} {p:Nat} {cs:List Value} {w w':World} (h:CB T p cs w) {row:Option Nat} (hg:w.grownBy w' row) (hne:some p≠row):CB T p cs w':=(hg.block p h.lt hne).trans h
structure NxB (T:TypeId) (p:Nat) (c:List Nat) (k m i:Nat) (w:World) (v:Value) (wr:World):Prop where
 own:wr.ownsRow w.heap.size 9 1 v m ((partsC c k m).map Value.string)
 cb:CB T p (intC (midC c k i)) wr
 gr:w.grownBy wr (some p)
section
variable {T:TypeId} {p:Nat} {c:List Nat} {k m i:Nat} {w wr w':World} {v v':Value}
theorem NxB.ne (h:NxB T p c k m i w v wr) (hp:p<w.heap.size):v.ownBlock≠some p:=fun e=>by have:=(h.own.lt p e).1;omega
theorem NxB.set (h:NxB T p c k m i w v wr) (hp:p<w.heap.size) (hi:i<6) (y:Nat) (hy:upI c k i=y):NxB T p c k m (i+1) w v (wr.setCell ⟨p,i,none⟩ (.int .i64 (y:Int))):=by
 refine ⟨q1g h.own _ _ (h.ne hp),?_,?_⟩
 ·have:=cb_set h.cb i (.int .i64 (y:Int))
  rw [intC_set,<- hy,midC_set c k i hi] at this
  rw [<- hy];exact this
 ·have hg:=h.gr
  refine ⟨hg.os,hg.tape,hg.output,by simpa [World.setCell] using hg.size,fun b hb hne=>?_⟩
  exact (Below.heap_setCell wr ⟨p,i,none⟩ _ b (fun e=>hne (by rw [e]))).trans (hg.block b hb hne)
theorem NxB.drew (h:NxB T p c k m i w v wr):NxB T p c k m i w v wr.drew:=⟨h.own.drew,h.cb,⟨h.gr.os,h.gr.tape,h.gr.output,h.gr.size,h.gr.block⟩⟩
theorem NxB.below (h:NxB T p c k m i w v wr) (hb:Below wr.heap.size wr w'):NxB T p c k m i w v w':=
 ⟨q27 h.own hb,h.cb.below hb,⟨hb.os.trans h.gr.os,hb.tape.trans h.gr.tape,hb.output.trans h.gr.output,Nat.le_trans h.gr.size hb.size,fun b hlt hne=>(hb.block b (Nat.lt_of_lt_of_le hlt h.gr.size)).trans (h.gr.block b hlt hne)⟩⟩
theorem NxB.pt (h:NxB T p c k m i w v wr) (hT:PT w) (hp:p≠1):PT wr:=hT.grown h.gr (fun e=>hp (Option.some.inj e).symm)
theorem NxB.put (h:NxB T p c k m i w v wr) (hp:p<w.heap.size) {o:Obj} (hg:(wr.alloc o).grownBy w' v.ownBlock) (y:Nat) (hy:upI c k m=y) (ho:w'.ownsRow w.heap.size 9 1 v' (m+1) ((partsC c k m).map Value.string++[.string (decS y)])):NxB T p c k (m+1) i w v' w':=by
 refine ⟨?_,q04 (q04 h.cb (World.grownBy_alloc _ _ none) (by simp)) hg (fun e=>h.ne hp e.symm),?_⟩
 ·rw [partsC_succ,hy,List.map_append];exact ho
 ·have g1:=h.gr
  refine ⟨hg.os.trans g1.os,hg.tape.trans g1.tape,hg.output.trans g1.output,Nat.le_trans g1.size (Nat.le_trans (by simp) hg.size),fun b hlt hne=>?_⟩
  have hb:b<wr.heap.size:=Nat.lt_of_lt_of_le hlt g1.size
  rw [hg.block b (by simp;omega) (fun e=>by have:=(h.own.lt b e.symm).1;omega)]
  exact ((World.grownBy_alloc wr o none).block b hb (by simp)).trans (g1.block b hlt hne)
end
theorem join_any (xs:List ByteArray) (sep:ByteArray) (v:Value) (w:World) (h:Sees w 1 v xs.length (xs.map Value.string)) (hl:(Lib.join (xs.map (·.data.toList)) sep.data.toList).length<=140737488355328) (hn:xs.length<=140737488355328) :
  Calls Tryz.prog 81 #[v,.string sep] w fun e w'=>e=.returned (.string ⟨(Lib.join (xs.map (·.data.toList)) sep.data.toList).toArray⟩)/\Below w.heap.size w w':=by
 obtain ⟨-,a,cap,rfl,hcap,hmx,hcs⟩:=h
 by_cases h0:xs=[]
 ·subst h0
  refine (Tryz.strings_Join_none a cap sep w).mono ?_
  rintro e w' ⟨rfl,rfl⟩
  exact ⟨rfl,Below.refl _ _⟩
 ·have hx:0<xs.length:=List.length_pos_iff.2 h0
  rcases hcs with h1 | ⟨b,off,rfl,hc⟩
  ·omega
  ·refine Tryz.strings_Join b off cap xs sep w (fun j x hj=>?_) ?_ hn (by omega) hl
   ·have:=hc j (.string x) (by rw [List.getElem?_map,hj];rfl)
    simpa using this
   ·obtain ⟨x,hj⟩:∃ x,xs[0]?=some x:=⟨_,List.getElem?_eq_getElem hx⟩
    exact q0c (hc 0 (.string x) (by rw [List.getElem?_map,hj];rfl))
theorem upI_bd (c:List Nat) (k i:Nat) (h:∀ i,c.getD i 0<=999999):upI c k i<=1000000:=by
 have:=h i
 unfold upI;split
 ·omega
 ·split<;>omega
theorem parts_val (c:List Nat) (K:Nat) (h:K<=6) (hb:∀ i,c.getD i 0<=999999):(⟨(Lib.join ((partsC c K K).map (·.data.toList)) (⟨#[46]⟩:ByteArray).data.toList).toArray⟩:ByteArray)=valS (cntUp c K) K/\(Lib.join ((partsC c K K).map (·.data.toList)) (⟨#[46]⟩:ByteArray).data.toList).length<=140737488355328:=by
 have e:(⟨#[46]⟩:ByteArray).data.toList=[46]:=rfl
 rw [e,join_dot]
 constructor
 ·rw [partsC_all c K h];rfl
 ·refine Nat.le_trans (dotL_len _ 1000001 ?_) ?_
  ·intro x hx
   obtain ⟨y,hy,rfl⟩:=List.mem_map.1 hx
   unfold partsC at hy
   obtain ⟨j,-,rfl⟩:=List.mem_map.1 hy
   have h1:=upI_bd c K j hb
   have h2:=dec_len (upI c K j)
   show (Lib.decDigits (upI c K j)).toArray.toList.length<=_
   simp only []
   omega
  ·rw [List.length_map,partsC_len];omega
def Nx1 (T:TypeId) (p:Nat) (c:List Nat) (k:Nat) (w:World) (vi v:Value) (wr:World):Prop:=
 ∃ i:Nat,i<=6/\vi=.int .i64 (i:Int)/\NxB T p c k (min i k) i w v wr
theorem next_any (T:TypeId) (p:Nat) (c:List Nat) (lv:Int) (w:World) (hc6:c.length=6) (hcb:∀ i,c.getD i 0<=999999)
  (hCB:CB T p (intC c) w) (hPT:PT w) (hp:p≠1) :
  Calls Tryz.prog 49 #[.pointer (some ⟨p,0,none⟩),.int .i64 lv] w fun e w'=>e=.returned (.string (valS (cntUp c (lvlOf lv)) (lvlOf lv)))/\CB T p (intC (cntUp c (lvlOf lv))) w'/\w.grownBy w' (some p):=by
 obtain ⟨i0,hi,hz0,hz1,hz2⟩:=info_parts infoS
 obtain ⟨hk1,hk6⟩:=lvl_bd lv
 have hlv:=lvl_int lv
 generalize lvlOf lv=K at *
 have HCB:=hid hCB
 have HPT:=hid hPT
 have HB:=hid hcb
 have HC6:=hid hc6
 have hpl:=hCB.lt
 have HNP:=hid hp
 clear hCB hPT hcb hc6 hp
 go_enter Tryz.func49,Tryz.ntmps49
 go_wp2_with (at_make;refine wpList_make_own _ rfl _ _ 40 rfl w.heap.size 9 i0 (.string ByteArray.empty) 1 Tryz.underlying40 hi hz0 hz1 .i64 .i64 _ K rfl rfl rfl ?m1 ?m2 ?m3 ?_)
 case m1=>rw [hz2];omega
 case m2=>unfold maxLen;omega
 case m3=>omega
 intro w2 hown2 hg2
 have A0:Hid (Nx1 T p c K w (.int .i64 0) (.slice (some ⟨w.heap.size,0,none⟩) 0 K) w2):=by
  refine ⟨0,by omega,rfl,?_,?_,?_⟩
  ·rw [Nat.zero_min];exact hown2
  ·rw [midC_zero c K HC6.out];exact q04 HCB.out hg2 (by simp)
  ·exact ⟨hg2.os,hg2.tape,hg2.output,hg2.size,fun j hj _=>hg2.block j hj (by simp)⟩
 clear hown2 hg2
 go_wp2
 go_loopw [13,6] (fun vi v wr=>Nx1 T p c K w vi v wr) (fun i _ _=>6-(intOf i).toNat)
 case atStart=>exact A0.out
 case round=>
  obtain ⟨i,hi6,rfl,hnx⟩:=hrel
  have NX:=hid hnx
  have hsz:=hnx.gr.size
  clear A0 hnx
  by_cases hlt:i<6
  ·have hx:=HB.out i
   have c0:=NX.out.cb.cell i _ (intC_get _ _ _ (midC_get c K i hlt))
   have f0:=q1c NX.out.cb i
   have hU:upI c K i=if i+1<K then max (c.getD i 0) 1 else if i+1=K then c.getD i 0+1 else 0:=rfl
   generalize c.getD i 0=x at *
   by_cases h1:i+1<K
   ·rw [if_pos h1] at hU
    obtain ⟨y,hy⟩:∃ y,y=max x 1:=⟨_,rfl⟩
    have hy2:max (x:Int) 1=(y:Int):=by omega
    have hyb:y<=1000000:=by omega
    rw [<- hy] at hU
    have HU:=hid hU
    have N3:=hid (NX.out.set hpl hlt y hU).drew
    clear hU hy
    go_wp2
    go_region
    go_wp2_with fail
    refine (itoa_any y _ hyb (N3.out.pt HPT.out HNP.out)).mono ?_
    rintro e w4 ⟨rfl,b4⟩
    have N4:=hid (N3.out.below b4)
    have hm:min i K=i:=by omega
    have hm2:min (i+1) K=i+1:=by omega
    rw [hm] at N4
    have hown4:=N4.out.own
    have hsz4:=N4.out.gr.size
    clear b4 N3 NX c0 f0
    go_wp2_with (at_builtin;refine wpList_append_own _ rfl _ _ 40 rfl w.heap.size 9 i0 (.string ByteArray.empty) 1 16 Tryz.underlying40 hi hz0 hz1 hz2 rfl (by decide) _ _ _ rfl (hown4.alloc _) ⟨_,0,none⟩ 1 1 [.string (decS y)] rfl rfl ?c1 ?c2 ?c3 ?c4 ?c5 ?_)
    case c1=>exact new_one _ _ _
    case c2=>intro u hu;simp at hu;subst hu;rfl
    case c3=>unfold maxLen;omega
    case c4=>omega
    case c5=>simp;omega
    intro v' w6 hown' hgrow _
    have N6:=hid (N4.out.put hpl hgrow y HU.out (by first | exact hown' | (rw [h2];exact hown')))
    clear hown' hgrow hown4 N4
    go_wp2
    go_roundw
    case rel=>exact ⟨i+1,by omega,by go_num,hm2.symm ▸ N6.out⟩
    case measure=>simp [intOf];omega
   ·rw [if_neg h1] at hU
    by_cases h2:i+1=K
    ·rw [if_pos h2] at hU
     have HU:=hid hU
     have N3:=hid (NX.out.set hpl hlt (x+1) hU).drew
     have hyb:x+1<=1000000:=by omega
     obtain ⟨y,hy⟩:∃ y,y=x+1:=⟨_,rfl⟩
     have hy2:(x:Int)+1=(y:Int):=by omega
     rw [<- hy] at HU N3 hyb
     clear hU hy
     go_wp2
     go_region
     go_wp2_with fail
     refine (itoa_any y _ hyb (N3.out.pt HPT.out HNP.out)).mono ?_
     rintro e w4 ⟨rfl,b4⟩
     have N4:=hid (N3.out.below b4)
     have hm:min i K=i:=by omega
     have hm2:min (i+1) K=i+1:=by omega
     rw [hm] at N4
     have hown4:=N4.out.own
     have hsz4:=N4.out.gr.size
     clear b4 N3 NX c0 f0
     go_wp2_with (at_builtin;refine wpList_append_own _ rfl _ _ 40 rfl w.heap.size 9 i0 (.string ByteArray.empty) 1 16 Tryz.underlying40 hi hz0 hz1 hz2 rfl (by decide) _ _ _ rfl (hown4.alloc _) ⟨_,0,none⟩ 1 1 [.string (decS y)] rfl rfl ?c1 ?c2 ?c3 ?c4 ?c5 ?_)
     case c1=>exact new_one _ _ _
     case c2=>intro u hu;simp at hu;subst hu;rfl
     case c3=>unfold maxLen;omega
     case c4=>omega
     case c5=>simp;omega
     intro v' w6 hown' hgrow _
     have N6:=hid (N4.out.put hpl hgrow y HU.out (by first | exact hown' | (rw [h2];exact hown')))
     clear hown' hgrow hown4 N4
     go_wp2
     go_roundw
     case rel=>exact ⟨i+1,by omega,by go_num,hm2.symm ▸ N6.out⟩
     case measure=>simp [intOf];omega
    ·rw [if_neg h2] at hU
     have N3:=hid (NX.out.set hpl hlt 0 hU)
     have hm:min (i+1) K=min i K:=by omega
     have N4:=hid (show NxB T p c K (min (i+1) K) (i+1) w _ _ from hm ▸ N3.out)
     clear hU N3
     go_wp2
     go_roundw
     case rel=>exact ⟨i+1,by omega,by go_num,N4.out⟩
     case measure=>simp [intOf];omega
  ·have hm:min i K=K:=by omega
   have h6:i=6:=by omega
   rw [hm,h6] at NX
   obtain ⟨av,cv,rfl⟩:=q09 NX.out.own
   have hpv:=parts_val c K hk6 HB.out
   have HJ:=hid (join_any (partsC c K K) ⟨#[46]⟩ (.slice av K cv) wr (by rw [partsC_len];exact Sees.of_own NX.out.own) hpv.2 (by rw [partsC_len];omega))
   rw [hpv.1] at HJ
   have HC:=hid (midC_six c K ▸ NX.out.cb)
   have HG:=hid NX.out.gr
   clear hpv NX hm h6 HB
   go_wp2_with fail
   refine HJ.out.mono ?_
   rintro e w4 ⟨rfl,b4⟩
   have B4:=hid b4
   clear b4 HJ
   go_wp2
   go_ret
   refine ⟨rfl,HC.out.below B4.out,?_⟩
   have hb:=B4.out
   have g:=HG.out
   exact ⟨hb.os.trans g.os,hb.tape.trans g.tape,hb.output.trans g.output,Nat.le_trans g.size hb.size,fun b hlt hne=>(hb.block b (Nat.lt_of_lt_of_le hlt g.size)).trans (g.block b hlt hne)⟩
open Go.RowKit
theorem count1_any (key:ByteArray) (pb b n m:Nat) (f:ByteArray->Int) (w:World) (hk:key.size<=1000) (hc:w.cell? ⟨pb,0,none⟩=some (.map (some b))) (hN:NumAt w b n f) (hf:f key=(m:Int)) (hm:m<=999999) (hn:n<maxLen)
  (hPT:PT w) (hb:b≠1) (hpb:pb≠b) :
  Calls Tryz.prog 45 #[.string key,.pointer (some ⟨pb,0,none⟩)] w fun e w'=>e=.returned (.string (decS (m+1)))/\NumAt w' b (n+1) (fun t=>if t=key then ((m+1:Nat):Int) else f t)/\w.grownBy w' (some b):=by
 have hks:key.size<=maxLen:=by unfold maxLen;omega
 have hl:=hN.look key hks
 rw [hf] at hl
 obtain ⟨w1,hup,hN1,hg1⟩:=hN.put key ((m+1:Nat):Int) hks hn (WalkArith.wf_i64 (by omega))
 have hc1:w1.cell? ⟨pb,0,none⟩=some (.map (some b)):=q0m hg1 hc (fun e=>hpb (Option.some.inj e).symm)
 have hl1:=hN1.look key hks
 rw [if_pos rfl] at hl1
 have IT:=hid (itoa_any (m+1) w1 (by omega) (hPT.grown hg1 (fun e=>hb (Option.some.inj e).symm)))
 have HN1:=hid hN1
 have HG:=hid hg1
 have hcast:(m:Int)+1=((m+1:Nat):Int):=by omega
 clear hN hf hPT hN1 hg1
 generalize hy:m+1=y at *
 clear hy
 unfold maxLen at hks hn
 go_enter Tryz.func45,Tryz.ntmps45
 go_wp2_with fail
 refine IT.out.mono ?_
 rintro e w2 ⟨rfl,b2⟩
 have B2:=hid b2
 clear b2 IT hl hl1 hup hc hc1
 go_wp2
 go_ret
 refine ⟨rfl,HN1.out.below B2.out,?_⟩
 have hb2:=B2.out
 have g:=HG.out
 exact ⟨hb2.os.trans g.os,hb2.tape.trans g.tape,hb2.output.trans g.output,Nat.le_trans g.size hb2.size,fun b hlt hne=>(hb2.block b (Nat.lt_of_lt_of_le hlt g.size)).trans (g.block b hlt hne)⟩
open Go.RowKit
structure Pk where
 pO:Nat
 pS:Nat
 pM:Nat
 pC:Nat
 pK:Nat
 pV:Nat
 N:Nat
 tO:TypeId
 tS:TypeId
 tC:TypeId
 tK:TypeId
 tV:TypeId
def Pk.ok (q:Pk) (B:Nat):Prop:=B<=q.pO/\1<q.pO/\q.pO<q.pS/\q.pS<q.pM/\q.pM<q.pC/\q.pC<q.pK/\q.pK<q.pV/\q.pV<q.N
def Pk.cnt (q:Pk):Value:=.func (.func 45) #[] #[.pointer (some ⟨q.pC,0,none⟩)]
def Pk.vis (q:Pk):Value:=.func (.func 47) #[] #[.pointer (some ⟨q.pS,0,none⟩),.pointer (some ⟨q.pK,0,none⟩),.pointer (some ⟨q.pO,0,none⟩),.pointer (some ⟨q.pV,0,none⟩)]
structure NsB (s:Ns) (M nn:Nat):Prop where
 c:∀ i,s.c.getD i 0<=M
 f:s.f<=M
 t:s.t<=M
 e:s.e<=M
 o:s.out.length<=M
 n:nn<=M
theorem NsB.mono {s:Ns} {M M' nn:Nat} (h:NsB s M nn) (hm:M<=M'):NsB s M' nn:=⟨fun i=>Nat.le_trans (h.c i) hm,Nat.le_trans h.f hm,Nat.le_trans h.t hm,Nat.le_trans h.e hm,Nat.le_trans h.o hm,Nat.le_trans h.n hm⟩
def FnOk (s:Ns) (f:ByteArray->Int):Prop:=f figS=(s.f:Int)/\f tabS=(s.t:Int)/\f equS=(s.e:Int)/\f notS=0
structure NuB (q:Pk) (B U:Nat) (s:Ns) (v:Value) (nn:Nat) (rows:List (List Value)) (wr:World):Prop where
 sec:CB q.tS q.pS (intC s.c) wr
 num:∃ f,NumAt wr q.pM nn f/\FnOk s f
 bC:CB q.tC q.pC [.map (some q.pM)] wr
 bK:CB q.tK q.pK [q.cnt] wr
 bV:CB q.tV q.pV [q.vis] wr
 bO:CB q.tO q.pO [v] wr
 own:wr.ownsRow q.N 49 4 v s.out.length rows.flatten
 red:RdL (fun b=>q.N<=b/\v.ownBlock≠some b/\b<U) wr (s.out.map Nm.d) rows
 len:∀ r∈rows,r.length=4
 c6:s.c.length=6
 ltU:U<=wr.heap.size
 ltN:q.N<=U
 oU:∀ g,v.ownBlock=some g->g<U
 pt:PT wr
section
variable {q:Pk} {B U:Nat} {s:Ns} {v:Value} {nn:Nat} {rows:List (List Value)} {wr w':World}
theorem NuB.up (h:NuB q B U s v nn rows wr) {U':Nat} (h1:U<=U') (h2:U'<=wr.heap.size):NuB q B U' s v nn rows wr:=
 {h with red:=RdL.keep (fun b hb _=>⟨⟨hb.1,hb.2.1,by omega⟩,rfl⟩) _ _ h.red,ltU:=h2,ltN:=Nat.le_trans h.ltN h1,oU:=fun g hg=>Nat.lt_of_lt_of_le (h.oU g hg) h1 }
theorem NuB.grown (h:NuB q B U s v nn rows wr) (hg:wr.grownBy w' none):NuB q B U s v nn rows w':=
 {sec:=q04 h.sec hg (by simp),num:=by obtain ⟨f,h1,h2⟩:=h.num;exact ⟨f,h1.kept hg (by simp),h2⟩
  bC:=q04 h.bC hg (by simp),bK:=q04 h.bK hg (by simp),bV:=q04 h.bV hg (by simp),bO:=q04 h.bO hg (by simp)
  own:=h.own.kept hg (by cases v.ownBlock<;>simp),red:=RdL.keep (fun b hb hlt=>⟨hb,hg.block b hlt (by simp)⟩) _ _ h.red
  len:=h.len,c6:=h.c6,ltU:=Nat.le_trans h.ltU hg.size,ltN:=h.ltN,oU:=h.oU,pt:=h.pt.grown hg (by simp) }
theorem NuB.below (h:NuB q B U s v nn rows wr) (hb:Below wr.heap.size wr w'):NuB q B U s v nn rows w':=h.grown (q02 hb)
theorem NuB.drew (h:NuB q B U s v nn rows wr):NuB q B U s v nn rows wr.drew:=h.grown ⟨rfl,rfl,rfl,Nat.le_refl _,fun _ _ _=>rfl⟩
theorem NuB.alloc (h:NuB q B U s v nn rows wr) (o:Obj):NuB q B U s v nn rows (wr.alloc o):=h.grown (World.grownBy_alloc _ _ none)
theorem NuB.set (h:NuB q B U s v nn rows wr) (ok:q.ok B) {p:Nat} (hp:U<=p) (j:Nat) (u:Value):NuB q B U s v nn rows (wr.setCell ⟨p,j,none⟩ u):=by
 obtain ⟨o1,o2,o3,o4,o5,o6,o7,o8⟩:=ok
 have hN:=h.ltN
 have far:∀ b,b<U->(wr.setCell ⟨p,j,none⟩ u).heap[b]?=wr.heap[b]?:=fun b hb=>Below.heap_setCell wr ⟨p,j,none⟩ u b (by show b≠p;omega)
 have hk:wr.grownBy (wr.setCell ⟨p,j,none⟩ u) (some p):=⟨rfl,rfl,rfl,by simp [World.setCell],fun b hb hne=>Below.heap_setCell wr ⟨p,j,none⟩ u b (fun e=>hne (by rw [e]))⟩
 exact
 {sec:=(far _ (by omega)).trans h.sec,num:=by obtain ⟨f,h1,h2⟩:=h.num;exact ⟨f,h1.kept hk (by intro e;have:=Option.some.inj e;omega),h2⟩
  bC:=(far _ (by omega)).trans h.bC,bK:=(far _ (by omega)).trans h.bK,bV:=(far _ (by omega)).trans h.bV,bO:=(far _ (by omega)).trans h.bO
  own:=q1g h.own ⟨p,j,none⟩ u (fun e=>by have h9:p<U:=h.oU _ e;omega),red:=RdL.keep (fun b hb hlt=>⟨hb,far b hb.2.2⟩) _ _ h.red
  len:=h.len,c6:=h.c6,ltU:=by have:=h.ltU;simpa [World.setCell] using this,ltN:=h.ltN,oU:=h.oU,pt:=h.pt.grown hk (by intro e;have:=Option.some.inj e;omega) }
theorem NuB.secs (h:NuB q B U s v nn rows wr) (ok:q.ok B) {c:List Nat} (hg:wr.grownBy w' (some q.pS)) (hc:CB q.tS q.pS (intC c) w') (h6:c.length=6):NuB q B U { s with c:=c } v nn rows w':=by
 obtain ⟨o1,o2,o3,o4,o5,o6,o7,o8⟩:=ok
 have hN:=h.ltN
 have ne:∀ p,p≠q.pS->some p≠some q.pS:=fun p hp e=>hp (Option.some.inj e)
 exact
 {sec:=hc,num:=by obtain ⟨f,h1,h2⟩:=h.num;exact ⟨f,h1.kept hg (ne _ (by omega)),h2⟩
  bC:=q04 h.bC hg (ne _ (by omega)),bK:=q04 h.bK hg (ne _ (by omega)),bV:=q04 h.bV hg (ne _ (by omega)),bO:=q04 h.bO hg (ne _ (by omega))
  own:=h.own.kept hg (.inr (fun e=>by have:=(h.own.lt _ e).1;omega)),red:=RdL.keep (fun b hb hlt=>⟨hb,hg.block b hlt (ne _ (by omega))⟩) _ _ h.red
  len:=h.len,c6:=h6,ltU:=Nat.le_trans h.ltU hg.size,ltN:=h.ltN,oU:=h.oU,pt:=h.pt.grown hg (ne _ (by omega)) }
theorem NuB.maps (h:NuB q B U s v nn rows wr) (ok:q.ok B) {s':Ns} {f:ByteArray->Int} (hs:s'.c=s.c/\s'.out=s.out) (hg:wr.grownBy w' (some q.pM)) (hf:NumAt w' q.pM (nn+1) f) (ho:FnOk s' f):NuB q B U s' v (nn+1) rows w':=by
 obtain ⟨o1,o2,o3,o4,o5,o6,o7,o8⟩:=ok
 have hN:=h.ltN
 have ne:∀ p,p≠q.pM->some p≠some q.pM:=fun p hp e=>hp (Option.some.inj e)
 exact
 {sec:=by rw [hs.1];exact q04 h.sec hg (ne _ (by omega)),num:=⟨f,hf,ho⟩
  bC:=q04 h.bC hg (ne _ (by omega)),bK:=q04 h.bK hg (ne _ (by omega)),bV:=q04 h.bV hg (ne _ (by omega)),bO:=q04 h.bO hg (ne _ (by omega))
  own:=by rw [hs.2];exact h.own.kept hg (.inr (fun e=>by have:=(h.own.lt _ e).1;omega)),red:=by rw [hs.2];exact RdL.keep (fun b hb hlt=>⟨hb,hg.block b hlt (ne _ (by omega))⟩) _ _ h.red
  len:=h.len,c6:=by rw [hs.1];exact h.c6,ltU:=Nat.le_trans h.ltU hg.size,ltN:=h.ltN,oU:=h.oU,pt:=h.pt.grown hg (ne _ (by omega)) }
theorem Nm.mk_ (x:Nm) {ok:Nat->Prop} {w:World} {vl:Value} (h:Rd ok w (q0w x.line) [vl]):Rd ok w x.d [.string x.id,.string x.kind,.string x.val,vl]:=
 Rd.st_mk (rows:=[[.string x.id],[.string x.kind],[.string x.val],[vl]]) (RdL.cons (Rd.str_mk _ _ _) (RdL.cons (Rd.str_mk _ _ _) (RdL.cons (Rd.str_mk _ _ _) (RdL.one h))))
theorem NuB.put (h:NuB q B U s v nn rows wr) (ok:q.ok B) {x:Nm} {vl v':Value} {o:Obj} (hl:Rd (U<=·) wr (q0w x.line) [vl]) (hg:(wr.alloc o).grownBy w' v.ownBlock)
  (hown:w'.ownsRow q.N 49 4 v' (s.out.length+1) (rows.flatten++[.string x.id,.string x.kind,.string x.val,vl])) (hat:v'.ownBlock=v.ownBlock\/v'.ownBlock=some (wr.heap.size+1)) :
  NuB q B w'.heap.size { s with out:=s.out++[x] } v' nn (rows++[[.string x.id,.string x.kind,.string x.val,vl]]) (w'.setCell ⟨q.pO,0,none⟩ v'):=by
 obtain ⟨o1,o2,o3,o4,o5,o6,o7,o8⟩:=ok
 have hN:=h.ltN
 have hU:=h.ltU
 have hs:=hg.size
 rw [World.size_alloc] at hs
 have hlt:∀ g,v.ownBlock=some g->q.N<=g/\g<U:=fun g e=>⟨(h.own.lt g e).1,h.oU g e⟩
 have hh:∀ b,b<wr.heap.size->v.ownBlock≠some b->w'.heap[b]?=wr.heap[b]?:=fun b hb hne=>
  (hg.block b (by rw [World.size_alloc];omega) (fun e=>hne e.symm)).trans (Below.heap_alloc _ _ b hb)
 have fa:∀ b,b≠q.pO->(w'.setCell ⟨q.pO,0,none⟩ v').heap[b]?=w'.heap[b]?:=fun b hb=>Below.heap_setCell w' ⟨q.pO,0,none⟩ v' b hb
 have fb:∀ b,b<q.N->b≠q.pO->(w'.setCell ⟨q.pO,0,none⟩ v').heap[b]?=wr.heap[b]?:=fun b hb hne=>(fa b hne).trans (hh b (by omega) (fun e=>by have:=hlt b e;omega))
 have hk:w'.grownBy (w'.setCell ⟨q.pO,0,none⟩ v') (some q.pO):=⟨rfl,rfl,rfl,by simp [World.setCell],fun b hb hne=>fa b (fun e=>hne (by rw [e]))⟩
 have ne:∀ p,p≠q.pO->some p≠some q.pO:=fun p hp e=>hp (Option.some.inj e)
 have no:∀ p,p<q.N->some p≠v.ownBlock:=fun p hp e=>by have:=hlt p e.symm;omega
 have hvb:∀ g,v'.ownBlock=some g->g<w'.heap.size:=fun g e=>(hown.lt g e).2
 have hO:CB q.tO q.pO [v] w':=(hh _ (by omega) (fun e=>by have:=hlt _ e;omega)).trans h.bO
 have hv':∀ b,b<wr.heap.size->v.ownBlock≠some b->v'.ownBlock≠some b:=by
  intro b hb hne
  rcases hat with e | e
  ·rw [e];exact hne
  ·rw [e];intro h;have:=Option.some.inj h;omega
 exact
 {sec:=(fb _ (by omega) (by omega)).trans h.sec
  num:=by obtain ⟨f,h1,h2⟩:=h.num;exact ⟨f,((h1.kept (World.grownBy_alloc wr o none) (by simp)).kept hg (no _ (by omega))).kept hk (ne _ (by omega)),h2⟩
  bC:=(fb _ (by omega) (by omega)).trans h.bC,bK:=(fb _ (by omega) (by omega)).trans h.bK,bV:=(fb _ (by omega) (by omega)).trans h.bV
  bO:=cb_set hO 0 v'
  own:=by
   rw [List.length_append,List.flatten_append]
   exact q1g (by simpa using hown) ⟨q.pO,0,none⟩ v' (fun e=>by have h9:q.N<=q.pO:=(hown.lt _ e).1;omega)
  red:=by
   show RdL _ _ ((s.out++[x]).map Nm.d) _
   rw [List.map_append]
   refine RdL.app (RdL.keep (fun b hb hlt'=>⟨⟨hb.1,hv' b hlt' hb.2.1,by omega⟩,(fa b (by omega)).trans (hh b hlt' hb.2.1)⟩) _ _ h.red) (RdL.one ?_)
   refine Rd.keep (fun b (hb:U<=b) hlt'=>?_) _ _ (Nm.mk_ x hl)
   have hne:v.ownBlock≠some b:=fun e=>by have:=hlt b e;omega
   exact ⟨⟨by omega,hv' b hlt' hne,by omega⟩,(fa b (by omega)).trans (hh b hlt' hne)⟩
  len:=by
   intro r hr
   rcases List.mem_append.1 hr with hr | hr
   ·exact h.len r hr
   ·simp at hr;subst hr;rfl
  c6:=h.c6,ltU:=by simp [World.setCell],ltN:=by omega,oU:=hvb
  pt:=((h.pt.grown (World.grownBy_alloc wr o none) (by simp)).grown hg (no _ (by omega))).grown hk (ne _ (by omega)) }
end
def numVal (free:Bool) (s:Ns) (k lv:Int) (i:ByteArray) (a:At) (li:List Inl) (ks:List Blk):Ns × ByteArray × List Inl:=
 if k=2/\free=true then ({ s with c:=cntUp s.c (lvlOf lv) },valS (cntUp s.c (lvlOf lv)) (lvlOf lv),li)
 else if k=13/\i=figS then ({ s with f:=s.f+1 },decS (s.f+1),capL ks)
 else if k=13/\i=tabS then ({ s with t:=s.t+1 },decS (s.t+1),capL ks)
 else if k=4/\a.id.data.toList≠[] then ({ s with e:=s.e+1 },decS (s.e+1),[])
 else (s,⟨#[]⟩,[])
theorem numOne_val (free:Bool) (s:Ns) (k lv:Int) (i:ByteArray) (a:At) (li:List Inl) (ks:List Blk) :
  q2g free s k lv i a li ks={ (numVal free s k lv i a li ks).1 with out:=(numVal free s k lv i a li ks).1.out++if (kindS free k i a.id).data.toList=[] then [] else [⟨a.id,kindS free k i a.id,(numVal free s k lv i a li ks).2.1,(numVal free s k lv i a li ks).2.2⟩] }:=by
 unfold q2g numVal kindS
 by_cases h1:k=2/\free=true
 ·simp only [if_pos h1];rfl
 ·simp only [if_neg h1]
  by_cases h2:k=13/\i=figS
  ·have h3:k=13/\(i=figS\/i=tabS):=⟨h2.1,.inl h2.2⟩
   simp only [if_pos h2,if_pos h3]
   rw [h2.2];rfl
  ·simp only [if_neg h2]
   by_cases h4:k=13/\i=tabS
   ·have h3:k=13/\(i=figS\/i=tabS):=⟨h4.1,.inr h4.2⟩
    simp only [if_pos h4,if_pos h3]
    rw [h4.2];rfl
   ·have h3:¬ (k=13/\(i=figS\/i=tabS)):=fun h=>by rcases h.2 with e | e;exact h2 ⟨h.1,e⟩;exact h4 ⟨h.1,e⟩
    simp only [if_neg h4,if_neg h3]
    by_cases h5:k=4/\a.id.data.toList≠[]
    ·simp only [if_pos h5];rfl
    ·simp only [if_neg h5]
     show s={ s with out:=s.out++[] }
     rw [List.append_nil]
open Go.RowKit Go.Shelf
attribute [local go_sem] Oper.semAt_some
def infoOk (b:Blk):Prop:=b.infoOf.size<=1000
def NtAct (S:Nat) (am:Option Addr) (nm cm:Nat) (ab:Option Addr) (nb cb:Nat) (x:BV) (Bx:Nat):Act:={ tmps:=#[.agg #[.slice am nm cm,.slice ab nb cb],.pointer (some ⟨S,0,none⟩),.slice none 0 0,.pointer (some ⟨S+2,0,none⟩),.pointer (some ⟨Bx,0,none⟩),undef,undef,undef,.map (some (S+1)),.pointer (some ⟨S,1,none⟩),.slice ab nb cb,.func (.func 111) #[] #[.pointer (some ⟨S+3,0,none⟩)],x.enc,undef,undef,undef,undef,undef,undef,undef,undef,undef,undef,undef,undef,undef,undef,undef,undef,undef,undef,undef,undef,undef,undef,undef,undef,undef,undef,undef,undef,undef,undef,undef,undef,undef],defers:=[] }
theorem end_dn {n:Nat} {fn:Func} {R:Ending->World->Prop} {a:Act} {w:World} {v:Value} {D:Nat} (hd:a.defers=[{ target:=.collected D,args:=#[] }]) (hf:w.heap[D]?=some (.deferred (some []))) (hr:∀ w',(results fn a.tmps).run Tryz.prog w'=.ok v w') (h:R (.returned v) (w.putObj D (.deferred none))):bodyPostM Fence.wide n Tryz.prog fn R .ret a w:=by
 show LeavesInM _ _ _ _ _ _ a.defers _ _
 rw [hd]
 refine ⟨by simp,.inl ⟨D,_,rfl,run_takeDeferred hf,?_⟩⟩
 exact ⟨v,hr _,h⟩
def BV.cells (x:BV):List Value:=[.int .i64 x.kd,.int .i64 x.lv,.string x.i,.string x.t,.string x.d,.string x.ti,.string x.at_.id,x.vc,x.vp,x.vl,x.vk]
def NtX (S:Nat) (am:Option Addr) (nm cm:Nat) (ab:Option Addr) (nb cb:Nat) (x:BV) (a':Act) (W:World):Prop:=∃ Bx,S+4<=Bx/\CB 53 Bx x.cells W/\a'=NtAct S am nm cm ab nb cb x Bx
theorem NtX.own {S B:Nat} {am:Option Addr} {nm cm:Nat} {ab:Option Addr} {nb cb:Nat} {x:BV} {a':Act}:OwnFrom B (fun (_:Unit) W=>NtX S am nm cm ab nb cb x a' W):=fun _ W W' row ⟨Bx,h1,h2,h3⟩ hg hr=>
 ⟨Bx,h1,(hg.block Bx h2.lt (fun e=>by
  obtain ⟨_,o,k1,k2⟩:=hr Bx e.symm
  unfold CB at h2
  rw [h2] at k1;cases k1;cases k2)).trans h2,h3⟩
def NtI (S:Nat) (w W0:World) (pre:List (BW S w infoOk)) (W:World):Prop:=Nt1 (S+1) (S+2) (S+4) W0 (q1y pre) W
theorem NtI.own {S:Nat} {w W0:World}:OwnFrom (S+4) (NtI S w W0):=fun s W W' row h hg hr=>Nt1.grown h hg (fun r e=>(hr r e).1) (by omega) (by omega)
def Nt2 (S U B2 D N0:Nat) (w:World) (defs:List ByteArray) (L:List Inl) (v2:Value) (rows:List (List Value)) (v vi:Value) (wr:World):Prop:=
 ∃ (k n:Nat) (out:List ByteArray),k<=L.length/\vi=.int .i64 k/\out=noteG defs [] (L.take k)/\out.length<=k/\n<=N0+k/\BolAt wr (S+1) n (fun t=>q1d defs t&&!q1d out t)/\Box1 (S+2) (.map (some (S+1))) 112 wr /\
  wr.ownsRow B2 47 10 v2 L.length rows.flatten/\wr.ownsRow U 9 1 v out.length (out.map Value.string)/\Below S w wr/\U<=wr.heap.size/\wr.heap[D]?=some (.deferred (some []))
theorem own_put {w:World} {B:Nat} {e:TypeId} {k:Nat} {v:Value} {n:Nat} {xs:List Value} (h:w.ownsRow B e k v n xs) (D:Nat) (hne:v.ownBlock≠some D) {o:Obj}:(w.putObj D o).ownsRow B e k v n xs:=by
 obtain ⟨h1,h2⟩:=h
 refine ⟨h1,?_⟩
 rcases h2 with h2 | ⟨g,cap,cur,rfl,r2,r3,r4⟩
 ·exact .inl h2
 ·exact .inr ⟨g,cap,cur,rfl,r2,(World.putObj_heap_other (fun e=>hne (by rw [<- e];rfl))).trans r3,r4⟩
theorem below_putD {S D:Nat} {w w2:World} {o:Obj} (h:Below S w w2) (hD:S<=D):Below S w (w2.putObj D o):=
 ⟨h.os,h.tape,h.output,by simpa [World.putObj] using h.size,fun b hb=>(World.putObj_heap_other (by omega)).trans (h.block b hb)⟩
theorem InCells.row {w:World} {B g k n cap:Nat} {e:TypeId} {rows:List (List Value)} (h:w.ownsRow B e 10 (.slice (some ⟨g,0,none⟩) n cap) n rows.flatten) (h10:∀ r∈rows,r.length=10) {r:List Value} (hr:rows[k]?=some r) {kd:Int} {t d ti id:ByteArray} {vc vp va vi vk:Value} (he:r=[.int .i64 kd,.string t,.string d,.string ti,.string id,vc,vp,va,vi,vk]):InCells w g (k*10) kd t d ti id vc vp va vi vk:=by
 refine InCells.of he (fun j u hu=>?_)
 have h1:=q28 10 rows h10 k j r u hr hu
 have:=h.cells (g:=g) rfl (k*10+j) u h1
 have e:((⟨g,0,none⟩:Addr).add (k*10+j))=⟨g,k*10+j,none⟩:=by unfold Addr.add;split<;>simp_all
 rwa [e] at this
theorem notes_any (l:List Blk) (vm vb:Value) (w:World) (hm:∃ a n c,vm=.slice a n c) (hb:Rd (·<w.heap.size) w (q0x l) [vb]) (hbd:Blk.bdL l) (hsz:Blk.szL l<=1000000) (hln:(Blk.inlsL l).length<=1000000)
  (hin:∀ b∈Blk.eachL l,infoOk b) (htx:∀ x∈Blk.inlsL l,x.tx.size<=1000000) :
  Calls Tryz.prog 52 #[.agg #[vm,vb]] w fun e w'=>∃ v,e=.returned v/\w'.ownsRow w.heap.size 9 1 v (notesL l).length ((notesL l).map Value.string)/\Below w.heap.size w w':=by
 obtain ⟨am,nm,cm,rfl⟩:=hm
 obtain ⟨ab,nb,cb,rfl⟩:=Rd.slf hb
 have HB:=hid hb
 have HBD:=hid hbd
 have HIN:=hid hin
 have HTX:=hid htx
 have hmm:=@run_makeMap Tryz.prog
 obtain ⟨S,hS⟩:∃ S,S=w.heap.size:=⟨_,rfl⟩
 obtain ⟨w1,hw1⟩:∃ w1,w1=((w.alloc (.cells #[.slice am nm cm,.slice ab nb cb] 25)).alloc (.map #[] 0)).alloc (.cells #[.map (some (S+1))] 112):=⟨_,rfl⟩
 have k1:CB 25 S [.slice am nm cm,.slice ab nb cb] w1:=by
  rw [hw1,hS]
  exact q04 (q04 (CB.new _ _ w) (World.grownBy_alloc _ _ none) (by simp)) (World.grownBy_alloc _ _ none) (by simp)
 have k2:BolAt w1 (S+1) 0 (fun _=>false):=by
  rw [hw1,hS]
  have:=BolAt.made (w.alloc (.cells #[.slice am nm cm,.slice ab nb cb] 25))
  rw [World.size_alloc] at this
  exact this.kept (World.grownBy_alloc _ _ none) (by simp)
 have k3:Box1 (S+2) (.map (some (S+1))) 112 w1:=by
  rw [hw1,hS]
  have:=Box1.new ((w.alloc (.cells #[.slice am nm cm,.slice ab nb cb] 25)).alloc (.map #[] 0)) (.map (some (w.heap.size+1))) 112
  rw [World.size_alloc,World.size_alloc] at this
  exact this
 have z1:w1.heap.size=S+3:=by rw [hw1,hS];simp
 have b1:Below S w w1:=by rw [hw1,hS];exact (((Below.refl _ w).alloc (Nat.le_refl _) _).alloc (by simp) _).alloc (by simp;omega) _
 have K1:=hid k1
 have K2:=hid k2
 have K3:=hid k3
 have Z1:=hid z1
 have B1:=hid b1
 have HS:=hid hS
 have HW1:=hid hw1
 clear hb hbd hin htx k1 k2 k3 z1 b1 hS hw1
 refine (callsIn_wide (n:=3)).1 ?_
 refine callsIn_of_wp_marks Tryz.func52 rfl trivial ?_ rfl
 simp only [Tryz.ntmps52,List.size_toArray,List.length_cons,List.length_nil,Nat.reduceAdd,Nat.reduceSub,Array.replicate_succ,Array.replicate_zero,List.push_toArray,List.append_toArray,List.nil_append,List.cons_append]
 refine wpIn_wide.2 ?_
 go_upto_region 2 with (fail)
 rw [<- HS.out,<- HW1.out]
 have x1:=K1.out.cell 1 _ rfl
 have hnf:∀ (x:Nat) (wx:World),Sem.run Tryz.prog (binOp BinOp.eql 114 (Value.func (Fn.func 111) #[] #[Value.pointer (some ⟨x,0,none⟩)]) Value.nilFunc) wx=.ok (.bool false) wx:=fun x wx=>by rfl
 go_wp2_with (go_at_call 82;refine (each_any _ _ _ _).mono ?_;rintro e w' ⟨rfl,rfl⟩)
 obtain ⟨W0,hW0⟩:∃ W0,W0=w1.alloc (.cells #[.slice ab nb cb] 23):=⟨_,rfl⟩
 have z0:W0.heap.size=S+4:=by rw [hW0,World.size_alloc,Z1.out]
 have bL:Box1 (S+3) (.slice ab nb cb) 23 W0:=by rw [hW0,<- Z1.out];exact Box1.new _ _ _
 have g0:w1.grownBy W0 none:=by rw [hW0];exact World.grownBy_alloc _ _ none
 have bl0:Below S w W0:=B1.out.grown g0 (by have:=Z1.out;omega) (by simp)
 have N0:Nt1 (S+1) (S+2) (S+4) W0 [] W0:=⟨⟨0,Nat.le_refl _,K2.out.kept g0 (by simp)⟩,K3.out.grown g0,rfl,rfl,rfl,by omega,fun _ _ _=>rfl⟩
 have KD:=hid (q04 K1.out g0 (by simp))
 rw [<- hW0,Z1.out,show S+1+1=S+2 from rfl]
 have HBS:=hid (show Rd (·<S) w (q0x l) [.slice ab nb cb] by rw [HS.out];exact HB.out)
 clear x1 hnf hW0 g0 K1 K2 K3 Z1 B1 HB HW1 hmm
 refine wpIn_wide (n:=3) |>.1 ?_
 refine wpIn_rangeFunc_ownH (α:=BW S w infoOk) rfl (by decide) (gf:=111) (lb:=#[.pointer (some ⟨S+3,0,none⟩)]) rfl trivial (enters_of Tryz.func111 (by kernel_rfl) rfl)
  (each_stops 2 (S+3) S infoOk l (.slice ab nb cb) w W0 (KpN (S+1) (S+4)) (KpN.ok (by omega) (by omega)) HIN.out HBS.out bl0 (by omega) bL) (fun h k=>h.trans k) (fun W l o o' h1 h2 h3 _=>KpN.obj W l o o' (by omega) h2 h3) (Below.refl _ _) (fun _=>rfl)
  (NtI S w W0) (fun _ _ _=>False) (by rw [z0];exact NtI.own) (fun c s A B row h _ _=>h) N0
  (fun x a' W=>NtX S am nm cm ab nb cb x.1 a' W) (fun x a'=>NtX.own) ?assign ?body ?done ?stop
 case stop=>rintro D c pre W _ _ h _;exact h.elim
 case assign=>
  rintro l0 pre ⟨⟨kd,lv,i,t,d,ti,at_,li,ks,vc,vp,vl,vk⟩,hR,hpl1⟩ W K hi hK
  dsimp only at hR hK
  obtain ⟨ac,nc,cc,rfl⟩:=Rd.sl_form hR.at_.cls
  obtain ⟨ap,np,cp,rfl⟩:=Rd.sl_form hR.at_.prs
  obtain ⟨al,nl,cl,rfl⟩:=Rd.sl_form hR.line
  obtain ⟨ak,nk,ck,rfl⟩:=Rd.sl_form hR.kids
  have HI:=hid hi
  have HK:=hid hK
  clear hi hK
  dsimp only [BV.enc]
  gi_wp2
  have hsz:=HI.out.size
  exact HK.out _ _ ((KeepsOthers.alloc _ _).from _) (KpN.grown (World.grownBy_alloc _ _ none) hsz) (Nt1.grown HI.out (World.grownBy_alloc _ _ none) (by simp) (by omega) (by omega)) ⟨W.heap.size,hsz,heap_alloc_new W _,rfl⟩
 case body=>
  rintro l0 pre x a' W hl0 _ hN ⟨Bx,hBx,hQB,rfl⟩ hlen
  have hR:=x.2.1
  have hIF:=x.2.2
  obtain ⟨y,hy⟩:∃ y,y=x.1:=⟨_,rfl⟩
  rw [<- hy] at hR hQB hIF ⊢
  have HEQ:Hid (q1y (pre++[x])=q1y pre++[y.blk]):=by show _=_;rw [blksOf_app,hy];rfl
  have hplen:(q1y pre).length<=1000000:=by
   have h2:=Blk.eachL_num l
   rw [blksOf_len];omega
  obtain ⟨kd,lv,i,t,d,ti,at_,li,ks,vc,vp,vl,vk⟩:=y
  dsimp only at hR
  have hIF:i.size<=1000:=hIF
  obtain ⟨ac,nc,cc,rfl⟩:=Rd.sl_form hR.at_.cls
  obtain ⟨ap,np,cp,rfl⟩:=Rd.sl_form hR.at_.prs
  obtain ⟨al,nl,cl,rfl⟩:=Rd.sl_form hR.line
  obtain ⟨ak,nk,ck,rfl⟩:=Rd.sl_form hR.kids
  have c0:=hQB.cell 0 _ rfl
  have c2:=hQB.cell 2 _ rfl
  have e3:=hN.bx.cell
  have HN:=hid hN
  have hsW:=hN.size
  dsimp only at c0 c2
  clear hR hQB hlen hy hN
  unfold NtAct
  dsimp only [BV.enc]
  by_cases hk:kd=14
  ·have q1:(kd==14)=true:=by rw [beq_iff_eq];exact hk
   obtain ⟨n,hn1,hn2⟩:=HN.out.mp
   obtain ⟨W2,hup,hB2,hg2⟩:=hn2.put i true (by unfold maxLen;omega) (by unfold maxLen;omega)
   have HP:Hid (Nt1 (S+1) (S+2) (S+4) W0 (q1y (pre++[x])) W2):=by
    show Nt1 _ _ _ _ _ _
    rw [HEQ.out]
    exact HN.out.put _ hk (by omega) hn1 hg2 hB2 (by omega)
   have HKP:=hid (KpN.map hg2 hsW hn2.obj)
   have HKF:Hid (KeepsFrom W0.heap.size W W2):=⟨hg2.size,fun k o hk' ho hc=>(hg2.block k (Array.getElem?_eq_some_iff.1 ho).1 (fun e=>by have:=Option.some.inj e;omega)).trans ho⟩
   clear hn2 hB2 hg2 hk
   gi_wp2
   exact ⟨HKF.out,HKP.out,HP.out⟩
  ·have q1:(kd==14)=false:=by rw [beq_eq_false_iff_ne];exact hk
   have HP:Hid (Nt1 (S+1) (S+2) (S+4) W0 (q1y (pre++[x])) W):=by
    show Nt1 _ _ _ _ _ _
    rw [HEQ.out]
    exact HN.out.skip _ hk
   clear hk
   gi_wp2
   exact ⟨(KeepsOthers.refl _).from _,KpN.refl _ _ _,HP.out⟩
 case done=>
  rintro D pre W hD hpre hN hK
  have hN:Nt1 (S+1) (S+2) (S+4) W0 (Blk.eachL l) W:=by rw [<- hpre];exact hN
  have hbl:Below S w W:=⟨hN.os.trans bl0.os,hN.tape.trans bl0.tape,hN.output.trans bl0.output,by have:=hN.size;have:=bl0.size;omega,fun b hb=>(hN.blk b (by omega) (by omega)).trans (bl0.block b hb)⟩
  have KW:CB 25 S [.slice am nm cm,.slice ab nb cb] W:=(hN.blk S (by omega) (by omega)).trans KD.out
  have hDW:D<W.heap.size:=(Array.getElem?_eq_some_iff.1 hK).1
  have IA:=hid (inlines_any l (.slice ab nb cb) W ((HBS.out.below hbl).weaken (fun b hb=>by have:=hN.size;omega)) HBD.out hsz hln)
  have x1:=KW.cell 1 _ rfl
  have HN:=hid hN
  have HBL:=hid hbl
  have HK:=hid hK
  clear hN hbl hK KW hpre
  go_wp2_with fail
  (with_reducible refine IA.out.mono ?_)
  rintro e w2 ⟨v2,rows,rfl,hown,hred,hrl,b2⟩
  obtain ⟨a2,c2,rfl⟩:=q09 hown
  obtain ⟨L,hL⟩:∃ L,L=Blk.inlsL l:=⟨_,rfl⟩
  rw [<- hL] at hown hred
  have hTX:∀ x∈L,x.tx.size<=1000000:=by rw [hL];exact HTX.out
  have hLL:L.length<=1000000:=by rw [hL];exact hln
  obtain ⟨defs,hdefs⟩:∃ defs,defs=defN (Blk.eachL l):=⟨_,rfl⟩
  have hnl:notesL l=noteG defs [] L:=by rw [hL,hdefs];rfl
  have hNW:=HN.out
  obtain ⟨n1,hn1,hm1⟩:=hNW.mp
  rw [<- hdefs] at hm1
  have hn1:n1<=1000000:=by rw [Blk.eachL_num] at hn1;omega
  have hzW:=hNW.size
  have hz2:=b2.size
  have R0:=hid (show Nt2 S w2.heap.size W.heap.size D n1 w defs L (.slice a2 L.length c2) rows (.slice none 0 0) (.int .i64 0) w2 from
   ⟨0,n1,[],Nat.zero_le _,rfl,by simp [noteG],Nat.le_refl _,by omega,(hm1.below b2).congr (fun t=>by simp [q1d]),(b2.block (S+2) (by omega)).trans hNW.bx,hown,q20 _ _ _ _,HBL.out.trans (b2.mono (by omega)),Nat.le_refl _,(b2.block D hDW).trans HK.out⟩)
  have HRED:=hid hred
  have HRL:=hid hrl
  have HTX2:=hid hTX
  have HNL:=hid hnl
  have hDU:D<w2.heap.size:=by omega
  have hD4:S+4<=D:=by omega
  obtain ⟨U,hU⟩:∃ U,U=w2.heap.size:=⟨_,rfl⟩
  obtain ⟨B2,hB2⟩:∃ B2,B2=W.heap.size:=⟨_,rfl⟩
  rw [<- hU] at R0 hDU hz2
  rw [<- hB2] at R0 hz2 hzW
  have hvU:∀ g,(Value.slice a2 L.length c2).ownBlock=some g->B2<=g/\g<U:=fun g hg=>by rw [hU,hB2];exact hown.lt g hg
  have HVU:=hid hvU
  have hLe:(Blk.inlsL l).length=L.length:=by rw [hL]
  rw [hLe]
  obtain ⟨i0,hi0,hz0',hz1',hz2'⟩:=info_parts infoS
  have hcap2:L.length<=c2/\c2<=maxLen:=by
   obtain ⟨-,a,cap,h1,h2,h3,-⟩:=Sees.of_own hown
   injection h1 with _ _ h1;omega
  obtain ⟨hcp,hcm⟩:=hcap2
  unfold maxLen at hcm
  clear hred hrl hTX hnl hown hm1 b2 HN HBL IA x1 hU hB2 hvU hL hNW hLe HBS KD HIN HBD HTX hdefs bL N0 HK hDW
  go_wp2
  go_loopw [5,23] (fun v vi wr=>Nt2 S U B2 D n1 w defs L (.slice a2 L.length c2) rows v vi wr) (fun _ i _=>L.length-(intOf i).toNat)
  case atStart=>exact R0.out
  case round=>
   clear R0
   obtain ⟨k,n,out,hk,rfl,hout,hol,hnk,hmp,hbx,how,hov,hbel,hUz,hD⟩:=hrel
   obtain ⟨av,cv,rfl⟩:=q09 hov
   have HMP:=hid hmp
   have HBX:=hid hbx
   have HOW:=hid how
   have HOV:=hid hov
   have HBEL:=hid hbel
   have HD:=hid hD
   have HOUT:=hid hout
   clear hmp hbx how hov hbel hD hout
   by_cases hlt:k<L.length
   ·obtain ⟨x,hx⟩:∃ x,L[k]?=some x:=⟨_,List.getElem?_eq_getElem hlt⟩
    have hsn:=noteG_snoc defs L k x [] hx
    rw [<- HOUT.out] at hsn
    have hts:=HTX2.out x (List.mem_of_getElem? hx)
    obtain ⟨r,hr,hd⟩:=HRED.out.get k x.d (by rw [List.getElem?_map,hx];rfl)
    obtain ⟨kd,t,d,ti,at_,ar,ci,ks⟩:=x
    have hts:t.size<=1000000:=hts
    obtain ⟨vc,vp,va,vi,vk,he,hR⟩:=Inl.open_ hd
    obtain ⟨ac,nc,cc,rfl⟩:=Rd.sl_form hR.at_.cls
    obtain ⟨ap,np,cp,rfl⟩:=Rd.sl_form hR.at_.prs
    obtain ⟨aa,na,ca,rfl⟩:=Rd.sl_form hR.args
    obtain ⟨ai,ni,ci',rfl⟩:=Rd.sl_form hR.cites
    obtain ⟨ak,nk,ck,rfl⟩:=Rd.sl_form hR.kids
    obtain ⟨g,cap,hvg,-⟩:=own_form HOW.out (by omega)
    obtain ⟨rfl,-,rfl⟩:a2=some ⟨g,0,none⟩/\L.length=L.length/\c2=cap:=by injection hvg with h1 h2 h3;exact ⟨h1,rfl,h3⟩
    obtain ⟨c0,c1,c2',c3,c4,c5,c6,c7,c8,c9⟩:=InCells.row HOW.out HRL.out hr he
    change noteG defs [] (L.take (k+1))=(if kd=12/\q1d defs t=true/\q1d out t=false then out++[t] else out) at hsn
    obtain ⟨wA,hwA⟩:∃ wA,wA=wr.alloc (.cells #[.int .i64 kd,.string t,.string d,.string ti,.string at_.id,.slice ac nc cc,.slice ap np cp,.slice aa na ca,.slice ai ni ci',.slice ak nk ck] 47):=⟨_,rfl⟩
    obtain ⟨p,hp⟩:∃ p,p=wr.heap.size:=⟨_,rfl⟩
    have PA:PB p [.int .i64 kd,.string t,.string d,.string ti,.string at_.id,.slice ac nc cc,.slice ap np cp,.slice aa na ca,.slice ai ni ci',.slice ak nk ck] wA:=by rw [hwA,hp];exact heap_alloc_new wr _
    have hpU:U<=p:=by rw [hp];exact hUz
    have gA:wr.grownBy wA none:=by rw [hwA];exact World.grownBy_alloc _ _ none
    have MA:=HMP.out.kept gA (by simp)
    have hlk:=MA.look t (by unfold maxLen;omega)
    have BXA:=hid (HBX.out.grown gA)
    have OWA:=hid (HOW.out.kept gA (by simp [Value.ownBlock]))
    have OVA:=hid (HOV.out.kept gA (by cases (Value.slice av out.length cv).ownBlock<;>simp))
    have BEA:=hid (HBEL.out.grown gA (by omega) (by simp))
    have DA:=hid ((gA.block D (by omega) (by simp)).trans HD.out)
    have hUA:U<=wA.heap.size:=Nat.le_trans hUz gA.size
    have MAH:=hid MA
    go_upto_region 10 with (fail)
    rw [<- hwA,<- hp]
    have e0:=PA.cell 0 _ rfl
    have e1:=PA.cell 1 _ rfl
    have e3:=BXA.out.cell
    clear hwA hp PA gA MA HBX HOW HOV HBEL HD HMP c0 c1 c2' c3 c4 c5 c6 c7 c8 c9 hR hd he hr hx
    by_cases hk12:kd=12
    ·have q1:(kd==12)=true:=by rw [beq_iff_eq];exact hk12
     by_cases hf:(q1d defs t&&!q1d out t)=true
     ·rw [hf] at hlk
      have hf2:q1d defs t=true/\q1d out t=false:=by simpa using hf
      rw [if_pos ⟨hk12,hf2⟩] at hsn
      obtain ⟨wB,hup,hB,hgB⟩:=MAH.out.put t false (by unfold maxLen;omega) (by unfold maxLen;omega)
      have HMB:=hid (hB.congr (g:=fun u=>q1d defs u&&!q1d (out++[t]) u) (fun u=>by
       rw [hasB_app]
       by_cases hu:u=t
       ·rw [if_pos hu,hu];simp [q1d]
       ·rw [if_neg hu]
        have:q1d [t] u=false:=by rw [hasB_no];simp [hu]
        rw [this,Bool.or_false]))
      have ne1:∀ b,b≠S+1->some b≠some (S+1):=fun b hb e=>hb (Option.some.inj e)
      have BXB:=hid (show Box1 (S+2) (.map (some (S+1))) 112 wB from (hgB.block _ BXA.out.lt (ne1 _ (by omega))).trans BXA.out)
      have hgl:=HVU.out g rfl
      have OWB:=hid (OWA.out.kept hgB (.inr (by simp [Value.ownBlock];omega)))
      have OVB:=hid (OVA.out.kept hgB (.inr (fun e=>by have:=(OVA.out.lt _ e).1;omega)))
      have BEB:=hid (BEA.out.grown hgB (by omega) (fun j hj=>by have:=Option.some.inj hj;omega))
      have DB:=hid ((hgB.block D (by omega) (ne1 _ (by omega))).trans DA.out)
      have hUB:U<=wB.heap.size:=Nat.le_trans hUA hgB.size
      have HSN:=hid hsn
      have e1B:wB.cell? ⟨p,1,none⟩=some (.string t):=by
       rw [q07 (hgB.block p (q0c e1) (ne1 _ (by omega)))];exact e1
      clear hB hgB ne1 hf hf2 hsn BXA OWA OVA BEA DA MAH hk12
      go_wp2_with (at_builtin;refine wpList_append_own_at _ rfl _ _ 40 rfl U 9 i0 (.string ByteArray.empty) 1 16 Tryz.underlying40 hi0 hz0' hz1' hz2' rfl (by decide) _ _ _ rfl (OVB.out.alloc _) ⟨wB.heap.size,0,none⟩ 1 1 [.string t] rfl rfl (new_one wB (.string t) 9) (by intro u hu;simp at hu;subst hu;rfl) (by unfold maxLen;omega) (by omega) (by simp;omega) ?_)
      intro v7 w7 hown7 hg7 _ hat7
      obtain ⟨a7,c7,rfl⟩:=q09 hown7
      have hr7:∀ r,(Value.slice av out.length cv).ownBlock=some r->U<=r:=fun r hr=>(OVB.out.lt r hr).1
      have no:∀ b,b<U->w7.heap[b]?=wB.heap[b]?:=fun b hb=>(hg7.block b (by rw [World.size_alloc];omega) (fun e=>by have:=hr7 b e.symm;omega)).trans (Below.heap_alloc _ _ b (by omega))
      have H7:Hid (Nt2 S U B2 D n1 w defs L (.slice (some ⟨g,0,none⟩) L.length c2) rows (.slice a7 (out.length+1) c7) (.int .i64 ((k+1:Nat):Int)) w7):=by
       refine ⟨k+1,n+1,out++[t],by omega,rfl,HSN.out.symm,by simp;omega,by omega,HMB.out.same (no _ (by omega)),(no _ (by omega)).trans BXB.out,?_,?_,(BEB.out.alloc (by omega) _).grown hg7 (by simp;omega) (fun j hj=>by have:=hr7 j hj;omega),by have:=hg7.size;simp at this;omega,(no D hDU).trans DB.out⟩
       ·exact (OWB.out.alloc _).kept hg7 (.inr (fun e=>by have:=hr7 g e.symm;omega))
       ·rw [List.map_append,List.length_append];exact hown7
      clear hown7 hg7 hat7 no hr7
      go_wp2
      go_roundw
      case rel=>exact H7.out
      case measure=>simp [intOf];omega
     ·have hf1:(q1d defs t&&!q1d out t)=false:=by simpa using hf
      rw [hf1] at hlk
      rw [if_neg (fun h=>hf (by rw [h.2.1,h.2.2];rfl))] at hsn
      have H7:Hid (Nt2 S U B2 D n1 w defs L (.slice (some ⟨g,0,none⟩) L.length c2) rows (.slice av out.length cv) (.int .i64 ((k+1:Nat):Int)) wA):=
       ⟨k+1,n,out,by omega,rfl,hsn.symm,by omega,by omega,MAH.out,BXA.out,OWA.out,OVA.out,BEA.out,hUA,DA.out⟩
      clear hf hf1 hsn hk12
      go_wp2
      go_roundw
      case rel=>exact H7.out
      case measure=>simp [intOf];omega
    ·have q1:(kd==12)=false:=by rw [beq_eq_false_iff_ne];exact hk12
     rw [if_neg (fun h=>hk12 h.1)] at hsn
     have H7:Hid (Nt2 S U B2 D n1 w defs L (.slice (some ⟨g,0,none⟩) L.length c2) rows (.slice av out.length cv) (.int .i64 ((k+1:Nat):Int)) wA):=
      ⟨k+1,n,out,by omega,rfl,hsn.symm,by omega,by omega,MAH.out,BXA.out,OWA.out,OVA.out,BEA.out,hUA,DA.out⟩
     clear hsn hk12 hlk
     go_wp2
     go_roundw
     case rel=>exact H7.out
     case measure=>simp [intOf];omega
   ·have hkl:k=L.length:=by omega
    subst hkl
    have ho2:=HOUT.out
    rw [List.take_length,<- HNL.out] at ho2
    subst ho2
    go_wp2
    refine end_dn (v:=.slice av (notesL l).length cv) rfl HD.out (fun w'=>by simp [results,Tryz.results52,go_sem]) ⟨_,rfl,?_,?_⟩
    ·refine own_mono (own_put HOV.out D (fun e=>by have:=(HOV.out.lt D e).1;omega)) (by have:=HS.out;omega)
    ·rw [<- HS.out];exact below_putD HBEL.out (by omega)
open Go.RowKit
theorem levelOf_any (s:ByteArray) (w:World) (h:levB s<=1000):Calls Tryz.prog 27 #[.string s] w fun e w'=>e=.returned (.int .i64 ((levB s:Nat):Int))/\w'=w:=by
 have e1:((Lib.countByte s.data.toList 46:Nat):Int)+1=((levB s:Nat):Int):=by unfold levB Lib.countByte;omega
 generalize levB s=y at *
 generalize hq:Lib.countByte s.data.toList 46=q at *
 have SC:=hid (Tryz.strings_Count_one s 46 w)
 rw [hq] at SC
 clear hq
 go_enter Tryz.func27,Tryz.ntmps27
 go_wp2_with fail
 (with_reducible refine SC.out.mono ?_)
 rintro e w' ⟨rfl,rfl⟩
 clear SC
 go_wp2
 go_ret
 exact ⟨rfl,rfl⟩
theorem shown_any (x:Nm) (vl:Value) (dep:Int) (pd:Nat) (w:World) (hv:∃ a n c,vl=.slice a n c) (hc:w.cell? ⟨pd,0,none⟩=some (.int .i64 dep)) (hl:levB x.val<=1000) :
  Calls Tryz.prog 26 #[.agg #[.string x.id,.string x.kind,.string x.val,vl],.pointer (some ⟨pd,0,none⟩)] w fun e w'=>e=.returned (.bool (shownB dep x))/\Below w.heap.size w w':=by
 obtain ⟨a,n,c,rfl⟩:=hv
 obtain ⟨id,kd,val,line⟩:=x
 dsimp only at hl ⊢
 obtain ⟨wA,hwA⟩:∃ wA,wA=w.alloc (.cells #[.string id,.string kd,.string val,.slice a n c] 49):=⟨_,rfl⟩
 have bA:Below w.heap.size w wA:=by rw [hwA];exact (Below.refl _ _).alloc (Nat.le_refl _) _
 have pA:CB 49 w.heap.size [.string id,.string kd,.string val,.slice a n c] wA:=by rw [hwA];exact CB.new _ _ _
 have hcA:wA.cell? ⟨pd,0,none⟩=some (.int .i64 dep):=by rw [hwA];exact past hc _
 have BA:=hid bA
 have e0:=pA.cell 0 _ rfl
 have e1:=pA.cell 1 _ rfl
 have e2:=pA.cell 2 _ rfl
 have BQ:=hid (fun q=>q03 bA q)
 have LV:=hid (fun (wz:World)=>levelOf_any val wz hl)
 clear bA pA hc hl
 have q1:(kd.toList==[115,101,99,116,105,111,110])=decide (kd=secS):=by
  rw [Lib.toList_data,Bool.eq_iff_iff,beq_iff_eq,decide_eq_true_iff]
  constructor
  ·intro h;unfold secS;cases kd with | mk d=>cases d with | mk l=>simp at h;subst h;rfl
  ·rintro rfl;rfl
 have q2:id.toList.isEmpty=q06 id:=by rw [Lib.toList_data,Bool.eq_iff_iff,List.isEmpty_iff,q06,decide_eq_true_iff]
 have hS:shownB dep ⟨id,kd,val,line⟩=(decide (kd=secS)&&!q06 id&&decide (((levB val:Nat):Int)<=dep)):=rfl
 rw [hS]
 clear hS
 generalize decide (kd=secS)=b1 at *
 generalize q06 id=b2 at *
 generalize levB val=lv at *
 obtain ⟨b3,hb3⟩:∃ b3,b3=decide ((lv:Int)<=dep):=⟨_,rfl⟩
 have q3:decide ((lv:Int)<=dep)=b3:=hb3.symm
 rw [q3]
 clear hb3
 go_enter Tryz.func26,Tryz.ntmps26
 go_upto_region 1 with (fail)
 rw [<- hwA]
 clear hwA
 cases b1 with
 | false=>
  go_quiet (fail)
  go_wp2
  go_ret
  exact ⟨rfl,BQ.out _⟩
 | true=>
  cases b2 with
  | true=>
   go_quiet (fail)
   go_wp2
   go_ret
   exact ⟨rfl,BQ.out _⟩
  | false=>
   go_quiet ((go_at_call 27;refine Calls.quiet_of_same (LV.out _)))
   go_wp2
   go_ret
   exact ⟨by simp,BQ.out _⟩
open Go.RowKit
open Go.RowKit
def z7:List Value:=[.int .i64 0,.int .i64 0,.int .i64 0,.int .i64 0,.int .i64 0,.int .i64 0,.int .i64 0]
open Go.RowKit
open Go.RowKit
end Go.Proofs.YtlbioncagkkkoaaGreatDoor
