/- Contracts of publisherref01.clean, Digit, Valid. Contracts of publisherref04.line, trimmed, has, in, noAttr and of publisherref03.line. Contracts of publisherref03.letter, part, word, Name. Contracts of publisherref03.hasText, hasKey, Check. -/
import Derived.Test.YtlbioncagkkkoaaGreatDoorKPaE
import Derived.Test.YtlbioncagkkkoaaGreatDoorKRFoldR
import Derived.Test.YtlbioncagkkkoaaGreatDoorKPlToc
import Derived.RegionTactic
import Derived.Test.YtlbioncagkkkoaaGreatDoorKTcM
import Derived.Test.YtlbioncagkkkoaaGreatDoorKWeight
import Derived.BigQuiet
import Derived.Deep.QuietTactic
import Derived.Deep.DeepCutAuto
set_option maxHeartbeats 4000000
set_option maxRecDepth 100000
open Go.Lib (hid)
namespace Go.Proofs.YtlbioncagkkkoaaGreatDoor
open Go.RowKit
set_option linter.unusedVariables false
set_option linter.unusedSimpArgs false
def clnB (c:Nat):Bool:=decide (c=10)||(decide (32<=c)&&!decide (c=127))
theorem rClean_any (c:Nat) (w:World) (hc:c<=1114111) :
  Calls Tryz.prog 105 #[.int .i64 (c:Int)] w fun e w'=>e=.returned (.bool (clnB c))/\w=w':=by
 go_enter Tryz.func105,Tryz.ntmps105
 go_wp2
 all_goals
  go_ret
  refine ⟨q0h ?_,rfl⟩
  unfold clnB
  (try simp only [beq_iff_eq,beq_eq_false_iff_ne,ne_eq,bne_iff_ne,bne_eq_false_iff_eq] at *)
  rw [Bool.eq_iff_iff]
  simp
  omega
theorem rDigit_any (c:Nat) (w:World) (hc:c<=1114111) :
  Calls Tryz.prog 180 #[.int .i64 (c:Int)] w fun e w'=>e=.returned (.bool (digC c))/\w=w':=by
 go_enter Tryz.func180,Tryz.ntmps180
 go_wp2
 all_goals
  go_ret
  refine ⟨q0h ?_,rfl⟩
  unfold digC
  (try unfold inR)
  rw [Bool.eq_iff_iff]
  simp
  omega
theorem dec_i (a b:Nat):decide (a=b)=((a:Int)==(b:Int)):=by rw [Bool.eq_iff_iff];simp;omega
theorem okPt_eq (a b:Nat):okPt (a,b)=(clnB a&&!(((a:Int)==65533)&&((b:Int)==1))):=by
 unfold okPt clnB
 rw [dec_i a 65533,dec_i b 1]
 rfl
theorem pts_cells {w1:World} {B:Nat} {v1:Value} {ps:List (Nat × Nat)} (ho1:w1.ownsRow B 141 2 v1 ps.length (ptRows ps).flatten) :
  ∃ a cap,v1=.slice a ps.length cap/\ps.length<=cap/\cap<=maxLen/\(0<ps.length->∃ b,a=some ⟨b,0,none⟩/\b<w1.heap.size/\∀ k p,ps[k]?=some p->w1.cell? ⟨b,k*2,none⟩=some (.int .i64 (p.1:Int))/\w1.cell? ⟨b,k*2+1,none⟩=some (.int .i64 (p.2:Int))):=by
 rcases ho1.2 with ⟨rfl,h0⟩ | ⟨g,cap,cur,rfl,hg,hh,hn,hm,_⟩
 ·exact ⟨none,0,by rw [h0],by omega,Nat.zero_le _,fun h=>by omega⟩
 ·refine ⟨_,cap,rfl,hn,hm,fun _=>⟨g,rfl,(ho1.lt g rfl).2,fun k p hk=>?_⟩⟩
  have hr:(ptRows ps)[k]?=some (ptRow p):=by simp [ptRows,hk]
  have h0:=ho1.cells rfl _ _ (q28 2 _ (ptRows_k ps) k 0 _ (.int .i64 (p.1:Int)) hr rfl)
  have h1:=ho1.cells rfl _ _ (q28 2 _ (ptRows_k ps) k 1 _ (.int .i64 (p.2:Int)) hr rfl)
  have e:∀ j,((⟨g,0,none⟩:Addr).add j)=⟨g,j,none⟩:=fun j=>by unfold Addr.add;split<;>simp_all
  rw [e] at h0 h1
  exact ⟨h0,h1⟩
theorem all_snoc {α:Type} (f:α->Bool) {l:List α} {k:Nat} {x:α} (h:l[k]?=some x):(l.take (k+1)).all f=((l.take k).all f&&f x):=by
 rw [List.take_add_one,h];simp
theorem all_no {α:Type} (f:α->Bool) {l:List α} {k:Nat} {x:α} (h:l[k]?=some x) (hf:f x=false):l.all f=false:=by
 rw [List.all_eq_false];exact ⟨x,List.mem_of_getElem? h,by rw [hf];decide⟩
def VdRel (w1 wr:World) (ps:List (Nat × Nat)) (vi:Value):Prop:=∃ k:Nat,k<=ps.length/\vi=.int .i64 k/\(ps.take k).all okPt=true/\Below w1.heap.size w1 wr
theorem rValid_any (s:ByteArray) (w:World) (hs:s.size<=1000000000) :
  Calls Tryz.prog 78 #[.string s] w (RetB (.bool (q29 s)) w):=by
 have PO:=hid (rPoints_any s w (by omega))
 obtain ⟨V,hV⟩:∃ V,V=q29 s:=⟨_,rfl⟩
 rw [<- hV]
 have HV:Hid (V=(pts s).all okPt):=hV
 have hpl:(pts s).length<=s.size:=by have:=ptsF_len s s.size 0;unfold pts;simpa using this
 have HPL:=hid (ptsF_le s s.size 0)
 change Hid (∀ p∈pts s,p.1<=1114111) at HPL
 clear hV
 generalize pts s=ps at *
 go_enter Tryz.func78,Tryz.ntmps78
 go_wp2_with fail
 refine PO.out.mono ?_
 rintro e w1 ⟨v1,rfl,ho1,b1⟩
 obtain ⟨a,cap,rfl,hcap,hmx,hcs⟩:=pts_cells ho1
 have HCS:=hid hcs
 have B1:=hid b1
 have HZ:Hid ((ps.take 0).all okPt=true):=rfl
 clear hcs ho1 PO b1
 unfold maxLen at hmx
 go_wp2
 go_loopw [8] (fun vi wr=>VdRel w1 wr ps vi) (fun i _=>ps.length-(intOf i).toNat)
 case atStart=>exact ⟨0,Nat.zero_le _,rfl,HZ.out,Below.refl _ _⟩
 case round=>
  obtain ⟨k,hk,rfl,hall,hbel⟩:=hrel
  have HA:=hid hall
  have HB:=hid hbel
  clear hall
  by_cases hlt:k<ps.length
  ·obtain ⟨p,hp⟩:∃ p,ps[k]?=some p:=⟨_,List.getElem?_eq_getElem hlt⟩
   obtain ⟨b,rfl,hbl,hc⟩:=HCS.out (by omega)
   obtain ⟨k1,k2⟩:=hc k p hp
   have c1:wr.cell? ⟨b,k*2,none⟩=some (.int .i64 (p.1:Int)):=by rw [hbel.cell (p:=⟨b,k*2,none⟩) hbl];exact k1
   have c2:wr.cell? ⟨b,k*2+1,none⟩=some (.int .i64 (p.2:Int)):=by rw [hbel.cell (p:=⟨b,k*2+1,none⟩) hbl];exact k2
   have hd:=HPL.out p (List.mem_of_getElem? hp)
   have HSN:=hid (all_snoc okPt hp)
   have HNO:=hid (fun hf=>HV.out.trans (all_no okPt hp hf))
   obtain ⟨d1,d2⟩:=p
   simp only at hd c1 c2
   have CC:=hid (fun w=>rClean_any d1 w hd)
   have HOK:=hid (okPt_eq d1 d2)
   clear hp hc k1 k2 hbel
   cases hcl:clnB d1 with
   | false=>
    rw [hcl] at CC HOK
    have HE:Hid (V=false):=HNO.out HOK.out
    clear hcl
    go_wp2_with fail
    refine (CC.out _).mono ?_
    rintro e w2 ⟨rfl,rfl⟩
    go_wp2
    go_ret
    exact ⟨by rw [HE.out];rfl,q01 B1.out (HB.out.alloc HB.out.size _)⟩
   | true=>
    rw [hcl] at CC HOK
    cases hq1:((d1:Int)==65533) with
    | false=>
     rw [hq1] at HOK
     clear hcl
     go_wp2_with fail
     refine (CC.out _).mono ?_
     rintro e w2 ⟨rfl,rfl⟩
     go_wp2
     go_roundw
     case rel=>exact ⟨k+1,by omega,by go_num,by rw [HSN.out,HA.out,HOK.out];rfl,HB.out.alloc HB.out.size _⟩
     case measure=>simp [intOf];omega
    | true=>
     cases hq2:((d2:Int)==1) with
     | false=>
      rw [hq1,hq2] at HOK
      clear hcl
      go_wp2_with fail
      refine (CC.out _).mono ?_
      rintro e w2 ⟨rfl,rfl⟩
      go_wp2
      go_roundw
      case rel=>exact ⟨k+1,by omega,by go_num,by rw [HSN.out,HA.out,HOK.out];rfl,HB.out.alloc HB.out.size _⟩
      case measure=>simp [intOf];omega
     | true=>
      rw [hq1,hq2] at HOK
      have HE:Hid (V=false):=HNO.out HOK.out
      clear hcl
      go_wp2_with fail
      refine (CC.out _).mono ?_
      rintro e w2 ⟨rfl,rfl⟩
      go_wp2
      go_ret
      exact ⟨by rw [HE.out];rfl,q01 B1.out (HB.out.alloc HB.out.size _)⟩
  ·have HE:Hid (V=true):=by
    show V=true
    have:=HA.out
    rw [List.take_of_length_le (by omega)] at this
    rw [HV.out,this]
   go_wp2
   go_ret
   exact ⟨by rw [HE.out];rfl,q01 B1.out HB.out⟩
open Go.RowKit
theorem noLF_iff (s:ByteArray):noLF s=true↔∀ j,j<s.size->bt s j≠10:=by
 unfold noLF
 rw [List.all_eq_true]
 constructor
 ·intro h j hj hc
  have h1:=h s[j] (List.mem_of_getElem? (q12 s j hj))
  rw [<- q16 s j hj] at hc
  have:s[j]=10:=by rw [<- UInt8.toNat_inj];exact hc
  rw [this] at h1
  simp at h1
 ·intro h c hc
  obtain ⟨j,hj,rfl⟩:=List.getElem_of_mem hc
  have hj':j<s.size:=by simpa using hj
  have h1:=h j hj'
  rw [<- q16 s j hj'] at h1
  have h2:s.data.toList[j]=s[j]:=by have:=q12 s j hj';rw [List.getElem?_eq_getElem hj] at this;exact Option.some.inj this
  rw [h2]
  simp
  intro h3
  rw [h3] at h1
  exact h1 rfl
def LnRel (s:ByteArray) (vi:Value):Prop:=∃ k:Nat,k<=s.size/\vi=.int .i64 k/\∀ j,j<k->bt s j≠10
theorem q22 (s:ByteArray) (w:World) (hs:s.size<=1000000000) :
  Calls Tryz.prog 42 #[.string s] w (RetB (.bool (q0d s)) w):=by
 have VA:=hid (rValid_any s w hs)
 have HL:Hid (q0d s=(q29 s&&noLF s)):=rfl
 have HN:=hid (noLF_iff s)
 obtain ⟨V,hV⟩:∃ V,V=q0d s:=⟨_,rfl⟩
 rw [<- hV] at HL ⊢
 clear hV
 cases hv:q29 s with
 | false=>
  rw [hv] at VA HL
  clear hv
  go_enter Tryz.func42,Tryz.ntmps42
  go_wp2_with fail
  refine VA.out.mono ?_
  rintro e w1 ⟨rfl,b1⟩
  have HB:=hid b1
  go_wp2
  go_ret
  exact ⟨by rw [HL.out];rfl,HB.out⟩
 | true=>
  rw [hv] at VA HL
  clear hv
  go_enter Tryz.func42,Tryz.ntmps42
  go_wp2_with fail
  refine VA.out.mono ?_
  rintro e w1 ⟨rfl,b1⟩
  have HB:=hid b1
  have R0:Hid (LnRel s (.int .i64 0)):=⟨0,Nat.zero_le _,rfl,fun j hj=>by omega⟩
  clear VA b1
  go_wp2
  go_loop [3] (fun i=>LnRel s i) (fun i=>s.size-(intOf i).toNat)
  case atStart=>exact R0.out
  case round=>
   clear R0
   obtain ⟨k,hk,rfl,hall⟩:=hrel
   have HA:=hid hall
   clear hall
   by_cases hlt:k<s.size
   ·have eb:=q16 s k hlt
    by_cases hc:bt s k=10
    ·have HE:Hid (V=false):=by
      show V=false
      rw [HL.out]
      have h1:noLF s=false:=by
       cases h2:noLF s
       ·rfl
       ·exact absurd hc (HN.out.1 h2 k hlt)
      rw [h1];rfl
     have hq:(((bt s k:Nat):Int)==10)=true:=by rw [hc];rfl
     rw [<- eb] at hq
     clear hc eb
     go_wp2
     go_ret
     exact ⟨by rw [HE.out];rfl,HB.out⟩
    ·have HC:=hid hc
     have hq:(((bt s k:Nat):Int)==10)=false:=by rw [beq_eq_false_iff_ne];omega
     rw [<- eb] at hq
     clear hc eb
     go_wp2
     go_round
     case rel=>
      refine ⟨k+1,by omega,by go_num,fun j hj=>?_⟩
      rcases Nat.lt_or_ge j k with h | h
      ·exact HA.out j h
      ·have:j=k:=by omega
       subst this;exact HC.out
     case measure=>simp [intOf];omega
   ·have HE:Hid (V=true):=by
     show V=true
     rw [HL.out,HN.out.2 (fun j hj=>HA.out j (by omega))];rfl
    go_wp2
    go_ret
    exact ⟨by rw [HE.out];rfl,HB.out⟩
theorem rLine3_any (s:ByteArray) (w:World) (hs:s.size<=1000000000) :
  Calls Tryz.prog 174 #[.string s] w (RetB (.bool (q0d s)) w):=by
 have VA:=hid (rValid_any s w hs)
 have HL:Hid (q0d s=(q29 s&&noLF s)):=rfl
 have HN:=hid (noLF_iff s)
 obtain ⟨V,hV⟩:∃ V,V=q0d s:=⟨_,rfl⟩
 rw [<- hV] at HL ⊢
 clear hV
 cases hv:q29 s with
 | false=>
  rw [hv] at VA HL
  clear hv
  go_enter Tryz.func174,Tryz.ntmps174
  go_wp2_with fail
  refine VA.out.mono ?_
  rintro e w1 ⟨rfl,b1⟩
  have HB:=hid b1
  go_wp2
  go_ret
  exact ⟨by rw [HL.out];rfl,HB.out⟩
 | true=>
  rw [hv] at VA HL
  clear hv
  go_enter Tryz.func174,Tryz.ntmps174
  go_wp2_with fail
  refine VA.out.mono ?_
  rintro e w1 ⟨rfl,b1⟩
  have HB:=hid b1
  have R0:Hid (LnRel s (.int .i64 0)):=⟨0,Nat.zero_le _,rfl,fun j hj=>by omega⟩
  clear VA b1
  go_wp2
  go_loop [3] (fun i=>LnRel s i) (fun i=>s.size-(intOf i).toNat)
  case atStart=>exact R0.out
  case round=>
   clear R0
   obtain ⟨k,hk,rfl,hall⟩:=hrel
   have HA:=hid hall
   clear hall
   by_cases hlt:k<s.size
   ·have eb:=q16 s k hlt
    by_cases hc:bt s k=10
    ·have HE:Hid (V=false):=by
      show V=false
      rw [HL.out]
      have h1:noLF s=false:=by
       cases h2:noLF s
       ·rfl
       ·exact absurd hc (HN.out.1 h2 k hlt)
      rw [h1];rfl
     have hq:(((bt s k:Nat):Int)==10)=true:=by rw [hc];rfl
     rw [<- eb] at hq
     clear hc eb
     go_wp2
     go_ret
     exact ⟨by rw [HE.out];rfl,HB.out⟩
    ·have HC:=hid hc
     have hq:(((bt s k:Nat):Int)==10)=false:=by rw [beq_eq_false_iff_ne];omega
     rw [<- eb] at hq
     clear hc eb
     go_wp2
     go_round
     case rel=>
      refine ⟨k+1,by omega,by go_num,fun j hj=>?_⟩
      rcases Nat.lt_or_ge j k with h | h
      ·exact HA.out j h
      ·have:j=k:=by omega
       subst this;exact HC.out
     case measure=>simp [intOf];omega
   ·have HE:Hid (V=true):=by
     show V=true
     rw [HL.out,HN.out.2 (fun j hj=>HA.out j (by omega))];rfl
    go_wp2
    go_ret
    exact ⟨by rw [HE.out];rfl,HB.out⟩
theorem rTrim_any (s:ByteArray) (w:World) (hs:s.size<=1000000000) :
  Calls Tryz.prog 43 #[.string s] w fun e w'=>e=.returned (.bool (trimS s))/\w=w':=by
 rcases emp_part s with rfl | ⟨hne,hp,hie,hes⟩
 ·go_enter Tryz.func43,Tryz.ntmps43
  go_wp2
  go_ret
  exact ⟨rfl,rfl⟩
 ·have hv:trimS s=(!decide (bt s 0=32)&&!decide (bt s (s.size-1)=32)):=by
   unfold trimS;unfold q06 at hes;rw [hes,head_bt s 32 hp,last_bt s 32 hp];rfl
  rw [hv]
  have e0:=q16 s 0 hp
  have e1:=q16 s (s.size-1) (by omega)
  generalize bt s 0=b0 at *
  generalize bt s (s.size-1)=b1 at *
  have hsub:((s.size:Int)-1).toNat=s.size-1:=by omega
  clear hv hes
  go_enter Tryz.func43,Tryz.ntmps43
  go_wp2
  all_goals
   go_ret
   refine ⟨q0h ?_,rfl⟩
   (try simp only [beq_iff_eq,beq_eq_false_iff_ne,ne_eq,bne_iff_ne,bne_eq_false_iff_eq] at *)
   rw [Bool.eq_iff_iff]
   simp
   (try omega)
def HsRel (s b:ByteArray) (w:World) (vi:Value) (wr:World):Prop:=∃ k q:Nat,k<=s.size/\vi=.int .i64 k/\(∀ j i,j<k->i<b.size->bt s j≠bt b i)/\wr=w.drewN q
def HsRel2 (s b:ByteArray) (w:World) (k:Nat) (vi:Value) (wr:World):Prop:=∃ i q:Nat,i<=b.size/\vi=.int .i64 i/\(∀ j,j<i->bt s k≠bt b j)/\wr=w.drewN q
theorem hasAny_iff (s b:ByteArray):q0r s b.data.toList=true↔∃ j i,j<s.size/\i<b.size/\bt s j=bt b i:=by
 unfold q0r
 rw [List.any_eq_true]
 constructor
 ·rintro ⟨c,hc,hb⟩
  rw [List.contains_iff_mem] at hb
  obtain ⟨j,hj,rfl⟩:=List.getElem_of_mem hc
  obtain ⟨i,hi,he⟩:=List.getElem_of_mem hb
  have hj':j<s.size:=by simpa using hj
  have hi':i<b.size:=by simpa using hi
  refine ⟨j,i,hj',hi',?_⟩
  rw [<- q16 s j hj',<- q16 b i hi']
  exact congrArg UInt8.toNat he.symm
 ·rintro ⟨j,i,hj,hi,he⟩
  refine ⟨s[j],List.mem_of_getElem? (q12 s j hj),?_⟩
  rw [List.contains_iff_mem]
  rw [<- q16 s j hj,<- q16 b i hi,UInt8.toNat_inj] at he
  rw [he]
  exact List.mem_of_getElem? (q12 b i hi)
theorem below_drewN0 (w:World) (q:Nat):Below w.heap.size w (w.drewN q):=q03 (Below.refl _ _) q
theorem rHasB_any (s b:ByteArray) (w:World) (hs:s.size<=1000000000) (hb:b.size<=1000000000) :
  Calls Tryz.prog 176 #[.string s,.string b] w (RetB (.bool (q0r s b.data.toList)) w):=by
 have HI:=hid (hasAny_iff s b)
 obtain ⟨V,hV⟩:∃ V,V=q0r s b.data.toList:=⟨_,rfl⟩
 rw [<- hV] at HI ⊢
 clear hV
 have R0:Hid (HsRel s b w (.int .i64 0) w):=⟨0,0,Nat.zero_le _,rfl,fun j i hj=>by omega,rfl⟩
 go_enter Tryz.func176,Tryz.ntmps176
 go_wp2
 go_loopw [5] (fun vi wr=>HsRel s b w vi wr) (fun i _=>s.size-(intOf i).toNat)
 case atStart=>exact R0.out
 case round=>
  clear R0
  obtain ⟨k,q,hk,rfl,hall,rfl⟩:=hrel
  have HAL:=hid hall
  clear hall
  by_cases hlt:k<s.size
  ·have R1:Hid (HsRel2 s b w k (.int .i64 0) (w.drewN q)):=⟨0,q,Nat.zero_le _,rfl,fun j hj=>by omega,rfl⟩
   go_wp2
   go_loopw [6] (fun vi wr=>HsRel2 s b w k vi wr) (fun i _=>b.size-(intOf i).toNat)
   case atStart=>exact R1.out
   case round=>
    clear R1
    obtain ⟨i,q2,hi,rfl,hall2,rfl⟩:=hrel
    have HAL2:=hid hall2
    clear hall2
    by_cases hlt2:i<b.size
    ·have eb:=q16 s k hlt
     have ec:=q16 b i hlt2
     by_cases hc:bt s k=bt b i
     ·have HE:Hid (V=true):=HI.out.2 ⟨k,i,hlt,hlt2,hc⟩
      have hq:(((bt s k:Nat):Int)==((bt b i:Nat):Int))=true:=by rw [hc];simp
      rw [<- eb,<- ec] at hq
      clear hc eb ec
      go_upto_region 7 with (fail)
      go_region
      go_wp2
      go_ret
      exact ⟨by rw [HE.out];rfl,below_drewN0 w (q2+1)⟩
     ·have HC:=hid hc
      have hq:(((bt s k:Nat):Int)==((bt b i:Nat):Int))=false:=by rw [beq_eq_false_iff_ne];omega
      rw [<- eb,<- ec] at hq
      clear hc eb ec
      go_upto_region 7 with (fail)
      go_region
      go_wp2
      go_roundw
      case rel=>
       refine ⟨i+1,q2+1,by omega,by go_num,fun j hj=>?_,rfl⟩
       rcases Nat.lt_or_ge j i with h | h
       ·exact HAL2.out j h
       ·have:j=i:=by omega
        subst this;exact HC.out
      case measure=>simp [intOf];omega
    ·go_wp2
     go_roundw
     case rel=>
      refine ⟨k+1,q2,by omega,by go_num,fun j i' hj hi'=>?_,rfl⟩
      rcases Nat.lt_or_ge j k with h | h
      ·exact HAL.out j i' h hi'
      ·have:j=k:=by omega
       subst this;exact HAL2.out i' (by omega)
     case measure=>simp [intOf];omega
  ·have HE:Hid (V=false):=by
    show V=false
    cases hV:V with
    | false=>rfl
    | true=>
     obtain ⟨j,i,hj,hi,he⟩:=HI.out.1 hV
     exact absurd he (HAL.out j i (by omega) hi)
   go_wp2
   go_ret
   exact ⟨by rw [HE.out];rfl,below_drewN0 w q⟩
theorem rIn_any (n:Int) (ks:List Int) (g cap:Nat) (w:World) (hl:ks.length<=1000) (hc:∀ j k,ks[j]?=some k->w.cell? ⟨g,j,none⟩=some (.int .i64 k)) :
  Calls Tryz.prog 135 #[.int .i64 n,.slice (some ⟨g,0,none⟩) ks.length cap] w fun e w'=>e=.returned (.bool (ks.contains n))/\w=w':=by
 have HC:=hid hc
 have R0:Hid (OoRel n ks (.int .i64 0)):=⟨0,Nat.zero_le _,rfl,by simp⟩
 obtain ⟨V,hV⟩:∃ V,V=ks.contains n:=⟨_,rfl⟩
 rw [<- hV]
 have HV:=hid hV
 clear hc hV
 go_enter Tryz.func135,Tryz.ntmps135
 go_wp2
 go_loop [5] (fun i=>OoRel n ks i) (fun i=>ks.length-(intOf i).toNat)
 case atStart=>exact R0.out
 case round=>
  clear R0
  obtain ⟨k,hk,rfl,hno⟩:=hrel
  have HN:=hid hno
  clear hno
  by_cases hlt:k<ks.length
  ·obtain ⟨x,hx⟩:∃ x,ks[k]?=some x:=⟨_,List.getElem?_eq_getElem hlt⟩
   have hcell:=HC.out k x hx
   have HT:Hid ((ks.take (k+1)).contains n=((ks.take k).contains n||(x==n))):=by
    show _=_
    have e:(x==n)=(n==x):=by rw [Bool.eq_iff_iff,beq_iff_eq,beq_iff_eq];exact eq_comm
    rw [e,List.take_add_one,hx,Bool.eq_iff_iff]
    simp
   have HX:=hid hx
   clear hx
   cases hnx:(x==n)
   ·rw [hnx] at HT
    go_wp2
    go_round
    case rel=>exact ⟨k+1,by omega,by go_num,by rw [HT.out,HN.out];rfl⟩
    case measure=>simp [intOf];omega
   ·have HE:Hid (V=true):=by
     show V=true
     rw [HV.out,List.contains_iff_mem]
     have:x=n:=by simpa using hnx
     rw [<- this];exact List.mem_of_getElem? HX.out
    go_wp2
    go_ret
    exact ⟨by rw [HE.out];rfl,rfl⟩
  ·have HE:Hid (V=false):=by
    show V=false
    rw [HV.out]
    have:=HN.out
    rwa [List.take_of_length_le (by omega)] at this
   go_wp2
   go_ret
   exact ⟨by rw [HE.out];rfl,rfl⟩
theorem rNoAttr_any (a:At) (ac ap:Option Addr) (cc cp:Nat) (w:World) (hc:a.cls.length<=maxLen) (hp:a.prs.length<=maxLen) :
  Calls Tryz.prog 136 #[.agg #[.string a.id,.slice ac a.cls.length cc,.slice ap a.prs.length cp]] w (RetB (.bool a.none) w):=by
 obtain ⟨id,cls,prs⟩:=a
 unfold maxLen at hc hp
 dsimp only at hc hp ⊢
 have HV:Hid (At.none ⟨id,cls,prs⟩=(q06 id&&cls.isEmpty&&prs.isEmpty)):=rfl
 have e1:=len0 cls
 have e2:=len0 prs
 have e3:=q19 id
 obtain ⟨V,hV⟩:∃ V,V=At.none ⟨id,cls,prs⟩:=⟨_,rfl⟩
 rw [<- hV] at HV ⊢
 clear hV
 generalize q06 id=b3 at *
 generalize cls.isEmpty=b1 at *
 generalize prs.isEmpty=b2 at *
 cases b3<;>cases b1<;>cases b2
 all_goals
  go_enter Tryz.func136,Tryz.ntmps136
  go_wp2
  go_ret
  exact ⟨by rw [HV.out];rfl,(Below.refl _ _).alloc (Nat.le_refl _) _⟩
open Go.RowKit
theorem rLetter3_any (c:Nat) (w:World) (hc:c<256) :
  Calls Tryz.prog 76 #[.int .u8 (c:Int)] w fun e w'=>e=.returned (.bool (ltrC c))/\w=w':=by
 go_enter Tryz.func76,Tryz.ntmps76
 go_wp2
 all_goals
  go_ret
  refine ⟨q0h ?_,rfl⟩
  unfold ltrC inR
  rw [Bool.eq_iff_iff]
  simp
  omega
theorem rPart_any (c:Nat) (w:World) (hc:c<256) :
  Calls Tryz.prog 103 #[.int .u8 (c:Int)] w fun e w'=>e=.returned (.bool (nmC c))/\w=w':=by
 have LT:=hid (fun w=>rLetter3_any c w hc)
 have HL:Hid (ltrC c=true↔(97<=c/\c<=122)\/(65<=c/\c<=90)):=by
  show _↔_
  unfold ltrC inR
  simp
 cases hl:ltrC c with
 | true=>
  rw [hl] at LT
  have hv:nmC c=true:=by unfold nmC;rw [hl];simp
  rw [hv]
  clear hl hv
  go_enter Tryz.func103,Tryz.ntmps103
  go_wp2_with fail
  refine (LT.out _).mono ?_
  rintro e w1 ⟨rfl,rfl⟩
  go_wp2
  go_ret
  exact ⟨rfl,rfl⟩
 | false=>
  rw [hl] at LT
  have HV:Hid (nmC c=((decide (c=45)||decide (c=95)||decide (c=46)||decide (c=58))||inR c 48 57)):=by show _=_;unfold nmC;rw [hl];simp
  generalize nmC c=V at *
  clear hl
  go_enter Tryz.func103,Tryz.ntmps103
  go_wp2_with fail
  refine (LT.out _).mono ?_
  rintro e w1 ⟨rfl,rfl⟩
  go_wp2
  all_goals
   go_ret
   refine ⟨q0h ?_,rfl⟩
   rw [HV.out]
   (try simp only [beq_iff_eq,beq_eq_false_iff_ne,ne_eq] at *)
   rw [Bool.eq_iff_iff]
   unfold inR
   simp
   (try omega)
theorem rWord_any (s:ByteArray) (w:World) (hs:s.size<=1000000000) :
  Calls Tryz.prog 77 #[.string s,.int .i64 0] w fun e w'=>e=.returned (.int .i64 (wEnd0 s:Nat))/\w=w':=by
 obtain ⟨V,hV⟩:∃ V,V=wEnd0 s:=⟨_,rfl⟩
 rw [<- hV]
 have HV:=hid hV
 clear hV
 go_enter Tryz.func77,Tryz.ntmps77
 go_wp2
 go_loop [1] (fun vi=>∃ k:Nat,k<=s.size/\vi=.int .i64 k/\∀ j x,j<k->s.data.toList[j]?=some x->nmB x=true) (fun i=>s.size-(intOf i).toNat)
 case atStart=>exact ⟨0,Nat.zero_le _,rfl,fun j x hj=>by omega⟩
 case round=>
  obtain ⟨k,hk,rfl,hall⟩:=hrel
  have HA:=hid hall
  clear hall
  by_cases hlt:k<s.size
  ·have hgl:=UInt8.toNat_lt s[k]
   have IN:=hid (fun w=>rPart_any s[k].toNat w hgl)
   have HG:=hid (q12 s k hlt)
   cases hn:nmC s[k].toNat with
   | true=>
    rw [hn] at IN
    have HN:=hid hn
    clear hn
    go_wp2_with fail
    refine (IN.out _).mono ?_
    rintro e w1 ⟨rfl,rfl⟩
    go_wp2
    go_round
    case rel=>
     refine ⟨k+1,by omega,by go_num,fun j x hj hx=>?_⟩
     rcases Nat.lt_or_ge j k with h | h
     ·exact HA.out j x h hx
     ·have:j=k:=by omega
      subst this
      rw [HG.out] at hx
      obtain rfl:=Option.some.inj hx
      exact HN.out
    case measure=>simp [intOf];omega
   | false=>
    rw [hn] at IN
    have hw:V=k:=by
     rw [HV.out]
     exact tw_len nmB _ k (by simpa using hk) HA.out (fun x hx=>by rw [HG.out] at hx;obtain rfl:=Option.some.inj hx;exact hn)
    have HW:=hid hw
    clear hn hw
    go_wp2_with fail
    refine (IN.out _).mono ?_
    rintro e w1 ⟨rfl,rfl⟩
    go_wp2
    go_ret
    exact ⟨by rw [HW.out];rfl,rfl⟩
  ·have hw:V=k:=by
    rw [HV.out]
    refine tw_len nmB _ k (by simpa using hk) HA.out (fun x hx=>?_)
    have:=(List.getElem?_eq_some_iff.1 hx).1
    have e:s.data.toList.length=s.size:=by simp
    omega
   have HW:=hid hw
   clear hw
   go_wp2
   go_ret
   exact ⟨by rw [HW.out];rfl,rfl⟩
theorem q23 (s:ByteArray) (w:World) (hs:s.size<=1000000000) :
  Calls Tryz.prog 41 #[.string s] w fun e w'=>e=.returned (.bool (q0a s))/\w=w':=by
 by_cases h0:s.size=0
 ·have hv:q0a s=false:=by unfold q0a;simp [h0]
  rw [hv]
  have e0:decide ((1:Int)<=(s.size:Int))=false:=by simp;omega
  clear hv h0
  go_enter Tryz.func41,Tryz.ntmps41
  go_wp2
  go_ret
  exact ⟨rfl,rfl⟩
 have e0:decide ((1:Int)<=(s.size:Int))=true:=by simp;omega
 by_cases h60:60<s.size
 ·have hv:q0a s=false:=by unfold q0a;simp;omega
  rw [hv]
  have e1:decide ((s.size:Int)<=(60:Int))=false:=by simp;omega
  clear hv
  go_enter Tryz.func41,Tryz.ntmps41
  go_wp2
  go_ret
  exact ⟨rfl,rfl⟩
 have e1:decide ((s.size:Int)<=(60:Int))=true:=by simp;omega
 have hp:0<s.size:=by omega
 have hg:=q12 s 0 hp
 obtain ⟨c,hc⟩:∃ c,s[0]=c:=⟨_,rfl⟩
 rw [hc] at hg
 have hcl:=UInt8.toNat_lt c
 have LT:=hid (fun w=>rLetter3_any c.toNat w hcl)
 have WE:=hid (fun w=>rWord_any s w hs)
 have hl:s.data.toList=c::s.data.toList.tail:=by
  cases h:s.data.toList with
  | nil=>rw [h] at hg;simp at hg
  | cons a l=>rw [h] at hg;simp at hg;rw [hg];rfl
 have hv:q0a s=(ltrC c.toNat&&decide (wEnd0 s=s.size)):=by
  unfold q0a
  rw [hl,decide_eq_true (show 1<=s.size by omega),decide_eq_true (show s.size<=60 by omega)]
  rfl
 have HV:=hid hv
 generalize q0a s=V at *
 generalize wEnd0 s=E at *
 clear hv hl hg
 cases hlt:ltrC c.toNat with
 | false=>
  rw [hlt] at LT
  rw [hlt] at HV
  go_enter Tryz.func41,Tryz.ntmps41
  go_wp2_with fail
  refine (LT.out _).mono ?_
  rintro e w1 ⟨rfl,rfl⟩
  go_wp2
  go_ret
  exact ⟨by rw [HV.out];rfl,rfl⟩
 | true=>
  rw [hlt] at LT
  rw [hlt] at HV
  go_enter Tryz.func41,Tryz.ntmps41
  go_wp2_with fail
  refine (LT.out _).mono ?_
  rintro e w1 ⟨rfl,rfl⟩
  go_wp2_with fail
  refine (WE.out _).mono ?_
  rintro e w1 ⟨rfl,rfl⟩
  go_wp2
  go_ret
  refine ⟨?_,rfl⟩
  rw [HV.out]
  refine q0h ?_
  rw [Bool.eq_iff_iff]
  simp
  (try omega)
open Go.RowKit
theorem rHasText_any (l:List ByteArray) (x:ByteArray) (v:Value) (w:World) (hs:Sees w 1 v l.length (l.map Value.string)) :
  Calls Tryz.prog 173 #[v,.string x] w fun e w'=>e=.returned (.bool (q1d l x))/\w=w':=by
 obtain ⟨-,a,cap,rfl,hcap,hmx,hcs⟩:=hs
 have HCS:=hid hcs
 have HZ:Hid (q1d (l.take 0) x=false):=rfl
 clear hcs
 unfold maxLen at hmx
 go_enter Tryz.func173,Tryz.ntmps173
 go_wp2
 go_loop [5] (fun vi=>∃ k:Nat,k<=l.length/\vi=.int .i64 k/\q1d (l.take k) x=false) (fun i=>l.length-(intOf i).toNat)
 case atStart=>exact ⟨0,Nat.zero_le _,rfl,HZ.out⟩
 case round=>
  obtain ⟨k,hk,rfl,hany⟩:=hrel
  have HA:=hid hany
  clear hany
  by_cases hlt:k<l.length
  ·obtain ⟨y,hy⟩:∃ y,l[k]?=some y:=⟨_,List.getElem?_eq_getElem hlt⟩
   rcases HCS.out with h0 | ⟨b,off,rfl,hc⟩
   ·omega
   have c0:w.cell? ⟨b,off+k,none⟩=some (.string y):=hc k _ (by simp [hy])
   have hsn:=hasB_snoc l k y x hy
   rw [HA.out] at hsn
   have HSN:=hid hsn
   have HT:=hid (hasB_take l (k+1) x)
   clear hy hc hsn
   by_cases hyx:y=x
   ·subst hyx
    go_wp2
    go_ret
    exact ⟨by rw [HT.out (by rw [HSN.out];simp)];rfl,rfl⟩
   ·have e1:=str_ne hyx
    go_wp2
    go_round
    case rel=>exact ⟨k+1,by omega,by go_num,by rw [HSN.out];simp [hyx]⟩
    case measure=>simp [intOf];omega
  ·have hkl:k=l.length:=by omega
   have hA:=HA.out
   rw [hkl,List.take_length] at hA
   have HA2:=hid hA
   clear hA HA hkl
   go_wp2
   go_ret
   exact ⟨by rw [HA2.out];rfl,rfl⟩
theorem rHasKey_any (l:List Pr) (x:ByteArray) (b off n cap:Nat) (w:World) (hn:n<=l.length) (hcap:n<=cap) (hmx:cap<=maxLen) (hc:∀ k p,l[k]?=some p->w.cell? ⟨b,off+k*2,none⟩=some (.string p.key)) :
  Calls Tryz.prog 175 #[.slice (some ⟨b,off,none⟩) n cap,.string x] w fun e w'=>e=.returned (.bool (q1d ((l.take n).map Pr.key) x))/\w=w':=by
 have HCS:=hid hc
 obtain ⟨K,hK⟩:∃ K,K=(l.take n).map Pr.key:=⟨_,rfl⟩
 rw [<- hK]
 have hkn:K.length=n:=by rw [hK];simp;omega
 have HKI:Hid (∀ k,k<n->∃ p,l[k]?=some p/\K[k]?=some p.key):=by
  intro k hk
  obtain ⟨p,hp⟩:∃ p,l[k]?=some p:=⟨_,List.getElem?_eq_getElem (by omega)⟩
  refine ⟨p,hp,?_⟩
  rw [hK,List.getElem?_map,List.getElem?_take,if_pos hk,hp];rfl
 have HZ:Hid (q1d (K.take 0) x=false):=rfl
 clear hc hK
 unfold maxLen at hmx
 go_enter Tryz.func175,Tryz.ntmps175
 go_wp2
 go_loop [5] (fun vi=>∃ k:Nat,k<=n/\vi=.int .i64 k/\q1d (K.take k) x=false) (fun i=>n-(intOf i).toNat)
 case atStart=>exact ⟨0,Nat.zero_le _,rfl,HZ.out⟩
 case round=>
  obtain ⟨k,hk,rfl,hany⟩:=hrel
  have HA:=hid hany
  clear hany
  by_cases hlt:k<n
  ·obtain ⟨p,hp,hy⟩:=HKI.out k hlt
   have c0:=HCS.out k p hp
   obtain ⟨y,val⟩:=p
   dsimp only at c0 hy
   have hsn:=hasB_snoc K k y x hy
   rw [HA.out] at hsn
   have HSN:=hid hsn
   have HT:=hid (hasB_take K (k+1) x)
   clear hy hp hsn
   by_cases hyx:y=x
   ·subst hyx
    go_wp2
    go_ret
    exact ⟨by rw [HT.out (by rw [HSN.out];simp)];rfl,rfl⟩
   ·have e1:=str_ne hyx
    go_wp2
    go_round
    case rel=>exact ⟨k+1,by omega,by go_num,by rw [HSN.out];simp [hyx]⟩
    case measure=>simp [intOf];omega
  ·have hkl:k=K.length:=by omega
   have hA:=HA.out
   rw [hkl,List.take_length] at hA
   have HA2:=hid hA
   clear hA HA hkl
   go_wp2
   go_ret
   exact ⟨by rw [HA2.out];rfl,rfl⟩
def CkR1 (T:TypeId) (p:Nat) (cs:List Value) (w:World) (l:List ByteArray) (E:Nat) (vi:Value) (wr:World):Prop:=
 ∃ k:Nat,k<=l.length/\vi=.int .i64 k/\CB T p cs wr/\Below w.heap.size w wr/\q1e (l.take k) (l.drop k)=E
def CkR2 (T:TypeId) (p:Nat) (cs:List Value) (w:World) (l:List Pr) (E:Nat) (vi:Value) (wr:World):Prop:=
 ∃ k:Nat,k<=l.length/\vi=.int .i64 k/\CB T p cs wr/\Below w.heap.size w wr/\q0u ((l.take k).map Pr.key) (l.drop k)=E
theorem CB.dN {T:TypeId} {p:Nat} {cs:List Value} {w:World} (h:CB T p cs w) (q:Nat):CB T p cs (w.drewN q):=h
theorem rCheck3_any (a:At) (ac ap:Option Addr) (cc cp:Nat) (w:World) (h:AtR (·<w.heap.size) w a (.slice ac a.cls.length cc) (.slice ap a.prs.length cp)) (hs:a.short) :
  Calls Tryz.prog 140 #[.agg #[.string a.id,.slice ac a.cls.length cc,.slice ap a.prs.length cp]] w (RetB (.int .i64 (a.err:Nat)) w):=by
 obtain ⟨sc,sp,si,sca,spa⟩:=hs
 obtain ⟨id,cls,prs⟩:=a
 dsimp only at sc sp si sca spa h ⊢
 obtain ⟨a1,c1,hv1,hs1⟩:=Rd.sl_open h.cls
 obtain ⟨rfl,rfl⟩:a1=ac/\c1=cc:=by simp at hv1;exact ⟨hv1.1.symm,hv1.2.symm⟩
 obtain ⟨a2,c2,hv2,hs2⟩:=Rd.sl_open h.prs
 obtain ⟨rfl,rfl⟩:a2=ap/\c2=cp:=by simp at hv2;exact ⟨hv2.1.symm,hv2.2.symm⟩
 have l1:cls.length<=c1:=by simpa using hs1.le
 have l2:prs.length<=c2:=by simpa using hs2.le
 have m1:=hs1.max
 have m2:=hs2.max
 have H1:=hid hs1
 have H2:=hid hs2
 have SC:=hid sca
 have SP:=hid spa
 have NI:=hid (fun w=>q23 id w (by omega))
 have HE:Hid (At.err ⟨id,cls,prs⟩=if q06 id=false/\q0a id=false then 6 else if q1e [] cls≠0 then q1e [] cls else if q0u [] prs≠0 then q0u [] prs else if 32<cls.length\/32<prs.length then 3 else 0):=rfl
 obtain ⟨V,hV⟩:∃ V,V=At.err ⟨id,cls,prs⟩:=⟨_,rfl⟩
 rw [<- hV] at HE ⊢
 have hie:=q19 id
 obtain ⟨w1,hw1⟩:∃ w1,w1=w.alloc (.cells #[.string id,.slice a1 cls.length c1,.slice a2 prs.length c2] 44):=⟨_,rfl⟩
 have k1:CB 44 w.heap.size [.string id,.slice a1 cls.length c1,.slice a2 prs.length c2] w1:=by rw [hw1];exact CB.new _ _ _
 have b1:Below w.heap.size w w1:=by rw [hw1];exact (Below.refl _ _).alloc (Nat.le_refl _) _
 have p0:=k1.cell 0 _ rfl
 have p1:=k1.cell 1 _ rfl
 have K1:=hid k1
 have B1:=hid b1
 have R0:Hid (CkR1 44 w.heap.size [.string id,.slice a1 cls.length c1,.slice a2 prs.length c2] w cls (q1e [] cls) (.int .i64 0) w1):=⟨0,Nat.zero_le _,rfl,k1,b1,rfl⟩
 have HM1:=hid m1
 have HM2:=hid m2
 unfold maxLen at m1 m2
 clear hV sca spa hs1 hs2 hv1 hv2 h k1 b1
 go_enter Tryz.func140,Tryz.ntmps140
 go_upto_region 1 with (fail)
 rw [<- hw1]
 clear hw1
 go_cut [13] (fun s wx=>s=.bool (!q06 id&&!q0a id)/\w1=wx)
 case first=>
  clear R0 HE
  cases he:q06 id with
  | true=>
   rw [he] at hie
   have HEE:=hid he
   clear he NI
   go_wp2_with fail
   go_meet
   exact ⟨by rw [HEE.out];rfl,rfl⟩
  | false=>
   rw [he] at hie
   have HEE:=hid he
   clear he
   cases hn:q0a id
   all_goals
    rw [hn] at NI
    have HNN:=hid hn
    clear hn
    go_wp2_with fail
    refine (NI.out _).mono ?_
    rintro e w2 ⟨rfl,rfl⟩
    go_wp2_with fail
    go_meet
    exact ⟨by rw [HEE.out,HNN.out];rfl,rfl⟩
 case rest=>
  obtain ⟨rfl,rfl⟩:=hcut
  clear NI
  cases hbad:(!q06 id&&!q0a id) with
  | true=>
   have HV:Hid (V=6):=by
    show V=6
    rw [HE.out,if_pos (by simpa using hbad)]
   clear hbad R0
   go_wp2
   go_ret
   exact ⟨by rw [HV.out];rfl,B1.out⟩
  | false=>
   have HE2:Hid (V=if q1e [] cls≠0 then q1e [] cls else if q0u [] prs≠0 then q0u [] prs else if 32<cls.length\/32<prs.length then 3 else 0):=by
    show V=_
    rw [HE.out,if_neg (fun h=>by rw [h.1,h.2] at hbad;cases hbad)]
   clear hbad HE hie
   obtain ⟨E1,hE1⟩:∃ E1,E1=q1e [] cls:=⟨_,rfl⟩
   obtain ⟨E2,hE2⟩:∃ E2,E2=q0u [] prs:=⟨_,rfl⟩
   rw [<- hE1] at HE2 R0
   rw [<- hE2] at HE2
   have HE2d:=hid hE2
   clear hE1 hE2 p0 p1
   go_wp2
   go_loopw [3] (fun i wr=>CkR1 44 w.heap.size [.string id,.slice a1 cls.length c1,.slice a2 prs.length c2] w cls E1 i wr) (fun i _=>cls.length-(intOf i).toNat)
   case atStart=>exact R0.out
   case round=>
    clear R0
    obtain ⟨k,hk,rfl,hcb,hbl,herr⟩:=hrel
    have HCB:=hid hcb
    have HBL:=hid hbl
    have p1:=hcb.cell 1 _ rfl
    by_cases hlt:k<cls.length
    ·obtain ⟨x,hx⟩:∃ x,cls[k]?=some x:=⟨_,List.getElem?_eq_getElem hlt⟩
     obtain ⟨b,off,ha,-,-,c0⟩:=strs_at H1.out hx
     have c0:wr.cell? ⟨b,off+k,none⟩=some (.string x):=by rw [hbl.cell (p:=⟨b,off+k,none⟩) (q0c c0)];exact c0
     have hsee:Sees wr 1 (.slice a1 k c1) (cls.take k).length ((cls.take k).map Value.string):=by
      have hkl:(cls.take k).length=k:=by simp;omega
      rw [hkl]
      refine ⟨by simp;omega,_,_,rfl,by omega,HM1.out,.inr ⟨b,off,ha,fun j u hu=>?_⟩⟩
      rw [List.getElem?_map,List.getElem?_take] at hu
      split at hu
      ·rename_i hjk
       obtain ⟨y,hy⟩:∃ y,cls[j]?=some y:=⟨_,List.getElem?_eq_getElem (by omega)⟩
       rw [hy] at hu
       obtain ⟨b',off',ha',-,-,c0'⟩:=strs_at H1.out hy
       rw [ha] at ha'
       simp at ha'
       obtain ⟨rfl,rfl⟩:=ha'
       have c2':wr.cell? ⟨b,off+j,none⟩=some (.string y):=by rw [hbl.cell (p:=⟨b,off+j,none⟩) (q0c c0')];exact c0'
       simp at hu
       subst hu
       exact c2'
      ·cases hu
     have hxs:=SC.out x (List.mem_of_getElem? hx)
     have CN:=hid (fun w=>q23 x w (by omega))
     have HTX:Hid (∀ m,Calls Tryz.prog 173 #[.slice a1 k c1,.string x] (wr.drewN m) fun e w'=>e=.returned (.bool (q1d (cls.take k) x))/\w'=wr.drewN m):=fun m=>(rHasText_any (cls.take k) x _ (wr.drewN m) hsee).mono fun _ _ h=>⟨h.1,h.2.symm⟩
     subst ha
     have HERR:Hid (q1e (cls.take k) (x::cls.drop (k+1))=E1):=by show _=_;rw [<- q0s cls k x hx];exact herr
     have HTK:Hid (cls.take (k+1)=cls.take k++[x]):=by show _=_;rw [List.take_add_one,hx];rfl
     clear herr hx hsee hcb hbl
     cases hn:q0a x with
     | false=>
      rw [hn] at CN
      have HV:Hid (V=6):=by
       show V=6
       have:=HERR.out
       rw [q1e,if_pos hn] at this
       rw [HE2.out,<- this];rfl
      clear hn
      go_wp2_with fail
      refine (CN.out _).mono ?_
      rintro e w3 ⟨rfl,rfl⟩
      go_wp2
      go_ret
      exact ⟨by rw [HV.out];rfl,HBL.out⟩
     | true=>
      rw [hn] at CN
      cases hb:q1d (cls.take k) x with
      | true=>
       rw [hb] at HTX
       have HV:Hid (V=7):=by
        show V=7
        have:=HERR.out
        rw [q1e,if_neg (by rw [hn];decide),if_pos hb] at this
        rw [HE2.out,<- this];rfl
       clear hn hb
       go_wp2_with fail
       refine (CN.out _).mono ?_
       rintro e w3 ⟨rfl,rfl⟩
       go_upto_region 8 with (fail)
       go_quiet ((go_at_call 173;with_reducible exact Calls.quiet_of_same (HTX.out _)))
       go_wp2
       go_ret
       exact ⟨by rw [HV.out];rfl,q03 HBL.out _⟩
      | false=>
       rw [hb] at HTX
       have HN2:Hid (q1e (cls.take (k+1)) (cls.drop (k+1))=E1):=by
        show _=_
        have:=HERR.out
        rw [q1e,if_neg (by rw [hn];decide),if_neg (by rw [hb];decide)] at this
        rw [HTK.out];exact this
       clear hn hb
       go_wp2_with fail
       refine (CN.out _).mono ?_
       rintro e w3 ⟨rfl,rfl⟩
       go_upto_region 8 with (fail)
       go_quiet ((go_at_call 173;with_reducible exact Calls.quiet_of_same (HTX.out _)))
       go_wp2
       go_roundw
       case rel=>exact ⟨k+1,by omega,by go_num,HCB.out.dN _,q03 HBL.out _,HN2.out⟩
       case measure=>simp [intOf];omega
    ·obtain rfl:k=cls.length:=by omega
     have HE10:Hid (E1=0):=by
      show E1=0
      rw [List.drop_length,q1e] at herr;exact herr.symm
     have R2:Hid (CkR2 44 w.heap.size [.string id,.slice a1 cls.length c1,.slice a2 prs.length c2] w prs E2 (.int .i64 0) wr):=⟨0,Nat.zero_le _,rfl,hcb,hbl,HE2d.out.symm⟩
     clear herr hcb hbl HCB HBL hk hlt
     go_wp2
     go_loopw [4] (fun i wr=>CkR2 44 w.heap.size [.string id,.slice a1 cls.length c1,.slice a2 prs.length c2] w prs E2 i wr) (fun i _=>prs.length-(intOf i).toNat)
     case atStart=>exact R2.out
     case round=>
      clear R2 p1
      obtain ⟨k,hk,rfl,hcb,hbl,herr⟩:=hrel
      have HCB:=hid hcb
      have HBL:=hid hbl
      have p2:=hcb.cell 2 _ rfl
      by_cases hlt:k<prs.length
      ·obtain ⟨x,hx⟩:∃ x,prs[k]?=some x:=⟨_,List.getElem?_eq_getElem hlt⟩
       obtain ⟨b,off,ha,-,-,c0,c1'⟩:=prs_at H2.out hx
       have hkeys:∀ j p,prs[j]?=some p->wr.cell? ⟨b,off+j*2,none⟩=some (.string p.key):=by
        intro j y hy
        obtain ⟨b',off',ha',-,-,c0',-⟩:=prs_at H2.out hy
        rw [ha] at ha'
        simp at ha'
        obtain ⟨rfl,rfl⟩:=ha'
        rw [hbl.cell (p:=⟨b,off+j*2,none⟩) (q0c c0')];exact c0'
       have c0:wr.cell? ⟨b,off+k*2,none⟩=some (.string x.key):=hkeys k x hx
       have c1':wr.cell? ⟨b,off+k*2+1,none⟩=some (.string x.val):=by rw [hbl.cell (p:=⟨b,off+k*2+1,none⟩) (q0c c1')];exact c1'
       have hxs:=SP.out x (List.mem_of_getElem? hx)
       have HX:=hid hx
       have HERR:Hid (q0u ((prs.take k).map Pr.key) (x::prs.drop (k+1))=E2):=by show _=_;rw [<- q0s prs k x hx];exact herr
       have HKEY:=hid hkeys
       obtain ⟨key,val⟩:=x
       dsimp only at c0 c1' hxs
       have CN:=hid (fun w=>q23 key w (by omega))
       have CV:=hid (rLine3_any val wr (by omega))
       have HTK:Hid ((prs.take (k+1)).map Pr.key=(prs.take k).map Pr.key++[key]):=by show _=_;rw [List.take_add_one,HX.out];simp
       subst ha
       clear herr hx hcb hbl hkeys
       cases hn:q0a key with
       | false=>
        rw [hn] at CN
        have HV:Hid (V=6):=by
         show V=6
         have:=HERR.out
         rw [q0u,if_pos hn] at this
         rw [HE2.out,HE10.out,<- this];rfl
        clear hn
        go_wp2_with fail
        refine (CN.out _).mono ?_
        rintro e w3 ⟨rfl,rfl⟩
        go_wp2
        go_ret
        exact ⟨by rw [HV.out];rfl,HBL.out⟩
       | true=>
        rw [hn] at CN
        cases hln:q0d val with
        | false=>
         rw [hln] at CV
         have HV:Hid (V=17):=by
          show V=17
          have:=HERR.out
          rw [q0u,if_neg (by rw [hn];decide),if_pos hln] at this
          rw [HE2.out,HE10.out,<- this];rfl
         clear hn hln
         go_wp2_with fail
         refine (CN.out _).mono ?_
         rintro e w3 ⟨rfl,rfl⟩
         go_wp2_with fail
         refine CV.out.mono ?_
         rintro e w4 ⟨rfl,b4⟩
         have B4:=hid (q01 HBL.out b4)
         go_wp2
         go_ret
         exact ⟨by rw [HV.out];rfl,B4.out⟩
        | true=>
         rw [hln] at CV
         have HKX:Hid (∀ w4,Below wr.heap.size wr w4->∀ m,Calls Tryz.prog 175 #[.slice (some ⟨b,off,none⟩) k c2,.string key] (w4.drewN m) fun e w'=>e=.returned (.bool (q1d ((prs.take k).map Pr.key) key))/\w'=w4.drewN m):=fun w4 h4 m=>
          (rHasKey_any prs key b off k c2 (w4.drewN m) (by omega) (by omega) HM2.out (fun j p hp=>by
           have:=HKEY.out j p hp
           show w4.cell? _=_
           rw [h4.cell (p:=⟨b,off+j*2,none⟩) (q0c this)];exact this)).mono fun _ _ h=>⟨h.1,h.2.symm⟩
         cases hb:q1d ((prs.take k).map Pr.key) key with
         | true=>
          rw [hb] at HKX
          have HV:Hid (V=7):=by
           show V=7
           have:=HERR.out
           rw [q0u,if_neg (by rw [hn];decide),if_neg (by rw [hln];decide),if_pos hb] at this
           rw [HE2.out,HE10.out,<- this];rfl
          clear hn hln hb
          go_wp2_with fail
          refine (CN.out _).mono ?_
          rintro e w3 ⟨rfl,rfl⟩
          go_wp2_with fail
          refine CV.out.mono ?_
          rintro e w4 ⟨rfl,b4⟩
          have B4:=hid (q01 HBL.out b4)
          have HKM:=hid (HKX.out w4 b4)
          have p2:=(HCB.out.below b4).cell 2 _ rfl
          have c0:w4.cell? ⟨b,off+k*2,none⟩=some (.string key):=by rw [b4.cell (p:=⟨b,off+k*2,none⟩) (q0c c0)];exact c0
          clear b4 HKX c1'
          go_upto_region 17 with (fail)
          go_quiet ((go_at_call 175;with_reducible exact Calls.quiet_of_same (HKM.out _)))
          go_wp2
          go_ret
          exact ⟨by rw [HV.out];rfl,q03 B4.out _⟩
         | false=>
          rw [hb] at HKX
          have HN2:Hid (q0u ((prs.take (k+1)).map Pr.key) (prs.drop (k+1))=E2):=by
           show _=_
           have:=HERR.out
           rw [q0u,if_neg (by rw [hn];decide),if_neg (by rw [hln];decide),if_neg (by rw [hb];decide)] at this
           rw [HTK.out];exact this
          clear hn hln hb
          go_wp2_with fail
          refine (CN.out _).mono ?_
          rintro e w3 ⟨rfl,rfl⟩
          go_wp2_with fail
          refine CV.out.mono ?_
          rintro e w4 ⟨rfl,b4⟩
          have B4:=hid (q01 HBL.out b4)
          have HKM:=hid (HKX.out w4 b4)
          have HC4:=hid (HCB.out.below b4)
          have p2:=HC4.out.cell 2 _ rfl
          have c0:w4.cell? ⟨b,off+k*2,none⟩=some (.string key):=by rw [b4.cell (p:=⟨b,off+k*2,none⟩) (q0c c0)];exact c0
          clear b4 HKX c1'
          go_upto_region 17 with (fail)
          go_quiet ((go_at_call 175;with_reducible exact Calls.quiet_of_same (HKM.out _)))
          go_wp2
          go_roundw
          case rel=>exact ⟨k+1,by omega,by go_num,HC4.out.dN _,q03 B4.out _,HN2.out⟩
          case measure=>simp [intOf];omega
      ·obtain rfl:k=prs.length:=by omega
       have HV:Hid (V=if 32<cls.length\/32<prs.length then 3 else 0):=by
        show V=_
        rw [List.drop_length,q0u] at herr
        rw [HE2.out,HE10.out,<- herr];rfl
       have p1:=hcb.cell 1 _ rfl
       clear herr hcb hbl hk hlt
       by_cases h1:32<cls.length
       ·have q1:decide ((32:Int)<(cls.length:Int))=true:=by simp;omega
        go_wp2
        go_ret
        exact ⟨by rw [HV.out,if_pos (.inl h1)];rfl,HBL.out⟩
       ·have q1:decide ((32:Int)<(cls.length:Int))=false:=by simp;omega
        by_cases h2:32<prs.length
        ·have q2:decide ((32:Int)<(prs.length:Int))=true:=by simp;omega
         go_wp2
         go_ret
         exact ⟨by rw [HV.out,if_pos (.inr h2)];rfl,HBL.out⟩
        ·have q2:decide ((32:Int)<(prs.length:Int))=false:=by simp;omega
         go_wp2
         go_ret
         exact ⟨by rw [HV.out,if_neg (by omega)];rfl,HBL.out⟩
end Go.Proofs.YtlbioncagkkkoaaGreatDoor
