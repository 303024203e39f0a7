/- Contracts of publisherref01.clean, Digit, Valid. Contracts of publisherref04.line, trimmed, has, in, noAttr and of publisherref03.line. Contracts of publisherref03.letter, part, word, Name. Contracts of publisherref03.hasText, hasKey, Check. -/
import Derived.Test.YtclikfjalmcoaaaGreatDoorKSizeD
set_option maxHeartbeats 4000000
set_option maxRecDepth 100000
open Go.Lib (hid)
namespace Go.Proofs.YtclikfjalmcoaaaGreatDoor
open List renaming getElem?_eq_getElem->jh0,mem_of_getElem?->jhx,take_add_one->ji5
open Bool renaming eq_iff_iff->jh5
open Nat renaming zero_le->jhq
open Go renaming World->jk3
open Go.RowKit
set_option linter.unusedVariables false
set_option linter.unusedSimpArgs false
def O9 (c:Nat):Bool:=decide (c=10)||(decide (32<=c)&&!decide (c=127))
theorem IY (c:Nat) (w:jk3) (hc:c<=1114111) : Calls Tryz.prog 128 #[.int .i64 (c:Int)] w fun e w'=>e=.returned (.bool (O9 c))/\w=w':=by
 go_enter Tryz.func128,Tryz.ntmps128;go_wp2;all_goals
  go_ret;refine ⟨uQ ?_,rfl⟩;unfold O9
  (try simp only [beq_iff_eq,beq_eq_false_iff_ne,ne_eq,bne_iff_ne,bne_eq_false_iff_eq] at *)
  rw [jh5];simp;omega
theorem IZ (c:Nat) (w:jk3) (hc:c<=1114111) : Calls Tryz.prog 236 #[.int .i64 (c:Int)] w fun e w'=>e=.returned (.bool (BQ c))/\w=w':=by
 go_enter Tryz.func236,Tryz.ntmps236;go_wp2;all_goals
  go_ret;refine ⟨uQ ?_,rfl⟩;unfold BQ
  (try unfold lT)
  rw [jh5];simp;omega
theorem Uj (a b:Nat):decide (a=b)=((a:Int)==(b:Int)):=by rw [jh5];simp;omega
theorem Sg (a b:Nat):sH (a,b)=(O9 a&&!(((a:Int)==65533)&&((b:Int)==1))):=by unfold sH O9;rw [Uj a 65533,Uj b 1];rfl
theorem LP {w1:jk3} {B:Nat} {v1:Value} {ps:List (Nat × Nat)} (ho1:w1.ownsRow B 150 2 v1 ps.length (jO ps).flatten) : ∃ a cap,v1=.slice a ps.length cap/\ps.length<=cap/\cap<=maxLen/\(0<ps.length->∃ b,a=some ⟨b,0,none⟩/\b<w1.heap.size/\∀ k p,ps[k]?=some p->w1.cell? ⟨b,k*2,none⟩=some (.int .i64 (p.1:Int))/\w1.cell? ⟨b,k*2+1,none⟩=some (.int .i64 (p.2:Int))):=by
 rcases ho1.2 with ⟨rfl,h0⟩ | ⟨g,cap,cur,rfl,hg,hh,hn,hm,_⟩
 ·exact ⟨none,0,by rw [h0],by omega,jhq _,fun h=>by omega⟩
 ·refine ⟨_,cap,rfl,hn,hm,fun _=>⟨g,rfl,(ho1.lt g rfl).2,fun k p hk=>?_⟩⟩;have hr:(jO ps)[k]?=some (yF p):=by simp [jO,hk]
  have h0:=ho1.cells rfl _ _ (OT 2 _ (rT ps) k 0 _ (.int .i64 (p.1:Int)) hr rfl);have h1:=ho1.cells rfl _ _ (OT 2 _ (rT ps) k 1 _ (.int .i64 (p.2:Int)) hr rfl);have e:∀ j,((⟨g,0,none⟩:Addr).add j)=⟨g,j,none⟩:=fun j=>by unfold Addr.add;split<;>simp_all
  rw [e] at h0 h1;exact ⟨h0,h1⟩
theorem Pb {α:Type} (f:α->Bool) {l:List α} {k:Nat} {x:α} (h:l[k]?=some x):(l.take (k+1)).all f=((l.take k).all f&&f x):=by rw [ji5,h];simp
theorem WH {α:Type} (f:α->Bool) {l:List α} {k:Nat} {x:α} (h:l[k]?=some x) (hf:f x=false):l.all f=false:=by rw [List.all_eq_false];exact ⟨x,jhx h,by rw [hf];decide⟩
def ZL (w1 wr:jk3) (ps:List (Nat × Nat)) (vi:Value):Prop:=∃ k:Nat,k<=ps.length/\vi=.int .i64 k/\(ps.take k).all sH=true/\Below w1.heap.size w1 wr
theorem yJ (s:ByteArray) (w:jk3) (hs:s.size<=1000000000) : Calls Tryz.prog 79 #[.string s] w (bR (.bool (fH s)) w):=by
 have PO:=hid (uL s w (by omega));obtain ⟨V,hV⟩:∃ V,V=fH s:=⟨_,rfl⟩;rw [<- hV];have HV:Hid (V=(pts s).all sH):=hV;have hpl:(pts s).length<=s.size:=by have:=FI s s.size 0;unfold pts;simpa using this
 have Qv:=hid (vC s s.size 0);change Hid (∀ p∈pts s,p.1<=1114111) at Qv;clear hV;generalize pts s=ps at *;go_enter Tryz.func79,Tryz.ntmps79;go_wp2_with fail
 refine PO.out.mono ?_;rintro e w1 ⟨v1,rfl,ho1,b1⟩;obtain ⟨a,cap,rfl,hcap,hmx,hcs⟩:=LP ho1;have F8:=hid hcs;have B1:=hid b1;have HZ:Hid ((ps.take 0).all sH=true):=rfl;clear hcs ho1 PO b1;unfold maxLen at hmx;go_wp2
 go_loopw [8] (fun vi wr=>ZL w1 wr ps vi) (fun i _=>ps.length-(intOf i).toNat)
 case atStart=>exact ⟨0,jhq _,rfl,HZ.out,Below.refl _ _⟩
 case round=>
  obtain ⟨k,hk,rfl,hall,hbel⟩:=hrel;have HA:=hid hall;have HB:=hid hbel;clear hall;by_cases hlt:k<ps.length
  ·obtain ⟨p,hp⟩:∃ p,ps[k]?=some p:=⟨_,jh0 hlt⟩;obtain ⟨b,rfl,hbl,hc⟩:=F8.out (by omega);obtain ⟨k1,k2⟩:=hc k p hp;have c1:wr.cell? ⟨b,k*2,none⟩=some (.int .i64 (p.1:Int)):=by rw [hbel.cell (p:=⟨b,k*2,none⟩) hbl];exact k1
   have c2:wr.cell? ⟨b,k*2+1,none⟩=some (.int .i64 (p.2:Int)):=by rw [hbel.cell (p:=⟨b,k*2+1,none⟩) hbl];exact k2
   have hd:=Qv.out p (jhx hp);have iE:=hid (Pb sH hp);have yZ:=hid (fun hf=>HV.out.trans (WH sH hp hf));obtain ⟨d1,d2⟩:=p;simp only at hd c1 c2;have CC:=hid (fun w=>IY d1 w hd);have F7:=hid (Sg d1 d2);clear hp hc k1 k2 hbel;cases hcl:O9 d1 with
   | false=>
    rw [hcl] at CC F7;have HE:Hid (V=false):=yZ.out F7.out;clear hcl;go_wp2_with fail
    refine (CC.out _).mono ?_;rintro e w2 ⟨rfl,rfl⟩;go_wp2;go_ret;exact ⟨by rw [HE.out];rfl,aM B1.out (HB.out.alloc HB.out.size _)⟩
   | true=>
    rw [hcl] at CC F7;cases hq1:((d1:Int)==65533) with
    | false=>
     rw [hq1] at F7;clear hcl;go_wp2_with fail
     refine (CC.out _).mono ?_;rintro e w2 ⟨rfl,rfl⟩;go_wp2;go_roundw;case rel=>exact ⟨k+1,by omega,by go_num,by rw [iE.out,HA.out,F7.out];rfl,HB.out.alloc HB.out.size _⟩
     case measure=>simp [intOf];omega
    | true=>
     cases hq2:((d2:Int)==1) with
     | false=>
      rw [hq1,hq2] at F7;clear hcl;go_wp2_with fail
      refine (CC.out _).mono ?_;rintro e w2 ⟨rfl,rfl⟩;go_wp2;go_roundw;case rel=>exact ⟨k+1,by omega,by go_num,by rw [iE.out,HA.out,F7.out];rfl,HB.out.alloc HB.out.size _⟩
      case measure=>simp [intOf];omega
     | true=>
      rw [hq1,hq2] at F7;have HE:Hid (V=false):=yZ.out F7.out;clear hcl;go_wp2_with fail
      refine (CC.out _).mono ?_;rintro e w2 ⟨rfl,rfl⟩;go_wp2;go_ret;exact ⟨by rw [HE.out];rfl,aM B1.out (HB.out.alloc HB.out.size _)⟩
  ·have HE:Hid (V=true):=by
    show V=true;have:=HA.out;rw [List.take_of_length_le (by omega)] at this;rw [HV.out,this]
   go_wp2;go_ret;exact ⟨by rw [HE.out];rfl,aM B1.out HB.out⟩
open Go.RowKit
theorem FN (s:ByteArray):zn s=true↔∀ j,j<s.size->bt s j≠10:=by
 unfold zn;rw [List.all_eq_true];constructor
 ·intro h j hj hc;have h1:=h s[j] (jhx (BI s j hj));rw [<- jh s j hj] at hc;have:s[j]=10:=by rw [<- UInt8.toNat_inj];exact hc
  rw [this] at h1;simp at h1
 ·intro h c hc;obtain ⟨j,hj,rfl⟩:=List.getElem_of_mem hc;have hj':j<s.size:=by simpa using hj
  have h1:=h j hj';rw [<- jh s j hj'] at h1;have h2:s.data.toList[j]=s[j]:=by have:=BI s j hj';rw [jh0 hj] at this;exact Option.some.inj this
  rw [h2];simp;intro h3;rw [h3] at h1;exact h1 rfl
def Kj (s:ByteArray) (vi:Value):Prop:=∃ k:Nat,k<=s.size/\vi=.int .i64 k/\∀ j,j<k->bt s j≠10
theorem iA (s:ByteArray) (w:jk3) (hs:s.size<=1000000000) : Calls Tryz.prog 131 #[.string s] w (bR (.bool (eB s)) w):=by
 have VA:=hid (yJ s w hs);have HL:Hid (eB s=(fH s&&zn s)):=rfl;have HN:=hid (FN s);obtain ⟨V,hV⟩:∃ V,V=eB s:=⟨_,rfl⟩;rw [<- hV] at HL ⊢;clear hV;cases hv:fH s with
 | false=>
  rw [hv] at VA HL;clear hv;go_enter Tryz.func131,Tryz.ntmps131;go_wp2_with fail
  refine VA.out.mono ?_;rintro e w1 ⟨rfl,b1⟩;have HB:=hid b1;go_wp2;go_ret;exact ⟨by rw [HL.out];rfl,HB.out⟩
 | true=>
  rw [hv] at VA HL;clear hv;go_enter Tryz.func131,Tryz.ntmps131;go_wp2_with fail
  refine VA.out.mono ?_;rintro e w1 ⟨rfl,b1⟩;have HB:=hid b1;have R0:Hid (Kj s (.int .i64 0)):=⟨0,jhq _,rfl,fun j hj=>by omega⟩;clear VA b1;go_wp2
  go_loop [3] (fun i=>Kj s i) (fun i=>s.size-(intOf i).toNat)
  case atStart=>exact R0.out
  case round=>
   clear R0;obtain ⟨k,hk,rfl,hall⟩:=hrel;have HA:=hid hall;clear hall;by_cases hlt:k<s.size
   ·have eb:=jh s k hlt;by_cases hc:bt s k=10
    ·have HE:Hid (V=false):=by
      show V=false;rw [HL.out];have h1:zn s=false:=by
       cases h2:zn s
       ·rfl
       ·exact absurd hc (HN.out.1 h2 k hlt)
      rw [h1];rfl
     have hq:(((bt s k:Nat):Int)==10)=true:=by rw [hc];rfl
     rw [<- eb] at hq;clear hc eb;go_wp2;go_ret;exact ⟨by rw [HE.out];rfl,HB.out⟩
    ·have HC:=hid hc;have hq:(((bt s k:Nat):Int)==10)=false:=by rw [beq_eq_false_iff_ne];omega
     rw [<- eb] at hq;clear hc eb;go_wp2
     go_round
     case rel=>
      refine ⟨k+1,by omega,by go_num,fun j hj=>?_⟩;rcases Nat.lt_or_ge j k with h | h
      ·exact HA.out j h
      ·have:j=k:=by omega
       subst this;exact HC.out
     case measure=>simp [intOf];omega
   ·have HE:Hid (V=true):=by
     show V=true;rw [HL.out,HN.out.2 (fun j hj=>HA.out j (by omega))];rfl
    go_wp2;go_ret;exact ⟨by rw [HE.out];rfl,HB.out⟩
theorem I5 (s:ByteArray) (w:jk3) (hs:s.size<=1000000000) : Calls Tryz.prog 222 #[.string s] w (bR (.bool (eB s)) w):=by
 have VA:=hid (yJ s w hs);have HL:Hid (eB s=(fH s&&zn s)):=rfl;have HN:=hid (FN s);obtain ⟨V,hV⟩:∃ V,V=eB s:=⟨_,rfl⟩;rw [<- hV] at HL ⊢;clear hV;cases hv:fH s with
 | false=>
  rw [hv] at VA HL;clear hv;go_enter Tryz.func222,Tryz.ntmps222;go_wp2_with fail
  refine VA.out.mono ?_;rintro e w1 ⟨rfl,b1⟩;have HB:=hid b1;go_wp2;go_ret;exact ⟨by rw [HL.out];rfl,HB.out⟩
 | true=>
  rw [hv] at VA HL;clear hv;go_enter Tryz.func222,Tryz.ntmps222;go_wp2_with fail
  refine VA.out.mono ?_;rintro e w1 ⟨rfl,b1⟩;have HB:=hid b1;have R0:Hid (Kj s (.int .i64 0)):=⟨0,jhq _,rfl,fun j hj=>by omega⟩;clear VA b1;go_wp2
  go_loop [3] (fun i=>Kj s i) (fun i=>s.size-(intOf i).toNat)
  case atStart=>exact R0.out
  case round=>
   clear R0;obtain ⟨k,hk,rfl,hall⟩:=hrel;have HA:=hid hall;clear hall;by_cases hlt:k<s.size
   ·have eb:=jh s k hlt;by_cases hc:bt s k=10
    ·have HE:Hid (V=false):=by
      show V=false;rw [HL.out];have h1:zn s=false:=by
       cases h2:zn s
       ·rfl
       ·exact absurd hc (HN.out.1 h2 k hlt)
      rw [h1];rfl
     have hq:(((bt s k:Nat):Int)==10)=true:=by rw [hc];rfl
     rw [<- eb] at hq;clear hc eb;go_wp2;go_ret;exact ⟨by rw [HE.out];rfl,HB.out⟩
    ·have HC:=hid hc;have hq:(((bt s k:Nat):Int)==10)=false:=by rw [beq_eq_false_iff_ne];omega
     rw [<- eb] at hq;clear hc eb;go_wp2
     go_round
     case rel=>
      refine ⟨k+1,by omega,by go_num,fun j hj=>?_⟩;rcases Nat.lt_or_ge j k with h | h
      ·exact HA.out j h
      ·have:j=k:=by omega
       subst this;exact HC.out
     case measure=>simp [intOf];omega
   ·have HE:Hid (V=true):=by
     show V=true;rw [HL.out,HN.out.2 (fun j hj=>HA.out j (by omega))];rfl
    go_wp2;go_ret;exact ⟨by rw [HE.out];rfl,HB.out⟩
theorem Bo (s:ByteArray) (w:jk3) (hs:s.size<=1000000000) : Calls Tryz.prog 132 #[.string s] w fun e w'=>e=.returned (.bool (trimS s))/\w=w':=by
 rcases iL s with rfl | ⟨hne,hp,hie,hes⟩
 ·go_enter Tryz.func132,Tryz.ntmps132;go_wp2;go_ret;exact ⟨rfl,rfl⟩
 ·have hv:trimS s=(!decide (bt s 0=32)&&!decide (bt s (s.size-1)=32)):=by
   unfold trimS;unfold aT at hes;rw [hes,Js s 32 hp,BJ s 32 hp];rfl
  rw [hv];have e0:=jh s 0 hp;have e1:=jh s (s.size-1) (by omega);generalize bt s 0=b0 at *;generalize bt s (s.size-1)=b1 at *;have hsub:((s.size:Int)-1).toNat=s.size-1:=by omega
  clear hv hes;go_enter Tryz.func132,Tryz.ntmps132;go_wp2;all_goals
   go_ret;refine ⟨uQ ?_,rfl⟩
   (try simp only [beq_iff_eq,beq_eq_false_iff_ne,ne_eq,bne_iff_ne,bne_eq_false_iff_eq] at *)
   rw [jh5];simp
   (try omega)
def Uk (s b:ByteArray) (w:jk3) (vi:Value) (wr:jk3):Prop:=∃ k q:Nat,k<=s.size/\vi=.int .i64 k/\(∀ j i,j<k->i<b.size->bt s j≠bt b i)/\wr=w.drewN q
def Pf (s b:ByteArray) (w:jk3) (k:Nat) (vi:Value) (wr:jk3):Prop:=∃ i q:Nat,i<=b.size/\vi=.int .i64 i/\(∀ j,j<i->bt s k≠bt b j)/\wr=w.drewN q
theorem I6 (s b:ByteArray):oG s b.data.toList=true↔∃ j i,j<s.size/\i<b.size/\bt s j=bt b i:=by
 unfold oG;rw [List.any_eq_true];constructor
 ·rintro ⟨c,hc,hb⟩;rw [List.contains_iff_mem] at hb;obtain ⟨j,hj,rfl⟩:=List.getElem_of_mem hc;obtain ⟨i,hi,he⟩:=List.getElem_of_mem hb;have hj':j<s.size:=by simpa using hj
  have hi':i<b.size:=by simpa using hi
  refine ⟨j,i,hj',hi',?_⟩;rw [<- jh s j hj',<- jh b i hi'];exact congrArg UInt8.toNat he.symm
 ·rintro ⟨j,i,hj,hi,he⟩;refine ⟨s[j],jhx (BI s j hj),?_⟩;rw [List.contains_iff_mem];rw [<- jh s j hj,<- jh b i hi,UInt8.toNat_inj] at he;rw [he];exact jhx (BI b i hi)
theorem rW (w:jk3) (q:Nat):Below w.heap.size w (w.drewN q):=eD (Below.refl _ _) q
theorem lI (s b:ByteArray) (w:jk3) (hs:s.size<=1000000000) (hb:b.size<=1000000000) : Calls Tryz.prog 224 #[.string s,.string b] w (bR (.bool (oG s b.data.toList)) w):=by
 have HI:=hid (I6 s b);obtain ⟨V,hV⟩:∃ V,V=oG s b.data.toList:=⟨_,rfl⟩;rw [<- hV] at HI ⊢;clear hV;have R0:Hid (Uk s b w (.int .i64 0) w):=⟨0,0,jhq _,rfl,fun j i hj=>by omega,rfl⟩;go_enter Tryz.func224,Tryz.ntmps224;go_wp2
 go_loopw [5] (fun vi wr=>Uk s b w vi wr) (fun i _=>s.size-(intOf i).toNat)
 case atStart=>exact R0.out
 case round=>
  clear R0;obtain ⟨k,q,hk,rfl,hall,rfl⟩:=hrel;have Qs:=hid hall;clear hall;by_cases hlt:k<s.size
  ·have R1:Hid (Pf s b w k (.int .i64 0) (w.drewN q)):=⟨0,q,jhq _,rfl,fun j hj=>by omega,rfl⟩;go_wp2
   go_loopw [6] (fun vi wr=>Pf s b w k vi wr) (fun i _=>b.size-(intOf i).toNat)
   case atStart=>exact R1.out
   case round=>
    clear R1;obtain ⟨i,q2,hi,rfl,FP,rfl⟩:=hrel;have ZM:=hid FP;clear FP;by_cases hlt2:i<b.size
    ·have eb:=jh s k hlt;have ec:=jh b i hlt2;by_cases hc:bt s k=bt b i
     ·have HE:Hid (V=true):=HI.out.2 ⟨k,i,hlt,hlt2,hc⟩;have hq:(((bt s k:Nat):Int)==((bt b i:Nat):Int))=true:=by rw [hc];simp
      rw [<- eb,<- ec] at hq;clear hc eb ec;go_upto_region 7 with (fail)
      go_region
      go_wp2;go_ret;exact ⟨by rw [HE.out];rfl,rW w (q2+1)⟩
     ·have HC:=hid hc;have hq:(((bt s k:Nat):Int)==((bt b i:Nat):Int))=false:=by rw [beq_eq_false_iff_ne];omega
      rw [<- eb,<- ec] at hq;clear hc eb ec;go_upto_region 7 with (fail)
      go_region
      go_wp2;go_roundw;case rel=>
       refine ⟨i+1,q2+1,by omega,by go_num,fun j hj=>?_,rfl⟩;rcases Nat.lt_or_ge j i with h | h
       ·exact ZM.out j h
       ·have:j=i:=by omega
        subst this;exact HC.out
      case measure=>simp [intOf];omega
    ·go_wp2;go_roundw;case rel=>
      refine ⟨k+1,q2,by omega,by go_num,fun j i' hj hi'=>?_,rfl⟩;rcases Nat.lt_or_ge j k with h | h
      ·exact Qs.out j i' h hi'
      ·have:j=k:=by omega
       subst this;exact ZM.out i' (by omega)
     case measure=>simp [intOf];omega
  ·have HE:Hid (V=false):=by
    show V=false;cases hV:V with
    | false=>rfl
    | true=>
     obtain ⟨j,i,hj,hi,he⟩:=HI.out.1 hV;exact absurd he (Qs.out j i (by omega) hi)
   go_wp2;go_ret;exact ⟨by rw [HE.out];rfl,rW w q⟩
theorem Si (n:Int) (ks:List Int) (g cap:Nat) (w:jk3) (hl:ks.length<=1000) (hc:∀ j k,ks[j]?=some k->w.cell? ⟨g,j,none⟩=some (.int .i64 k)) : Calls Tryz.prog 202 #[.int .i64 n,.slice (some ⟨g,0,none⟩) ks.length cap] w fun e w'=>e=.returned (.bool (ks.contains n))/\w=w':=by
 have HC:=hid hc;have R0:Hid (Kk n ks (.int .i64 0)):=⟨0,jhq _,rfl,by simp⟩;obtain ⟨V,hV⟩:∃ V,V=ks.contains n:=⟨_,rfl⟩;rw [<- hV];have HV:=hid hV;clear hc hV;go_enter Tryz.func202,Tryz.ntmps202;go_wp2
 go_loop [5] (fun i=>Kk n ks i) (fun i=>ks.length-(intOf i).toNat)
 case atStart=>exact R0.out
 case round=>
  clear R0;obtain ⟨k,hk,rfl,hno⟩:=hrel;have HN:=hid hno;clear hno;by_cases hlt:k<ks.length
  ·obtain ⟨x,hx⟩:∃ x,ks[k]?=some x:=⟨_,jh0 hlt⟩;have hcell:=HC.out k x hx;have HT:Hid ((ks.take (k+1)).contains n=((ks.take k).contains n||(x==n))):=by
    show _=_;have e:(x==n)=(n==x):=by rw [jh5,beq_iff_eq,beq_iff_eq];exact eq_comm
    rw [e,ji5,hx,jh5];simp
   have HX:=hid hx;clear hx;cases hnx:(x==n)
   ·rw [hnx] at HT;go_wp2
    go_round
    case rel=>exact ⟨k+1,by omega,by go_num,by rw [HT.out,HN.out];rfl⟩
    case measure=>simp [intOf];omega
   ·have HE:Hid (V=true):=by
     show V=true;rw [HV.out,List.contains_iff_mem];have:x=n:=by simpa using hnx
     rw [<- this];exact jhx HX.out
    go_wp2;go_ret;exact ⟨by rw [HE.out];rfl,rfl⟩
  ·have HE:Hid (V=false):=by
    show V=false;rw [HV.out];have:=HN.out
    rwa [List.take_of_length_le (by omega)] at this
   go_wp2;go_ret;exact ⟨by rw [HE.out];rfl,rfl⟩
theorem uN (a:At) (ac ap:Option Addr) (cc cp:Nat) (w:jk3) (hc:a.cls.length<=maxLen) (hp:a.aF.length<=maxLen) : Calls Tryz.prog 189 #[.agg #[.string a.id,.slice ac a.cls.length cc,.slice ap a.aF.length cp]] w (bR (.bool a.none) w):=by
 obtain ⟨id,cls,aF⟩:=a;unfold maxLen at hc hp;dsimp only at hc hp ⊢;have HV:Hid (At.none ⟨id,cls,aF⟩=(aT id&&cls.isEmpty&&aF.isEmpty)):=rfl;have e1:=nE cls;have e2:=nE aF;have e3:=sD id;obtain ⟨V,hV⟩:∃ V,V=At.none ⟨id,cls,aF⟩:=⟨_,rfl⟩;rw [<- hV] at HV ⊢;clear hV;generalize aT id=b3 at *;generalize cls.isEmpty=b1 at *;generalize aF.isEmpty=b2 at *;cases b3<;>cases b1<;>cases b2
 all_goals
  go_enter Tryz.func189,Tryz.ntmps189;go_wp2;go_ret;exact ⟨by rw [HV.out];rfl,(Below.refl _ _).alloc (Nat.le_refl _) _⟩
open Go.RowKit
theorem rX (c:Nat) (w:jk3) (hc:c<256) : Calls Tryz.prog 133 #[.int .u8 (c:Int)] w fun e w'=>e=.returned (.bool (dM c))/\w=w':=by
 go_enter Tryz.func133,Tryz.ntmps133;go_wp2;all_goals
  go_ret;refine ⟨uQ ?_,rfl⟩;unfold dM lT;rw [jh5];simp;omega
theorem LQ (c:Nat) (w:jk3) (hc:c<256) : Calls Tryz.prog 172 #[.int .u8 (c:Int)] w fun e w'=>e=.returned (.bool (Gl c))/\w=w':=by
 have LT:=hid (fun w=>rX c w hc);have HL:Hid (dM c=true↔(97<=c/\c<=122)\/(65<=c/\c<=90)):=by show _↔_;unfold dM lT;simp
 cases hl:dM c with
 | true=>
  rw [hl] at LT;have hv:Gl c=true:=by unfold Gl;rw [hl];simp
  rw [hv];clear hl hv;go_enter Tryz.func172,Tryz.ntmps172;go_wp2_with fail
  refine (LT.out _).mono ?_;rintro e w1 ⟨rfl,rfl⟩;go_wp2;go_ret;exact ⟨rfl,rfl⟩
 | false=>
  rw [hl] at LT;have HV:Hid (Gl c=((decide (c=45)||decide (c=95)||decide (c=46)||decide (c=58))||lT c 48 57)):=by show _=_;unfold Gl;rw [hl];simp
  generalize Gl c=V at *;clear hl;go_enter Tryz.func172,Tryz.ntmps172;go_wp2_with fail
  refine (LT.out _).mono ?_;rintro e w1 ⟨rfl,rfl⟩;go_wp2;all_goals
   go_ret;refine ⟨uQ ?_,rfl⟩;rw [HV.out]
   (try simp only [beq_iff_eq,beq_eq_false_iff_ne,ne_eq] at *)
   rw [jh5];unfold lT;simp
   (try omega)
theorem LU (s:ByteArray) (w:jk3) (hs:s.size<=1000000000) : Calls Tryz.prog 134 #[.string s,.int .i64 0] w fun e w'=>e=.returned (.int .i64 (rV s:Nat))/\w=w':=by
 obtain ⟨V,hV⟩:∃ V,V=rV s:=⟨_,rfl⟩;rw [<- hV];have HV:=hid hV;clear hV;go_enter Tryz.func134,Tryz.ntmps134;go_wp2
 go_loop [1] (fun vi=>∃ k:Nat,k<=s.size/\vi=.int .i64 k/\∀ j x,j<k->s.data.toList[j]?=some x->gU x=true) (fun i=>s.size-(intOf i).toNat)
 case atStart=>exact ⟨0,jhq _,rfl,fun j x hj=>by omega⟩
 case round=>
  obtain ⟨k,hk,rfl,hall⟩:=hrel;have HA:=hid hall;clear hall;by_cases hlt:k<s.size
  ·have hgl:=UInt8.toNat_lt s[k];have IN:=hid (fun w=>LQ s[k].toNat w hgl);have HG:=hid (BI s k hlt);cases hn:Gl s[k].toNat with
   | true=>
    rw [hn] at IN;have HN:=hid hn;clear hn;go_wp2_with fail
    refine (IN.out _).mono ?_;rintro e w1 ⟨rfl,rfl⟩;go_wp2
    go_round
    case rel=>
     refine ⟨k+1,by omega,by go_num,fun j x hj hx=>?_⟩;rcases Nat.lt_or_ge j k with h | h
     ·exact HA.out j x h hx
     ·have:j=k:=by omega
      subst this;rw [HG.out] at hx;obtain rfl:=Option.some.inj hx;exact HN.out
    case measure=>simp [intOf];omega
   | false=>
    rw [hn] at IN;have hw:V=k:=by rw [HV.out];exact lS gU _ k (by simpa using hk) HA.out (fun x hx=>by rw [HG.out] at hx;obtain rfl:=Option.some.inj hx;exact hn)
    have HW:=hid hw;clear hn hw;go_wp2_with fail
    refine (IN.out _).mono ?_;rintro e w1 ⟨rfl,rfl⟩;go_wp2;go_ret;exact ⟨by rw [HW.out];rfl,rfl⟩
  ·have hw:V=k:=by
    rw [HV.out];refine lS gU _ k (by simpa using hk) HA.out (fun x hx=>?_);have:=(List.getElem?_eq_some_iff.1 hx).1;have e:s.data.toList.length=s.size:=by simp
    omega
   have HW:=hid hw;clear hw;go_wp2;go_ret;exact ⟨by rw [HW.out];rfl,rfl⟩
theorem lJ (s:ByteArray) (w:jk3) (hs:s.size<=1000000000) : Calls Tryz.prog 85 #[.string s] w fun e w'=>e=.returned (.bool (fP s))/\w=w':=by
 by_cases h0:s.size=0
 ·have hv:fP s=false:=by unfold fP;simp [h0]
  rw [hv];have e0:decide ((1:Int)<=(s.size:Int))=false:=by simp;omega
  clear hv h0;go_enter Tryz.func85,Tryz.ntmps85;go_wp2;go_ret;exact ⟨rfl,rfl⟩
 have e0:decide ((1:Int)<=(s.size:Int))=true:=by simp;omega
 by_cases h60:60<s.size
 ·have hv:fP s=false:=by unfold fP;simp;omega
  rw [hv];have e1:decide ((s.size:Int)<=(60:Int))=false:=by simp;omega
  clear hv;go_enter Tryz.func85,Tryz.ntmps85;go_wp2;go_ret;exact ⟨rfl,rfl⟩
 have e1:decide ((s.size:Int)<=(60:Int))=true:=by simp;omega
 have hp:0<s.size:=by omega
 have hg:=BI s 0 hp;obtain ⟨c,hc⟩:∃ c,s[0]=c:=⟨_,rfl⟩;rw [hc] at hg;have hcl:=UInt8.toNat_lt c;have LT:=hid (fun w=>rX c.toNat w hcl);have WE:=hid (fun w=>LU s w hs);have hl:s.data.toList=c::s.data.toList.tail:=by
  cases h:s.data.toList with
  | nil=>rw [h] at hg;simp at hg
  | cons a l=>rw [h] at hg;simp at hg;rw [hg];rfl
 have hv:fP s=(dM c.toNat&&decide (rV s=s.size)):=by unfold fP;rw [hl,decide_eq_true (show 1<=s.size by omega),decide_eq_true (show s.size<=60 by omega)];rfl
 have HV:=hid hv;generalize fP s=V at *;generalize rV s=E at *;clear hv hl hg;cases hlt:dM c.toNat with
 | false=>
  rw [hlt] at LT;rw [hlt] at HV;go_enter Tryz.func85,Tryz.ntmps85;go_wp2_with fail
  refine (LT.out _).mono ?_;rintro e w1 ⟨rfl,rfl⟩;go_wp2;go_ret;exact ⟨by rw [HV.out];rfl,rfl⟩
 | true=>
  rw [hlt] at LT;rw [hlt] at HV;go_enter Tryz.func85,Tryz.ntmps85;go_wp2_with fail
  refine (LT.out _).mono ?_;rintro e w1 ⟨rfl,rfl⟩;go_wp2_with fail
  refine (WE.out _).mono ?_;rintro e w1 ⟨rfl,rfl⟩;go_wp2;go_ret;refine ⟨?_,rfl⟩;rw [HV.out];refine uQ ?_;rw [jh5];simp
  (try omega)
open Go.RowKit
theorem Dn (l:List ByteArray) (x:ByteArray) (v:Value) (w:jk3) (hs:EF w 1 v l.length (l.map Value.string)) : Calls Tryz.prog 221 #[v,.string x] w fun e w'=>e=.returned (.bool (fF l x))/\w=w':=by
 obtain ⟨-,a,cap,rfl,hcap,hmx,hcs⟩:=hs;have F8:=hid hcs;have HZ:Hid (fF (l.take 0) x=false):=rfl;clear hcs;unfold maxLen at hmx;go_enter Tryz.func221,Tryz.ntmps221;go_wp2
 go_loop [5] (fun vi=>∃ k:Nat,k<=l.length/\vi=.int .i64 k/\fF (l.take k) x=false) (fun i=>l.length-(intOf i).toNat)
 case atStart=>exact ⟨0,jhq _,rfl,HZ.out⟩
 case round=>
  obtain ⟨k,hk,rfl,hany⟩:=hrel;have HA:=hid hany;clear hany;by_cases hlt:k<l.length
  ·obtain ⟨y,hy⟩:∃ y,l[k]?=some y:=⟨_,jh0 hlt⟩;rcases F8.out with h0 | ⟨b,off,rfl,hc⟩
   ·omega
   have c0:w.cell? ⟨b,off+k,none⟩=some (.string y):=hc k _ (by simp [hy]);have hsn:=Ae l k y x hy;rw [HA.out] at hsn;have iE:=hid hsn;have HT:=hid (Af l (k+1) x);clear hy hc hsn;by_cases hyx:y=x
   ·subst hyx;go_wp2;go_ret;exact ⟨by rw [HT.out (by rw [iE.out];simp)];rfl,rfl⟩
   ·have e1:=Ca hyx;go_wp2
    go_round
    case rel=>exact ⟨k+1,by omega,by go_num,by rw [iE.out];simp [hyx]⟩
    case measure=>simp [intOf];omega
  ·have hkl:k=l.length:=by omega
   have hA:=HA.out;rw [hkl,List.take_length] at hA;have HA2:=hid hA;clear hA HA hkl;go_wp2;go_ret;exact ⟨by rw [HA2.out];rfl,rfl⟩
theorem FQ (l:List Pr) (x:ByteArray) (b off n cap:Nat) (w:jk3) (hn:n<=l.length) (hcap:n<=cap) (hmx:cap<=maxLen) (hc:∀ k p,l[k]?=some p->w.cell? ⟨b,off+k*2,none⟩=some (.string p.key)) : Calls Tryz.prog 223 #[.slice (some ⟨b,off,none⟩) n cap,.string x] w fun e w'=>e=.returned (.bool (fF ((l.take n).map Pr.key) x))/\w=w':=by
 have F8:=hid hc;obtain ⟨K,hK⟩:∃ K,K=(l.take n).map Pr.key:=⟨_,rfl⟩;rw [<- hK];have hkn:K.length=n:=by rw [hK];simp;omega
 have HKI:Hid (∀ k,k<n->∃ p,l[k]?=some p/\K[k]?=some p.key):=by intro k hk;obtain ⟨p,hp⟩:∃ p,l[k]?=some p:=⟨_,jh0 (by omega)⟩;refine ⟨p,hp,?_⟩;rw [hK,List.getElem?_map,List.getElem?_take,if_pos hk,hp];rfl
 have HZ:Hid (fF (K.take 0) x=false):=rfl;clear hc hK;unfold maxLen at hmx;go_enter Tryz.func223,Tryz.ntmps223;go_wp2
 go_loop [5] (fun vi=>∃ k:Nat,k<=n/\vi=.int .i64 k/\fF (K.take k) x=false) (fun i=>n-(intOf i).toNat)
 case atStart=>exact ⟨0,jhq _,rfl,HZ.out⟩
 case round=>
  obtain ⟨k,hk,rfl,hany⟩:=hrel;have HA:=hid hany;clear hany;by_cases hlt:k<n
  ·obtain ⟨p,hp,hy⟩:=HKI.out k hlt;have c0:=F8.out k p hp;obtain ⟨y,val⟩:=p;dsimp only at c0 hy;have hsn:=Ae K k y x hy;rw [HA.out] at hsn;have iE:=hid hsn;have HT:=hid (Af K (k+1) x);clear hy hp hsn;by_cases hyx:y=x
   ·subst hyx;go_wp2;go_ret;exact ⟨by rw [HT.out (by rw [iE.out];simp)];rfl,rfl⟩
   ·have e1:=Ca hyx;go_wp2
    go_round
    case rel=>exact ⟨k+1,by omega,by go_num,by rw [iE.out];simp [hyx]⟩
    case measure=>simp [intOf];omega
  ·have hkl:k=K.length:=by omega
   have hA:=HA.out;rw [hkl,List.take_length] at hA;have HA2:=hid hA;clear hA HA hkl;go_wp2;go_ret;exact ⟨by rw [HA2.out];rfl,rfl⟩
def ZO (T:TypeId) (p:Nat) (cs:List Value) (w:jk3) (l:List ByteArray) (E:Nat) (vi:Value) (wr:jk3):Prop:=
 ∃ k:Nat,k<=l.length/\vi=.int .i64 k/\CB T p cs wr/\Below w.heap.size w wr/\qA (l.take k) (l.drop k)=E
def ZP (T:TypeId) (p:Nat) (cs:List Value) (w:jk3) (l:List Pr) (E:Nat) (vi:Value) (wr:jk3):Prop:=
 ∃ k:Nat,k<=l.length/\vi=.int .i64 k/\CB T p cs wr/\Below w.heap.size w wr/\mO ((l.take k).map Pr.key) (l.drop k)=E
theorem CB.dN {T:TypeId} {p:Nat} {cs:List Value} {w:jk3} (h:CB T p cs w) (q:Nat):CB T p cs (w.drewN q):=h
theorem uO (a:At) (ac ap:Option Addr) (cc cp:Nat) (w:jk3) (h:AtR (·<w.heap.size) w a (.slice ac a.cls.length cc) (.slice ap a.aF.length cp)) (hs:a.short) : Calls Tryz.prog 190 #[.agg #[.string a.id,.slice ac a.cls.length cc,.slice ap a.aF.length cp]] w (bR (.int .i64 (a.err:Nat)) w):=by
 obtain ⟨sc,sp,si,WI,WJ⟩:=hs;obtain ⟨id,cls,aF⟩:=a;dsimp only at sc sp si WI WJ h ⊢;obtain ⟨a1,c1,hv1,hs1⟩:=Rd.aB h.cls;obtain ⟨rfl,rfl⟩:a1=ac/\c1=cc:=by simp at hv1;exact ⟨hv1.1.symm,hv1.2.symm⟩
 obtain ⟨a2,c2,hv2,hs2⟩:=Rd.aB h.aF;obtain ⟨rfl,rfl⟩:a2=ap/\c2=cp:=by simp at hv2;exact ⟨hv2.1.symm,hv2.2.symm⟩
 have l1:cls.length<=c1:=by simpa using hs1.le
 have l2:aF.length<=c2:=by simpa using hs2.le
 have m1:=hs1.max;have m2:=hs2.max;have H1:=hid hs1;have H2:=hid hs2;have SC:=hid WI;have SP:=hid WJ;have NI:=hid (fun w=>lJ id w (by omega));have HE:Hid (At.err ⟨id,cls,aF⟩=if aT id=false/\fP id=false then 6 else if qA [] cls≠0 then qA [] cls else if mO [] aF≠0 then mO [] aF else if 32<cls.length\/32<aF.length then 3 else 0):=rfl;obtain ⟨V,hV⟩:∃ V,V=At.err ⟨id,cls,aF⟩:=⟨_,rfl⟩;rw [<- hV] at HE ⊢;have hie:=sD id;obtain ⟨w1,hw1⟩:∃ w1,w1=w.alloc (.cells #[.string id,.slice a1 cls.length c1,.slice a2 aF.length c2] 27):=⟨_,rfl⟩;have k1:CB 27 w.heap.size [.string id,.slice a1 cls.length c1,.slice a2 aF.length c2] w1:=by rw [hw1];exact CB.new _ _ _
 have b1:Below w.heap.size w w1:=by rw [hw1];exact (Below.refl _ _).alloc (Nat.le_refl _) _
 have p0:=k1.cell 0 _ rfl;have p1:=k1.cell 1 _ rfl;have K1:=hid k1;have B1:=hid b1;have R0:Hid (ZO 27 w.heap.size [.string id,.slice a1 cls.length c1,.slice a2 aF.length c2] w cls (qA [] cls) (.int .i64 0) w1):=⟨0,jhq _,rfl,k1,b1,rfl⟩;have HM1:=hid m1;have Yj:=hid m2;unfold maxLen at m1 m2;clear hV WI WJ hs1 hs2 hv1 hv2 h k1 b1;go_enter Tryz.func190,Tryz.ntmps190;go_upto_region 1 with (fail)
 rw [<- hw1];clear hw1
 go_cut [13] (fun s wx=>s=.bool (!aT id&&!fP id)/\w1=wx)
 case first=>
  clear R0 HE;cases he:aT id with
  | true=>
   rw [he] at hie;have DK:=hid he;clear he NI;go_wp2_with fail
   go_meet
   exact ⟨by rw [DK.out];rfl,rfl⟩
  | false=>
   rw [he] at hie;have DK:=hid he;clear he;cases hn:fP id
   all_goals
    rw [hn] at NI;have KZ:=hid hn;clear hn;go_wp2_with fail
    refine (NI.out _).mono ?_;rintro e w2 ⟨rfl,rfl⟩;go_wp2_with fail
    go_meet
    exact ⟨by rw [DK.out,KZ.out];rfl,rfl⟩
 case rest=>
  obtain ⟨rfl,rfl⟩:=hcut;clear NI;cases hbad:(!aT id&&!fP id) with
  | true=>
   have HV:Hid (V=6):=by show V=6;rw [HE.out,if_pos (by simpa using hbad)]
   clear hbad R0;go_wp2;go_ret;exact ⟨by rw [HV.out];rfl,B1.out⟩
  | false=>
   have HE2:Hid (V=if qA [] cls≠0 then qA [] cls else if mO [] aF≠0 then mO [] aF else if 32<cls.length\/32<aF.length then 3 else 0):=by show V=_;rw [HE.out,if_neg (fun h=>by rw [h.1,h.2] at hbad;cases hbad)]
   clear hbad HE hie;obtain ⟨E1,hE1⟩:∃ E1,E1=qA [] cls:=⟨_,rfl⟩;obtain ⟨E2,hE2⟩:∃ E2,E2=mO [] aF:=⟨_,rfl⟩;rw [<- hE1] at HE2 R0;rw [<- hE2] at HE2;have Sj:=hid hE2;clear hE1 hE2 p0 p1;go_wp2
   go_loopw [3] (fun i wr=>ZO 27 w.heap.size [.string id,.slice a1 cls.length c1,.slice a2 aF.length c2] w cls E1 i wr) (fun i _=>cls.length-(intOf i).toNat)
   case atStart=>exact R0.out
   case round=>
    clear R0;obtain ⟨k,hk,rfl,hcb,hbl,aQ⟩:=hrel;have ES:=hid hcb;have qc:=hid hbl;have p1:=hcb.cell 1 _ rfl;by_cases hlt:k<cls.length
    ·obtain ⟨x,hx⟩:∃ x,cls[k]?=some x:=⟨_,jh0 hlt⟩;obtain ⟨b,off,ha,-,-,c0⟩:=eF H1.out hx;have c0:wr.cell? ⟨b,off+k,none⟩=some (.string x):=by rw [hbl.cell (p:=⟨b,off+k,none⟩) (mJ c0)];exact c0
     have ZQ:EF wr 1 (.slice a1 k c1) (cls.take k).length ((cls.take k).map Value.string):=by
      have hkl:(cls.take k).length=k:=by simp;omega
      rw [hkl];refine ⟨by simp;omega,_,_,rfl,by omega,HM1.out,.inr ⟨b,off,ha,fun j u hu=>?_⟩⟩;rw [List.getElem?_map,List.getElem?_take] at hu;split at hu
      ·rename_i hjk
       obtain ⟨y,hy⟩:∃ y,cls[j]?=some y:=⟨_,jh0 (by omega)⟩;rw [hy] at hu;obtain ⟨b',off',ha',-,-,c0'⟩:=eF H1.out hy;rw [ha] at ha';simp at ha';obtain ⟨rfl,rfl⟩:=ha';have c2':wr.cell? ⟨b,off+j,none⟩=some (.string y):=by rw [hbl.cell (p:=⟨b,off+j,none⟩) (mJ c0')];exact c0'
       simp at hu;subst hu;exact c2'
      ·cases hu
     have hxs:=SC.out x (jhx hx);have CN:=hid (fun w=>lJ x w (by omega));have HTX:Hid (∀ m,Calls Tryz.prog 221 #[.slice a1 k c1,.string x] (wr.drewN m) fun e w'=>e=.returned (.bool (fF (cls.take k) x))/\w'=wr.drewN m):=fun m=>(Dn (cls.take k) x _ (wr.drewN m) ZQ).mono fun _ _ h=>⟨h.1,h.2.symm⟩
     subst ha;have bO:Hid (qA (cls.take k) (x::cls.drop (k+1))=E1):=by show _=_;rw [<- Eh cls k x hx];exact aQ
     have Dz:Hid (cls.take (k+1)=cls.take k++[x]):=by show _=_;rw [ji5,hx];rfl
     clear aQ hx ZQ hcb hbl;cases hn:fP x with
     | false=>
      rw [hn] at CN;have HV:Hid (V=6):=by show V=6;have:=bO.out;rw [qA,if_pos hn] at this;rw [HE2.out,<- this];rfl
      clear hn;go_wp2_with fail
      refine (CN.out _).mono ?_;rintro e w3 ⟨rfl,rfl⟩;go_wp2;go_ret;exact ⟨by rw [HV.out];rfl,qc.out⟩
     | true=>
      rw [hn] at CN;cases hb:fF (cls.take k) x with
      | true=>
       rw [hb] at HTX;have HV:Hid (V=7):=by show V=7;have:=bO.out;rw [qA,if_neg (by rw [hn];decide),if_pos hb] at this;rw [HE2.out,<- this];rfl
       clear hn hb;go_wp2_with fail
       refine (CN.out _).mono ?_;rintro e w3 ⟨rfl,rfl⟩;go_upto_region 8 with (fail)
       go_quiet ((go_at_call 221;with_reducible exact Calls.quiet_of_same (HTX.out _)))
       go_wp2;go_ret;exact ⟨by rw [HV.out];rfl,eD qc.out _⟩
      | false=>
       rw [hb] at HTX;have Eo:Hid (qA (cls.take (k+1)) (cls.drop (k+1))=E1):=by show _=_;have:=bO.out;rw [qA,if_neg (by rw [hn];decide),if_neg (by rw [hb];decide)] at this;rw [Dz.out];exact this
       clear hn hb;go_wp2_with fail
       refine (CN.out _).mono ?_;rintro e w3 ⟨rfl,rfl⟩;go_upto_region 8 with (fail)
       go_quiet ((go_at_call 221;with_reducible exact Calls.quiet_of_same (HTX.out _)))
       go_wp2;go_roundw;case rel=>exact ⟨k+1,by omega,by go_num,ES.out.dN _,eD qc.out _,Eo.out⟩
       case measure=>simp [intOf];omega
    ·obtain rfl:k=cls.length:=by omega
     have rY:Hid (E1=0):=by show E1=0;rw [List.drop_length,qA] at aQ;exact aQ.symm
     have R2:Hid (ZP 27 w.heap.size [.string id,.slice a1 cls.length c1,.slice a2 aF.length c2] w aF E2 (.int .i64 0) wr):=⟨0,jhq _,rfl,hcb,hbl,Sj.out.symm⟩;clear aQ hcb hbl ES qc hk hlt;go_wp2
     go_loopw [4] (fun i wr=>ZP 27 w.heap.size [.string id,.slice a1 cls.length c1,.slice a2 aF.length c2] w aF E2 i wr) (fun i _=>aF.length-(intOf i).toNat)
     case atStart=>exact R2.out
     case round=>
      clear R2 p1;obtain ⟨k,hk,rfl,hcb,hbl,aQ⟩:=hrel;have ES:=hid hcb;have qc:=hid hbl;have p2:=hcb.cell 2 _ rfl;by_cases hlt:k<aF.length
      ·obtain ⟨x,hx⟩:∃ x,aF[k]?=some x:=⟨_,jh0 hlt⟩;obtain ⟨b,off,ha,-,-,c0,c1'⟩:=kG H2.out hx;have hkeys:∀ j p,aF[j]?=some p->wr.cell? ⟨b,off+j*2,none⟩=some (.string p.key):=by
        intro j y hy;obtain ⟨b',off',ha',-,-,c0',-⟩:=kG H2.out hy;rw [ha] at ha';simp at ha';obtain ⟨rfl,rfl⟩:=ha';rw [hbl.cell (p:=⟨b,off+j*2,none⟩) (mJ c0')];exact c0'
       have c0:wr.cell? ⟨b,off+k*2,none⟩=some (.string x.key):=hkeys k x hx;have c1':wr.cell? ⟨b,off+k*2+1,none⟩=some (.string x.val):=by rw [hbl.cell (p:=⟨b,off+k*2+1,none⟩) (mJ c1')];exact c1'
       have hxs:=SP.out x (jhx hx);have HX:=hid hx;have bO:Hid (mO ((aF.take k).map Pr.key) (x::aF.drop (k+1))=E2):=by show _=_;rw [<- Eh aF k x hx];exact aQ
       have HKEY:=hid hkeys;obtain ⟨key,val⟩:=x;dsimp only at c0 c1' hxs;have CN:=hid (fun w=>lJ key w (by omega));have CV:=hid (I5 val wr (by omega));have Dz:Hid ((aF.take (k+1)).map Pr.key=(aF.take k).map Pr.key++[key]):=by show _=_;rw [ji5,HX.out];simp
       subst ha;clear aQ hx hcb hbl hkeys;cases hn:fP key with
       | false=>
        rw [hn] at CN;have HV:Hid (V=6):=by show V=6;have:=bO.out;rw [mO,if_pos hn] at this;rw [HE2.out,rY.out,<- this];rfl
        clear hn;go_wp2_with fail
        refine (CN.out _).mono ?_;rintro e w3 ⟨rfl,rfl⟩;go_wp2;go_ret;exact ⟨by rw [HV.out];rfl,qc.out⟩
       | true=>
        rw [hn] at CN;cases hln:eB val with
        | false=>
         rw [hln] at CV;have HV:Hid (V=17):=by show V=17;have:=bO.out;rw [mO,if_neg (by rw [hn];decide),if_pos hln] at this;rw [HE2.out,rY.out,<- this];rfl
         clear hn hln;go_wp2_with fail
         refine (CN.out _).mono ?_;rintro e w3 ⟨rfl,rfl⟩;go_wp2_with fail
         refine CV.out.mono ?_;rintro e w4 ⟨rfl,b4⟩;have B4:=hid (aM qc.out b4);go_wp2;go_ret;exact ⟨by rw [HV.out];rfl,B4.out⟩
        | true=>
         rw [hln] at CV;have Xv:Hid (∀ w4,Below wr.heap.size wr w4->∀ m,Calls Tryz.prog 223 #[.slice (some ⟨b,off,none⟩) k c2,.string key] (w4.drewN m) fun e w'=>e=.returned (.bool (fF ((aF.take k).map Pr.key) key))/\w'=w4.drewN m):=fun w4 h4 m=>
          (FQ aF key b off k c2 (w4.drewN m) (by omega) (by omega) Yj.out (fun j p hp=>by
           have:=HKEY.out j p hp;show w4.cell? _=_;rw [h4.cell (p:=⟨b,off+j*2,none⟩) (mJ this)];exact this)).mono fun _ _ h=>⟨h.1,h.2.symm⟩
         cases hb:fF ((aF.take k).map Pr.key) key with
         | true=>
          rw [hb] at Xv;have HV:Hid (V=7):=by show V=7;have:=bO.out;rw [mO,if_neg (by rw [hn];decide),if_neg (by rw [hln];decide),if_pos hb] at this;rw [HE2.out,rY.out,<- this];rfl
          clear hn hln hb;go_wp2_with fail
          refine (CN.out _).mono ?_;rintro e w3 ⟨rfl,rfl⟩;go_wp2_with fail
          refine CV.out.mono ?_;rintro e w4 ⟨rfl,b4⟩;have B4:=hid (aM qc.out b4);have HKM:=hid (Xv.out w4 b4);have p2:=(ES.out.below b4).cell 2 _ rfl;have c0:w4.cell? ⟨b,off+k*2,none⟩=some (.string key):=by rw [b4.cell (p:=⟨b,off+k*2,none⟩) (mJ c0)];exact c0
          clear b4 Xv c1';go_upto_region 17 with (fail)
          go_quiet ((go_at_call 223;with_reducible exact Calls.quiet_of_same (HKM.out _)))
          go_wp2;go_ret;exact ⟨by rw [HV.out];rfl,eD B4.out _⟩
         | false=>
          rw [hb] at Xv;have Eo:Hid (mO ((aF.take (k+1)).map Pr.key) (aF.drop (k+1))=E2):=by show _=_;have:=bO.out;rw [mO,if_neg (by rw [hn];decide),if_neg (by rw [hln];decide),if_neg (by rw [hb];decide)] at this;rw [Dz.out];exact this
          clear hn hln hb;go_wp2_with fail
          refine (CN.out _).mono ?_;rintro e w3 ⟨rfl,rfl⟩;go_wp2_with fail
          refine CV.out.mono ?_;rintro e w4 ⟨rfl,b4⟩;have B4:=hid (aM qc.out b4);have HKM:=hid (Xv.out w4 b4);have HC4:=hid (ES.out.below b4);have p2:=HC4.out.cell 2 _ rfl;have c0:w4.cell? ⟨b,off+k*2,none⟩=some (.string key):=by rw [b4.cell (p:=⟨b,off+k*2,none⟩) (mJ c0)];exact c0
          clear b4 Xv c1';go_upto_region 17 with (fail)
          go_quiet ((go_at_call 223;with_reducible exact Calls.quiet_of_same (HKM.out _)))
          go_wp2;go_roundw;case rel=>exact ⟨k+1,by omega,by go_num,HC4.out.dN _,eD B4.out _,Eo.out⟩
          case measure=>simp [intOf];omega
      ·obtain rfl:k=aF.length:=by omega
       have HV:Hid (V=if 32<cls.length\/32<aF.length then 3 else 0):=by show V=_;rw [List.drop_length,mO] at aQ;rw [HE2.out,rY.out,<- aQ];rfl
       have p1:=hcb.cell 1 _ rfl;clear aQ hcb hbl hk hlt;by_cases h1:32<cls.length
       ·have q1:decide ((32:Int)<(cls.length:Int))=true:=by simp;omega
        go_wp2;go_ret;exact ⟨by rw [HV.out,if_pos (.inl h1)];rfl,qc.out⟩
       ·have q1:decide ((32:Int)<(cls.length:Int))=false:=by simp;omega
        by_cases h2:32<aF.length
        ·have q2:decide ((32:Int)<(aF.length:Int))=true:=by simp;omega
         go_wp2;go_ret;exact ⟨by rw [HV.out,if_pos (.inr h2)];rfl,qc.out⟩
        ·have q2:decide ((32:Int)<(aF.length:Int))=false:=by simp;omega
         go_wp2;go_ret;exact ⟨by rw [HV.out,if_neg (by omega)];rfl,qc.out⟩
end Go.Proofs.YtclikfjalmcoaaaGreatDoor

