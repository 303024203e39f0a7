/- Plain facts on code points: no program in sight. Plain part: the code points of a text, Fold, and the anchor of a text. -/
import Derived.Lib.DecodeN
import Derived.Lib.RuneBytes
set_option maxHeartbeats 4000000
namespace Go.Proofs.YtlbioncagkkkoaaGreatDoor
set_option linter.unusedVariables false
set_option linter.unusedSimpArgs false
def bt (s:ByteArray) (i:Nat):Nat:=(s.get! i).toNat
theorem bt_lt (s:ByteArray) (i:Nat):bt s i<256:=UInt8.toNat_lt _
theorem q16 (s:ByteArray) (i:Nat) (h:i<s.size):s[i].toNat=bt s i:=by
 unfold bt
 congr 1
 cases s with | mk bs=>
 show bs[i]=bs[i]!
 rw [getElem!_pos]
def q1p (s:ByteArray) (i low high:Nat):Int:=
 if i<s.size/\low<=bt s i/\bt s i<=high then (bt s i:Int)-128 else -1
theorem moreV_bd (s:ByteArray) (i low high:Nat) (hl:128<=low):-1<=q1p s i low high/\q1p s i low high<=127:=by
 have:=bt_lt s i
 unfold q1p;split<;>omega
def q0v (b:Nat):Nat:=if b=224 then 160 else if b=240 then 144 else 128
def q0j (b:Nat):Nat:=if b=237 then 159 else if b=244 then 143 else 191
theorem dec_one (s:ByteArray) (i:Nat) (h:bt s i<128):Utf8.decode s i=(bt s i,1):=by
 rw [Lib.decode_at];show Lib.decodeN _ (bt s i) _ _ _=_
 unfold Lib.decodeN
 rw [if_pos h]
theorem dec_two (s:ByteArray) (i:Nat) (hi:i<s.size) (h:194<=bt s i) (h':bt s i<=223) :
  ((q1p s (i+1) 128 191<0)->Utf8.decode s i=(65533,1)) /\
  (0<=q1p s (i+1) 128 191->((bt s i:Int)-192)*64+q1p s (i+1) 128 191=(Utf8.decode s i).1/\(Utf8.decode s i).2=2):=by
 rw [Lib.decode_at];show (_->Lib.decodeN _ (bt s i) (bt s (i+1)) (bt s (i+2)) (bt s (i+3))=_)/\(_->_=(((Lib.decodeN _ (bt s i) (bt s (i+1)) (bt s (i+2)) (bt s (i+3))).1:Nat):Int)/\(Lib.decodeN _ (bt s i) (bt s (i+1)) (bt s (i+2)) (bt s (i+3))).2=_)
 have g1:=bt_lt s (i+1)
 unfold q1p Lib.decodeN
 generalize bt s i=b0 at *
 generalize bt s (i+1)=b1 at *
 constructor
 ·intro hm
  repeat' split
  all_goals first | rfl | (exfalso;split at hm<;>omega)
 ·intro hm
  split at hm
  ·repeat' split
   all_goals first | (exfalso;omega) | (constructor<;>simp only<;>omega)
  ·omega
theorem dec_three (s:ByteArray) (i:Nat) (hi:i<s.size) (h:224<=bt s i) (h':bt s i<=239) :
  ((q1p s (i+1) (q0v (bt s i)) (q0j (bt s i))<0\/q1p s (i+2) 128 191<0)->Utf8.decode s i=(65533,1)) /\
  (0<=q1p s (i+1) (q0v (bt s i)) (q0j (bt s i))->0<=q1p s (i+2) 128 191 ->
   ((bt s i:Int)-224)*4096+q1p s (i+1) (q0v (bt s i)) (q0j (bt s i))*64+q1p s (i+2) 128 191=(Utf8.decode s i).1/\(Utf8.decode s i).2=3):=by
 rw [Lib.decode_at];show (_->Lib.decodeN _ (bt s i) (bt s (i+1)) (bt s (i+2)) (bt s (i+3))=_)/\(_->_->_=(((Lib.decodeN _ (bt s i) (bt s (i+1)) (bt s (i+2)) (bt s (i+3))).1:Nat):Int)/\(Lib.decodeN _ (bt s i) (bt s (i+1)) (bt s (i+2)) (bt s (i+3))).2=_)
 have g1:=bt_lt s (i+1)
 have g2:=bt_lt s (i+2)
 unfold q1p Lib.decodeN q0v q0j
 generalize bt s i=b0 at *
 generalize bt s (i+1)=b1 at *
 generalize bt s (i+2)=b2 at *
 have e1:¬ b0<128:=by omega
 have e2:¬ (b0/32=6/\(1<s.size-i/\b1/64=2)):=by omega
 have e4:¬ (b0/8=30/\(1<s.size-i/\b1/64=2)/\(2<s.size-i/\b2/64=2)/\(3<s.size-i/\bt s (i+3)/64=2)):=by omega
 rw [if_neg e1,if_neg e2,if_neg e4]
 have c0:b0≠240:=by omega
 have c1:b0≠244:=by omega
 simp only [if_neg c0,if_neg c1]
 by_cases k1:b0=224
 ·have k2:b0≠237:=by omega
  simp only [if_pos k1,if_neg k2]
  constructor
  ·intro hm;repeat' split
   all_goals first | rfl | (exfalso;split at hm<;>split at hm<;>omega)
  ·intro hm hn
   split at hm
   ·split at hn
    ·repeat' split
     all_goals first | (exfalso;omega) | (constructor<;>simp only<;>omega)
    ·omega
   ·omega
 ·by_cases k2:b0=237
  ·simp only [if_neg k1,if_pos k2]
   constructor
   ·intro hm;repeat' split
    all_goals first | rfl | (exfalso;split at hm<;>split at hm<;>omega)
   ·intro hm hn
    split at hm
    ·split at hn
     ·repeat' split
      all_goals first | (exfalso;omega) | (constructor<;>simp only<;>omega)
     ·omega
    ·omega
  ·simp only [if_neg k1,if_neg k2]
   constructor
   ·intro hm;repeat' split
    all_goals first | rfl | (exfalso;split at hm<;>split at hm<;>omega)
   ·intro hm hn
    split at hm
    ·split at hn
     ·repeat' split
      all_goals first | (exfalso;omega) | (constructor<;>simp only<;>omega)
     ·omega
    ·omega
theorem dec_four (s:ByteArray) (i:Nat) (hi:i<s.size) (h:240<=bt s i) (h':bt s i<=244) :
  ((q1p s (i+1) (q0v (bt s i)) (q0j (bt s i))<0\/q1p s (i+2) 128 191<0\/q1p s (i+3) 128 191<0)->Utf8.decode s i=(65533,1)) /\
  (0<=q1p s (i+1) (q0v (bt s i)) (q0j (bt s i))->0<=q1p s (i+2) 128 191->0<=q1p s (i+3) 128 191 ->
   ((bt s i:Int)-240)*262144+q1p s (i+1) (q0v (bt s i)) (q0j (bt s i))*4096+q1p s (i+2) 128 191*64+q1p s (i+3) 128 191=(Utf8.decode s i).1/\(Utf8.decode s i).2=4):=by
 rw [Lib.decode_at];show (_->Lib.decodeN _ (bt s i) (bt s (i+1)) (bt s (i+2)) (bt s (i+3))=_)/\(_->_->_->_=(((Lib.decodeN _ (bt s i) (bt s (i+1)) (bt s (i+2)) (bt s (i+3))).1:Nat):Int)/\(Lib.decodeN _ (bt s i) (bt s (i+1)) (bt s (i+2)) (bt s (i+3))).2=_)
 have g1:=bt_lt s (i+1)
 have g2:=bt_lt s (i+2)
 have g3:=bt_lt s (i+3)
 unfold q1p Lib.decodeN q0v q0j
 generalize bt s i=b0 at *
 generalize bt s (i+1)=b1 at *
 generalize bt s (i+2)=b2 at *
 generalize bt s (i+3)=b3 at *
 have e1:¬ b0<128:=by omega
 have e2:¬ (b0/32=6/\(1<s.size-i/\b1/64=2)):=by omega
 have e3:¬ (b0/16=14/\(1<s.size-i/\b1/64=2)/\(2<s.size-i/\b2/64=2)):=by omega
 rw [if_neg e1,if_neg e2,if_neg e3]
 have c0:b0≠224:=by omega
 have c1:b0≠237:=by omega
 simp only [if_neg c0,if_neg c1]
 by_cases k1:b0=240
 ·have k2:b0≠244:=by omega
  simp only [if_pos k1,if_neg k2]
  constructor
  ·intro hm;repeat' split
   all_goals first | rfl | (exfalso;split at hm<;>split at hm<;>split at hm<;>omega)
  ·intro hm hn hk
   split at hm
   ·split at hn
    ·split at hk
     ·repeat' split
      all_goals first | (exfalso;omega) | (constructor<;>simp only<;>omega)
     ·omega
    ·omega
   ·omega
 ·by_cases k2:b0=244
  ·simp only [if_neg k1,if_pos k2]
   constructor
   ·intro hm;repeat' split
    all_goals first | rfl | (exfalso;split at hm<;>split at hm<;>split at hm<;>omega)
   ·intro hm hn hk
    split at hm
    ·split at hn
     ·split at hk
      ·repeat' split
       all_goals first | (exfalso;omega) | (constructor<;>simp only<;>omega)
      ·omega
     ·omega
    ·omega
  ·simp only [if_neg k1,if_neg k2]
   constructor
   ·intro hm;repeat' split
    all_goals first | rfl | (exfalso;split at hm<;>split at hm<;>split at hm<;>omega)
   ·intro hm hn hk
    split at hm
    ·split at hn
     ·split at hk
      ·repeat' split
       all_goals first | (exfalso;omega) | (constructor<;>simp only<;>omega)
      ·omega
     ·omega
    ·omega
theorem dec_bad (s:ByteArray) (i:Nat) (h:128<=bt s i) (h':bt s i<194\/244<bt s i):Utf8.decode s i=(65533,1):=by
 rw [Lib.decode_at];show Lib.decodeN _ (bt s i) (bt s (i+1)) (bt s (i+2)) (bt s (i+3))=_
 have g0:=bt_lt s i
 have g1:=bt_lt s (i+1)
 have g2:=bt_lt s (i+2)
 have g3:=bt_lt s (i+3)
 unfold Lib.decodeN
 generalize bt s i=b0 at *
 generalize bt s (i+1)=b1 at *
 generalize bt s (i+2)=b2 at *
 generalize bt s (i+3)=b3 at *
 repeat' split
 all_goals first | rfl | (exfalso;omega)
theorem dec_pos (s:ByteArray) (i:Nat):1<=(Utf8.decode s i).2:=by
 unfold Utf8.decode
 dsimp only
 repeat' split
 all_goals first | exact Nat.le_refl _ | (dsimp only;omega)
def runesF (s:ByteArray):Nat->Nat->List Nat
 | 0,_=>[]
 | f+1,i=>if i<s.size then (Utf8.decode s i).1::runesF s f (i+(Utf8.decode s i).2) else []
theorem runesF_end (s:ByteArray) (f i:Nat) (h:¬ i<s.size):runesF s f i=[]:=by
 cases f with
 | zero=>rfl
 | succ f=>rw [runesF,if_neg h]
theorem runesF_fuel (s:ByteArray):∀ (f g i:Nat),s.size<=i+f->s.size<=i+g->runesF s f i=runesF s g i
 | 0,g,i,h,_=>by rw [runesF_end s g i (by omega)];rfl
 | f+1,0,i,_,h=>by rw [runesF_end s (f+1) i (by omega)];rfl
 | f+1,g+1,i,h,h'=>by
  have:=dec_pos s i
  rw [runesF,runesF]
  split
  ·rw [runesF_fuel s f g _ (by omega) (by omega)]
  ·rfl
def runesAt (s:ByteArray) (i:Nat):List Nat:=runesF s s.size i
def runes (s:ByteArray):List Nat:=runesAt s 0
theorem runesAt_end (s:ByteArray) (i:Nat) (h:¬ i<s.size):runesAt s i=[]:=runesF_end s _ i h
theorem runesAt_step (s:ByteArray) (i:Nat) (h:i<s.size):runesAt s i=(Utf8.decode s i).1::runesAt s (i+(Utf8.decode s i).2):=by
 have:=dec_pos s i
 unfold runesAt
 rw [runesF_fuel s s.size (s.size+1) i (by omega) (by omega),runesF,if_pos h]
def lowerC (c:Nat):Nat:=
 if 65<=c/\c<=90 then c+32 else if 192<=c/\c<=222/\c≠215 then c+32 else if 913<=c/\c<=939/\c≠930 then c+32
 else if 1040<=c/\c<=1071 then c+32 else if 1024<=c/\c<=1039 then c+80 else c
def inR (c a b:Nat):Bool:=decide (a<=c)&&decide (c<=b)
def letterC (c:Nat):Bool:=
 inR c 65 90||inR c 97 122||inR c 170 170||inR c 181 181||inR c 186 186||inR c 192 214||inR c 216 246||inR c 248 687||inR c 880 1327||inR c 4256 4351||inR c 7680 8191||inR c 12353 12538||inR c 19968 40959||inR c 44032 55203
def spC (c:Nat):Bool:=decide (c=32)||decide (c=10)
def foldAdd (gap:Bool) (acc:List Nat) (c:Nat):List Nat:=(if gap&&!acc.isEmpty then acc++[32] else acc)++[lowerC c]
def foldG:List Nat->Bool->List Nat->List Nat
 | [],_,acc=>acc
 | c::cs,gap,acc=>if spC c then foldG cs true acc else foldG cs false (foldAdd gap acc c)
def foldL (s:ByteArray):List Nat:=foldG (runes s) false []
def encL (l:List Nat):List UInt8:=l.flatMap fun (c:Nat)=>Lib.encodeRune (c:Int)
theorem encL_app (a b:List Nat):encL (a++b)=encL a++encL b:=by simp [encL]
theorem encL_one (c:Nat):encL [c]=Lib.encodeRune (c:Int):=by simp [encL]
def foldS (s:ByteArray):ByteArray:=⟨(encL (foldL s)).toArray⟩
def digC (c:Nat):Bool:=inR c 48 57
theorem encodeRune_le (r:Int):1<=(Lib.encodeRune r).length/\(Lib.encodeRune r).length<=4:=by
 rw [<- Lib.runeCells_length];exact Lib.runeCells_le r
theorem encL_len (l:List Nat):l.length<=(encL l).length/\(encL l).length<=4*l.length:=by
 induction l with
 | nil=>simp [encL]
 | cons c l ih=>
  have h:=encodeRune_le (c:Int)
  have e:encL (c::l)=Lib.encodeRune (c:Int)++encL l:=by simp [encL]
  rw [e,List.length_append,List.length_cons]
  omega
theorem runesF_len (s:ByteArray):∀ (f i:Nat),(runesF s f i).length<=s.size-i
 | 0,_=>by simp [runesF]
 | f+1,i=>by
  rw [runesF]
  split
  ·have:=runesF_len s f (i+(Utf8.decode s i).2);have:=dec_pos s i;simp;omega
  ·simp
end Go.Proofs.YtlbioncagkkkoaaGreatDoor
