/- Plain facts on code points: no program in sight. Plain part: the code points of a text, Fold, and the anchor of a text. -/
import Derived.Lib.DecodeN
import Derived.Lib.RuneBytes
set_option maxHeartbeats 4000000
namespace Go.Proofs.YtkfnkeflalcphaaGreatDoor
set_option linter.unusedVariables false
set_option linter.unusedSimpArgs false
def bt (s:ByteArray) (i:Nat):Nat:=(s.get! i).toNat
theorem gu (s:ByteArray) (i:Nat):bt s i<256:=UInt8.toNat_lt _
theorem jE (s:ByteArray) (i:Nat) (h:i<s.size):s[i].toNat=bt s i:=by
 unfold bt;congr 1;cases s with | mk bs=>
 show bs[i]=bs[i]!;rw [getElem!_pos]
def q24 (s:ByteArray) (i low high:Nat):Int:=
 if i<s.size/\low<=bt s i/\bt s i<=high then (bt s i:Int)-128 else -1
theorem uM (s:ByteArray) (i low high:Nat) (hl:128<=low):-1<=q24 s i low high/\q24 s i low high<=127:=by have:=gu s i;unfold q24;split<;>omega
def jD (b:Nat):Nat:=if b=224 then 160 else if b=240 then 144 else 128
def kE (b:Nat):Nat:=if b=237 then 159 else if b=244 then 143 else 191
theorem yL (s:ByteArray) (i:Nat) (h:bt s i<128):Utf8.decode s i=(bt s i,1):=by rw [Lib.decode_at];show Lib.decodeN _ (bt s i) _ _ _=_;unfold Lib.decodeN;rw [if_pos h]
theorem yN (s:ByteArray) (i:Nat) (hi:i<s.size) (h:194<=bt s i) (h':bt s i<=223) : ((q24 s (i+1) 128 191<0)->Utf8.decode s i=(65533,1)) /\ (0<=q24 s (i+1) 128 191->((bt s i:Int)-192)*64+q24 s (i+1) 128 191=(Utf8.decode s i).1/\(Utf8.decode s i).2=2):=by
 rw [Lib.decode_at];show (_->Lib.decodeN _ (bt s i) (bt s (i+1)) (bt s (i+2)) (bt s (i+3))=_)/\(_->_=(((Lib.decodeN _ (bt s i) (bt s (i+1)) (bt s (i+2)) (bt s (i+3))).1:Nat):Int)/\(Lib.decodeN _ (bt s i) (bt s (i+1)) (bt s (i+2)) (bt s (i+3))).2=_);have g1:=gu s (i+1);unfold q24 Lib.decodeN;generalize bt s i=b0 at *;generalize bt s (i+1)=b1 at *;constructor
 ·intro hm
  repeat' split
  all_goals first | rfl | (exfalso;split at hm<;>omega)
 ·intro hm;split at hm
  ·repeat' split
   all_goals first | (exfalso;omega) | (constructor<;>simp only<;>omega)
  ·omega
theorem Wz{P:Prop}(h:P:=by
 constructor
 ·intro hm;repeat' split
  all_goals first | rfl | (exfalso;split at hm<;>split at hm<;>omega)
 ·intro hm hn;split at hm
  ·split at hn
   ·repeat' split
    all_goals first | (exfalso;omega) | (constructor<;>simp only<;>omega)
   ·omega
  ·omega):P:=h
theorem Fb (s:ByteArray) (i:Nat) (hi:i<s.size) (h:224<=bt s i) (h':bt s i<=239) : ((q24 s (i+1) (jD (bt s i)) (kE (bt s i))<0\/q24 s (i+2) 128 191<0)->Utf8.decode s i=(65533,1)) /\ (0<=q24 s (i+1) (jD (bt s i)) (kE (bt s i))->0<=q24 s (i+2) 128 191 -> ((bt s i:Int)-224)*4096+q24 s (i+1) (jD (bt s i)) (kE (bt s i))*64+q24 s (i+2) 128 191=(Utf8.decode s i).1/\(Utf8.decode s i).2=3):=by
 rw [Lib.decode_at];show (_->Lib.decodeN _ (bt s i) (bt s (i+1)) (bt s (i+2)) (bt s (i+3))=_)/\(_->_->_=(((Lib.decodeN _ (bt s i) (bt s (i+1)) (bt s (i+2)) (bt s (i+3))).1:Nat):Int)/\(Lib.decodeN _ (bt s i) (bt s (i+1)) (bt s (i+2)) (bt s (i+3))).2=_);have g1:=gu s (i+1);have g2:=gu s (i+2);unfold q24 Lib.decodeN jD kE;generalize bt s i=b0 at *;generalize bt s (i+1)=b1 at *;generalize bt s (i+2)=b2 at *;have e1:¬ b0<128:=by omega
 have e2:¬ (b0/32=6/\(1<s.size-i/\b1/64=2)):=by omega
 have e4:¬ (b0/8=30/\(1<s.size-i/\b1/64=2)/\(2<s.size-i/\b2/64=2)/\(3<s.size-i/\bt s (i+3)/64=2)):=by omega
 rw [if_neg e1,if_neg e2,if_neg e4];have c0:b0≠240:=by omega
 have c1:b0≠244:=by omega
 simp only [if_neg c0,if_neg c1];by_cases k1:b0=224
 ·have k2:b0≠237:=by omega
  simp only [if_pos k1,if_neg k2];exact Wz
 ·by_cases k2:b0=237
  ·simp only [if_neg k1,if_pos k2];exact Wz
  ·simp only [if_neg k1,if_neg k2];exact Wz
theorem WA{P:Prop}(h:P:=by
 constructor
 ·intro hm;repeat' split
  all_goals first | rfl | (exfalso;split at hm<;>split at hm<;>split at hm<;>omega)
 ·intro hm hn hk;split at hm
  ·split at hn
   ·split at hk
    ·repeat' split
     all_goals first | (exfalso;omega) | (constructor<;>simp only<;>omega)
    ·omega
   ·omega
  ·omega):P:=h
theorem Ka (s:ByteArray) (i:Nat) (hi:i<s.size) (h:240<=bt s i) (h':bt s i<=244) : ((q24 s (i+1) (jD (bt s i)) (kE (bt s i))<0\/q24 s (i+2) 128 191<0\/q24 s (i+3) 128 191<0)->Utf8.decode s i=(65533,1)) /\ (0<=q24 s (i+1) (jD (bt s i)) (kE (bt s i))->0<=q24 s (i+2) 128 191->0<=q24 s (i+3) 128 191 -> ((bt s i:Int)-240)*262144+q24 s (i+1) (jD (bt s i)) (kE (bt s i))*4096+q24 s (i+2) 128 191*64+q24 s (i+3) 128 191=(Utf8.decode s i).1/\(Utf8.decode s i).2=4):=by
 rw [Lib.decode_at];show (_->Lib.decodeN _ (bt s i) (bt s (i+1)) (bt s (i+2)) (bt s (i+3))=_)/\(_->_->_->_=(((Lib.decodeN _ (bt s i) (bt s (i+1)) (bt s (i+2)) (bt s (i+3))).1:Nat):Int)/\(Lib.decodeN _ (bt s i) (bt s (i+1)) (bt s (i+2)) (bt s (i+3))).2=_);have g1:=gu s (i+1);have g2:=gu s (i+2);have g3:=gu s (i+3);unfold q24 Lib.decodeN jD kE;generalize bt s i=b0 at *;generalize bt s (i+1)=b1 at *;generalize bt s (i+2)=b2 at *;generalize bt s (i+3)=b3 at *;have e1:¬ b0<128:=by omega
 have e2:¬ (b0/32=6/\(1<s.size-i/\b1/64=2)):=by omega
 have e3:¬ (b0/16=14/\(1<s.size-i/\b1/64=2)/\(2<s.size-i/\b2/64=2)):=by omega
 rw [if_neg e1,if_neg e2,if_neg e3];have c0:b0≠224:=by omega
 have c1:b0≠237:=by omega
 simp only [if_neg c0,if_neg c1];by_cases k1:b0=240
 ·have k2:b0≠244:=by omega
  simp only [if_pos k1,if_neg k2];exact WA
 ·by_cases k2:b0=244
  ·simp only [if_neg k1,if_pos k2];exact WA
  ·simp only [if_neg k1,if_neg k2];exact WA
theorem yM (s:ByteArray) (i:Nat) (h:128<=bt s i) (h':bt s i<194\/244<bt s i):Utf8.decode s i=(65533,1):=by
 rw [Lib.decode_at];show Lib.decodeN _ (bt s i) (bt s (i+1)) (bt s (i+2)) (bt s (i+3))=_;have g0:=gu s i;have g1:=gu s (i+1);have g2:=gu s (i+2);have g3:=gu s (i+3);unfold Lib.decodeN;generalize bt s i=b0 at *;generalize bt s (i+1)=b1 at *;generalize bt s (i+2)=b2 at *;generalize bt s (i+3)=b3 at *
 repeat' split
 all_goals first | rfl | (exfalso;omega)
theorem iU (s:ByteArray) (i:Nat):1<=(Utf8.decode s i).2:=by
 unfold Utf8.decode;dsimp only
 repeat' split
 all_goals first | exact Nat.le_refl _ | (dsimp only;omega)
def gH (s:ByteArray):Nat->Nat->List Nat
 | 0,_=>[]
 | f+1,i=>if i<s.size then (Utf8.decode s i).1::gH s f (i+(Utf8.decode s i).2) else []
theorem rY (s:ByteArray) (f i:Nat) (h:¬ i<s.size):gH s f i=[]:=by
 cases f with
 | zero=>rfl
 | succ f=>rw [gH,if_neg h]
theorem xU (s:ByteArray):∀ (f g i:Nat),s.size<=i+f->s.size<=i+g->gH s f i=gH s g i
 | 0,g,i,h,_=>by rw [rY s g i (by omega)];rfl
 | f+1,0,i,_,h=>by rw [rY s (f+1) i (by omega)];rfl
 | f+1,g+1,i,h,h'=>by
  have:=iU s i;rw [gH,gH];split
  ·rw [xU s f g _ (by omega) (by omega)]
  ·rfl
def mq (s:ByteArray) (i:Nat):List Nat:=gH s s.size i
def runes (s:ByteArray):List Nat:=mq s 0
theorem Iq (s:ByteArray) (i:Nat) (h:¬ i<s.size):mq s i=[]:=rY s _ i h
theorem F5 (s:ByteArray) (i:Nat) (h:i<s.size):mq s i=(Utf8.decode s i).1::mq s (i+(Utf8.decode s i).2):=by have:=iU s i;unfold mq;rw [xU s s.size (s.size+1) i (by omega) (by omega),gH,if_pos h]
def gq (c:Nat):Nat:=
 if 65<=c/\c<=90 then c+32 else if 192<=c/\c<=222/\c≠215 then c+32 else if 913<=c/\c<=939/\c≠930 then c+32
 else if 1040<=c/\c<=1071 then c+32 else if 1024<=c/\c<=1039 then c+80 else c
def j6 (c a b:Nat):Bool:=decide (a<=c)&&decide (c<=b)
def iV (c:Nat):Bool:=
 j6 c 65 90||j6 c 97 122||j6 c 170 170||j6 c 181 181||j6 c 186 186||j6 c 192 214||j6 c 216 246||j6 c 248 687||j6 c 880 1327||j6 c 4256 4351||j6 c 7680 8191||j6 c 12353 12538||j6 c 19968 40959||j6 c 44032 55203
def spC (c:Nat):Bool:=decide (c=32)||decide (c=10)
def sO (gap:Bool) (acc:List Nat) (c:Nat):List Nat:=(if gap&&!acc.isEmpty then acc++[32] else acc)++[gq c]
def nT:List Nat->Bool->List Nat->List Nat
 | [],_,acc=>acc
 | c::cs,gap,acc=>if spC c then nT cs true acc else nT cs false (sO gap acc c)
def TW (s:ByteArray):List Nat:=nT (runes s) false []
def dM (l:List Nat):List UInt8:=l.flatMap fun (c:Nat)=>Lib.encodeRune (c:Int)
theorem zw (a b:List Nat):dM (a++b)=dM a++dM b:=by simp [dM]
theorem zx (c:Nat):dM [c]=Lib.encodeRune (c:Int):=by simp [dM]
def nU (s:ByteArray):ByteArray:=⟨(dM (TW s)).toArray⟩
def Ga (c:Nat):Bool:=j6 c 48 57
theorem DZ (r:Int):1<=(Lib.encodeRune r).length/\(Lib.encodeRune r).length<=4:=by rw [<- Lib.runeCells_length];exact Lib.runeCells_le r
theorem nR (l:List Nat):l.length<=(dM l).length/\(dM l).length<=4*l.length:=by
 induction l with
 | nil=>simp [dM]
 | cons c l ih=>
  have h:=DZ (c:Int);have e:dM (c::l)=Lib.encodeRune (c:Int)++dM l:=by simp [dM]
  rw [e,List.length_append,List.length_cons];omega
theorem BK (s:ByteArray):∀ (f i:Nat),(gH s f i).length<=s.size-i
 | 0,_=>by simp [gH]
 | f+1,i=>by
  rw [gH];split
  ·have:=BK s f (i+(Utf8.decode s i).2);have:=iU s i;simp;omega
  ·simp
end Go.Proofs.YtkfnkeflalcphaaGreatDoor

