/- Plain facts on code points: no program in sight. Plain part: the code points of a text, Fold, and the anchor of a text. -/
import Derived.Lib.DecodeN
import Derived.Lib.RuneBytes
set_option maxHeartbeats 4000000
namespace Go.Proofs.YtclikfjalmcoaaaGreatDoor
set_option linter.unusedVariables false
set_option linter.unusedSimpArgs false
def bt (s:ByteArray) (i:Nat):Nat:=(s.get! i).toNat
theorem gH (s:ByteArray) (i:Nat):bt s i<256:=UInt8.toNat_lt _
theorem bO (s:ByteArray) (i:Nat) (h:i<s.size):s[i].toNat=bt s i:=by
 unfold bt;congr 1;cases s with | mk bs=>
 show bs[i]=bs[i]!;rw [getElem!_pos]
def bZ (s:ByteArray) (i low high:Nat):Int:=
 if i<s.size/\low<=bt s i/\bt s i<=high then (bt s i:Int)-128 else -1
def kK (b:Nat):Nat:=if b=224 then 160 else if b=240 then 144 else 128
def mF (b:Nat):Nat:=if b=237 then 159 else if b=244 then 143 else 191
theorem yw (s:ByteArray) (i:Nat) (h:bt s i<128):Utf8.decode s i=(bt s i,1):=by rw [Lib.decode_at];show Lib.decodeN _ (bt s i) _ _ _=_;unfold Lib.decodeN;rw [if_pos h]
theorem yu (s:ByteArray) (i:Nat) (hi:i<s.size) (h:194<=bt s i) (h':bt s i<=223) : ((bZ s (i+1) 128 191<0)->Utf8.decode s i=(65533,1)) /\ (0<=bZ s (i+1) 128 191->((bt s i:Int)-192)*64+bZ s (i+1) 128 191=(Utf8.decode s i).1/\(Utf8.decode s i).2=2):=by
 rw [Lib.decode_at];show (_->Lib.decodeN _ (bt s i) (bt s (i+1)) (bt s (i+2)) (bt s (i+3))=_)/\(_->_=(((Lib.decodeN _ (bt s i) (bt s (i+1)) (bt s (i+2)) (bt s (i+3))).1:Nat):Int)/\(Lib.decodeN _ (bt s i) (bt s (i+1)) (bt s (i+2)) (bt s (i+3))).2=_);have g1:=gH s (i+1);unfold bZ Lib.decodeN;generalize bt s i=b0 at *;generalize bt s (i+1)=b1 at *;constructor
 ·intro hm
  repeat' split
  all_goals first | rfl | (exfalso;split at hm<;>omega)
 ·intro hm;split at hm
  ·repeat' split
   all_goals first | (exfalso;omega) | (constructor<;>simp only<;>omega)
  ·omega
theorem GL (s:ByteArray) (i:Nat) (hi:i<s.size) (h:224<=bt s i) (h':bt s i<=239) : ((bZ s (i+1) (kK (bt s i)) (mF (bt s i))<0\/bZ s (i+2) 128 191<0)->Utf8.decode s i=(65533,1)) /\ (0<=bZ s (i+1) (kK (bt s i)) (mF (bt s i))->0<=bZ s (i+2) 128 191 -> ((bt s i:Int)-224)*4096+bZ s (i+1) (kK (bt s i)) (mF (bt s i))*64+bZ s (i+2) 128 191=(Utf8.decode s i).1/\(Utf8.decode s i).2=3):=by
 rw [Lib.decode_at];show (_->Lib.decodeN _ (bt s i) (bt s (i+1)) (bt s (i+2)) (bt s (i+3))=_)/\(_->_->_=(((Lib.decodeN _ (bt s i) (bt s (i+1)) (bt s (i+2)) (bt s (i+3))).1:Nat):Int)/\(Lib.decodeN _ (bt s i) (bt s (i+1)) (bt s (i+2)) (bt s (i+3))).2=_);have g1:=gH s (i+1);have g2:=gH s (i+2);unfold bZ Lib.decodeN kK mF;generalize bt s i=b0 at *;generalize bt s (i+1)=b1 at *;generalize bt s (i+2)=b2 at *;have e1:¬ b0<128:=by omega
 have e2:¬ (b0/32=6/\(1<s.size-i/\b1/64=2)):=by omega
 have e4:¬ (b0/8=30/\(1<s.size-i/\b1/64=2)/\(2<s.size-i/\b2/64=2)/\(3<s.size-i/\bt s (i+3)/64=2)):=by omega
 rw [if_neg e1,if_neg e2,if_neg e4];have c0:b0≠240:=by omega
 have c1:b0≠244:=by omega
 simp only [if_neg c0,if_neg c1];by_cases k1:b0=224
 ·have k2:b0≠237:=by omega
  simp only [if_pos k1,if_neg k2];constructor
  ·intro hm;repeat' split
   all_goals first | rfl | (exfalso;split at hm<;>split at hm<;>omega)
  ·intro hm hn;split at hm
   ·split at hn
    ·repeat' split
     all_goals first | (exfalso;omega) | (constructor<;>simp only<;>omega)
    ·omega
   ·omega
 ·by_cases k2:b0=237
  ·simp only [if_neg k1,if_pos k2];constructor
   ·intro hm;repeat' split
    all_goals first | rfl | (exfalso;split at hm<;>split at hm<;>omega)
   ·intro hm hn;split at hm
    ·split at hn
     ·repeat' split
      all_goals first | (exfalso;omega) | (constructor<;>simp only<;>omega)
     ·omega
    ·omega
  ·simp only [if_neg k1,if_neg k2];constructor
   ·intro hm;repeat' split
    all_goals first | rfl | (exfalso;split at hm<;>split at hm<;>omega)
   ·intro hm hn;split at hm
    ·split at hn
     ·repeat' split
      all_goals first | (exfalso;omega) | (constructor<;>simp only<;>omega)
     ·omega
    ·omega
theorem Jb (s:ByteArray) (i:Nat) (hi:i<s.size) (h:240<=bt s i) (h':bt s i<=244) : ((bZ s (i+1) (kK (bt s i)) (mF (bt s i))<0\/bZ s (i+2) 128 191<0\/bZ s (i+3) 128 191<0)->Utf8.decode s i=(65533,1)) /\ (0<=bZ s (i+1) (kK (bt s i)) (mF (bt s i))->0<=bZ s (i+2) 128 191->0<=bZ s (i+3) 128 191 -> ((bt s i:Int)-240)*262144+bZ s (i+1) (kK (bt s i)) (mF (bt s i))*4096+bZ s (i+2) 128 191*64+bZ s (i+3) 128 191=(Utf8.decode s i).1/\(Utf8.decode s i).2=4):=by
 rw [Lib.decode_at];show (_->Lib.decodeN _ (bt s i) (bt s (i+1)) (bt s (i+2)) (bt s (i+3))=_)/\(_->_->_->_=(((Lib.decodeN _ (bt s i) (bt s (i+1)) (bt s (i+2)) (bt s (i+3))).1:Nat):Int)/\(Lib.decodeN _ (bt s i) (bt s (i+1)) (bt s (i+2)) (bt s (i+3))).2=_);have g1:=gH s (i+1);have g2:=gH s (i+2);have g3:=gH s (i+3);unfold bZ Lib.decodeN kK mF;generalize bt s i=b0 at *;generalize bt s (i+1)=b1 at *;generalize bt s (i+2)=b2 at *;generalize bt s (i+3)=b3 at *;have e1:¬ b0<128:=by omega
 have e2:¬ (b0/32=6/\(1<s.size-i/\b1/64=2)):=by omega
 have e3:¬ (b0/16=14/\(1<s.size-i/\b1/64=2)/\(2<s.size-i/\b2/64=2)):=by omega
 rw [if_neg e1,if_neg e2,if_neg e3];have c0:b0≠224:=by omega
 have c1:b0≠237:=by omega
 simp only [if_neg c0,if_neg c1];by_cases k1:b0=240
 ·have k2:b0≠244:=by omega
  simp only [if_pos k1,if_neg k2];constructor
  ·intro hm;repeat' split
   all_goals first | rfl | (exfalso;split at hm<;>split at hm<;>split at hm<;>omega)
  ·intro hm hn hk;split at hm
   ·split at hn
    ·split at hk
     ·repeat' split
      all_goals first | (exfalso;omega) | (constructor<;>simp only<;>omega)
     ·omega
    ·omega
   ·omega
 ·by_cases k2:b0=244
  ·simp only [if_neg k1,if_pos k2];constructor
   ·intro hm;repeat' split
    all_goals first | rfl | (exfalso;split at hm<;>split at hm<;>split at hm<;>omega)
   ·intro hm hn hk;split at hm
    ·split at hn
     ·split at hk
      ·repeat' split
       all_goals first | (exfalso;omega) | (constructor<;>simp only<;>omega)
      ·omega
     ·omega
    ·omega
  ·simp only [if_neg k1,if_neg k2];constructor
   ·intro hm;repeat' split
    all_goals first | rfl | (exfalso;split at hm<;>split at hm<;>split at hm<;>omega)
   ·intro hm hn hk;split at hm
    ·split at hn
     ·split at hk
      ·repeat' split
       all_goals first | (exfalso;omega) | (constructor<;>simp only<;>omega)
      ·omega
     ·omega
    ·omega
theorem Fu (s:ByteArray) (i:Nat) (h:128<=bt s i) (h':bt s i<194\/244<bt s i):Utf8.decode s i=(65533,1):=by
 rw [Lib.decode_at];show Lib.decodeN _ (bt s i) (bt s (i+1)) (bt s (i+2)) (bt s (i+3))=_;have g0:=gH s i;have g1:=gH s (i+1);have g2:=gH s (i+2);have g3:=gH s (i+3);unfold Lib.decodeN;generalize bt s i=b0 at *;generalize bt s (i+1)=b1 at *;generalize bt s (i+2)=b2 at *;generalize bt s (i+3)=b3 at *
 repeat' split
 all_goals first | rfl | (exfalso;omega)
theorem lQ (s:ByteArray) (i:Nat):1<=(Utf8.decode s i).2:=by
 unfold Utf8.decode;dsimp only
 repeat' split
 all_goals first | exact Nat.le_refl _ | (dsimp only;omega)
def ko (s:ByteArray):Nat->Nat->List Nat
 | 0,_=>[]
 | f+1,i=>if i<s.size then (Utf8.decode s i).1::ko s f (i+(Utf8.decode s i).2) else []
theorem nG (s:ByteArray) (f i:Nat) (h:¬ i<s.size):ko s f i=[]:=by
 cases f with
 | zero=>rfl
 | succ f=>rw [ko,if_neg h]
theorem rC (s:ByteArray):∀ (f g i:Nat),s.size<=i+f->s.size<=i+g->ko s f i=ko s g i
 | 0,g,i,h,_=>by rw [nG s g i (by omega)];rfl
 | f+1,0,i,_,h=>by rw [nG s (f+1) i (by omega)];rfl
 | f+1,g+1,i,h,h'=>by
  have:=lQ s i;rw [ko,ko];split
  ·rw [rC s f g _ (by omega) (by omega)]
  ·rfl
def jW (s:ByteArray) (i:Nat):List Nat:=ko s s.size i
def runes (s:ByteArray):List Nat:=jW s 0
theorem Ak (s:ByteArray) (i:Nat) (h:¬ i<s.size):jW s i=[]:=nG s _ i h
theorem yg (s:ByteArray) (i:Nat) (h:i<s.size):jW s i=(Utf8.decode s i).1::jW s (i+(Utf8.decode s i).2):=by have:=lQ s i;unfold jW;rw [rC s s.size (s.size+1) i (by omega) (by omega),ko,if_pos h]
def jr (c:Nat):Nat:=
 if 65<=c/\c<=90 then c+32 else if 192<=c/\c<=222/\c≠215 then c+32 else if 913<=c/\c<=939/\c≠930 then c+32
 else if 1040<=c/\c<=1071 then c+32 else if 1024<=c/\c<=1039 then c+80 else c
def nZ (c a b:Nat):Bool:=decide (a<=c)&&decide (c<=b)
def nY (c:Nat):Bool:=
 nZ c 65 90||nZ c 97 122||nZ c 170 170||nZ c 181 181||nZ c 186 186||nZ c 192 214||nZ c 216 246||nZ c 248 687||nZ c 880 1327||nZ c 4256 4351||nZ c 7680 8191||nZ c 12353 12538||nZ c 19968 40959||nZ c 44032 55203
def Tj (c:Nat):Bool:=decide (c=32)||decide (c=10)
def Fh (gap:Bool) (acc:List Nat) (c:Nat):List Nat:=(if gap&&!acc.isEmpty then acc++[32] else acc)++[jr c]
def sF:List Nat->Bool->List Nat->List Nat
 | [],_,acc=>acc
 | c::cs,gap,acc=>if Tj c then sF cs true acc else sF cs false (Fh gap acc c)
def OJ (s:ByteArray):List Nat:=sF (runes s) false []
def eH (l:List Nat):List UInt8:=l.flatMap fun (c:Nat)=>Lib.encodeRune (c:Int)
theorem Ah (a b:List Nat):eH (a++b)=eH a++eH b:=by simp [eH]
theorem Aj (c:Nat):eH [c]=Lib.encodeRune (c:Int):=by simp [eH]
def wW (s:ByteArray):ByteArray:=⟨(eH (OJ s)).toArray⟩
def Jf (c:Nat):Bool:=nZ c 48 57
theorem wJ (r:Int):1<=(Lib.encodeRune r).length/\(Lib.encodeRune r).length<=4:=by rw [<- Lib.runeCells_length];exact Lib.runeCells_le r
theorem nU (l:List Nat):l.length<=(eH l).length/\(eH l).length<=4*l.length:=by
 induction l with
 | nil=>simp [eH]
 | cons c l ih=>
  have h:=wJ (c:Int);have e:eH (c::l)=Lib.encodeRune (c:Int)++eH l:=by simp [eH]
  rw [e,List.length_append,List.length_cons];omega
end Go.Proofs.YtclikfjalmcoaaaGreatDoor

