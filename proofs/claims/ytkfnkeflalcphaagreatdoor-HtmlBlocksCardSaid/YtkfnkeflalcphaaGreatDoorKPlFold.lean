/- Plain facts on code points: no program in sight. Plain part: the code points of a text, Fold, and the anchor of a text. -/
import Derived.Lib.DecodeN
import Derived.Lib.RuneBytes
set_option maxHeartbeats 4000000
namespace Go.Proofs.YtkfnkeflalcphaaGreatDoor
set_option linter.unusedVariables false
set_option linter.unusedSimpArgs false
def bt (s:ByteArray) (i:Nat):Nat:=(s.get! i).toNat
theorem fZ (s:ByteArray) (i:Nat):bt s i<256:=UInt8.toNat_lt _
theorem jk (s:ByteArray) (i:Nat) (h:i<s.size):s[i].toNat=bt s i:=by
 unfold bt;congr 1;cases s with | mk bs=>
 show bs[i]=bs[i]!;rw [getElem!_pos]
def mU (s:ByteArray) (i low high:Nat):Int:=
 if i<s.size/\low<=bt s i/\bt s i<=high then (bt s i:Int)-128 else -1
theorem tK (s:ByteArray) (i low high:Nat) (hl:128<=low):-1<=mU s i low high/\mU s i low high<=127:=by have:=fZ s i;unfold mU;split<;>omega
def jd (b:Nat):Nat:=if b=224 then 160 else if b=240 then 144 else 128
def jQ (b:Nat):Nat:=if b=237 then 159 else if b=244 then 143 else 191
theorem wU (s:ByteArray) (i:Nat) (h:bt s i<128):Utf8.decode s i=(bt s i,1):=by rw [Lib.decode_at];show Lib.decodeN _ (bt s i) _ _ _=_;unfold Lib.decodeN;rw [if_pos h]
theorem wW (s:ByteArray) (i:Nat) (hi:i<s.size) (h:194<=bt s i) (h':bt s i<=223) : ((mU s (i+1) 128 191<0)->Utf8.decode s i=(65533,1)) /\ (0<=mU s (i+1) 128 191->((bt s i:Int)-192)*64+mU s (i+1) 128 191=(Utf8.decode s i).1/\(Utf8.decode s i).2=2):=by
 rw [Lib.decode_at];show (_->Lib.decodeN _ (bt s i) (bt s (i+1)) (bt s (i+2)) (bt s (i+3))=_)/\(_->_=(((Lib.decodeN _ (bt s i) (bt s (i+1)) (bt s (i+2)) (bt s (i+3))).1:Nat):Int)/\(Lib.decodeN _ (bt s i) (bt s (i+1)) (bt s (i+2)) (bt s (i+3))).2=_);have g1:=fZ s (i+1);unfold mU Lib.decodeN;generalize bt s i=b0 at *;generalize bt s (i+1)=b1 at *;constructor
 ·intro hm
  repeat' split
  all_goals first | rfl | (exfalso;split at hm<;>omega)
 ·intro hm;split at hm
  ·repeat' split
   all_goals first | (exfalso;omega) | (constructor<;>simp only<;>omega)
  ·omega
theorem Uv{P:Prop}(h:P:=by
 constructor
 ·intro hm;repeat' split
  all_goals first | rfl | (exfalso;split at hm<;>split at hm<;>omega)
 ·intro hm hn;split at hm
  ·split at hn
   ·repeat' split
    all_goals first | (exfalso;omega) | (constructor<;>simp only<;>omega)
   ·omega
  ·omega):P:=h
theorem DJ (s:ByteArray) (i:Nat) (hi:i<s.size) (h:224<=bt s i) (h':bt s i<=239) : ((mU s (i+1) (jd (bt s i)) (jQ (bt s i))<0\/mU s (i+2) 128 191<0)->Utf8.decode s i=(65533,1)) /\ (0<=mU s (i+1) (jd (bt s i)) (jQ (bt s i))->0<=mU s (i+2) 128 191 -> ((bt s i:Int)-224)*4096+mU s (i+1) (jd (bt s i)) (jQ (bt s i))*64+mU s (i+2) 128 191=(Utf8.decode s i).1/\(Utf8.decode s i).2=3):=by
 rw [Lib.decode_at];show (_->Lib.decodeN _ (bt s i) (bt s (i+1)) (bt s (i+2)) (bt s (i+3))=_)/\(_->_->_=(((Lib.decodeN _ (bt s i) (bt s (i+1)) (bt s (i+2)) (bt s (i+3))).1:Nat):Int)/\(Lib.decodeN _ (bt s i) (bt s (i+1)) (bt s (i+2)) (bt s (i+3))).2=_);have g1:=fZ s (i+1);have g2:=fZ s (i+2);unfold mU Lib.decodeN jd jQ;generalize bt s i=b0 at *;generalize bt s (i+1)=b1 at *;generalize bt s (i+2)=b2 at *;have e1:¬ b0<128:=by omega
 have e2:¬ (b0/32=6/\(1<s.size-i/\b1/64=2)):=by omega
 have e4:¬ (b0/8=30/\(1<s.size-i/\b1/64=2)/\(2<s.size-i/\b2/64=2)/\(3<s.size-i/\bt s (i+3)/64=2)):=by omega
 rw [if_neg e1,if_neg e2,if_neg e4];have c0:b0≠240:=by omega
 have c1:b0≠244:=by omega
 simp only [if_neg c0,if_neg c1];by_cases k1:b0=224
 ·have k2:b0≠237:=by omega
  simp only [if_pos k1,if_neg k2];exact Uv
 ·by_cases k2:b0=237
  ·simp only [if_neg k1,if_pos k2];exact Uv
  ·simp only [if_neg k1,if_neg k2];exact Uv
theorem Uw{P:Prop}(h:P:=by
 constructor
 ·intro hm;repeat' split
  all_goals first | rfl | (exfalso;split at hm<;>split at hm<;>split at hm<;>omega)
 ·intro hm hn hk;split at hm
  ·split at hn
   ·split at hk
    ·repeat' split
     all_goals first | (exfalso;omega) | (constructor<;>simp only<;>omega)
    ·omega
   ·omega
  ·omega):P:=h
theorem Ih (s:ByteArray) (i:Nat) (hi:i<s.size) (h:240<=bt s i) (h':bt s i<=244) : ((mU s (i+1) (jd (bt s i)) (jQ (bt s i))<0\/mU s (i+2) 128 191<0\/mU s (i+3) 128 191<0)->Utf8.decode s i=(65533,1)) /\ (0<=mU s (i+1) (jd (bt s i)) (jQ (bt s i))->0<=mU s (i+2) 128 191->0<=mU s (i+3) 128 191 -> ((bt s i:Int)-240)*262144+mU s (i+1) (jd (bt s i)) (jQ (bt s i))*4096+mU s (i+2) 128 191*64+mU s (i+3) 128 191=(Utf8.decode s i).1/\(Utf8.decode s i).2=4):=by
 rw [Lib.decode_at];show (_->Lib.decodeN _ (bt s i) (bt s (i+1)) (bt s (i+2)) (bt s (i+3))=_)/\(_->_->_->_=(((Lib.decodeN _ (bt s i) (bt s (i+1)) (bt s (i+2)) (bt s (i+3))).1:Nat):Int)/\(Lib.decodeN _ (bt s i) (bt s (i+1)) (bt s (i+2)) (bt s (i+3))).2=_);have g1:=fZ s (i+1);have g2:=fZ s (i+2);have g3:=fZ s (i+3);unfold mU Lib.decodeN jd jQ;generalize bt s i=b0 at *;generalize bt s (i+1)=b1 at *;generalize bt s (i+2)=b2 at *;generalize bt s (i+3)=b3 at *;have e1:¬ b0<128:=by omega
 have e2:¬ (b0/32=6/\(1<s.size-i/\b1/64=2)):=by omega
 have e3:¬ (b0/16=14/\(1<s.size-i/\b1/64=2)/\(2<s.size-i/\b2/64=2)):=by omega
 rw [if_neg e1,if_neg e2,if_neg e3];have c0:b0≠224:=by omega
 have c1:b0≠237:=by omega
 simp only [if_neg c0,if_neg c1];by_cases k1:b0=240
 ·have k2:b0≠244:=by omega
  simp only [if_pos k1,if_neg k2];exact Uw
 ·by_cases k2:b0=244
  ·simp only [if_neg k1,if_pos k2];exact Uw
  ·simp only [if_neg k1,if_neg k2];exact Uw
theorem wV (s:ByteArray) (i:Nat) (h:128<=bt s i) (h':bt s i<194\/244<bt s i):Utf8.decode s i=(65533,1):=by
 rw [Lib.decode_at];show Lib.decodeN _ (bt s i) (bt s (i+1)) (bt s (i+2)) (bt s (i+3))=_;have g0:=fZ s i;have g1:=fZ s (i+1);have g2:=fZ s (i+2);have g3:=fZ s (i+3);unfold Lib.decodeN;generalize bt s i=b0 at *;generalize bt s (i+1)=b1 at *;generalize bt s (i+2)=b2 at *;generalize bt s (i+3)=b3 at *
 repeat' split
 all_goals first | rfl | (exfalso;omega)
theorem iB (s:ByteArray) (i:Nat):1<=(Utf8.decode s i).2:=by
 unfold Utf8.decode;dsimp only
 repeat' split
 all_goals first | exact Nat.le_refl _ | (dsimp only;omega)
def gL (s:ByteArray):Nat->Nat->List Nat
 | 0,_=>[]
 | f+1,i=>if i<s.size then (Utf8.decode s i).1::gL s f (i+(Utf8.decode s i).2) else []
theorem rD (s:ByteArray) (f i:Nat) (h:¬ i<s.size):gL s f i=[]:=by
 cases f with
 | zero=>rfl
 | succ f=>rw [gL,if_neg h]
theorem wm (s:ByteArray):∀ (f g i:Nat),s.size<=i+f->s.size<=i+g->gL s f i=gL s g i
 | 0,g,i,h,_=>by rw [rD s g i (by omega)];rfl
 | f+1,0,i,_,h=>by rw [rD s (f+1) i (by omega)];rfl
 | f+1,g+1,i,h,h'=>by
  have:=iB s i;rw [gL,gL];split
  ·rw [wm s f g _ (by omega) (by omega)]
  ·rfl
def lT (s:ByteArray) (i:Nat):List Nat:=gL s s.size i
def runes (s:ByteArray):List Nat:=lT s 0
theorem FP (s:ByteArray) (i:Nat) (h:¬ i<s.size):lT s i=[]:=rD s _ i h
theorem DZ (s:ByteArray) (i:Nat) (h:i<s.size):lT s i=(Utf8.decode s i).1::lT s (i+(Utf8.decode s i).2):=by have:=iB s i;unfold lT;rw [wm s s.size (s.size+1) i (by omega) (by omega),gL,if_pos h]
def fV (c:Nat):Nat:=
 if 65<=c/\c<=90 then c+32 else if 192<=c/\c<=222/\c≠215 then c+32 else if 913<=c/\c<=939/\c≠930 then c+32
 else if 1040<=c/\c<=1071 then c+32 else if 1024<=c/\c<=1039 then c+80 else c
def nI (c a b:Nat):Bool:=decide (a<=c)&&decide (c<=b)
def iC (c:Nat):Bool:=
 nI c 65 90||nI c 97 122||nI c 170 170||nI c 181 181||nI c 186 186||nI c 192 214||nI c 216 246||nI c 248 687||nI c 880 1327||nI c 4256 4351||nI c 7680 8191||nI c 12353 12538||nI c 19968 40959||nI c 44032 55203
def YQ (c:Nat):Bool:=decide (c=32)||decide (c=10)
def rU (gap:Bool) (acc:List Nat) (c:Nat):List Nat:=(if gap&&!acc.isEmpty then acc++[32] else acc)++[fV c]
def nu:List Nat->Bool->List Nat->List Nat
 | [],_,acc=>acc
 | c::cs,gap,acc=>if YQ c then nu cs true acc else nu cs false (rU gap acc c)
def Qv (s:ByteArray):List Nat:=nu (runes s) false []
def dI (l:List Nat):List UInt8:=l.flatMap fun (c:Nat)=>Lib.encodeRune (c:Int)
theorem xG (a b:List Nat):dI (a++b)=dI a++dI b:=by simp [dI]
theorem xH (c:Nat):dI [c]=Lib.encodeRune (c:Int):=by simp [dI]
def ny (s:ByteArray):ByteArray:=⟨(dI (Qv s)).toArray⟩
def D8 (c:Nat):Bool:=nI c 48 57
theorem BM (r:Int):1<=(Lib.encodeRune r).length/\(Lib.encodeRune r).length<=4:=by rw [<- Lib.runeCells_length];exact Lib.runeCells_le r
theorem ng (l:List Nat):l.length<=(dI l).length/\(dI l).length<=4*l.length:=by
 induction l with
 | nil=>simp [dI]
 | cons c l ih=>
  have h:=BM (c:Int);have e:dI (c::l)=Lib.encodeRune (c:Int)++dI l:=by simp [dI]
  rw [e,List.length_append,List.length_cons];omega
theorem zY (s:ByteArray):∀ (f i:Nat),(gL s f i).length<=s.size-i
 | 0,_=>by simp [gL]
 | f+1,i=>by
  rw [gL];split
  ·have:=zY s f (i+(Utf8.decode s i).2);have:=iB s i;simp;omega
  ·simp
end Go.Proofs.YtkfnkeflalcphaaGreatDoor

