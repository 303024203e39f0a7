/- Plain facts on code points: no program in sight. Plain part: the code points of a text, Fold, and the anchor of a text. -/
import Derived.Lib.DecodeN
import Derived.Lib.RuneBytes
set_option maxHeartbeats 4000000
namespace Go.Proofs.YtklhajbpfelliaaGreatDoor
set_option linter.unusedVariables false
set_option linter.unusedSimpArgs false
def bt (s:ByteArray) (i:Nat):Nat:=(s.get! i).toNat
theorem gJ (s:ByteArray) (i:Nat):bt s i<256:=UInt8.toNat_lt _
theorem jh (s:ByteArray) (i:Nat) (h:i<s.size):s[i].toNat=bt s i:=by
 unfold bt;congr 1;cases s with | mk bs=>
 show bs[i]=bs[i]!;rw [getElem!_pos]
def mY (s:ByteArray) (i low high:Nat):Int:=
 if i<s.size/\low<=bt s i/\bt s i<=high then (bt s i:Int)-128 else -1
theorem tV (s:ByteArray) (i low high:Nat) (hl:128<=low):-1<=mY s i low high/\mY s i low high<=127:=by have:=gJ s i;unfold mY;split<;>omega
def jg (b:Nat):Nat:=if b=224 then 160 else if b=240 then 144 else 128
def jS (b:Nat):Nat:=if b=237 then 159 else if b=244 then 143 else 191
theorem xE (s:ByteArray) (i:Nat) (h:bt s i<128):Utf8.decode s i=(bt s i,1):=by rw [Lib.decode_at];show Lib.decodeN _ (bt s i) _ _ _=_;unfold Lib.decodeN;rw [if_pos h]
theorem xH (s:ByteArray) (i:Nat) (hi:i<s.size) (h:194<=bt s i) (h':bt s i<=223) : ((mY s (i+1) 128 191<0)->Utf8.decode s i=(65533,1)) /\ (0<=mY s (i+1) 128 191->((bt s i:Int)-192)*64+mY s (i+1) 128 191=(Utf8.decode s i).1/\(Utf8.decode s i).2=2):=by
 rw [Lib.decode_at];show (_->Lib.decodeN _ (bt s i) (bt s (i+1)) (bt s (i+2)) (bt s (i+3))=_)/\(_->_=(((Lib.decodeN _ (bt s i) (bt s (i+1)) (bt s (i+2)) (bt s (i+3))).1:Nat):Int)/\(Lib.decodeN _ (bt s i) (bt s (i+1)) (bt s (i+2)) (bt s (i+3))).2=_);have g1:=gJ s (i+1);unfold mY Lib.decodeN;generalize bt s i=b0 at *;generalize bt s (i+1)=b1 at *;constructor
 ·intro hm
  repeat' split
  all_goals first | rfl | (exfalso;split at hm<;>omega)
 ·intro hm;split at hm
  ·repeat' split
   all_goals first | (exfalso;omega) | (constructor<;>simp only<;>omega)
  ·omega
theorem Va{P:Prop}(h:P:=by
 constructor
 ·intro hm;repeat' split
  all_goals first | rfl | (exfalso;split at hm<;>split at hm<;>omega)
 ·intro hm hn;split at hm
  ·split at hn
   ·repeat' split
    all_goals first | (exfalso;omega) | (constructor<;>simp only<;>omega)
   ·omega
  ·omega):P:=h
theorem D9 (s:ByteArray) (i:Nat) (hi:i<s.size) (h:224<=bt s i) (h':bt s i<=239) : ((mY s (i+1) (jg (bt s i)) (jS (bt s i))<0\/mY s (i+2) 128 191<0)->Utf8.decode s i=(65533,1)) /\ (0<=mY s (i+1) (jg (bt s i)) (jS (bt s i))->0<=mY s (i+2) 128 191 -> ((bt s i:Int)-224)*4096+mY s (i+1) (jg (bt s i)) (jS (bt s i))*64+mY s (i+2) 128 191=(Utf8.decode s i).1/\(Utf8.decode s i).2=3):=by
 rw [Lib.decode_at];show (_->Lib.decodeN _ (bt s i) (bt s (i+1)) (bt s (i+2)) (bt s (i+3))=_)/\(_->_->_=(((Lib.decodeN _ (bt s i) (bt s (i+1)) (bt s (i+2)) (bt s (i+3))).1:Nat):Int)/\(Lib.decodeN _ (bt s i) (bt s (i+1)) (bt s (i+2)) (bt s (i+3))).2=_);have g1:=gJ s (i+1);have g2:=gJ s (i+2);unfold mY Lib.decodeN jg jS;generalize bt s i=b0 at *;generalize bt s (i+1)=b1 at *;generalize bt s (i+2)=b2 at *;have e1:¬ b0<128:=by omega
 have e2:¬ (b0/32=6/\(1<s.size-i/\b1/64=2)):=by omega
 have e4:¬ (b0/8=30/\(1<s.size-i/\b1/64=2)/\(2<s.size-i/\b2/64=2)/\(3<s.size-i/\bt s (i+3)/64=2)):=by omega
 rw [if_neg e1,if_neg e2,if_neg e4];have c0:b0≠240:=by omega
 have c1:b0≠244:=by omega
 simp only [if_neg c0,if_neg c1];by_cases k1:b0=224
 ·have k2:b0≠237:=by omega
  simp only [if_pos k1,if_neg k2];exact Va
 ·by_cases k2:b0=237
  ·simp only [if_neg k1,if_pos k2];exact Va
  ·simp only [if_neg k1,if_neg k2];exact Va
theorem Vb{P:Prop}(h:P:=by
 constructor
 ·intro hm;repeat' split
  all_goals first | rfl | (exfalso;split at hm<;>split at hm<;>split at hm<;>omega)
 ·intro hm hn hk;split at hm
  ·split at hn
   ·split at hk
    ·repeat' split
     all_goals first | (exfalso;omega) | (constructor<;>simp only<;>omega)
    ·omega
   ·omega
  ·omega):P:=h
theorem IU (s:ByteArray) (i:Nat) (hi:i<s.size) (h:240<=bt s i) (h':bt s i<=244) : ((mY s (i+1) (jg (bt s i)) (jS (bt s i))<0\/mY s (i+2) 128 191<0\/mY s (i+3) 128 191<0)->Utf8.decode s i=(65533,1)) /\ (0<=mY s (i+1) (jg (bt s i)) (jS (bt s i))->0<=mY s (i+2) 128 191->0<=mY s (i+3) 128 191 -> ((bt s i:Int)-240)*262144+mY s (i+1) (jg (bt s i)) (jS (bt s i))*4096+mY s (i+2) 128 191*64+mY s (i+3) 128 191=(Utf8.decode s i).1/\(Utf8.decode s i).2=4):=by
 rw [Lib.decode_at];show (_->Lib.decodeN _ (bt s i) (bt s (i+1)) (bt s (i+2)) (bt s (i+3))=_)/\(_->_->_->_=(((Lib.decodeN _ (bt s i) (bt s (i+1)) (bt s (i+2)) (bt s (i+3))).1:Nat):Int)/\(Lib.decodeN _ (bt s i) (bt s (i+1)) (bt s (i+2)) (bt s (i+3))).2=_);have g1:=gJ s (i+1);have g2:=gJ s (i+2);have g3:=gJ s (i+3);unfold mY Lib.decodeN jg jS;generalize bt s i=b0 at *;generalize bt s (i+1)=b1 at *;generalize bt s (i+2)=b2 at *;generalize bt s (i+3)=b3 at *;have e1:¬ b0<128:=by omega
 have e2:¬ (b0/32=6/\(1<s.size-i/\b1/64=2)):=by omega
 have e3:¬ (b0/16=14/\(1<s.size-i/\b1/64=2)/\(2<s.size-i/\b2/64=2)):=by omega
 rw [if_neg e1,if_neg e2,if_neg e3];have c0:b0≠224:=by omega
 have c1:b0≠237:=by omega
 simp only [if_neg c0,if_neg c1];by_cases k1:b0=240
 ·have k2:b0≠244:=by omega
  simp only [if_pos k1,if_neg k2];exact Vb
 ·by_cases k2:b0=244
  ·simp only [if_neg k1,if_pos k2];exact Vb
  ·simp only [if_neg k1,if_neg k2];exact Vb
theorem xG (s:ByteArray) (i:Nat) (h:128<=bt s i) (h':bt s i<194\/244<bt s i):Utf8.decode s i=(65533,1):=by
 rw [Lib.decode_at];show Lib.decodeN _ (bt s i) (bt s (i+1)) (bt s (i+2)) (bt s (i+3))=_;have g0:=gJ s i;have g1:=gJ s (i+1);have g2:=gJ s (i+2);have g3:=gJ s (i+3);unfold Lib.decodeN;generalize bt s i=b0 at *;generalize bt s (i+1)=b1 at *;generalize bt s (i+2)=b2 at *;generalize bt s (i+3)=b3 at *
 repeat' split
 all_goals first | rfl | (exfalso;omega)
theorem iL (s:ByteArray) (i:Nat):1<=(Utf8.decode s i).2:=by
 unfold Utf8.decode;dsimp only
 repeat' split
 all_goals first | exact Nat.le_refl _ | (dsimp only;omega)
def gW (s:ByteArray):Nat->Nat->List Nat
 | 0,_=>[]
 | f+1,i=>if i<s.size then (Utf8.decode s i).1::gW s f (i+(Utf8.decode s i).2) else []
theorem rP (s:ByteArray) (f i:Nat) (h:¬ i<s.size):gW s f i=[]:=by
 cases f with
 | zero=>rfl
 | succ f=>rw [gW,if_neg h]
theorem wS (s:ByteArray):∀ (f g i:Nat),s.size<=i+f->s.size<=i+g->gW s f i=gW s g i
 | 0,g,i,h,_=>by rw [rP s g i (by omega)];rfl
 | f+1,0,i,_,h=>by rw [rP s (f+1) i (by omega)];rfl
 | f+1,g+1,i,h,h'=>by
  have:=iL s i;rw [gW,gW];split
  ·rw [wS s f g _ (by omega) (by omega)]
  ·rfl
def lW (s:ByteArray) (i:Nat):List Nat:=gW s s.size i
def runes (s:ByteArray):List Nat:=lW s 0
theorem Gi (s:ByteArray) (i:Nat) (h:¬ i<s.size):lW s i=[]:=rP s _ i h
theorem En (s:ByteArray) (i:Nat) (h:i<s.size):lW s i=(Utf8.decode s i).1::lW s (i+(Utf8.decode s i).2):=by have:=iL s i;unfold lW;rw [wS s s.size (s.size+1) i (by omega) (by omega),gW,if_pos h]
def gI (c:Nat):Nat:=
 if 65<=c/\c<=90 then c+32 else if 192<=c/\c<=222/\c≠215 then c+32 else if 913<=c/\c<=939/\c≠930 then c+32
 else if 1040<=c/\c<=1071 then c+32 else if 1024<=c/\c<=1039 then c+80 else c
def nN (c a b:Nat):Bool:=decide (a<=c)&&decide (c<=b)
def iM (c:Nat):Bool:=
 nN c 65 90||nN c 97 122||nN c 170 170||nN c 181 181||nN c 186 186||nN c 192 214||nN c 216 246||nN c 248 687||nN c 880 1327||nN c 4256 4351||nN c 7680 8191||nN c 12353 12538||nN c 19968 40959||nN c 44032 55203
def Zj (c:Nat):Bool:=decide (c=32)||decide (c=10)
def su (gap:Bool) (acc:List Nat) (c:Nat):List Nat:=(if gap&&!acc.isEmpty then acc++[32] else acc)++[gI c]
def nG:List Nat->Bool->List Nat->List Nat
 | [],_,acc=>acc
 | c::cs,gap,acc=>if Zj c then nG cs true acc else nG cs false (su gap acc c)
def QZ (s:ByteArray):List Nat:=nG (runes s) false []
def dM (l:List Nat):List UInt8:=l.flatMap fun (c:Nat)=>Lib.encodeRune (c:Int)
theorem xX (a b:List Nat):dM (a++b)=dM a++dM b:=by simp [dM]
theorem xY (c:Nat):dM [c]=Lib.encodeRune (c:Int):=by simp [dM]
def nI (s:ByteArray):ByteArray:=⟨(dM (QZ s)).toArray⟩
def Es (c:Nat):Bool:=nN c 48 57
theorem Ch (r:Int):1<=(Lib.encodeRune r).length/\(Lib.encodeRune r).length<=4:=by rw [<- Lib.runeCells_length];exact Lib.runeCells_le r
theorem nD (l:List Nat):l.length<=(dM l).length/\(dM l).length<=4*l.length:=by
 induction l with
 | nil=>simp [dM]
 | cons c l ih=>
  have h:=Ch (c:Int);have e:dM (c::l)=Lib.encodeRune (c:Int)++dM l:=by simp [dM]
  rw [e,List.length_append,List.length_cons];omega
theorem Aj (s:ByteArray):∀ (f i:Nat),(gW s f i).length<=s.size-i
 | 0,_=>by simp [gW]
 | f+1,i=>by
  rw [gW];split
  ·have:=Aj s f (i+(Utf8.decode s i).2);have:=iL s i;simp;omega
  ·simp
end Go.Proofs.YtklhajbpfelliaaGreatDoor

