/- Plain facts on code points: no program in sight. Plain part: the code points of a text, Fold, and the anchor of a text. -/
import Derived.Lib.DecodeN
import Derived.Lib.RuneBytes
set_option maxHeartbeats 4000000
namespace Go.Proofs.YtdneicipdlofiaaGreatDoor
set_option linter.unusedVariables false
set_option linter.unusedSimpArgs false
def bt (s:ByteArray) (i:Nat):Nat:=(s.get! i).toNat
theorem gY (s:ByteArray) (i:Nat):bt s i<256:=UInt8.toNat_lt _
theorem bN (s:ByteArray) (i:Nat) (h:i<s.size):s[i].toNat=bt s i:=by
 unfold bt;congr 1;cases s with | mk bs=>
 show bs[i]=bs[i]!;rw [getElem!_pos]
def cO (s:ByteArray) (i low high:Nat):Int:=
 if i<s.size/\low<=bt s i/\bt s i<=high then (bt s i:Int)-128 else -1
def mD (b:Nat):Nat:=if b=224 then 160 else if b=240 then 144 else 128
def oD (b:Nat):Nat:=if b=237 then 159 else if b=244 then 143 else 191
theorem Cz (s:ByteArray) (i:Nat) (h:bt s i<128):Utf8.decode s i=(bt s i,1):=by rw [Lib.decode_at];show Lib.decodeN _ (bt s i) _ _ _=_;unfold Lib.decodeN;rw [if_pos h]
theorem CF (s:ByteArray) (i:Nat) (hi:i<s.size) (h:194<=bt s i) (h':bt s i<=223) : ((cO s (i+1) 128 191<0)->Utf8.decode s i=(65533,1)) /\ (0<=cO s (i+1) 128 191->((bt s i:Int)-192)*64+cO s (i+1) 128 191=(Utf8.decode s i).1/\(Utf8.decode s i).2=2):=by
 rw [Lib.decode_at];show (_->Lib.decodeN _ (bt s i) (bt s (i+1)) (bt s (i+2)) (bt s (i+3))=_)/\(_->_=(((Lib.decodeN _ (bt s i) (bt s (i+1)) (bt s (i+2)) (bt s (i+3))).1:Nat):Int)/\(Lib.decodeN _ (bt s i) (bt s (i+1)) (bt s (i+2)) (bt s (i+3))).2=_);have g1:=gY s (i+1);unfold cO Lib.decodeN;generalize bt s i=b0 at *;generalize bt s (i+1)=b1 at *;constructor
 ·intro hm
  repeat' split
  all_goals first | rfl | (exfalso;split at hm<;>omega)
 ·intro hm;split at hm
  ·repeat' split
   all_goals first | (exfalso;omega) | (constructor<;>simp only<;>omega)
  ·omega
theorem Mv (s:ByteArray) (i:Nat) (hi:i<s.size) (h:224<=bt s i) (h':bt s i<=239) : ((cO s (i+1) (mD (bt s i)) (oD (bt s i))<0\/cO s (i+2) 128 191<0)->Utf8.decode s i=(65533,1)) /\ (0<=cO s (i+1) (mD (bt s i)) (oD (bt s i))->0<=cO s (i+2) 128 191 -> ((bt s i:Int)-224)*4096+cO s (i+1) (mD (bt s i)) (oD (bt s i))*64+cO s (i+2) 128 191=(Utf8.decode s i).1/\(Utf8.decode s i).2=3):=by
 rw [Lib.decode_at];show (_->Lib.decodeN _ (bt s i) (bt s (i+1)) (bt s (i+2)) (bt s (i+3))=_)/\(_->_->_=(((Lib.decodeN _ (bt s i) (bt s (i+1)) (bt s (i+2)) (bt s (i+3))).1:Nat):Int)/\(Lib.decodeN _ (bt s i) (bt s (i+1)) (bt s (i+2)) (bt s (i+3))).2=_);have g1:=gY s (i+1);have g2:=gY s (i+2);unfold cO Lib.decodeN mD oD;generalize bt s i=b0 at *;generalize bt s (i+1)=b1 at *;generalize bt s (i+2)=b2 at *;have e1:¬ b0<128:=by omega
 have e2:¬ (b0/32=6/\(1<s.size-i/\b1/64=2)):=by omega
 have e4:¬ (b0/8=30/\(1<s.size-i/\b1/64=2)/\(2<s.size-i/\b2/64=2)/\(3<s.size-i/\bt s (i+3)/64=2)):=by omega
 rw [if_neg e1,if_neg e2,if_neg e4];have c0:b0≠240:=by omega
 have c1:b0≠244:=by omega
 simp only [if_neg c0,if_neg c1];by_cases k1:b0=224
 ·have k2:b0≠237:=by omega
  simp only [if_pos k1,if_neg k2];constructor
  ·intro hm;repeat' split
   all_goals first | rfl | (exfalso;split at hm<;>split at hm<;>omega)
  ·intro hm hn;split at hm
   ·split at hn
    ·repeat' split
     all_goals first | (exfalso;omega) | (constructor<;>simp only<;>omega)
    ·omega
   ·omega
 ·by_cases k2:b0=237
  ·simp only [if_neg k1,if_pos k2];constructor
   ·intro hm;repeat' split
    all_goals first | rfl | (exfalso;split at hm<;>split at hm<;>omega)
   ·intro hm hn;split at hm
    ·split at hn
     ·repeat' split
      all_goals first | (exfalso;omega) | (constructor<;>simp only<;>omega)
     ·omega
    ·omega
  ·simp only [if_neg k1,if_neg k2];constructor
   ·intro hm;repeat' split
    all_goals first | rfl | (exfalso;split at hm<;>split at hm<;>omega)
   ·intro hm hn;split at hm
    ·split at hn
     ·repeat' split
      all_goals first | (exfalso;omega) | (constructor<;>simp only<;>omega)
     ·omega
    ·omega
theorem Qk (s:ByteArray) (i:Nat) (hi:i<s.size) (h:240<=bt s i) (h':bt s i<=244) : ((cO s (i+1) (mD (bt s i)) (oD (bt s i))<0\/cO s (i+2) 128 191<0\/cO s (i+3) 128 191<0)->Utf8.decode s i=(65533,1)) /\ (0<=cO s (i+1) (mD (bt s i)) (oD (bt s i))->0<=cO s (i+2) 128 191->0<=cO s (i+3) 128 191 -> ((bt s i:Int)-240)*262144+cO s (i+1) (mD (bt s i)) (oD (bt s i))*4096+cO s (i+2) 128 191*64+cO s (i+3) 128 191=(Utf8.decode s i).1/\(Utf8.decode s i).2=4):=by
 rw [Lib.decode_at];show (_->Lib.decodeN _ (bt s i) (bt s (i+1)) (bt s (i+2)) (bt s (i+3))=_)/\(_->_->_->_=(((Lib.decodeN _ (bt s i) (bt s (i+1)) (bt s (i+2)) (bt s (i+3))).1:Nat):Int)/\(Lib.decodeN _ (bt s i) (bt s (i+1)) (bt s (i+2)) (bt s (i+3))).2=_);have g1:=gY s (i+1);have g2:=gY s (i+2);have g3:=gY s (i+3);unfold cO Lib.decodeN mD oD;generalize bt s i=b0 at *;generalize bt s (i+1)=b1 at *;generalize bt s (i+2)=b2 at *;generalize bt s (i+3)=b3 at *;have e1:¬ b0<128:=by omega
 have e2:¬ (b0/32=6/\(1<s.size-i/\b1/64=2)):=by omega
 have e3:¬ (b0/16=14/\(1<s.size-i/\b1/64=2)/\(2<s.size-i/\b2/64=2)):=by omega
 rw [if_neg e1,if_neg e2,if_neg e3];have c0:b0≠224:=by omega
 have c1:b0≠237:=by omega
 simp only [if_neg c0,if_neg c1];by_cases k1:b0=240
 ·have k2:b0≠244:=by omega
  simp only [if_pos k1,if_neg k2];constructor
  ·intro hm;repeat' split
   all_goals first | rfl | (exfalso;split at hm<;>split at hm<;>split at hm<;>omega)
  ·intro hm hn hk;split at hm
   ·split at hn
    ·split at hk
     ·repeat' split
      all_goals first | (exfalso;omega) | (constructor<;>simp only<;>omega)
     ·omega
    ·omega
   ·omega
 ·by_cases k2:b0=244
  ·simp only [if_neg k1,if_pos k2];constructor
   ·intro hm;repeat' split
    all_goals first | rfl | (exfalso;split at hm<;>split at hm<;>split at hm<;>omega)
   ·intro hm hn hk;split at hm
    ·split at hn
     ·split at hk
      ·repeat' split
       all_goals first | (exfalso;omega) | (constructor<;>simp only<;>omega)
      ·omega
     ·omega
    ·omega
  ·simp only [if_neg k1,if_neg k2];constructor
   ·intro hm;repeat' split
    all_goals first | rfl | (exfalso;split at hm<;>split at hm<;>split at hm<;>omega)
   ·intro hm hn hk;split at hm
    ·split at hn
     ·split at hk
      ·repeat' split
       all_goals first | (exfalso;omega) | (constructor<;>simp only<;>omega)
      ·omega
     ·omega
    ·omega
theorem JW (s:ByteArray) (i:Nat) (h:128<=bt s i) (h':bt s i<194\/244<bt s i):Utf8.decode s i=(65533,1):=by
 rw [Lib.decode_at];show Lib.decodeN _ (bt s i) (bt s (i+1)) (bt s (i+2)) (bt s (i+3))=_;have g0:=gY s i;have g1:=gY s (i+1);have g2:=gY s (i+2);have g3:=gY s (i+3);unfold Lib.decodeN;generalize bt s i=b0 at *;generalize bt s (i+1)=b1 at *;generalize bt s (i+2)=b2 at *;generalize bt s (i+3)=b3 at *
 repeat' split
 all_goals first | rfl | (exfalso;omega)
theorem nL (s:ByteArray) (i:Nat):1<=(Utf8.decode s i).2:=by
 unfold Utf8.decode;dsimp only
 repeat' split
 all_goals first | exact Nat.le_refl _ | (dsimp only;omega)
def lQ (s:ByteArray):Nat->Nat->List Nat
 | 0,_=>[]
 | f+1,i=>if i<s.size then (Utf8.decode s i).1::lQ s f (i+(Utf8.decode s i).2) else []
theorem pU (s:ByteArray) (f i:Nat) (h:¬ i<s.size):lQ s f i=[]:=by
 cases f with
 | zero=>rfl
 | succ f=>rw [lQ,if_neg h]
theorem uy (s:ByteArray):∀ (f g i:Nat),s.size<=i+f->s.size<=i+g->lQ s f i=lQ s g i
 | 0,g,i,h,_=>by rw [pU s g i (by omega)];rfl
 | f+1,0,i,_,h=>by rw [pU s (f+1) i (by omega)];rfl
 | f+1,g+1,i,h,h'=>by
  have:=nL s i;rw [lQ,lQ];split
  ·rw [uy s f g _ (by omega) (by omega)]
  ·rfl
def lg (s:ByteArray) (i:Nat):List Nat:=lQ s s.size i
def runes (s:ByteArray):List Nat:=lg s 0
theorem DW (s:ByteArray) (i:Nat) (h:¬ i<s.size):lg s i=[]:=pU s _ i h
theorem Bv (s:ByteArray) (i:Nat) (h:i<s.size):lg s i=(Utf8.decode s i).1::lg s (i+(Utf8.decode s i).2):=by have:=nL s i;unfold lg;rw [uy s s.size (s.size+1) i (by omega) (by omega),lQ,if_pos h]
def jX (c:Nat):Nat:=
 if 65<=c/\c<=90 then c+32 else if 192<=c/\c<=222/\c≠215 then c+32 else if 913<=c/\c<=939/\c≠930 then c+32
 else if 1040<=c/\c<=1071 then c+32 else if 1024<=c/\c<=1039 then c+80 else c
def ql (c a b:Nat):Bool:=decide (a<=c)&&decide (c<=b)
def qX (c:Nat):Bool:=
 ql c 65 90||ql c 97 122||ql c 170 170||ql c 181 181||ql c 186 186||ql c 192 214||ql c 216 246||ql c 248 687||ql c 880 1327||ql c 4256 4351||ql c 7680 8191||ql c 12353 12538||ql c 19968 40959||ql c 44032 55203
def YA (c:Nat):Bool:=decide (c=32)||decide (c=10)
def Jk (gap:Bool) (acc:List Nat) (c:Nat):List Nat:=(if gap&&!acc.isEmpty then acc++[32] else acc)++[jX c]
def vE:List Nat->Bool->List Nat->List Nat
 | [],_,acc=>acc
 | c::cs,gap,acc=>if YA c then vE cs true acc else vE cs false (Jk gap acc c)
def Us (s:ByteArray):List Nat:=vE (runes s) false []
def eY (l:List Nat):List UInt8:=l.flatMap fun (c:Nat)=>Lib.encodeRune (c:Int)
theorem DT (a b:List Nat):eY (a++b)=eY a++eY b:=by simp [eY]
theorem DU (c:Nat):eY [c]=Lib.encodeRune (c:Int):=by simp [eY]
def zQ (s:ByteArray):ByteArray:=⟨(eY (Us s)).toArray⟩
def Py (c:Nat):Bool:=ql c 48 57
theorem zM (r:Int):1<=(Lib.encodeRune r).length/\(Lib.encodeRune r).length<=4:=by rw [<- Lib.runeCells_length];exact Lib.runeCells_le r
theorem qm (l:List Nat):l.length<=(eY l).length/\(eY l).length<=4*l.length:=by
 induction l with
 | nil=>simp [eY]
 | cons c l ih=>
  have h:=zM (c:Int);have e:eY (c::l)=Lib.encodeRune (c:Int)++eY l:=by simp [eY]
  rw [e,List.length_append,List.length_cons];omega
end Go.Proofs.YtdneicipdlofiaaGreatDoor

