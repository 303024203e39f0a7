/- Plain part: the errors of layer 4: what is not well-formed in inlines and blocks. Plain part: merged inlines: what Merge returns; it keeps the plain text, and changes nothing the second time, nor a line without errors. Plain part: groups of texts in Merge. Plain part: clean texts one after the other are clean. Plain part: clean texts, cut and put together; what well-formed inlines and blocks are, in words. Contracts of chars.width, second, unclean, Next, Valid; of attr.cleanLine, tree.cleanLine, trimmed, cleanText. Contracts of attr.cleanLine, tree.cleanLine, trimmed, cleanText, address' first test; attr.Empty. Contracts of attr.Empty, tree.oneOf, anyKind, inlineFields. The contract of attr.Check: the first error of attributes. Contracts of publisherref01.clean, Digit, Valid. Contracts of publisherref04.line, trimmed, has, in, noAttr and of publisherref03.line. Contracts of publisherref03.letter, part, word, Name. Contracts of publisherref03.hasText, hasKey, Check. publisherref04.count, sizes, Size, Depth; tree.sizeOfLine, sizeOfBlocks, Size, Depth. Size and Depth of documents, of tree and of the reference. Plain part: attributes in braces, read off a list of bytes; what is read does not depend on what stands behind the closing brace. -/
import Derived.Test.YtdneicipdlofiaaGreatDoorKRowE
import Derived.Test.YtdneicipdlofiaaGreatDoorKSmall
set_option maxHeartbeats 8000000
set_option maxRecDepth 100000
open Go.Lib (hid)
namespace Go.Proofs.YtdneicipdlofiaaGreatDoor
open List renaming getElem?_eq_getElem->joq,length_append->jp4,mem_of_getElem?->jpk,cons_append->jpx,take_add_one->jq3
open Go.RowKit.Below renaming refl->jox
open Nat renaming le_refl->joz,zero_le->jpj
open Bool renaming eq_iff_iff->jp3
open Go renaming World->js1,Value->js3
set_option linter.unusedVariables false
set_option linter.unusedSimpArgs false
def pV (p:Nat × Nat):Bool:=(decide (p.1=10)||(decide (32<=p.1)&&!decide (p.1=127)))&&!(decide (p.1=65533)&&decide (p.2=1))
def dW (s:ByteArray):Bool:=(pts s).all pV
def Yk (s:ByteArray):Bool:=s.data.toList.all fun c=>!decide (c=10)
def iA (s:ByteArray):Bool:=dW s&&Yk s
def trimS (s:ByteArray):Bool:=decide (s.data.toList=[])||(!decide (s.data.toList.head?=some 32)&&!decide (s.data.toList.getLast?=some 32))
def dP (s:ByteArray) (bs:List UInt8):Bool:=s.data.toList.any fun c=>bs.contains c
def xA (p:Nat × Nat):Bool:=qX p.1||Py p.1||[32,45,95,46,58].contains p.1
def eO (s:ByteArray):Bool:=decide (1<=s.size)&&decide (s.size<=60)&&decide (zQ s=s)&&(pts s).all xA
def eP (s:ByteArray):Bool:=decide (s.data.toList=[])
def At.none (a:At):Bool:=eP a.id&&a.cls.isEmpty&&a.aJ.isEmpty
def uS (seen:List ByteArray):List ByteArray->Nat
 | []=>0
 | c::l=>if fO c=false then 6 else if fu seen c=true then 7 else uS (seen++[c]) l
def dV (seen:List ByteArray):List Pr->Nat
 | []=>0
 | p::l=>if fO p.key=false then 6 else if iA p.val=false then 17 else if fu seen p.key=true then 7 else dV (seen++[p.key]) l
def At.err (a:At):Nat:=
 if eP a.id=false/\fO a.id=false then 6
 else if uS [] a.cls≠0 then uS [] a.cls
 else if dV [] a.aJ≠0 then dV [] a.aJ
 else if 32<a.cls.length\/32<a.aJ.length then 3 else 0
mutual
def aj.Qn (ks:List Int):aj->Bool
 | .mk k _ _ _ _ _ _ kids=>ks.contains k||aj.dQ ks kids
def aj.dQ (ks:List Int):List aj->Bool
 | []=>false
 | x::l=>x.Qn ks||aj.dQ ks l
end
def qY:List Int:=[9,16,12,14,13]
def kV:List Int:=[2,3]
def zh (k:Int) (t d ti:ByteArray) (a:At) (ar:List ByteArray) (ci:List Ci) (ks:List aj):Bool:=
 decide (1<=k)&&decide (k<=16)&&(([1,4,5,9,10,12,14,15]:List Int).contains k||eP t)&&(([9,10,16]:List Int).contains k||eP d)&&(([9,10,14]:List Int).contains k||eP ti) &&
 (([10,11]:List Int).contains k||a.none)&&(([6,7,8,9,10,11]:List Int).contains k||ks.isEmpty)&&(decide (k=15)||ar.isEmpty)&&(decide (k=13)||ci.isEmpty)
def lJ (s:ByteArray):Nat:=(s.data.toList.takeWhile fun c=>jI c.toNat).length
def qD (s:ByteArray):Bool:=decide (2<=lJ s)&&decide (lJ s<=20)&&decide (s.data.toList[lJ s]?=some 58)&&iA s&&!dP s [32,60,62]
def mZ (s:ByteArray):Bool:=!iA s||!trimS s||dP s [91,93,59,64,123,36,96]
def lK:List Ci->Nat
 | []=>0
 | c::l=>if fO c.key=false then 6 else if mZ c.pre=true\/mZ c.suf=true then 17 else lK l
def kU (l:List Ci):Nat:=if l.isEmpty=true then 8 else lK l
def gF (k:Int) (t d ti:ByteArray) (a:At) (ks:List aj):Nat:=
 if eP t=false/\(eP d=false\/eP ti=false) then 5
 else if eP t=false/\eO t=false then 6
 else if iA d=false\/iA ti=false then 17
 else if k=9/\aj.dQ qY ks=true then 5
 else if k=10 then a.err else 0
def jC (s:ByteArray):Bool:=!iA s||dP s [124,123,125]
def Fw:List UInt8:=[112,97,103,101]
def jk (k:Int) (t ti:ByteArray) (ar:List ByteArray):Nat:=
 if fO t=false then 6
 else if k=14/\eP ti=false/\ti.data.toList≠Fw then 5
 else if 8<ar.length then 3
 else if ar.any jC then 17 else 0
def su (before:Int) (first last:Bool) (k:Int) (t d ti:ByteArray) (a:At) (ar:List ByteArray) (ci:List Ci) (ks:List aj):Nat:=
 if zh k t d ti a ar ci ks=false then 5
 else if k=1\/k=4\/k=5 then (if eP t=true\/iA t=false then 17 else if k≠5/\before=k then 5 else 0)
 else if k=2 then (if before=2\/before=3\/first=true\/last=true then 5 else 0)
 else if k=3 then (if last=true then 5 else 0)
 else if k=6\/k=7\/k=8 then (if ks.isEmpty=true then 8 else 0)
 else if k=9\/k=10 then gF k t d ti a ks
 else if k=11 then (if a.none=true then 8 else a.err)
 else if k=12\/k=14\/k=15 then jk k t ti ar
 else if k=13 then kU ci
 else if qD d=true then 0 else 5
def aj.kd:aj->Int
 | .mk k _ _ _ _ _ _ _=>k
mutual
def aj.err (before:Int) (first last:Bool) (dp:Nat):aj->Nat
 | .mk k t d ti a ar ci ks=>if su before first last k t d ti a ar ci ks≠0 then su before first last k t d ti a ar ci ks else aj.aT 0 true (dp+1) ks
def aj.aT (before:Int) (st:Bool) (dp:Nat):List aj->Nat
 | []=>0
 | x::l=>if 15<dp then 11 else if x.err before (decide (dp=0)&&st) (decide (dp=0)&&l.isEmpty) dp≠0 then x.err before (decide (dp=0)&&st) (decide (dp=0)&&l.isEmpty) dp
   else aj.aT x.kd false dp l
end
def dK (l:List aj):Nat:=aj.aT 0 true 0 l
def EH (k lv:Int) (i t d ti:ByteArray) (a:At) (li:List aj) (ks:List ah):Bool:=
 decide (1<=k)&&decide (k<=15)&&(([2,8]:List Int).contains k||decide (lv=0))&&(([3,10,13,14,15]:List Int).contains k||eP i)&&(([3,4]:List Int).contains k||eP t) &&
 (decide (k=15)||(eP d&&eP ti))&&(([2,4,13]:List Int).contains k||a.none)&&(([1,2,12]:List Int).contains k||li.isEmpty)&&(([6,7,8,9,10,11,13,14]:List Int).contains k||ks.isEmpty)
def dD (k par:Int):Bool:=
 if par=7\/par=8 then decide (k=9) else if par=10 then decide (k=11) else if par=11 then decide (k=12) else !([9,11,12]:List Int).contains k
def gU (s:ByteArray):Bool:=eP s||(dW s&&decide (s.data.toList.getLast?=some 10))
def ah.Fy:ah->Nat
 | .mk _ _ _ _ _ _ _ _ ks=>ks.length
def jw (i:ByteArray) (ks:List ah):Nat:=
 if 32<i.size then 3 else if eP i=true then 5 else if i.data.toList.any (fun c=>!([45,108,99,114]:List UInt8).contains c) then 5
 else if ks.isEmpty=true then 8 else if ks.any (fun b=>!decide (b.Fy=i.size)) then 15 else 0
def uX (cl:ByteArray->Bool) (k lv:Int) (i t d ti:ByteArray) (a:At) (li:List aj) (ks:List ah):Nat:=
 if k=1 then (if li.isEmpty=true then 8 else dK li)
 else if k=2 then (if lv<1\/6<lv then 9 else if a.err≠0 then a.err else if aj.dQ kV li=true then 5 else dK li)
 else if k=12 then (if aj.dQ kV li=true then 5 else dK li)
 else if k=3 then (if iA i=false\/trimS i=false\/gU t=false then 17 else 0)
 else if k=4 then (if gU t=false then 17 else if cl t=true then 5 else a.err)
 else if k=7\/k=8 then (if ks.isEmpty=true then 8 else if k=8/\(lv<0\/999999999<lv) then 9 else 0)
 else if k=10 then jw i ks
 else if k=13\/k=14 then (if fO i=false then 6 else a.err)
 else if k=15 then (if eO i=false then 6 else if iA d=false\/iA ti=false then 17 else 0)
 else 0
mutual
def ah.err (cl:ByteArray->Bool) (par:Int) (dp:Nat):ah->Nat
 | .mk k lv i t d ti a li ks=>if 15<dp then 11 else if EH k lv i t d ti a li ks=false\/dD k par=false then 5
   else if uX cl k lv i t d ti a li ks≠0 then uX cl k lv i t d ti a li ks else ah.aT cl k (dp+1) ks
def ah.aT (cl:ByteArray->Bool) (par:Int) (dp:Nat):List ah->Nat
 | []=>0
 | x::l=>if x.err cl par dp≠0 then x.err cl par dp else ah.aT cl par dp l
end
def dR (seen:List ByteArray):List Pr->Nat
 | []=>0
 | p::l=>if fO p.key=false then 6 else if iA p.val=false\/trimS p.val=false then 17 else if fu seen p.key=true then 7 else dR (seen++[p.key]) l
theorem decodeN_more (n N b0 b1 b2 b3 c1 c2 c3:Nat) (hn:1<=n) (hN:n<=N) (h1:1<n->c1=b1) (h2:2<n->c2=b2) (h3:3<n->c3=b3) (h:Lib.decodeN n b0 b1 b2 b3≠(65533,1)) : Lib.decodeN N b0 c1 c2 c3=Lib.decodeN n b0 b1 b2 b3/\(Lib.decodeN n b0 b1 b2 b3).2<=n:=by
 by_cases a0:b0<128
 ·have e1:∀ m x y z,Lib.decodeN m b0 x y z=(b0,1):=fun m x y z=>by unfold Lib.decodeN;rw [if_pos a0]
  rw [e1,e1];exact ⟨rfl,hn⟩
 by_cases a1:b0/32=6/\(1<n/\b1/64=2)
 ·obtain ⟨p1,p2,p3⟩:=a1;obtain rfl:=h1 p2;have e1:∀ m y z,1<m->Lib.decodeN m b0 c1 y z=if b0%32*64+c1%64≥128 then (b0%32*64+c1%64,2) else (65533,1):=fun m y z hm=>by
   unfold Lib.decodeN;rw [if_neg a0,if_pos ⟨p1,hm,p3⟩]
  rw [e1 N c2 c3 (by omega),e1 n b2 b3 p2];refine ⟨rfl,?_⟩;split
  ·exact p2
  ·exact hn
 by_cases a2:b0/16=14/\(1<n/\b1/64=2)/\(2<n/\b2/64=2)
 ·obtain ⟨p1,⟨p2,p3⟩,p4,p5⟩:=a2;obtain rfl:=h1 p2;obtain rfl:=h2 p4;have e1:∀ m z,1<m->2<m->Lib.decodeN m b0 c1 c2 z=Lib.decodeN 3 b0 c1 c2 0:=fun m z hm hm2=>by
   unfold Lib.decodeN;rw [if_neg a0,if_neg a0,if_neg (show ¬ (b0/32=6/\_) from fun h=>by omega),if_neg (show ¬ (b0/32=6/\_) from fun h=>by omega),if_pos (show b0/16=14/\(1<m/\c1/64=2)/\(2<m/\c2/64=2) from ⟨p1,⟨hm,p3⟩,hm2,p5⟩),if_pos (show b0/16=14/\(1<3/\c1/64=2)/\(2<3/\c2/64=2) from ⟨p1,⟨by omega,p3⟩,by omega,p5⟩)]
  have e2:(Lib.decodeN 3 b0 c1 c2 0).2<=3:=by
   unfold Lib.decodeN;rw [if_neg a0,if_neg (show ¬ (b0/32=6/\_) from fun h=>by omega),if_pos ⟨p1,⟨by omega,p3⟩,by omega,p5⟩];split
   ·exact joz 3
   ·exact (by decide:1<=3)
  rw [e1 N c3 (by omega) (by omega),e1 n b3 p2 p4];exact ⟨rfl,by omega⟩
 by_cases a3:b0/8=30/\(1<n/\b1/64=2)/\(2<n/\b2/64=2)/\(3<n/\b3/64=2)
 ·obtain ⟨p1,⟨p2,p3⟩,⟨p4,p5⟩,p6,p7⟩:=a3;obtain rfl:=h1 p2;obtain rfl:=h2 p4;obtain rfl:=h3 p6;have e1:∀ m,1<m->2<m->3<m->Lib.decodeN m b0 c1 c2 c3=Lib.decodeN 4 b0 c1 c2 c3:=fun m hm hm2 hm3=>by
   unfold Lib.decodeN;rw [if_neg a0,if_neg a0,if_neg (show ¬ (b0/32=6/\_) from fun h=>by omega),if_neg (show ¬ (b0/32=6/\_) from fun h=>by omega),if_neg (show ¬ (b0/16=14/\_) from fun h=>by omega),if_neg (show ¬ (b0/16=14/\_) from fun h=>by omega),
    if_pos (show b0/8=30/\(1<m/\c1/64=2)/\(2<m/\c2/64=2)/\(3<m/\c3/64=2) from ⟨p1,⟨hm,p3⟩,⟨hm2,p5⟩,hm3,p7⟩),if_pos (show b0/8=30/\(1<4/\c1/64=2)/\(2<4/\c2/64=2)/\(3<4/\c3/64=2) from ⟨p1,⟨by omega,p3⟩,⟨by omega,p5⟩,by omega,p7⟩)]
  have e2:(Lib.decodeN 4 b0 c1 c2 c3).2<=4:=by
   unfold Lib.decodeN;rw [if_neg a0,if_neg (show ¬ (b0/32=6/\_) from fun h=>by omega),if_neg (show ¬ (b0/16=14/\_) from fun h=>by omega),if_pos ⟨p1,⟨by omega,p3⟩,⟨by omega,p5⟩,by omega,p7⟩];split
   ·exact joz 4
   ·exact (by decide:1<=4)
  rw [e1 N (by omega) (by omega) (by omega),e1 n p2 p4 p6];exact ⟨rfl,by omega⟩
 ·refine absurd ?_ h;unfold Lib.decodeN;rw [if_neg a0,if_neg a1,if_neg a2,if_neg a3]
theorem FY:pV (65533,1)=false:=by decide
theorem T9 (l m:List UInt8) (i:Nat) (h:i<l.length):(l++m).getD i 0=l.getD i 0:=by rw [List.getD_eq_getElem?_getD,List.getD_eq_getElem?_getD,List.getElem?_append_left h]
theorem kX (l m:List UInt8) (i:Nat):(l++m).getD (l.length+i) 0=m.getD i 0:=by rw [List.getD_eq_getElem?_getD,List.getD_eq_getElem?_getD,List.getElem?_append_right (by omega),Nat.add_sub_cancel_left]
theorem rH (s t:ByteArray):(s++t).data.toList=s.data.toList++t.data.toList:=by simp [ByteArray.data_append]
theorem qC (s:ByteArray):s.data.toList.length=s.size:=by simp
theorem Qo (s t:ByteArray) (i:Nat) (hi:i<s.size) (hok:pV (Utf8.decode s i)=true):Utf8.decode (s++t) i=Utf8.decode s i/\i+(Utf8.decode s i).2<=s.size:=by
 have hl:=qC s;have hne:Utf8.decode s i≠(65533,1):=fun e=>by rw [e,FY] at hok;cases hok
 rw [Lib.decode_N] at hne ⊢;have hb:=decodeN_more (s.data.toList.length-i) ((s.data.toList++t.data.toList).length-i) (s.data.toList.getD i 0).toNat (s.data.toList.getD (i+1) 0).toNat (s.data.toList.getD (i+2) 0).toNat (s.data.toList.getD (i+3) 0).toNat
  ((s.data.toList++t.data.toList).getD (i+1) 0).toNat ((s.data.toList++t.data.toList).getD (i+2) 0).toNat ((s.data.toList++t.data.toList).getD (i+3) 0).toNat (by omega) (by rw [jp4];omega)
  (fun h=>by rw [T9 _ _ _ (by omega)]) (fun h=>by rw [T9 _ _ _ (by omega)]) (fun h=>by rw [T9 _ _ _ (by omega)]) (by rw [Lib.decode_N] at *;exact hne)
 rw [Lib.decode_N,rH,T9 s.data.toList _ i (by omega)];refine ⟨hb.1,?_⟩;have:=hb.2;omega
theorem Qp (s t:ByteArray) (i:Nat):Utf8.decode (s++t) (s.size+i)=Utf8.decode t i:=by have hl:=qC s;rw [Lib.decode_N,Lib.decode_N,rH,<- hl,Nat.add_assoc,Nat.add_assoc,Nat.add_assoc,kX,kX,kX,kX,jp4,Nat.add_sub_add_left]
theorem qB (s t:ByteArray):∀ (f i:Nat),bZ (s++t) f (s.size+i)=bZ t f i
 | 0,_=>rfl
 | f+1,i=>by
  rw [bZ,bZ,ByteArray.size_append];by_cases h:i<t.size
  ·rw [if_pos h,if_pos (by omega),Qp,Nat.add_assoc,qB s t f]
  ·rw [if_neg h,if_neg (by omega)]
theorem yj (s:ByteArray):∀ (f g i:Nat),s.size<=i+f->s.size<=i+g->bZ s f i=bZ s g i
 | 0,g,i,hf,hg=>by rw [kT s g i (by omega)];rfl
 | f+1,0,i,hf,hg=>by rw [kT s (f+1) i (by omega)];rfl
 | f+1,g+1,i,hf,hg=>by
  rw [bZ,bZ];by_cases h:i<s.size
  ·have hw:=Lib.decode_width_pos s i h;rw [if_pos h,if_pos h,yj s f g _ (by omega) (by omega)]
  ·rw [if_neg h,if_neg h]
theorem FZ (s t:ByteArray):∀ (f i F:Nat),i<=s.size->s.size<=i+f->(bZ s f i).all pV=true->s.size+t.size<=i+F->bZ (s++t) F i=bZ s f i++bZ t t.size 0
 | f,i,F,hi,hf,hok,hF=>by
  by_cases h:i<s.size
  ·cases f with
   | zero=>omega
   | succ f=>
    cases F with
    | zero=>omega
    | succ F=>
     rw [bZ,if_pos h,List.all_cons,Bool.and_eq_true] at hok;obtain ⟨hd,hw⟩:=Qo s t i h hok.1;have hw1:=Lib.decode_width_pos s i h;rw [bZ,bZ,if_pos h,if_pos (by rw [ByteArray.size_append];omega),hd,FZ s t f _ F hw (by omega) hok.2 (by omega),jpx]
  ·have e:i=s.size:=by omega
   subst e;rw [kT s f _ h,List.nil_append];have h2:=qB s t F 0;rw [Nat.add_zero] at h2;rw [h2];exact yj t F t.size 0 (by omega) (by omega)
theorem ND (s t:ByteArray) (hs:dW s=true) (ht:dW t=true):dW (s++t)=true:=by unfold dW at hs ht ⊢;unfold pts at hs ht ⊢;rw [FZ s t s.size 0 (s++t).size (by omega) (by omega) hs (by rw [ByteArray.size_append];omega),List.all_append,hs,ht];rfl
def NG (s:ByteArray):Prop:=∀ c∈s.data.toList,32<=c.toNat/\c.toNat<127
theorem J7 (s:ByteArray) (h:NG s):∀ (f i:Nat),(bZ s f i).all pV=true
 | 0,_=>rfl
 | f+1,i=>by
  rw [bZ];split
  ·rename_i hi
   have hm:s[i]∈s.data.toList:=by
    have:s[i]=s.data.toList[i]'(by simpa using hi):=by show s.data[i]=_;simp
    rw [this];exact List.getElem_mem _
   obtain ⟨h1,h2⟩:=h _ hm;rw [decode_ascii s i hi (by omega),List.all_cons,J7 s h f];simp [pV];omega
  ·rfl
theorem Qq (s:ByteArray) (h:NG s):iA s=true:=by unfold iA dW pts;rw [J7 s h,Bool.true_and];unfold Yk;rw [List.all_eq_true];intro c hc;have:=(h c hc).1;simp;intro e;rw [e] at this;simp at this
def BP (l:List UInt8):ByteArray:=⟨l.toArray⟩
theorem Dn (n N b0 b1 b2 b3 c1 c2 c3:Nat) (hn:1<=n) (hN:n<N) (h1:1<n->c1=b1) (h2:2<n->c2=b2) (h3:3<n->c3=b3) (e1:n=1->c1<128) (e2:n=2->c2<128) (e3:n=3->c3<128) (h:Lib.decodeN N b0 c1 c2 c3≠(65533,1)) : Lib.decodeN n b0 b1 b2 b3=Lib.decodeN N b0 c1 c2 c3/\(Lib.decodeN N b0 c1 c2 c3).2<=n:=by
 have key:Lib.decodeN n b0 b1 b2 b3≠(65533,1)->Lib.decodeN n b0 b1 b2 b3=Lib.decodeN N b0 c1 c2 c3/\(Lib.decodeN N b0 c1 c2 c3).2<=n:=by intro h9;obtain ⟨k1,k2⟩:=decodeN_more n N b0 b1 b2 b3 c1 c2 c3 hn (Nat.le_of_lt hN) h1 h2 h3 h9;exact ⟨k1.symm,by rw [k1];exact k2⟩
 refine key fun hb=>h ?_
 have hb':=hb;unfold Lib.decodeN at hb ⊢;by_cases a0:b0<128
 ·rw [if_pos a0] at hb;injection hb with hb1 hb2
  omega
 rw [if_neg a0] at hb ⊢;by_cases a1:b0/32=6/\(1<N/\c1/64=2)
 ·obtain ⟨p1,p2,p3⟩:=a1;have hn1:1<n:=by
   rcases Nat.lt_or_ge 1 n with h9 | h9
   ·exact h9
   ·have:=e1 (by omega);omega
  obtain rfl:=h1 hn1;rw [if_pos (show b0/32=6/\(1<n/\c1/64=2) from ⟨p1,hn1,p3⟩)] at hb;rw [if_pos (show b0/32=6/\(1<N/\c1/64=2) from ⟨p1,p2,p3⟩)];exact hb
 rw [if_neg a1];by_cases a2:b0/16=14/\(1<N/\c1/64=2)/\(2<N/\c2/64=2)
 ·obtain ⟨p1,⟨p2,p3⟩,p4,p5⟩:=a2;have hn1:1<n:=by
   rcases Nat.lt_or_ge 1 n with h9 | h9
   ·exact h9
   ·have:=e1 (by omega);omega
  obtain rfl:=h1 hn1;have hn2:2<n:=by
   rcases Nat.lt_or_ge 2 n with h9 | h9
   ·exact h9
   ·have:=e2 (by omega);omega
  obtain rfl:=h2 hn2;rw [if_neg (show ¬ (b0/32=6/\(1<n/\c1/64=2)) from fun h=>by omega),if_pos (show b0/16=14/\(1<n/\c1/64=2)/\(2<n/\c2/64=2) from ⟨p1,⟨hn1,p3⟩,hn2,p5⟩)] at hb;rw [if_pos (show b0/16=14/\(1<N/\c1/64=2)/\(2<N/\c2/64=2) from ⟨p1,⟨p2,p3⟩,p4,p5⟩)];exact hb
 rw [if_neg a2];by_cases a3:b0/8=30/\(1<N/\c1/64=2)/\(2<N/\c2/64=2)/\(3<N/\c3/64=2)
 ·obtain ⟨p1,⟨p2,p3⟩,⟨p4,p5⟩,p6,p7⟩:=a3;have hn1:1<n:=by
   rcases Nat.lt_or_ge 1 n with h9 | h9
   ·exact h9
   ·have:=e1 (by omega);omega
  obtain rfl:=h1 hn1;have hn2:2<n:=by
   rcases Nat.lt_or_ge 2 n with h9 | h9
   ·exact h9
   ·have:=e2 (by omega);omega
  obtain rfl:=h2 hn2;have Y4:3<n:=by
   rcases Nat.lt_or_ge 3 n with h9 | h9
   ·exact h9
   ·have:=e3 (by omega);omega
  obtain rfl:=h3 Y4;rw [if_neg (show ¬ (b0/32=6/\(1<n/\c1/64=2)) from fun h=>by omega),if_neg (show ¬ (b0/16=14/\(1<n/\c1/64=2)/\(2<n/\c2/64=2)) from fun h=>by omega),if_pos (show b0/8=30/\(1<n/\c1/64=2)/\(2<n/\c2/64=2)/\(3<n/\c3/64=2) from ⟨p1,⟨hn1,p3⟩,⟨hn2,p5⟩,Y4,p7⟩)] at hb;rw [if_pos (show b0/8=30/\(1<N/\c1/64=2)/\(2<N/\c2/64=2)/\(3<N/\c3/64=2) from ⟨p1,⟨p2,p3⟩,⟨p4,p5⟩,p6,p7⟩)];exact hb
 rw [if_neg a3]
def Dp (t:ByteArray):Prop:=∃ c m,t.data.toList=c::m/\c.toNat<128
theorem Ua (s t:ByteArray) (ht:Dp t) (i:Nat) (hi:i<s.size) (hok:pV (Utf8.decode (s++t) i)=true):Utf8.decode s i=Utf8.decode (s++t) i/\i+(Utf8.decode (s++t) i).2<=s.size:=by
 obtain ⟨c,m,ht,hc⟩:=ht;have hl:=qC s;have hne:Utf8.decode (s++t) i≠(65533,1):=fun e=>by rw [e,FY] at hok;cases hok
 have hat:∀ j,s.data.toList.length=i+j->((s.data.toList++t.data.toList).getD (i+j) 0).toNat<128:=by intro j hj;have h1:=kX s.data.toList t.data.toList 0;rw [Nat.add_zero,hj] at h1;rw [h1,ht];exact hc
 rw [Lib.decode_N,rH,T9 s.data.toList _ i (by omega)] at hne;have hb:=Dn (s.data.toList.length-i) ((s.data.toList++t.data.toList).length-i) (s.data.toList.getD i 0).toNat (s.data.toList.getD (i+1) 0).toNat (s.data.toList.getD (i+2) 0).toNat (s.data.toList.getD (i+3) 0).toNat
  ((s.data.toList++t.data.toList).getD (i+1) 0).toNat ((s.data.toList++t.data.toList).getD (i+2) 0).toNat ((s.data.toList++t.data.toList).getD (i+3) 0).toNat (by omega) (by rw [jp4,ht,List.length_cons];omega)
  (fun h=>by rw [T9 _ _ _ (by omega)]) (fun h=>by rw [T9 _ _ _ (by omega)]) (fun h=>by rw [T9 _ _ _ (by omega)])
  (fun h=>hat 1 (by omega)) (fun h=>hat 2 (by omega)) (fun h=>hat 3 (by omega)) hne
 rw [Lib.decode_N s,Lib.decode_N (s++t),rH,T9 s.data.toList _ i (by omega)];refine ⟨hb.1,?_⟩;have:=hb.2;omega
theorem J8 (s t:ByteArray) (ht:Dp t):∀ (F i f:Nat),i<=s.size->s.size+t.size<=i+F->s.size<=i+f->(bZ (s++t) F i).all pV=true->(bZ s f i).all pV=true/\(bZ t t.size 0).all pV=true
 | F,i,f,hi,hF,hf,hok=>by
  by_cases h:i<s.size
  ·cases F with
   | zero=>omega
   | succ F=>
    cases f with
    | zero=>omega
    | succ f=>
     rw [bZ,if_pos (by rw [ByteArray.size_append];omega),List.all_cons,Bool.and_eq_true] at hok;obtain ⟨hd,hw⟩:=Ua s t ht i h hok.1;have hw1:=Lib.decode_width_pos (s++t) i (by rw [ByteArray.size_append];omega);obtain ⟨r1,r2⟩:=J8 s t ht F (i+(Utf8.decode (s++t) i).2) f hw (by omega) (by omega) hok.2;rw [bZ,if_pos h,List.all_cons,hd];exact ⟨by rw [hok.1,r1];rfl,r2⟩
  ·have e:i=s.size:=by omega
   subst e;have h2:=qB s t F 0;rw [Nat.add_zero] at h2;rw [h2] at hok;rw [kT s f _ h,yj t t.size F 0 (by omega) (by omega)];exact ⟨rfl,hok⟩
theorem KU (s t:ByteArray) (ht:Dp t) (h:dW (s++t)=true):dW s=true/\dW t=true:=by unfold dW pts at h ⊢;exact J8 s t ht (s++t).size 0 s.size (by omega) (by rw [ByteArray.size_append];omega) (by omega) h
theorem Ju (l:List UInt8):(BP l).data.toList=l:=by unfold BP;simp
theorem oQ {s:ByteArray} (h:iA s=true):dW s=true:=by unfold iA at h;rw [Bool.and_eq_true] at h;exact h.1
theorem nP {s:ByteArray} (h:NG s):dW s=true:=oQ (Qq s h)
theorem gq:dW (⟨#[]⟩:ByteArray)=true:=nP (by intro c hc;simp at hc)
theorem Qr (c:UInt8) (h:fP c=true):32<=c.toNat/\c.toNat<127:=by unfold fP Rb jI ql at h;simp only [Bool.or_eq_true,Bool.and_eq_true,decide_eq_true_eq] at h;omega
theorem J9 (p:UInt8->Bool):∀ (l:List UInt8),(l.takeWhile p).length=l.length->∀ c∈l,p c=true
 | [],_,c,hc=>by cases hc
 | x::l,h,c,hc=>by
  rw [List.takeWhile_cons] at h;split at h
  ·rename_i hx
   rcases List.mem_cons.1 hc with rfl | hc
   ·exact hx
   ·exact J9 p l (by simpa using h) c hc
  ·simp at h
theorem Af (s:ByteArray) (h:fO s=true):NG s:=by unfold fO at h;simp only [Bool.and_eq_true,decide_eq_true_eq] at h;have h1:=h.2;unfold Bc at h1;intro c hc;exact Qr c (J9 fP _ (by rw [h1];simp) c hc)
theorem Rt (s:ByteArray):BP s.data.toList=s:=by apply ByteArray.ext;apply Array.toList_inj.1;show s.data.toList.toArray.toList=_;simp
theorem He {k:Int} {t d ti:ByteArray} {a:At} {ar:List ByteArray} {ci:List Ci} {ks:List aj} (h:zh k t d ti a ar ci ks=true):1<=k/\k<=16:=by unfold zh at h;simp only [Bool.and_eq_true,decide_eq_true_eq] at h;omega
mutual
def aj.src:aj->Prop
 | .mk k t d ti a ar ci ks=>su 0 false false k t d ti a ar ci ks=0/\aj.vU ks
def aj.vU:List aj->Prop
 | []=>True
 | x::l=>x.src/\aj.vU l
end
theorem Ub {before k:Int} {first last:Bool} {t d ti:ByteArray} {a:At} {ar:List ByteArray} {ci:List Ci} {ks:List aj} (h:su before first last k t d ti a ar ci ks=0) : su 0 false false k t d ti a ar ci ks=0:=by
 unfold su at h ⊢;by_cases h0:zh k t d ti a ar ci ks=false
 ·rw [if_pos h0] at h;cases h
 rw [if_neg h0] at h ⊢;by_cases h1:k=1\/k=4\/k=5
 ·rw [if_pos h1] at h ⊢;by_cases h4:eP t=true\/iA t=false
  ·rw [if_pos h4] at h;cases h
  ·rw [if_neg h4,if_neg (by omega)]
 rw [if_neg h1] at h ⊢;by_cases h2:k=2
 ·rw [if_pos h2,if_neg (by simp)]
 rw [if_neg h2] at h ⊢;by_cases h3:k=3
 ·rw [if_pos h3,if_neg (by simp)]
 rw [if_neg h3] at h ⊢;exact h
mutual
theorem aj.Uc:∀ (x:aj) (before:Int) (first last:Bool) (dp:Nat),x.err before first last dp=0->x.src
 | .mk k t d ti a ar ci ks,before,first,last,dp,h=>by
  rw [aj.err] at h;rw [aj.src];by_cases h1:su before first last k t d ti a ar ci ks=0
  ·rw [if_neg (by simp [h1])] at h;exact ⟨Ub h1,aj.wU ks _ _ _ h⟩
  ·rw [if_pos h1] at h;exact absurd h h1
theorem aj.wU:∀ (l:List aj) (before:Int) (st:Bool) (dp:Nat),aj.aT before st dp l=0->aj.vU l
 | [],_,_,_,_=>by rw [aj.vU];trivial
 | x::l,before,st,dp,h=>by
  rw [aj.aT] at h;rw [aj.vU];split at h
  ·cases h
  ·split at h
   ·rename_i h2;exact absurd h h2
   ·rename_i h2
    exact ⟨aj.Uc x _ _ _ dp (Classical.not_not.1 h2),aj.wU l _ _ dp h⟩
end
theorem Sn (cl:ByteArray->Bool) {k lv:Int} {i t d ti:ByteArray} {a:At} {li:List aj} {ks:List ah} {par:Int} {dp:Nat} (h:(ah.mk k lv i t d ti a li ks).err cl par dp=0) : uX cl k lv i t d ti a li ks=0/\EH k lv i t d ti a li ks=true/\ah.aT cl k (dp+1) ks=0:=by
 rw [ah.err] at h;split at h
 ·cases h
 ·split at h
  ·cases h
  ·rename_i hb
   split at h
   ·rename_i h1;exact absurd h h1
   ·rename_i h1
    refine ⟨Classical.not_not.1 h1,?_,h⟩;cases hx:EH k lv i t d ti a li ks
    ·exact absurd (.inl hx) hb
    ·rfl
theorem OJ (cl:ByteArray->Bool) {k lv:Int} {i t d ti:ByteArray} {a:At} {li:List aj} {ks:List ah} (h2:uX cl k lv i t d ti a li ks=0) (hbf:EH k lv i t d ti a li ks=true):dK li=0:=by
 unfold uX at h2;by_cases c1:k=1
 ·rw [if_pos c1] at h2;split at h2
  ·cases h2
  ·exact h2
 rw [if_neg c1] at h2;by_cases c2:k=2
 ·rw [if_pos c2] at h2;split at h2
  ·cases h2
  ·split at h2
   ·rename_i h3;exact absurd h2 h3
   ·split at h2
    ·cases h2
    ·exact h2
 rw [if_neg c2] at h2;by_cases c3:k=12
 ·rw [if_pos c3] at h2;split at h2
  ·cases h2
  ·exact h2
 ·have:li=[]:=by
   unfold EH at hbf;simp only [Bool.and_eq_true] at hbf;have b8:=hbf.1.2;rw [Bool.or_eq_true] at b8;rcases b8 with b8 | b8
   ·simp at b8;omega
   ·simpa using b8
  rw [this];unfold dK;rw [aj.aT]
theorem uY (cl:ByteArray->Bool) (par:Int) (dp:Nat):∀ (l:List ah),ah.aT cl par dp l=0↔∀ b∈l,b.err cl par dp=0
 | []=>by rw [ah.aT];exact ⟨fun _ b hb=>(by cases hb),fun _=>rfl⟩
 | x::l=>by
  rw [ah.aT];by_cases h:x.err cl par dp=0
  ·rw [if_neg (by simp [h]),uY cl par dp l];constructor
   ·intro h1 b hb;rcases List.mem_cons.1 hb with rfl | hb
    ·exact h
    ·exact h1 b hb
   ·exact fun h1 b hb=>h1 b (List.mem_cons_of_mem _ hb)
  ·rw [if_pos h];exact ⟨fun h1=>absurd h1 h,fun h1=>absurd (h1 x (List.mem_cons_self ..)) h⟩
theorem wY (a:At) (h:a.err=0) (hn:eP a.id=false):fO a.id=true:=by
 unfold At.err at h;cases hx:fO a.id
 ·rw [if_pos ⟨hn,hx⟩] at h;cases h
 ·rfl
open Go.RowKit
def rJ (b:Nat):Nat:=if b<128 then 1 else if 194<=b/\b<=223 then 2 else if 224<=b/\b<=239 then 3 else if 240<=b/\b<=244 then 4 else 0
theorem jV (c:Nat) (w:js1) (hc:c<256) : Calls Tryz.prog 143 #[.int .u8 (c:Int)] w fun e w'=>e=.returned (.int .i64 (rJ c:Nat))/\w=w':=by
 go_enter Tryz.func143,Tryz.ntmps143;go_wp2;all_goals
  go_ret;refine ⟨jT ?_,rfl⟩;unfold rJ
  (repeat' split)<;>omega
theorem rM (c:Nat) (w:js1) (hc:c<256) : Calls Tryz.prog 144 #[.int .u8 (c:Int)] w fun e w'=>e=.returned (.tuple #[.int .u8 (mD c:Nat),.int .u8 (oD c:Nat)])/\w=w':=by
 go_enter Tryz.func144,Tryz.ntmps144;go_wp2;all_goals
  go_ret2
  refine ⟨?_,rfl⟩
  (try simp only [beq_iff_eq,beq_eq_false_iff_ne,ne_eq] at *)
  unfold mD oD
  (repeat' split)<;>first | rfl | (exfalso;omega)
def Mw (c:Nat):Bool:=(decide (c<32)&&!decide (c=10))||decide (c=127)
theorem zN (c:Nat) (w:js1) (hc:c<=1114111) : Calls Tryz.prog 101 #[.int .i64 (c:Int)] w fun e w'=>e=.returned (.bool (Mw c))/\w=w':=by
 go_enter Tryz.func101,Tryz.ntmps101;go_wp2;all_goals
  go_ret;refine ⟨E8 ?_,rfl⟩;unfold Mw
  (try simp only [beq_iff_eq,beq_eq_false_iff_ne,ne_eq,bne_iff_ne,bne_eq_false_iff_eq] at *)
  rw [jp3];simp
  (try omega)
theorem nW (a:Nat) (ha:a<9223372036854775808):(BitVec.ofInt 64 (a:Int)).toNat=a:=by rw [BitVec.ofInt_natCast,BitVec.toNat_ofNat];exact Nat.mod_eq_of_lt (by omega)
theorem nH (a b:Nat) (ha:a<9223372036854775808) (hb:b<9223372036854775808):bits .and .i64 (a:Int) (b:Int)=((a &&& b:Nat):Int):=by have hx:a &&& b<2 ^ 63:=Nat.and_lt_two_pow _ (by omega);show IntKind.i64.wrap ((BitVec.ofInt 64 (a:Int) &&& BitVec.ofInt 64 (b:Int)).toNat:Int)=_;rw [BitVec.toNat_and,nW a ha,nW b hb,IntKind.wrap_i64];omega
theorem IY (a b:Nat) (ha:a<9223372036854775808) (hb:b<9223372036854775808):bits .or .i64 (a:Int) (b:Int)=((a ||| b:Nat):Int):=by
 have hx:a ||| b<2 ^ 63:=Nat.or_lt_two_pow (by omega) (by omega)
 show IntKind.i64.wrap ((BitVec.ofInt 64 (a:Int) ||| BitVec.ofInt 64 (b:Int)).toNat:Int)=_;rw [BitVec.toNat_or,nW a ha,nW b hb,IntKind.wrap_i64];omega
def jZ (s:ByteArray):Nat->Nat->Nat->Option Nat
 | 0,_,c=>some c
 | r+1,p,c=>if p<s.size/\128<=bt s p/\bt s p<=191 then jZ s r (p+1) (c*64+(bt s p-128)) else none
def LY (s:ByteArray) (i:Nat) (n:Nat):Option Nat->Nat × Nat
 | none=>(65533,1)
 | some c=>(c,n)
theorem Fe (s:ByteArray) (i:Nat) (hi:i<s.size) (h:194<=bt s i) (h':bt s i<=223):Utf8.decode s i=LY s i 2 (jZ s 1 (i+1) (bt s i%32)):=by
 obtain ⟨d1,d2⟩:=CF s i hi h h';unfold cO at d1 d2;rw [jZ,jZ];split
 ·rename_i hc
  rw [if_pos hc] at d1 d2;obtain ⟨e1,e2⟩:=d2 (by omega);refine Prod.ext ?_ e2;show _=bt s i%32*64+(bt s (i+1)-128);omega
 ·rename_i hc
  rw [if_neg hc] at d1;exact d1 (by omega)
theorem Fg (s:ByteArray) (i:Nat) (hi:i<s.size) (h:224<=bt s i) (h':bt s i<=239) : ((¬ (i+1<s.size/\mD (bt s i)<=bt s (i+1)/\bt s (i+1)<=oD (bt s i))\/s.size<i+3)->Utf8.decode s i=(65533,1)) /\ (mD (bt s i)<=bt s (i+1)->bt s (i+1)<=oD (bt s i)->Utf8.decode s i=LY s i 3 (jZ s 2 (i+1) (bt s i%16))):=by
 obtain ⟨d1,d2⟩:=Mv s i hi h h';have hl:128<=mD (bt s i):=by unfold mD;split<;>(try split)<;>omega
 have hh:oD (bt s i)<=191:=by unfold oD;split<;>(try split)<;>omega
 unfold cO at d1 d2;constructor
 ·rintro (hc | hc)
  ·rw [if_neg hc] at d1;exact d1 (.inl (by omega))
  ·rw [if_neg (c:=i+2<s.size/\_) (by omega)] at d1;exact d1 (.inr (by omega))
 ·intro h1 h2;rw [jZ,jZ,jZ,show i+1+1=i+2 from rfl];by_cases k1:i+1<s.size
  ·have hc:i+1<s.size/\mD (bt s i)<=bt s (i+1)/\bt s (i+1)<=oD (bt s i):=⟨k1,h1,h2⟩;rw [if_pos hc] at d1 d2;rw [if_pos ⟨k1,by omega,by omega⟩];split
   ·rename_i hc2
    rw [if_pos hc2] at d2;obtain ⟨e1,e2⟩:=d2 (by omega) (by omega);refine Prod.ext ?_ e2;show _=(bt s i%16*64+(bt s (i+1)-128))*64+(bt s (i+2)-128);omega
   ·rename_i hc2
    rw [if_neg (c:=i+2<s.size/\_) hc2] at d1;exact d1 (.inr (by omega))
  ·rw [if_neg (c:=i+1<s.size/\mD _<=_/\_) (by omega)] at d1;rw [if_neg (by omega)];exact d1 (.inl (by omega))
theorem Fh (s:ByteArray) (i:Nat) (hi:i<s.size) (h:240<=bt s i) (h':bt s i<=244) : ((¬ (i+1<s.size/\mD (bt s i)<=bt s (i+1)/\bt s (i+1)<=oD (bt s i))\/s.size<i+4)->Utf8.decode s i=(65533,1)) /\ (mD (bt s i)<=bt s (i+1)->bt s (i+1)<=oD (bt s i)->Utf8.decode s i=LY s i 4 (jZ s 3 (i+1) (bt s i%8))):=by
 obtain ⟨d1,d2⟩:=Qk s i hi h h';have hl:128<=mD (bt s i):=by unfold mD;split<;>(try split)<;>omega
 have hh:oD (bt s i)<=191:=by unfold oD;split<;>(try split)<;>omega
 unfold cO at d1 d2;constructor
 ·rintro (hc | hc)
  ·rw [if_neg hc] at d1;exact d1 (.inl (by omega))
  ·rw [if_neg (c:=i+3<s.size/\_) (by omega)] at d1;exact d1 (.inr (.inr (by omega)))
 ·intro h1 h2;rw [jZ,jZ,jZ,jZ,show i+1+1=i+2 from rfl,show i+2+1=i+3 from rfl];by_cases k1:i+1<s.size
  ·have hc:i+1<s.size/\mD (bt s i)<=bt s (i+1)/\bt s (i+1)<=oD (bt s i):=⟨k1,h1,h2⟩;rw [if_pos hc] at d1 d2;rw [if_pos ⟨k1,by omega,by omega⟩];by_cases hc2:i+2<s.size/\128<=bt s (i+2)/\bt s (i+2)<=191
   ·rw [if_pos hc2] at d1 d2;rw [if_pos (by exact hc2)];split
    ·rename_i hc3
     rw [if_pos hc3] at d2;obtain ⟨e1,e2⟩:=d2 (by omega) (by omega) (by omega);refine Prod.ext ?_ e2;show _=((bt s i%8*64+(bt s (i+1)-128))*64+(bt s (i+2)-128))*64+(bt s (i+3)-128);omega
    ·rename_i hc3
     rw [if_neg (c:=i+3<s.size/\_) hc3] at d1;exact d1 (.inr (.inr (by omega)))
   ·rw [if_neg hc2] at d1;rw [if_neg (by exact hc2)];exact d1 (.inr (.inl (by omega)))
  ·rw [if_neg (c:=i+1<s.size/\mD _<=_/\_) (by omega)] at d1;rw [if_neg (by omega)];exact d1 (.inl (by omega))
theorem Yl (c b:Nat) (hb:b<64):(c*64) ||| b=c*64+b:=by rw [show 64=2 ^ 6 from rfl] at *;rw [Nat.mul_comm,<- Nat.two_pow_add_eq_or_of_lt hb]
theorem IZ (c bk:Nat) (hc:c<262144) (h1:128<=bk) (h2:bk<=191):bits .or .i64 ((c:Int)*64) ((bk:Int)%64)=((c*64+(bk-128):Nat):Int):=by
 have hw:((c:Int)*64)=((c*64:Nat):Int):=by omega
 have hm:((bk:Int)%64)=((bk%64:Nat):Int):=by omega
 rw [hw,hm,IY _ _ (by omega) (by omega),Yl _ _ (by omega)];omega
def Ka (s:ByteArray) (i n:Nat) (R:Option Nat) (vc vk:js3):Prop:=∃ k c:Nat,k<=n-1/\c<64 ^ (k+1)/\vk=.int .i64 k/\vc=.int .i64 c/\jZ s (n-1-k) (i+1+k) c=R
theorem pW (s:ByteArray) (i n b1:Nat) (w:js1) (hs:s.size<=100000000000000) (hn:i+n<=s.size) (h2:2<=n) (h4:n<=4) (hw:rJ (bt s i)=n) (hb1:bt s (i+1)=b1) (hl:mD (bt s i)<=b1) (hh:b1<=oD (bt s i)) : Calls Tryz.prog 100 #[.string s,.int .i64 (i:Int)] w fun e w'=>e=.returned (.tuple #[.int .i64 (LY s i n (jZ s (n-1) (i+1) (bt s i%2 ^ (7-n)))).1,.int .i64 (LY s i n (jZ s (n-1) (i+1) (bt s i%2 ^ (7-n)))).2])/\∃ q,w'=w.drewN q:=by
 have hb:=gY s i;have hi:i<s.size:=by omega
 have hi1:i+1<s.size:=by omega
 have e0:=bN s i hi;have e1:=bN s (i+1) hi1;rw [hb1] at e1;obtain ⟨b0,hb0⟩:∃ b0,bt s i=b0:=⟨_,rfl⟩;rw [hb0] at e0 hb hw hl hh ⊢;have WD:=hid (fun w=>jV b0 w hb);rw [hw] at WD;have SD:=hid (fun w=>rM b0 w hb);generalize mD b0=lo at *;generalize oD b0=hi_ at *;clear hb0 hw hb1;have a31:bits .and .i64 (b0:Int) 31=((b0%32:Nat):Int):=by rw [show (31:Int)=((31:Nat):Int) from rfl,nH b0 31 (by omega) (by omega),show 31=2 ^ 5-1 from rfl,Nat.and_two_pow_sub_one_eq_mod]
 have a15:bits .and .i64 (b0:Int) 15=((b0%16:Nat):Int):=by rw [show (15:Int)=((15:Nat):Int) from rfl,nH b0 15 (by omega) (by omega),show 15=2 ^ 4-1 from rfl,Nat.and_two_pow_sub_one_eq_mod]
 have a7:bits .and .i64 (b0:Int) 7=((b0%8:Nat):Int):=by rw [show (7:Int)=((7:Nat):Int) from rfl,nH b0 7 (by omega) (by omega),show 7=2 ^ 3-1 from rfl,Nat.and_two_pow_sub_one_eq_mod]
 obtain ⟨R,hR⟩:∃ R,jZ s (n-1) (i+1) (b0%2 ^ (7-n))=R:=⟨_,rfl⟩;obtain ⟨c0,hc0⟩:∃ c0,b0%2 ^ (7-n)=c0:=⟨_,rfl⟩;have jkz:c0<64:=by rw [<- hc0];have:=Nat.mod_lt b0 (show 0<2 ^ (7-n) by exact Nat.two_pow_pos _);have h:=Nat.pow_le_pow_right (show 0<2 by omega) (show 7-n<=5 by omega);omega
 rw [hR];rw [hc0] at hR;have R0:Hid (Ka s i n R (.int .i64 c0) (.int .i64 0)):=⟨0,c0,jpj _,by simpa using jkz,rfl,rfl,hR⟩;clear hR;obtain rfl | rfl | rfl:n=2\/n=3\/n=4:=by omega
 ·have hc0:b0%32=c0:=hc0;rw [hc0] at a31;clear a15 a7;have HC0:=hid hc0;clear hc0;have q2:decide ((s.size:Int)-(i:Int)<2)=false:=by simp;omega
  have q1:decide ((i:Int)<0)=false:=by simp
  have q3:decide (b1<lo)=false:=by simp;omega
  have q4:decide (hi_<b1)=false:=by simp;omega
  go_enter Tryz.func100,Tryz.ntmps100;go_wp2_with (first | (go_at_call 143;refine (WD.out _).mono ?_;rintro e w1 ⟨rfl,rfl⟩) | (go_at_call 144;refine (SD.out _).mono ?_;rintro e w1 ⟨rfl,rfl⟩))
  go_quiet (fail)
  go_wp2
  go_loop [4,71] (fun c k=>Ka s i 2 R c k) (fun _ k=>2-(intOf k).toNat)
  case atStart=>exact R0.out
  case round=>
   clear R0 a31;obtain ⟨k,c,hk,hc,rfl,rfl,hg⟩:=hrel;have HG:=hid hg;clear hg;by_cases hk1:k<1
   ·have hik:i+1+k<s.size:=by omega
    have ek:=bN s (i+1+k) hik;have hbk:=gY s (i+1+k);have hcc:c<262144:=by have h:=Nat.pow_le_pow_right (show 0<64 by omega) (show k+1<=3 by omega);omega
    have hst:jZ s (2-1-k) (i+1+k) c=if i+1+k<s.size/\128<=bt s (i+1+k)/\bt s (i+1+k)<=191 then jZ s (2-1-(k+1)) (i+1+(k+1)) (c*64+(bt s (i+1+k)-128)) else none:=by rw [show 2-1-k=(2-1-(k+1))+1 by omega,jZ];rfl
    obtain ⟨bk,hbe⟩:∃ bk,bt s (i+1+k)=bk:=⟨_,rfl⟩;rw [hbe] at ek hbk hst;have HST:=hid hst;clear hst hbe;by_cases hgd:128<=bk/\bk<=191
    ·have hor:=IZ c bk hcc hgd.1 hgd.2;have HR2:Hid (jZ s (2-1-(k+1)) (i+1+(k+1)) (c*64+(bk-128))=R):=by
      show _=_;rw [<- HG.out,HST.out,if_pos ⟨hik,hgd⟩]
     have hcn:c*64+(bk-128)<64 ^ (k+1+1):=by rw [Nat.pow_succ];omega
     obtain ⟨cn,F4⟩:∃ cn,c*64+(bk-128)=cn:=⟨_,rfl⟩;rw [F4] at hor HR2 hcn;have HCN:=hid hcn;obtain ⟨g1,g2⟩:=hgd;clear hc hcn F4 HST HG;go_wp2
     go_round
     case rel=>exact ⟨k+1,cn,by omega,HCN.out,by go_num,rfl,HR2.out⟩
     case measure=>simp [intOf];omega
    ·have HR2:Hid (R=none):=by
      show _=_;rw [<- HG.out,HST.out,if_neg (fun h=>hgd h.2)]
     have hgd:bk<128\/191<bk:=by omega
     clear hc HST HG;rcases hgd with hgd | hgd
     all_goals
      go_wp2
      go_ret2
      exact ⟨by rw [HR2.out];rfl,_,rfl⟩
   ·obtain rfl:k=1:=by omega
    have HR2:Hid (R=some c):=by show _=_;rw [<- HG.out];rfl
    clear hc HG hk1;go_wp2
    go_ret2
    exact ⟨by rw [HR2.out];rfl,_,rfl⟩
 ·have hc0:b0%16=c0:=hc0;rw [hc0] at a15;clear a31 a7;have HC0:=hid hc0;clear hc0;have q2:decide ((s.size:Int)-(i:Int)<3)=false:=by simp;omega
  have q1:decide ((i:Int)<0)=false:=by simp
  have q3:decide (b1<lo)=false:=by simp;omega
  have q4:decide (hi_<b1)=false:=by simp;omega
  go_enter Tryz.func100,Tryz.ntmps100;go_wp2_with (first | (go_at_call 143;refine (WD.out _).mono ?_;rintro e w1 ⟨rfl,rfl⟩) | (go_at_call 144;refine (SD.out _).mono ?_;rintro e w1 ⟨rfl,rfl⟩))
  go_quiet (fail)
  go_wp2
  go_loop [4,71] (fun c k=>Ka s i 3 R c k) (fun _ k=>3-(intOf k).toNat)
  case atStart=>exact R0.out
  case round=>
   clear R0 a15;obtain ⟨k,c,hk,hc,rfl,rfl,hg⟩:=hrel;have HG:=hid hg;clear hg;by_cases hk1:k<2
   ·have hik:i+1+k<s.size:=by omega
    have ek:=bN s (i+1+k) hik;have hbk:=gY s (i+1+k);have hcc:c<262144:=by have h:=Nat.pow_le_pow_right (show 0<64 by omega) (show k+1<=3 by omega);omega
    have hst:jZ s (3-1-k) (i+1+k) c=if i+1+k<s.size/\128<=bt s (i+1+k)/\bt s (i+1+k)<=191 then jZ s (3-1-(k+1)) (i+1+(k+1)) (c*64+(bt s (i+1+k)-128)) else none:=by rw [show 3-1-k=(3-1-(k+1))+1 by omega,jZ];rfl
    obtain ⟨bk,hbe⟩:∃ bk,bt s (i+1+k)=bk:=⟨_,rfl⟩;rw [hbe] at ek hbk hst;have HST:=hid hst;clear hst hbe;by_cases hgd:128<=bk/\bk<=191
    ·have hor:=IZ c bk hcc hgd.1 hgd.2;have HR2:Hid (jZ s (3-1-(k+1)) (i+1+(k+1)) (c*64+(bk-128))=R):=by
      show _=_;rw [<- HG.out,HST.out,if_pos ⟨hik,hgd⟩]
     have hcn:c*64+(bk-128)<64 ^ (k+1+1):=by rw [Nat.pow_succ];omega
     obtain ⟨cn,F4⟩:∃ cn,c*64+(bk-128)=cn:=⟨_,rfl⟩;rw [F4] at hor HR2 hcn;have HCN:=hid hcn;obtain ⟨g1,g2⟩:=hgd;clear hc hcn F4 HST HG;go_wp2
     go_round
     case rel=>exact ⟨k+1,cn,by omega,HCN.out,by go_num,rfl,HR2.out⟩
     case measure=>simp [intOf];omega
    ·have HR2:Hid (R=none):=by
      show _=_;rw [<- HG.out,HST.out,if_neg (fun h=>hgd h.2)]
     have hgd:bk<128\/191<bk:=by omega
     clear hc HST HG;rcases hgd with hgd | hgd
     all_goals
      go_wp2
      go_ret2
      exact ⟨by rw [HR2.out];rfl,_,rfl⟩
   ·obtain rfl:k=2:=by omega
    have HR2:Hid (R=some c):=by show _=_;rw [<- HG.out];rfl
    clear hc HG hk1;go_wp2
    go_ret2
    exact ⟨by rw [HR2.out];rfl,_,rfl⟩
 ·have hc0:b0%8=c0:=hc0;rw [hc0] at a7;clear a31 a15;have HC0:=hid hc0;clear hc0;have q2:decide ((s.size:Int)-(i:Int)<4)=false:=by simp;omega
  have q1:decide ((i:Int)<0)=false:=by simp
  have q3:decide (b1<lo)=false:=by simp;omega
  have q4:decide (hi_<b1)=false:=by simp;omega
  go_enter Tryz.func100,Tryz.ntmps100;go_wp2_with (first | (go_at_call 143;refine (WD.out _).mono ?_;rintro e w1 ⟨rfl,rfl⟩) | (go_at_call 144;refine (SD.out _).mono ?_;rintro e w1 ⟨rfl,rfl⟩))
  go_quiet (fail)
  go_wp2
  go_loop [4,71] (fun c k=>Ka s i 4 R c k) (fun _ k=>4-(intOf k).toNat)
  case atStart=>exact R0.out
  case round=>
   clear R0 a7;obtain ⟨k,c,hk,hc,rfl,rfl,hg⟩:=hrel;have HG:=hid hg;clear hg;by_cases hk1:k<3
   ·have hik:i+1+k<s.size:=by omega
    have ek:=bN s (i+1+k) hik;have hbk:=gY s (i+1+k);have hcc:c<262144:=by have h:=Nat.pow_le_pow_right (show 0<64 by omega) (show k+1<=3 by omega);omega
    have hst:jZ s (4-1-k) (i+1+k) c=if i+1+k<s.size/\128<=bt s (i+1+k)/\bt s (i+1+k)<=191 then jZ s (4-1-(k+1)) (i+1+(k+1)) (c*64+(bt s (i+1+k)-128)) else none:=by rw [show 4-1-k=(4-1-(k+1))+1 by omega,jZ];rfl
    obtain ⟨bk,hbe⟩:∃ bk,bt s (i+1+k)=bk:=⟨_,rfl⟩;rw [hbe] at ek hbk hst;have HST:=hid hst;clear hst hbe;by_cases hgd:128<=bk/\bk<=191
    ·have hor:=IZ c bk hcc hgd.1 hgd.2;have HR2:Hid (jZ s (4-1-(k+1)) (i+1+(k+1)) (c*64+(bk-128))=R):=by
      show _=_;rw [<- HG.out,HST.out,if_pos ⟨hik,hgd⟩]
     have hcn:c*64+(bk-128)<64 ^ (k+1+1):=by rw [Nat.pow_succ];omega
     obtain ⟨cn,F4⟩:∃ cn,c*64+(bk-128)=cn:=⟨_,rfl⟩;rw [F4] at hor HR2 hcn;have HCN:=hid hcn;obtain ⟨g1,g2⟩:=hgd;clear hc hcn F4 HST HG;go_wp2
     go_round
     case rel=>exact ⟨k+1,cn,by omega,HCN.out,by go_num,rfl,HR2.out⟩
     case measure=>simp [intOf];omega
    ·have HR2:Hid (R=none):=by
      show _=_;rw [<- HG.out,HST.out,if_neg (fun h=>hgd h.2)]
     have hgd:bk<128\/191<bk:=by omega
     clear hc HST HG;rcases hgd with hgd | hgd
     all_goals
      go_wp2
      go_ret2
      exact ⟨by rw [HR2.out];rfl,_,rfl⟩
   ·obtain rfl:k=3:=by omega
    have HR2:Hid (R=some c):=by show _=_;rw [<- HG.out];rfl
    clear hc HG hk1;go_wp2
    go_ret2
    exact ⟨by rw [HR2.out];rfl,_,rfl⟩
def Dr (v:js3) (w:js1) (e:Ending) (w':js1):Prop:=e=.returned v/\∃ q,w'=w.drewN q
theorem I5 (s:ByteArray) (i:Nat) (w:js1) (hs:s.size<=100000000000000) (hi:i<s.size) : Calls Tryz.prog 100 #[.string s,.int .i64 (i:Int)] w (Dr (.tuple #[.int .i64 (Utf8.decode s i).1,.int .i64 (Utf8.decode s i).2]) w):=by
 have hb:=gY s i;have e0:=bN s i hi;have q1:decide ((i:Int)<0)=false:=by simp
 by_cases c1:bt s i<128
 ·rw [Cz s i c1];obtain ⟨b0,hb0⟩:∃ b0,bt s i=b0:=⟨_,rfl⟩;rw [hb0] at e0 hb c1 ⊢;have hw:rJ b0=1:=by unfold rJ;rw [if_pos c1]
  have WD:=hid (fun w=>jV b0 w hb);rw [hw] at WD;clear hw hb0;go_enter Tryz.func100,Tryz.ntmps100;go_wp2_with ((go_at_call 143;refine (WD.out _).mono ?_;rintro e w1 ⟨rfl,rfl⟩))
  go_ret2
  exact ⟨rfl,0,rfl⟩
 by_cases c2:bt s i<194\/244<bt s i
 ·rw [JW s i (by omega) c2];obtain ⟨b0,hb0⟩:∃ b0,bt s i=b0:=⟨_,rfl⟩;rw [hb0] at e0 hb c1 c2;have hw:rJ b0=0:=by unfold rJ;(repeat' split)<;>omega
  have WD:=hid (fun w=>jV b0 w hb);rw [hw] at WD;clear hw hb0 c2;go_enter Tryz.func100,Tryz.ntmps100;go_wp2_with ((go_at_call 143;refine (WD.out _).mono ?_;rintro e w1 ⟨rfl,rfl⟩))
  go_ret2
  exact ⟨rfl,0,rfl⟩
 have bad:∀ n:Nat,2<=n->n<=4->rJ (bt s i)=n->(s.size<i+n\/bt s (i+1)<mD (bt s i)\/oD (bt s i)<bt s (i+1)) ->
   Calls Tryz.prog 100 #[.string s,.int .i64 (i:Int)] w (Dr (.tuple #[.int .i64 65533,.int .i64 1]) w):=by
  intro n h2 h4 hw hbad;obtain ⟨b0,hb0⟩:∃ b0,bt s i=b0:=⟨_,rfl⟩;rw [hb0] at e0 hb hw hbad;have WD:=hid (fun w=>jV b0 w hb);rw [hw] at WD;have hn0:((n:Int)==0)=false:=by rw [beq_eq_false_iff_ne];omega
  have hn1:((n:Int)==1)=false:=by rw [beq_eq_false_iff_ne];omega
  by_cases hsz:s.size<i+n
  ·have q2:decide ((s.size:Int)-(i:Int)<(n:Int))=true:=by simp;omega
   clear hw hb0 hbad;go_enter Tryz.func100,Tryz.ntmps100;go_wp2_with ((go_at_call 143;refine (WD.out _).mono ?_;rintro e w1 ⟨rfl,rfl⟩))
   go_ret2
   exact ⟨rfl,0,rfl⟩
  ·have q2:decide ((s.size:Int)-(i:Int)<(n:Int))=false:=by simp;omega
   have hi1:i+1<s.size:=by omega
   have e1:=bN s (i+1) hi1;have SD:=hid (fun w=>rM b0 w hb);have hbad:bt s (i+1)<mD b0\/oD b0<bt s (i+1):=by omega
   generalize mD b0=lo at *;generalize oD b0=hi_ at *;generalize bt s (i+1)=b1 at *;clear hw hb0 hsz;rcases hbad with hbad | hbad
   all_goals
    go_enter Tryz.func100,Tryz.ntmps100;go_wp2_with (first | (go_at_call 143;refine (WD.out _).mono ?_;rintro e w1 ⟨rfl,rfl⟩) | (go_at_call 144;refine (SD.out _).mono ?_;rintro e w1 ⟨rfl,rfl⟩))
    all_goals
     go_ret2
     exact ⟨rfl,0,rfl⟩
 by_cases c3:bt s i<=223
 ·have hw:rJ (bt s i)=2:=by unfold rJ;(repeat' split)<;>omega
  by_cases hbd:s.size<i+2\/bt s (i+1)<mD (bt s i)\/oD (bt s i)<bt s (i+1)
  ·have hd:Utf8.decode s i=(65533,1):=by
    refine (CF s i hi (by omega) c3).1 ?_;have hl:mD (bt s i)=128:=by unfold mD;(repeat' split)<;>omega
    have hh:oD (bt s i)=191:=by unfold oD;(repeat' split)<;>omega
    unfold cO;rw [if_neg (by omega)];omega
   rw [hd];exact bad 2 (by omega) (by omega) hw hbd
  ·rw [Fe s i hi (by omega) c3];exact pW s i 2 _ w hs (by omega) (by omega) (by omega) hw rfl (by omega) (by omega)
 by_cases c4:bt s i<=239
 ·have hw:rJ (bt s i)=3:=by unfold rJ;(repeat' split)<;>omega
  obtain ⟨d1,d2⟩:=Fg s i hi (by omega) c4;by_cases hbd:s.size<i+3\/bt s (i+1)<mD (bt s i)\/oD (bt s i)<bt s (i+1)
  ·rw [d1 (by omega)];exact bad 3 (by omega) (by omega) hw hbd
  ·rw [d2 (by omega) (by omega)];exact pW s i 3 _ w hs (by omega) (by omega) (by omega) hw rfl (by omega) (by omega)
 ·have hw:rJ (bt s i)=4:=by unfold rJ;(repeat' split)<;>omega
  obtain ⟨d1,d2⟩:=Fh s i hi (by omega) (by omega);by_cases hbd:s.size<i+4\/bt s (i+1)<mD (bt s i)\/oD (bt s i)<bt s (i+1)
  ·rw [d1 (by omega)];exact bad 4 (by omega) (by omega) hw hbd
  ·rw [d2 (by omega) (by omega)];exact pW s i 4 _ w hs (by omega) (by omega) (by omega) hw rfl (by omega) (by omega)
def VK (s:ByteArray) (V:Bool) (w:js1) (vi:js3) (wr:js1):Prop:=∃ i f q:Nat,i<=s.size/\s.size<=i+f/\vi=.int .i64 i/\(bZ s f i).all pV=V/\wr=w.drewN q
theorem jN (s:ByteArray) (w:js1) (hs:s.size<=100000000000000) : Calls Tryz.prog 53 #[.string s] w (Dr (.bool (dW s)) w):=by
 obtain ⟨V,hV⟩:∃ V,V=dW s:=⟨_,rfl⟩;rw [<- hV];have R0:Hid (VK s V w (.int .i64 0) w):=⟨0,s.size,0,jpj _,by omega,rfl,by rw [hV];rfl,rfl⟩;clear hV;go_enter Tryz.func53,Tryz.ntmps53;go_wp2
 go_loopw [3] (fun i wr=>VK s V w i wr) (fun i _=>s.size-(intOf i).toNat)
 case atStart=>exact R0.out
 case round=>
  clear R0;obtain ⟨i,f,q,hi,hf,rfl,hall,rfl⟩:=hrel;by_cases hlt:i<s.size
  ·have NX:=hid (I5 s i (w.drewN q) hs hlt);have hd:=uQ s i hlt;have hp:=nL s i;have hc:(Utf8.decode s i).1<=1114111:=Kc s 1 i (Utf8.decode s i) (by rw [bZ,if_pos hlt];simp);have hst:(pV (Utf8.decode s i)&&(bZ s (f-1) (i+(Utf8.decode s i).2)).all pV)=V:=by
    rw [<- hall];obtain ⟨f',rfl⟩:∃ f',f=f'+1:=⟨f-1,by omega⟩;rw [bZ,if_pos hlt];rfl
   have HST:=hid hst;clear hst hall;generalize Utf8.decode s i=d at *;obtain ⟨c,n⟩:=d;simp only at hd hp hc NX HST;have UN:=hid (fun w=>zN c w hc);by_cases hA:c=65533/\n=1
   ·obtain ⟨rfl,rfl⟩:=hA;have HV:Hid (V=false):=by show V=false;rw [<- HST.out];rfl
    clear HST;go_wp2_with fail
    refine NX.out.mono ?_;rintro e w1 ⟨rfl,q1,rfl⟩;go_wp2;go_ret;exact ⟨by rw [HV.out];rfl,_,rfl⟩
   ·have hok:pV (c,n)=!Mw c:=by
     unfold pV Mw;rw [jp3];simp;omega
    have JI:=hid hok;clear hok;have k1:((c:Int)==65533)=decide (c=65533):=by rw [jp3];simp;omega
    have k2:((n:Int)==1)=decide (n=1):=by rw [jp3];simp;omega
    by_cases hc5:c=65533
    ·have hn1:n≠1:=fun h=>hA ⟨hc5,h⟩
     have l1:((c:Int)==65533)=true:=by rw [k1];simpa using hc5
     have l2:((n:Int)==1)=false:=by rw [k2];simpa using hn1
     clear hn1;cases hu:Mw c
     all_goals
      rw [hu] at UN JI;clear hA k1 k2 hu hc5;go_wp2_with fail
      refine NX.out.mono ?_;rintro e w1 ⟨rfl,q1,rfl⟩;go_wp2_with fail
      refine (UN.out _).mono ?_;rintro e w1 ⟨rfl,rfl⟩;go_wp2
     ·go_roundw;case rel=>exact ⟨i+n,f-1,q+q1,hd,by omega,by go_num,by rw [<- HST.out,JI.out];simp,rfl⟩
      case measure=>simp [intOf];omega
     ·go_ret;exact ⟨by rw [<- HST.out,JI.out];rfl,_,rfl⟩
    ·have l1:((c:Int)==65533)=false:=by rw [k1];simpa using hc5
     cases hu:Mw c
     all_goals
      rw [hu] at UN JI;clear hA k1 k2 hu hc5;go_wp2_with fail
      refine NX.out.mono ?_;rintro e w1 ⟨rfl,q1,rfl⟩;go_wp2_with fail
      refine (UN.out _).mono ?_;rintro e w1 ⟨rfl,rfl⟩;go_wp2
     ·go_roundw;case rel=>exact ⟨i+n,f-1,q+q1,hd,by omega,by go_num,by rw [<- HST.out,JI.out];simp,rfl⟩
      case measure=>simp [intOf];omega
     ·go_ret;exact ⟨by rw [<- HST.out,JI.out];rfl,_,rfl⟩
  ·have HV:Hid (V=true):=by
    show V=true;rw [<- hall,kT s f i hlt];rfl
   clear hall;go_wp2;go_ret;exact ⟨by rw [HV.out];rfl,q,rfl⟩
open Go.RowKit
theorem nU:∀ (l:List UInt8) (c:UInt8),decide (Lib.indexByte l c<0)=l.all fun x=>!decide (x=c)
 | [],c=>rfl
 | b::l,c=>by
  have ih:=nU l c;have hge:=Lib.indexByte_ge l c;rw [Lib.indexByte,List.all_cons,<- ih];by_cases h:b=c
  ·subst h;simp
  ·have h1:(b==c)=false:=by simpa using h
   rw [h1];by_cases h2:Lib.indexByte l c=-1
   ·simp [h2,h]
   ·have h3:(Lib.indexByte l c==-1)=false:=by simpa using h2
    simp only [Bool.false_eq_true,if_false,h3];rw [jp3];simp [h];omega
theorem Mx (s:ByteArray):decide (Lib.indexByte s.data.toList ((10:Int).toNat.toUInt8)<0)=Yk s:=nU _ _
theorem F6 (s:ByteArray):iA s=(dW s&&decide (Lib.indexByte s.data.toList ((10:Int).toNat.toUInt8)<0)):=by rw [Mx];rfl
theorem Ct (s:ByteArray):s.toList.isEmpty=eP s:=by rw [Lib.toList_data,jp3];simp [eP]
theorem Qs (s:ByteArray):eP s=decide (s.size=0):=by
 have h:s.data.toList.length=s.size:=by simp
 unfold eP;rw [jp3,decide_eq_true_iff,decide_eq_true_iff,<- h,List.length_eq_zero_iff]
theorem Ym (s:ByteArray):eP s=decide (s=ByteArray.empty):=by
 unfold eP;rw [jp3,decide_eq_true_iff,decide_eq_true_iff];constructor
 ·intro h;exact ByteArray.ext (Array.ext' h)
 ·rintro rfl;rfl
theorem jA (s:ByteArray):s=ByteArray.empty\/(s≠ByteArray.empty/\0<s.size/\s.toList.isEmpty=false/\eP s=false):=by
 by_cases h:s=ByteArray.empty
 ·exact .inl h
 ·have h1:eP s=false:=by rw [Ym];simpa using h
  refine .inr ⟨h,?_,by rw [Ct];exact h1,h1⟩;rw [Qs] at h1;have:s.size≠0:=by simpa using h1
  omega
theorem Bf (s:ByteArray) (w:js1) (hs:s.size<=1000000000) : Calls Tryz.prog 236 #[.string s] w (Dr (.bool (iA s)) w):=by
 have VA:=hid (jN s w (by omega));have IB:=hid (fun w=>Tryz.strings_IndexByte s 10 w);have HL:=hid (F6 s);generalize iA s=V at *;generalize Lib.indexByte s.data.toList ((10:Int).toNat.toUInt8)=n at *;cases hv:dW s with
 | false=>
  rw [hv] at VA HL;clear hv;go_enter Tryz.func236,Tryz.ntmps236;go_wp2_with fail
  refine VA.out.mono ?_;rintro e w1 ⟨rfl,q,rfl⟩;go_wp2;go_ret;exact ⟨by rw [HL.out];rfl,_,rfl⟩
 | true=>
  rw [hv] at VA HL;clear hv;go_enter Tryz.func236,Tryz.ntmps236;go_wp2_with fail
  refine VA.out.mono ?_;rintro e w1 ⟨rfl,q,rfl⟩;go_wp2_with fail
  refine (IB.out _).mono ?_;rintro e w1 ⟨rfl,rfl⟩;go_wp2;go_ret;exact ⟨by rw [HL.out];rfl,_,rfl⟩
theorem PD (s:ByteArray) (w:js1) (hs:s.size<=1000000000) : Calls Tryz.prog 58 #[.string s] w (Dr (.bool (iA s)) w):=by
 have VA:=hid (jN s w (by omega));have IB:=hid (fun w=>Tryz.strings_IndexByte s 10 w);have HL:=hid (F6 s);generalize iA s=V at *;generalize Lib.indexByte s.data.toList ((10:Int).toNat.toUInt8)=n at *;cases hv:dW s with
 | false=>
  rw [hv] at VA HL;clear hv;go_enter Tryz.func58,Tryz.ntmps58;go_wp2_with fail
  refine VA.out.mono ?_;rintro e w1 ⟨rfl,q,rfl⟩;go_wp2;go_ret;exact ⟨by rw [HL.out];rfl,_,rfl⟩
 | true=>
  rw [hv] at VA HL;clear hv;go_enter Tryz.func58,Tryz.ntmps58;go_wp2_with fail
  refine VA.out.mono ?_;rintro e w1 ⟨rfl,q,rfl⟩;go_wp2_with fail
  refine (IB.out _).mono ?_;rintro e w1 ⟨rfl,rfl⟩;go_wp2;go_ret;exact ⟨by rw [HL.out];rfl,_,rfl⟩
theorem Ud (s:ByteArray) (c:UInt8) (h:0<s.size):decide (s.data.toList.head?=some c)=decide (bt s 0=c.toNat):=by
 have h1:s.data.toList.head?=some s[0]:=by rw [<- fF s 0 h];exact List.head?_eq_getElem?
 rw [h1,<- bN s 0 h,jp3];simp [UInt8.toNat_inj]
theorem Ke (s:ByteArray) (c:UInt8) (h:0<s.size):decide (s.data.toList.getLast?=some c)=decide (bt s (s.size-1)=c.toNat):=by
 have h1:s.data.toList.getLast?=some s[s.size-1]:=by rw [<- fF s (s.size-1) (by omega),List.getLast?_eq_getElem?];congr 1
 rw [h1,<- bN s (s.size-1) (by omega),jp3];simp [UInt8.toNat_inj]
theorem iV (s:ByteArray) (w:js1) (hs:s.size<=1000000000) : Calls Tryz.prog 59 #[.string s] w fun e w'=>e=.returned (.bool (trimS s))/\w=w':=by
 rcases jA s with rfl | ⟨hne,hp,hie,hes⟩
 ·go_enter Tryz.func59,Tryz.ntmps59;go_wp2;go_ret;exact ⟨rfl,rfl⟩
 ·have hv:trimS s=(!decide (bt s 0=32)&&!decide (bt s (s.size-1)=32)):=by
   unfold trimS;unfold eP at hes;rw [hes,Ud s 32 hp,Ke s 32 hp];rfl
  rw [hv];have e0:=bN s 0 hp;have e1:=bN s (s.size-1) (by omega);generalize bt s 0=b0 at *;generalize bt s (s.size-1)=b1 at *;have hsub:((s.size:Int)-1).toNat=s.size-1:=by omega
  clear hv hes;go_enter Tryz.func59,Tryz.ntmps59;go_wp2;all_goals
   go_ret;refine ⟨E8 ?_,rfl⟩
   (try simp only [beq_iff_eq,beq_eq_false_iff_ne,ne_eq,bne_iff_ne,bne_eq_false_iff_eq] at *)
   rw [jp3];simp
   (try omega)
theorem oG (s:ByteArray) (w:js1) (hs:s.size<=1000000000) : Calls Tryz.prog 193 #[.string s] w (Dr (.bool (gU s)) w):=by
 rcases jA s with rfl | ⟨hne,hp,hie,hes⟩
 ·go_enter Tryz.func193,Tryz.ntmps193;go_wp2;go_ret;exact ⟨rfl,0,rfl⟩
 ·have hv:gU s=(dW s&&decide (bt s (s.size-1)=10)):=by
   unfold gU;rw [hes,Ke s 10 hp];rfl
  rw [hv];have e1:=bN s (s.size-1) (by omega);have VA:=hid (jN s w (by omega));generalize bt s (s.size-1)=b1 at *;generalize dW s=V at *;have hsub:((s.size:Int)-1).toNat=s.size-1:=by omega
  clear hv hes;cases V
  all_goals
   go_enter Tryz.func193,Tryz.ntmps193;go_wp2_with fail
   refine VA.out.mono ?_;rintro e w1 ⟨rfl,q,rfl⟩;go_wp2;all_goals
    go_ret;refine ⟨E8 ?_,_,rfl⟩
    (try simp only [beq_iff_eq,beq_eq_false_iff_ne,ne_eq,bne_iff_ne,bne_eq_false_iff_eq] at *)
    (try rw [jp3])
    (try simp)
    (try omega)
open Go.RowKit
def gu (v:js3) (w:js1) (e:Ending) (w':js1):Prop:=e=.returned v/\Below w.heap.size w w'
theorem xw {α:Type} (l:List α):(((l.length:Nat):Int)==0)=l.isEmpty:=by
 cases l with
 | nil=>rfl
 | cons x l=>simp;omega
theorem pI (a:At) (ac ap:Option Addr) (cc cp:Nat) (w:js1) (hc:a.cls.length<=maxLen) (hp:a.aJ.length<=maxLen) : Calls Tryz.prog 189 #[.agg #[.string a.id,.slice ac a.cls.length cc,.slice ap a.aJ.length cp]] w (gu (.bool a.none) w):=by
 obtain ⟨id,cls,aJ⟩:=a;dsimp only at hc hp ⊢;have h1:=Ct id;have h2:=xw cls;have h3:=xw aJ;have HV:Hid (At.none ⟨id,cls,aJ⟩=(eP id&&cls.isEmpty&&aJ.isEmpty)):=rfl;generalize At.none ⟨id,cls,aJ⟩=V at *;generalize eP id=b1 at *;generalize cls.isEmpty=b2 at *;generalize aJ.isEmpty=b3 at *;cases b1<;>cases b2<;>cases b3
 all_goals
  go_enter Tryz.func189,Tryz.ntmps189;go_wp2;go_ret;exact ⟨by rw [HV.out];rfl,(jox _ _).alloc (joz _) _⟩
def VL (n:Int) (ks:List Int) (vi:js3):Prop:=∃ k:Nat,k<=ks.length/\vi=.int .i64 k/\(ks.take k).contains n=false
theorem kS (n:Int) (ks:List Int) (g cap:Nat) (w:js1) (hl:ks.length<=1000) (hc:∀ j k,ks[j]?=some k->w.cell? ⟨g,j,none⟩=some (.int .i64 k)) : Calls Tryz.prog 190 #[.int .i64 n,.slice (some ⟨g,0,none⟩) ks.length cap] w fun e w'=>e=.returned (.bool (ks.contains n))/\w=w':=by
 have HC:=hid hc;have R0:Hid (VL n ks (.int .i64 0)):=⟨0,jpj _,rfl,by simp⟩;obtain ⟨V,hV⟩:∃ V,V=ks.contains n:=⟨_,rfl⟩;rw [<- hV];have HV:=hid hV;clear hc hV;go_enter Tryz.func190,Tryz.ntmps190;go_wp2
 go_loop [9] (fun i=>VL n ks i) (fun i=>ks.length-(intOf i).toNat)
 case atStart=>exact R0.out
 case round=>
  clear R0;obtain ⟨k,hk,rfl,hno⟩:=hrel;have HN:=hid hno;clear hno;by_cases hlt:k<ks.length
  ·obtain ⟨x,hx⟩:∃ x,ks[k]?=some x:=⟨_,joq hlt⟩;have hcell:=HC.out k x hx;have HT:Hid ((ks.take (k+1)).contains n=((ks.take k).contains n||(n==x))):=by
    show _=_;rw [jq3,hx,jp3];simp
   have HX:=hid hx;clear hx;cases hnx:(n==x)
   ·rw [hnx] at HT;go_wp2
    go_round
    case rel=>exact ⟨k+1,by omega,by go_num,by rw [HT.out,HN.out];rfl⟩
    case measure=>simp [intOf];omega
   ·have HE:Hid (V=true):=by
     show V=true;rw [HV.out,List.contains_iff_mem];have:n=x:=by simpa using hnx
     rw [this];exact jpk HX.out
    go_wp2;go_ret;exact ⟨by rw [HE.out];rfl,rfl⟩
  ·have HE:Hid (V=false):=by
    show V=false;rw [HV.out];have:=HN.out
    rwa [List.take_of_length_le (by omega)] at this
   go_wp2;go_ret;exact ⟨by rw [HE.out];rfl,rfl⟩
def VN (l:List aj) (ks:List Int) (vi:js3):Prop:=∃ k:Nat,k<=l.length/\vi=.int .i64 k/\aj.dQ ks (l.take k)=false
theorem aj.F7 (ks:List Int):∀ (l m:List aj),aj.dQ ks (l++m)=(aj.dQ ks l||aj.dQ ks m)
 | [],m=>by rw [List.nil_append,aj.dQ];rfl
 | x::l,m=>by rw [jpx,aj.dQ,aj.dQ,aj.F7 ks l m,Bool.or_assoc]
theorem aj.ME (ks:List Int) {l:List aj} {k:Nat} {x:aj} (hx:l[k]?=some x):aj.dQ ks (l.take (k+1))=(aj.dQ ks (l.take k)||x.Qn ks):=by rw [jq3,hx,aj.F7,Option.toList_some,aj.dQ,aj.dQ,Bool.or_false]
theorem aj.F8 (ks:List Int):∀ {l:List aj} {k:Nat} {x:aj},l[k]?=some x->x.Qn ks=true->aj.dQ ks l=true
 | [],_,_,h,_=>by simp at h
 | y::l,0,x,h,hx=>by simp at h;subst h;rw [aj.dQ,hx];rfl
 | y::l,k+1,x,h,hx=>by rw [aj.dQ,aj.F8 ks (l:=l) (k:=k) (by simpa using h) hx,Bool.or_true]
theorem uh (n:Nat):∀ (l:List aj) (ok:Nat->Prop) (v:js3) (ks:List Int) (g cap:Nat) (w:js1),aj.aX l<=n->Rd ok w (fK l) [v]->ks.length<=1000->(∀ j k,ks[j]?=some k->w.cell? ⟨g,j,none⟩=some (.int .i64 k)) -> Calls Tryz.prog 235 #[v,.slice (some ⟨g,0,none⟩) ks.length cap] w fun e w'=>e=.returned (.bool (aj.dQ ks l))/\w=w':=by
 induction n using Nat.strongRecOn with
 | _ n ih=>
  intro l ok v ks g cap w hn hrd hks hc;obtain ⟨a,cp,hv,hs⟩:=Rd.aC hrd;obtain rfl:v=.slice a l.length cp:=by simpa using hv
  have hcap:l.length<=cp:=by simpa using hs.le
  have hmx:=hs.max;unfold maxLen at hmx;have HS:=hid hs;have IH:=hid ih;have HC:=hid hc;have OO:=hid (fun n=>kS n ks g cap w hks hc);have R0:Hid (VN l ks (.int .i64 0)):=⟨0,jpj _,rfl,by rw [List.take_zero,aj.dQ]⟩;obtain ⟨V,hV⟩:∃ V,V=aj.dQ ks l:=⟨_,rfl⟩;rw [<- hV];have HV:=hid hV;clear hs hv hrd ih hc hV;go_enter Tryz.func235,Tryz.ntmps235;go_wp2
  go_loop [8] (fun i=>VN l ks i) (fun i=>l.length-(intOf i).toNat)
  case atStart=>exact R0.out
  case round=>
   clear R0;obtain ⟨k,hk,rfl,hno⟩:=hrel;have HN:=hid hno;clear hno;by_cases hlt:k<l.length
   ·obtain ⟨x,hx⟩:∃ x,l[k]?=some x:=⟨_,joq hlt⟩;have hsn:=aj.ME ks hx;have HG:=hid (aj.F8 ks hx);obtain ⟨kd,t,d,ti,at_,ar,ci,kids⟩:=x;obtain ⟨b,off,vc,vp,va,vi,vk,rfl,hok,hbl,hcl,hR⟩:=iL HS.out hx;obtain ⟨c0,-,-,-,-,-,-,-,-,c9⟩:=hcl;have hsz:=aj.bP l k _ hx;rw [aj.sz] at hsz;have AK:=hid (IH.out (aj.aX kids) (by omega) kids ok vk ks g cap w (joz _) hR.kids hks HC.out);obtain ⟨ak,nk,ck,rfl⟩:=Rd.zO hR.kids;have OK:=hid (OO.out kd);have HX:Hid ((aj.mk kd t d ti at_ ar ci kids).Qn ks=(ks.contains kd||aj.dQ ks kids)):=by show _=_;rw [aj.Qn]
    have rZ:=hid hsn;clear hx hR hsn;cases h1:ks.contains kd with
    | true=>
     rw [h1] at OK HX;have HE:Hid (V=true):=by show V=true;rw [HV.out];exact HG.out (by rw [HX.out];rfl)
     clear h1;go_wp2_with fail
     refine OK.out.mono ?_;rintro e w1 ⟨rfl,rfl⟩;go_wp2;go_ret;exact ⟨by rw [HE.out];rfl,rfl⟩
    | false=>
     rw [h1] at OK HX;cases h2:aj.dQ ks kids with
     | true=>
      rw [h2] at AK HX;have HE:Hid (V=true):=by show V=true;rw [HV.out];exact HG.out (by rw [HX.out];rfl)
      clear h1 h2;go_wp2_with fail
      refine OK.out.mono ?_;rintro e w1 ⟨rfl,rfl⟩;go_wp2_with fail
      refine AK.out.mono ?_;rintro e w1 ⟨rfl,rfl⟩;go_wp2;go_ret;exact ⟨by rw [HE.out];rfl,rfl⟩
     | false=>
      rw [h2] at AK HX;clear h1 h2;go_wp2_with fail
      refine OK.out.mono ?_;rintro e w1 ⟨rfl,rfl⟩;go_wp2_with fail
      refine AK.out.mono ?_;rintro e w1 ⟨rfl,rfl⟩;go_wp2
      go_round
      case rel=>exact ⟨k+1,by omega,by go_num,by rw [rZ.out,HN.out,HX.out];rfl⟩
      case measure=>simp [intOf];omega
   ·have HE:Hid (V=false):=by
     show V=false;rw [HV.out];have:=HN.out
     rwa [List.take_of_length_le (by omega)] at this
    go_wp2;go_ret;exact ⟨by rw [HE.out];rfl,rfl⟩
open Go.RowKit
theorem kE (l:List ByteArray) (x:ByteArray):fu l.reverse x=fu l x:=by rw [jp3,mW,mW,List.mem_reverse]
theorem bT.cleared {w:js1} {b n:Nat} {S:List ByteArray} (h:bT w b n S) (ty:TypeId) : ∃ w',(Builtin.clear_ #[90] ty #[.map (some b)]).run Tryz.prog w=.ok (.tuple #[]) w'/\bT w' b 0 []/\w.grownBy w' (some b):=by
 obtain ⟨D,⟨es,clock,hb,F,hsz,hD⟩,hat⟩:=h;have hr:∃ clock',(Builtin.clear_ #[90] ty #[.map (some b)]).run Tryz.prog w=.ok (.tuple #[]) { w with heap:=w.heap.setIfInBounds b (.map #[] clock') }:=by refine ⟨clock,?_⟩;simp [Builtin.clear_,run_underlying Tryz.underlying90,MapKept.run_getObj_map hb,MapKept.run_setObj_map _ hb,Result.andThen]
 obtain ⟨clock',hrun⟩:=hr;have hs:=MapKept.heap_set (o':=.map #[] clock') hb;refine ⟨_,hrun,⟨.map [],⟨#[],clock',hs.1,⟨by simp,MapKept.stamped_empty clock',by simp⟩,joz _,rfl⟩,fun s=>rfl⟩,rfl,rfl,rfl,?_,fun i _ hne=>hs.2 i (fun e=>hne (by rw [e]))⟩;simp
def Ng (T:TypeId) (p:Nat) (cs:List js3) (w:js1) (mb n:Nat) (S:List ByteArray) (wr:js1):Prop:=CB T p cs wr/\bT wr mb n S/\Below w.heap.size w wr/\w.heap.size<=mb/\p≠mb/\w.heap.size<=p
theorem Ng.put {T:TypeId} {p:Nat} {cs:List js3} {w:js1} {mb n n':Nat} {S S':List ByteArray} {wr w':js1} (h:Ng T p cs w mb n S wr) (hg:wr.grownBy w' (some mb)) (hs:bT w' mb n' S'):Ng T p cs w mb n' S' w':=
 ⟨(hg.block p h.1.lt (fun e=>h.2.2.2.2.1 (by injection e))).trans h.1,hs,h.2.2.1.grown hg h.2.2.1.size (fun j hj=>by cases hj;exact h.2.2.2.1),h.2.2.2⟩
theorem Ng.alloc {T:TypeId} {p:Nat} {cs:List js3} {w:js1} {mb n:Nat} {S:List ByteArray} {wr:js1} (h:Ng T p cs w mb n S wr) (o:Obj):Ng T p cs w mb n S (wr.alloc o):=
 ⟨h.1.below ((jox _ _).alloc (joz _) _),h.2.1.below ((jox _ _).alloc (joz _) _),h.2.2.1.alloc h.2.2.1.size _,h.2.2.2⟩
theorem Ng.drewN {T:TypeId} {p:Nat} {cs:List js3} {w:js1} {mb n:Nat} {S:List ByteArray} {wr:js1} (h:Ng T p cs w mb n S wr) (q:Nat):Ng T p cs w mb n S (wr.drewN q):=
 ⟨h.1,h.2.1,eZ h.2.2.1 q,h.2.2.2⟩
def Qt (T:TypeId) (p:Nat) (cs:List js3) (w:js1) (mb:Nat) (l:List ByteArray) (E:Nat) (vi:js3) (wr:js1):Prop:=
 ∃ k:Nat,k<=l.length/\vi=.int .i64 k/\Ng T p cs w mb k (l.take k).reverse wr/\uS (l.take k) (l.drop k)=E
def Qu (T:TypeId) (p:Nat) (cs:List js3) (w:js1) (mb:Nat) (l:List Pr) (E:Nat) (vi:js3) (wr:js1):Prop:=
 ∃ k:Nat,k<=l.length/\vi=.int .i64 k/\Ng T p cs w mb k ((l.take k).map Pr.key).reverse wr/\dV ((l.take k).map Pr.key) (l.drop k)=E
theorem jD (a:At) (ac ap:Option Addr) (cc cp:Nat) (w:js1) (h:AtR (·<w.heap.size) w a (.slice ac a.cls.length cc) (.slice ap a.aJ.length cp)) (hs:a.short) : Calls Tryz.prog 197 #[.agg #[.string a.id,.slice ac a.cls.length cc,.slice ap a.aJ.length cp]] w (gu (.int .i64 (a.err:Nat)) w):=by
 obtain ⟨sc,sp,si,sca,spa⟩:=hs;obtain ⟨id,cls,aJ⟩:=a;dsimp only at sc sp si sca spa h ⊢;obtain ⟨a1,c1,hv1,hs1⟩:=Rd.aC h.cls;obtain ⟨rfl,rfl⟩:a1=ac/\c1=cc:=by simp at hv1;exact ⟨hv1.1.symm,hv1.2.symm⟩
 obtain ⟨a2,c2,hv2,hs2⟩:=Rd.aC h.aJ;obtain ⟨rfl,rfl⟩:a2=ap/\c2=cp:=by simp at hv2;exact ⟨hv2.1.symm,hv2.2.symm⟩
 have l1:cls.length<=c1:=by simpa using hs1.le
 have l2:aJ.length<=c2:=by simpa using hs2.le
 have m1:=hs1.max;have m2:=hs2.max;unfold maxLen at m1 m2;have H1:=hid hs1;have H2:=hid hs2;have SC:=hid sca;have SP:=hid spa;have NI:=hid (fun w=>MV id w (by omega));have HE:Hid (At.err ⟨id,cls,aJ⟩=if eP id=false/\fO id=false then 6 else if uS [] cls≠0 then uS [] cls else if dV [] aJ≠0 then dV [] aJ else if 32<cls.length\/32<aJ.length then 3 else 0):=rfl;obtain ⟨V,hV⟩:∃ V,V=At.err ⟨id,cls,aJ⟩:=⟨_,rfl⟩;rw [<- hV] at HE ⊢;clear hV sca spa hs1 hs2 hv1 hv2 h;by_cases hbad:eP id=false/\fO id=false
 ·have HV:Hid (V=6):=by show V=6;rw [HE.out,if_pos hbad]
  rw [hbad.2] at NI;have hie:id.toList.isEmpty=false:=by rw [Ct];exact hbad.1
  clear hbad HE;go_enter Tryz.func197,Tryz.ntmps197;go_wp2_with (go_at_call 54;refine (NI.out _).mono ?_;rintro e w1 ⟨rfl,rfl⟩)
  go_ret;exact ⟨by rw [HV.out];rfl,(jox _ _).alloc (joz _) _⟩
 have hgood:id.toList.isEmpty=true\/(id.toList.isEmpty=false/\fO id=true):=by
  rw [Ct];cases h1:eP id
  ·right;refine ⟨rfl,?_⟩;cases h2:fO id
   ·exact absurd ⟨h1,h2⟩ hbad
   ·rfl
  ·left;rfl
 have HE2:Hid (V=if uS [] cls≠0 then uS [] cls else if dV [] aJ≠0 then dV [] aJ else if 32<cls.length\/32<aJ.length then 3 else 0):=by show V=_;rw [HE.out,if_neg hbad]
 obtain ⟨w1,hw1⟩:∃ w1,w1=(w.alloc (.cells #[.string id,.slice a1 cls.length c1,.slice a2 aJ.length c2] 37)).alloc (.map #[] 0):=⟨_,rfl⟩;have R0:Hid (Qt 37 w.heap.size [.string id,.slice a1 cls.length c1,.slice a2 aJ.length c2] w (w.heap.size+1) cls (uS [] cls) (.int .i64 0) w1):=by
  refine ⟨0,jpj _,rfl,⟨?_,?_,?_,by omega,by omega,joz _⟩,rfl⟩
  ·rw [hw1];exact (CB.new _ _ w).below ((jox _ _).alloc (joz _) _)
  ·rw [hw1];have:=bT.made (w.alloc (.cells #[.string id,.slice a1 cls.length c1,.slice a2 aJ.length c2] 37))
   rwa [World.size_alloc] at this
  ·rw [hw1];exact ((jox _ _).alloc (joz _) _).alloc (by simp) _
 have HW1:=hid hw1;obtain ⟨E1,hE1⟩:∃ E1,E1=uS [] cls:=⟨_,rfl⟩;obtain ⟨E2,hE2⟩:∃ E2,E2=dV [] aJ:=⟨_,rfl⟩;rw [<- hE1] at HE2 R0;rw [<- hE2] at HE2;have jl0:=hid hE2;clear hbad HE hw1 hE1 hE2;have hmm:=@run_makeMap Tryz.prog;rcases hgood with hie | ⟨hie,hnm⟩
 case' inl=>
  clear NI;go_enter Tryz.func197,Tryz.ntmps197;go_wp2;rw [<- HW1.out];clear hmm
 case' inr=>
  rw [hnm] at NI;clear hnm;go_enter Tryz.func197,Tryz.ntmps197;go_wp2_with (go_at_call 54;refine (NI.out _).mono ?_;rintro e w1 ⟨rfl,rfl⟩)
  rw [<- HW1.out];clear hmm
 all_goals
  go_loopw [21] (fun i wr=>Qt 37 w.heap.size [.string id,.slice a1 cls.length c1,.slice a2 aJ.length c2] w (w.heap.size+1) cls E1 i wr) (fun i _=>cls.length-(intOf i).toNat)
  case atStart=>exact R0.out
  case round=>
   clear R0;obtain ⟨k,hk,rfl,rT,aU⟩:=hrel;have Tz:=hid rT;by_cases hlt:k<cls.length
   ·obtain ⟨x,hx⟩:∃ x,cls[k]?=some x:=⟨_,joq hlt⟩;obtain ⟨b,off,rfl,-,-,c0⟩:=uT H1.out hx;have c0:wr.cell? ⟨b,off+k,none⟩=some (.string x):=by rw [rT.2.2.1.cell (p:=⟨b,off+k,none⟩) (jY c0)];exact c0
    have hxs:=SC.out x (jpk hx);have CN:=hid (fun w=>MV x w (by omega));have hlk:=rT.2.1.look x (by unfold maxLen;omega);obtain ⟨w',hup,hS',hg⟩:=rT.2.1.put x (by unfold maxLen;omega) (by unfold maxLen;omega);have HN':=hid (rT.put hg hS');rw [kE] at hlk;rw [NJ cls k x hx,uS] at aU;have Jv:Hid (cls.take (k+1)=cls.take k++[x]):=by show _=_;rw [jq3,hx];rfl
    have cK:=hid aU;clear aU hS' hg rT hx;cases hn:fO x with
    | false=>
     rw [hn] at CN;have HV:Hid (V=6):=by show V=6;have:=cK.out;rw [if_pos hn] at this;rw [HE2.out,<- this];rfl
     clear hn hup;go_wp2_with fail
     refine (CN.out _).mono ?_;rintro e w3 ⟨rfl,rfl⟩;go_wp2;go_ret;exact ⟨by rw [HV.out];rfl,Tz.out.2.2.1⟩
    | true=>
     rw [hn] at CN;cases hb:fu (cls.take k) x with
     | true=>
      rw [hb] at hlk;have HV:Hid (V=7):=by show V=7;have:=cK.out;rw [if_neg (by rw [hn];decide),if_pos hb] at this;rw [HE2.out,<- this];rfl
      clear hn hb hup;go_wp2_with fail
      refine (CN.out _).mono ?_;rintro e w3 ⟨rfl,rfl⟩;go_wp2;go_ret;exact ⟨by rw [HV.out];rfl,Tz.out.2.2.1⟩
     | false=>
      rw [hb] at hlk;have Hg:Hid (uS (cls.take (k+1)) (cls.drop (k+1))=E1):=by show _=_;have:=cK.out;rw [if_neg (by rw [hn];decide),if_neg (by rw [hb];decide)] at this;rw [Jv.out];exact this
      clear hn hb;go_wp2_with fail
      refine (CN.out _).mono ?_;rintro e w3 ⟨rfl,rfl⟩;go_wp2;go_roundw;case rel=>exact ⟨k+1,by omega,by go_num,by rw [Jv.out,List.reverse_append];exact HN'.out,Hg.out⟩
      case measure=>simp [intOf];omega
   ·obtain rfl:k=cls.length:=by omega
    have Ue:Hid (E1=0):=by show E1=0;rw [List.drop_length,uS] at aU;exact aU.symm
    obtain ⟨w2,hcl,hS2,hg2⟩:∃ w2,(∀ ty,(Builtin.clear_ #[90] ty #[.map (some (w.heap.size+1))]).run Tryz.prog wr=.ok (.tuple #[]) w2)/\bT w2 (w.heap.size+1) 0 []/\wr.grownBy w2 (some (w.heap.size+1)):=by obtain ⟨w2,h1,h2,h3⟩:=rT.2.1.cleared 0;exact ⟨w2,fun ty=>h1,h2,h3⟩
    have R2:Hid (Qu 37 w.heap.size [.string id,.slice a1 cls.length c1,.slice a2 aJ.length c2] w (w.heap.size+1) aJ E2 (.int .i64 0) w2):=⟨0,jpj _,rfl,rT.put hg2 hS2,jl0.out.symm⟩;have p2:w2.cell? ⟨w.heap.size,2,none⟩=some (.slice a2 aJ.length c2):=(rT.put hg2 hS2).1.cell 2 _ rfl;clear aU rT Tz hS2 hg2 hk hlt;go_wp2
    go_loopw [38] (fun i wr=>Qu 37 w.heap.size [.string id,.slice a1 cls.length c1,.slice a2 aJ.length c2] w (w.heap.size+1) aJ E2 i wr) (fun i _=>aJ.length-(intOf i).toNat)
    case atStart=>exact R2.out
    case round=>
     clear R2 hcl p2;obtain ⟨k,hk,rfl,rT,aU⟩:=hrel;have Tz:=hid rT;by_cases hlt:k<aJ.length
     ·obtain ⟨x,hx⟩:∃ x,aJ[k]?=some x:=⟨_,joq hlt⟩;obtain ⟨b,off,rfl,-,-,c0,c1'⟩:=CU H2.out hx;have c0:wr.cell? ⟨b,off+k*2,none⟩=some (.string x.key):=by rw [rT.2.2.1.cell (p:=⟨b,off+k*2,none⟩) (jY c0)];exact c0
      have c1':wr.cell? ⟨b,off+k*2+1,none⟩=some (.string x.val):=by rw [rT.2.2.1.cell (p:=⟨b,off+k*2+1,none⟩) (jY c1')];exact c1'
      have hxs:=SP.out x (jpk hx);have HX:=hid hx;have cK:Hid (dV ((aJ.take k).map Pr.key) (x::aJ.drop (k+1))=E2):=by show _=_;rw [<- NJ aJ k x hx];exact aU
      obtain ⟨key,val⟩:=x;dsimp only at c0 c1' hxs;have CN:=hid (fun w=>MV key w (by omega));have CV:=hid (fun w=>Bf val w (by omega));have Jv:Hid ((aJ.take (k+1)).map Pr.key=(aJ.take k).map Pr.key++[key]):=by show _=_;rw [jq3,HX.out];simp
      obtain ⟨wi,hwi⟩:∃ wi,wi=wr.alloc (.cells #[.string key,.string val] 60):=⟨_,rfl⟩;have DJ:=rT.alloc (.cells #[.string key,.string val] 60);rw [<- hwi] at DJ;have i0:wi.cell? ⟨wr.heap.size,0,none⟩=some (.string key):=by rw [hwi];exact q16 wr [.string key,.string val] _ 0 _ rfl
      have i1:wi.cell? ⟨wr.heap.size,1,none⟩=some (.string val):=by rw [hwi];exact q16 wr [.string key,.string val] _ 1 _ rfl
      have Q8:=hid DJ;clear aU rT hx;cases hn:fO key with
      | false=>
       rw [hn] at CN;have HV:Hid (V=6):=by show V=6;have:=cK.out;rw [dV,if_pos hn] at this;rw [HE2.out,Ue.out,<- this];rfl
       clear hn;go_upto_region 17 with (fail)
       rw [<- hwi];clear hwi DJ;go_wp2_with fail
       refine (CN.out _).mono ?_;rintro e w3 ⟨rfl,rfl⟩;go_wp2;go_ret;exact ⟨by rw [HV.out];rfl,Q8.out.2.2.1⟩
      | true=>
       rw [hn] at CN;cases hln:iA val with
       | false=>
        rw [hln] at CV;have HV:Hid (V=17):=by show V=17;have:=cK.out;rw [dV,if_neg (by rw [hn];decide),if_pos hln] at this;rw [HE2.out,Ue.out,<- this];rfl
        clear hn hln;go_upto_region 17 with (fail)
        rw [<- hwi];clear hwi DJ;go_wp2_with fail
        refine (CN.out _).mono ?_;rintro e w3 ⟨rfl,rfl⟩;go_wp2_with fail
        refine (CV.out _).mono ?_;rintro e w3 ⟨rfl,q,rfl⟩;go_wp2;go_ret;exact ⟨by rw [HV.out];rfl,eZ Q8.out.2.2.1 q⟩
       | true=>
        rw [hln] at CV;have HLK:=hid (fun q=>(DJ.drewN q).2.1.look key (by unfold maxLen;omega));have XT:=hid (fun q=>(DJ.drewN q).2.1.put key (by unfold maxLen;omega) (by unfold maxLen;omega));cases hb:fu ((aJ.take k).map Pr.key) key with
        | true=>
         have HV:Hid (V=7):=by show V=7;have:=cK.out;rw [dV,if_neg (by rw [hn];decide),if_neg (by rw [hln];decide),if_pos hb] at this;rw [HE2.out,Ue.out,<- this];rfl
         have HB:=hid hb;clear hn hln hb;go_upto_region 17 with (fail)
         rw [<- hwi];clear hwi DJ;go_wp2_with fail
         refine (CN.out _).mono ?_;rintro e w3 ⟨rfl,rfl⟩;go_wp2_with fail
         refine (CV.out _).mono ?_;rintro e w3 ⟨rfl,q,rfl⟩;have hlk:=HLK.out q;rw [kE,HB.out] at hlk;go_wp2;go_ret;exact ⟨by rw [HV.out];rfl,eZ Q8.out.2.2.1 q⟩
        | false=>
         have Hg:Hid (dV ((aJ.take (k+1)).map Pr.key) (aJ.drop (k+1))=E2):=by show _=_;have:=cK.out;rw [dV,if_neg (by rw [hn];decide),if_neg (by rw [hln];decide),if_neg (by rw [hb];decide)] at this;rw [Jv.out];exact this
         have HB:=hid hb;clear hn hln hb;go_upto_region 17 with (fail)
         rw [<- hwi];clear hwi DJ;go_wp2_with fail
         refine (CN.out _).mono ?_;rintro e w3 ⟨rfl,rfl⟩;go_wp2_with fail
         refine (CV.out _).mono ?_;rintro e w3 ⟨rfl,q,rfl⟩;have hlk:=HLK.out q;rw [kE,HB.out] at hlk;obtain ⟨w',hup,hS',hg⟩:=XT.out q;have HN':=hid ((Q8.out.drewN q).put hg hS');clear hS' hg;go_wp2;go_roundw;case rel=>exact ⟨k+1,by omega,by go_num,by rw [Jv.out,List.reverse_append];exact HN'.out,Hg.out⟩
         case measure=>simp [intOf];omega
     ·obtain rfl:k=aJ.length:=by omega
      have HV:Hid (V=if 32<cls.length\/32<aJ.length then 3 else 0):=by show V=_;rw [List.drop_length,dV] at aU;rw [HE2.out,Ue.out,<- aU];rfl
      have p1:wr.cell? ⟨w.heap.size,1,none⟩=some (.slice a1 cls.length c1):=rT.1.cell 1 _ rfl;have p2:wr.cell? ⟨w.heap.size,2,none⟩=some (.slice a2 aJ.length c2):=rT.1.cell 2 _ rfl;clear aU rT hk hlt;by_cases h1:32<cls.length
      ·have q1:decide ((32:Int)<(cls.length:Int))=true:=by simp;omega
       go_wp2;go_ret;exact ⟨by rw [HV.out,if_pos (.inl h1)];rfl,Tz.out.2.2.1⟩
      ·have q1:decide ((32:Int)<(cls.length:Int))=false:=by simp;omega
       by_cases h2:32<aJ.length
       ·have q2:decide ((32:Int)<(aJ.length:Int))=true:=by simp;omega
        go_wp2;go_ret;exact ⟨by rw [HV.out,if_pos (.inr h2)];rfl,Tz.out.2.2.1⟩
       ·have q2:decide ((32:Int)<(aJ.length:Int))=false:=by simp;omega
        go_wp2;go_ret;exact ⟨by rw [HV.out,if_neg (by omega)];rfl,Tz.out.2.2.1⟩
open Go.RowKit
open Go.RowKit
open Go.RowKit
open Go.RowKit
theorem CB.dN {T:TypeId} {p:Nat} {cs:List js3} {w:js1} (h:CB T p cs w) (q:Nat):CB T p cs (w.drewN q):=h
open Go.RowKit
theorem aj.Qv (l:List aj) (k:Nat) (x:aj) (h:l[k]?=some x):aj.aX (l.take k)+x.sz<=aj.aX l:=by
 have h1:aj.aX (l.take (k+1))<=aj.aX l:=by have:=aj.Dq (l.take (k+1)) (l.drop (k+1));rw [List.take_append_drop] at this;omega
 rw [aj.rO h] at h1;exact h1
theorem ah.MF (l:List ah) (k:Nat) (x:ah) (h:l[k]?=some x):ah.aZ (l.take k)+x.all<=ah.aZ l:=by
 have h1:ah.aZ (l.take (k+1))<=ah.aZ l:=by have:=ah.F9 (l.take (k+1)) (l.drop (k+1));rw [List.take_append_drop] at this;omega
 rw [ah.kY h] at h1;exact h1
theorem ah.Uf (x:ah):1<=x.all:=by cases x;rw [ah.all];omega
theorem ah.Kg:∀ (l:List ah),l.length<=ah.aZ l
 | []=>by simp
 | x::l=>by have:=ah.Kg l;have:=x.Uf;rw [ah.aZ];simp;omega
theorem jl1 {P:Program} {f:FuncId} {args:Array js3} {w:js1} {a n:Nat} {v:js3} (h:Calls P f args (w.drewN (a+n)) fun e w'=>e=.returned v/\w.drewN (a+n)=w') : Calls P f args (w.drewN (a+n)) fun e w''=>e=.returned v/\∃ m,w''=w.drewN (a+m):=h.mono fun _ _ ⟨he,hm⟩=>⟨he,n,hm.symm⟩
theorem jl2 {P:Program} {f:FuncId} {args:Array js3} {w:js1} {a n:Nat} {v:js3} (h:Calls P f args (w.drewN (a+n)) (Dr v (w.drewN (a+n)))) : Calls P f args (w.drewN (a+n)) fun e w''=>e=.returned v/\∃ m,w''=w.drewN (a+m):=h.mono fun _ _ ⟨he,m,hm⟩=>⟨he,n+m,by rw [hm,World.drewN_drewN,Nat.add_assoc]⟩
def VO (l:List aj) (vn vi:js3):Prop:=∃ k n:Nat,k<=l.length/\vi=.int .i64 k/\vn=.int .i64 n/\n=aj.aX (l.take k)+(l.length-k)
def VP (l:List ah) (w:js1) (vn vi:js3) (wr:js1):Prop:=∃ k n q:Nat,k<=l.length/\vi=.int .i64 k/\vn=.int .i64 n/\n=ah.aZ (l.take k)+(l.length-k)/\wr=w.drewN q
theorem yu (n:Nat):∀ (l:List aj) (ok:Nat->Prop) (v:js3) (w:js1),aj.aX l<=n->n<=1000000->Rd ok w (fK l) [v] -> Calls Tryz.prog 146 #[v] w fun e w'=>e=.returned (.int .i64 (aj.aX l:Nat))/\w=w':=by
 induction n using Nat.strongRecOn with
 | _ n ih=>
  intro l ok v w hn hnm h1;obtain ⟨a,cap,hv,hs⟩:=Rd.aC h1;obtain rfl:v=.slice a l.length cap:=by simpa using hv
  have hcap:l.length<=cap:=by simpa using hs.le
  have hmx:=hs.max;unfold maxLen at hmx;have HS:=hid hs;have IH:=hid ih;have R0:Hid (VO l (.int .i64 (l.length:Int)) (.int .i64 0)):=⟨0,l.length,jpj _,rfl,rfl,by rw [List.take_zero,aj.aX];simp⟩;clear hs hv h1 ih;go_enter Tryz.func146,Tryz.ntmps146;go_wp2
  go_loop [3,9] (fun vn vi=>VO l vn vi) (fun _ i=>l.length-(intOf i).toNat)
  case atStart=>exact R0.out
  case round=>
   clear R0;obtain ⟨k,m,hk,rfl,rfl,hm⟩:=hrel;by_cases hlt:k<l.length
   ·obtain ⟨x,hx⟩:∃ x,l[k]?=some x:=⟨_,joq hlt⟩;have hsz:=aj.Qv l k _ hx;have hsn:=aj.rO hx;obtain ⟨kd,t,d,ti,at_,ar,ci,ks⟩:=x;obtain ⟨g,off,vc,vp,va,vi,vk,rfl,hok,hbl,hc,hR⟩:=iL HS.out hx;rw [aj.sz] at hsz hsn;obtain ⟨ak,nk,ck,rfl⟩:=Rd.zO hR.kids;have p9:=hc.c9;have CK:=hid (IH.out (aj.aX ks) (by omega) ks ok (.slice ak nk ck) w (joz _) (by omega) hR.kids);have HM:Hid (m+aj.aX ks=aj.aX (l.take (k+1))+(l.length-(k+1))):=by show _=_;omega
    have hlm:l.length-k<=1000000:=by have:=aj.pK l;omega
    have hmb:m+aj.aX ks<=3000000:=by omega
    generalize aj.aX ks=K at *;clear hc hR hx hm hsn hsz hlm;go_wp2_with fail
    refine CK.out.mono ?_;rintro e w1 ⟨rfl,rfl⟩;go_wp2
    go_round
    case rel=>exact ⟨k+1,m+K,by omega,by go_num,by go_num,HM.out⟩
    case measure=>simp [intOf];omega
   ·obtain rfl:k=l.length:=by omega
    have hv:m=aj.aX l:=by rw [hm,List.take_length];omega
    have HV:=hid hv;clear hv hm;go_wp2;go_ret;exact ⟨by rw [<- HV.out];rfl,rfl⟩
theorem tq (n:Nat):∀ (l:List ah) (ok:Nat->Prop) (v:js3) (w:js1),ah.aZ l<=n->n<=1000000->Rd ok w (om l) [v] -> Calls Tryz.prog 104 #[v] w (Dr (.int .i64 (ah.aZ l:Nat)) w):=by
 induction n using Nat.strongRecOn with
 | _ n ih=>
  intro l ok v w hn hnm h1;obtain ⟨a,cap,hv,hs⟩:=Rd.aC h1;obtain rfl:v=.slice a l.length cap:=by simpa using hv
  have hcap:l.length<=cap:=by simpa using hs.le
  have hmx:=hs.max;unfold maxLen at hmx;have HS:=hid hs;have IH:=hid ih;have R0:Hid (VP l w (.int .i64 (l.length:Int)) (.int .i64 0) w):=⟨0,l.length,0,jpj _,rfl,rfl,by rw [List.take_zero,ah.aZ];simp,rfl⟩;clear hs hv h1 ih;go_enter Tryz.func104,Tryz.ntmps104;go_wp2
  go_loopw [3,9] (fun vn vi wr=>VP l w vn vi wr) (fun _ i _=>l.length-(intOf i).toNat)
  case atStart=>exact R0.out
  case round=>
   clear R0;obtain ⟨k,m,q,hk,rfl,rfl,hm,rfl⟩:=hrel;by_cases hlt:k<l.length
   ·obtain ⟨x,hx⟩:∃ x,l[k]?=some x:=⟨_,joq hlt⟩;have hsz:=ah.MF l k _ hx;have hsn:=ah.kY hx;obtain ⟨kd,lv,i,t,d,ti,at_,li,ks⟩:=x;obtain ⟨g,off,vc,vp,vl,vk,rfl,hok,hbl,hc,hR⟩:=dH HS.out hx;rw [ah.all] at hsz hsn;obtain ⟨ak,nk,ck,rfl⟩:=Rd.zO hR.kids;obtain ⟨al,nl,cl,rfl⟩:=Rd.zO hR.line;have p9:=hc.c9;have Gz:=hc.c10;have hst:∀ q,J4 ok ok w (w.drewN q):=fun q b h _=>⟨h,rfl⟩
    have CL:=hid (fun q=>yu _ li ok (.slice al nl cl) (w.drewN q) (joz _) (by omega) (Rd.keep (hst q) _ _ hR.line));have CK:=hid (fun q=>IH.out (ah.aZ ks) (by omega) ks ok (.slice ak nk ck) (w.drewN q) (joz _) (by omega) (Rd.keep (hst q) _ _ hR.kids));have HM:Hid (m+(aj.aX li+ah.aZ ks)=ah.aZ (l.take (k+1))+(l.length-(k+1))):=by show _=_;omega
    have hlm:l.length-k<=1000000:=by have:=ah.Kg l;omega
    have hmb:m+(aj.aX li+ah.aZ ks)<=3000000:=by omega
    generalize aj.aX li=L at *;generalize ah.aZ ks=K at *;have s1:IntKind.i64.wrap ((L:Int)+(K:Int))=(L:Int)+(K:Int):=iY (by omega) (by omega);have s2:IntKind.i64.wrap ((m:Int)+((L:Int)+(K:Int)))=(m:Int)+((L:Int)+(K:Int)):=iY (by omega) (by omega);clear hc hR hx hm hsn hsz hlm hst;go_wp2_with fail
    go_quiet ((first | (go_at_call 146;exact jl1 (CL.out _)) | (go_at_call 104;exact jl2 (CK.out _))))
    clear s1 s2;go_wp2;go_roundw;case rel=>exact ⟨k+1,m+(L+K),_,by omega,by go_num,by go_num,HM.out,rfl⟩
    case measure=>simp [intOf];omega
   ·obtain rfl:k=l.length:=by omega
    have hv:m=ah.aZ l:=by rw [hm,List.take_length];omega
    have HV:=hid hv;clear hv hm;go_wp2;go_ret;exact ⟨by rw [<- HV.out];rfl,q,rfl⟩
open Go.RowKit
theorem Md (l:List ah) (am ab:Option Addr) (nm cm nb cb:Nat) (w:js1) (hn:ah.aZ l<=1000000) (h:Rd (·<w.heap.size) w (om l) [.slice ab nb cb]) : Calls Tryz.prog 57 #[.agg #[.slice am nm cm,.slice ab nb cb]] w (gu (.int .i64 (ah.aZ l:Nat)) w):=by
 have hb0:Below w.heap.size w (w.alloc (.cells #[.slice am nm cm,.slice ab nb cb] 25)):=(jox _ _).alloc (joz _) _;have SZ:=hid (tq _ l _ _ _ (joz _) hn (h.up hb0));have HB:=hid hb0;generalize ah.aZ l=N at *;clear h hb0;go_enter Tryz.func57,Tryz.ntmps57;go_wp2_with fail
 refine SZ.out.mono ?_;rintro e w1 ⟨rfl,q,rfl⟩;go_wp2;go_ret;exact ⟨rfl,eZ HB.out q⟩
def bI:List UInt8->List UInt8->Option (List UInt8 × List UInt8)
 | [],_=>none
 | c::l,acc=>
  if c=34 then some (acc,l)
  else if c=92 then (match l with
   | []=>none
   | d::l'=>if d=34\/d=92 then bI l' (acc++[d]) else none)
  else bI l (acc++[c])
def bR (l:List UInt8):ByteArray:=⟨l.toArray⟩
def dS (l:List UInt8):Option (ByteArray × List UInt8):=
 if l.head?=some 34 then (match bI l.tail [] with
  | none=>none
  | some (v,r)=>if iA (bR v)=true then some (bR v,r) else none)
 else if fO (bR (l.takeWhile fP))=true then some (bR (l.takeWhile fP),l.dropWhile fP) else none
def uq (l:List UInt8):List UInt8:=if l.head?=some 35\/l.head?=some 46 then l.tail else l
def keysOf (a:At):List ByteArray:=a.aJ.map Pr.key
def bU (a:At) (l:List UInt8):Option (At × List UInt8):=
 if fO (bR ((uq l).takeWhile fP))=false then none
 else if l.head?=some 35 then (if eP a.id=false then none else some (⟨bR ((uq l).takeWhile fP),a.cls,a.aJ⟩,(uq l).dropWhile fP))
 else if l.head?=some 46 then (if fu a.cls (bR ((uq l).takeWhile fP))=true then none else if 32<=a.cls.length then none
  else some (⟨a.id,a.cls++[bR ((uq l).takeWhile fP)],a.aJ⟩,(uq l).dropWhile fP))
 else if ((uq l).dropWhile fP).head?=some 61 then (match dS ((uq l).dropWhile fP).tail with
  | none=>none
  | some (v,r)=>if fu (keysOf a) (bR ((uq l).takeWhile fP))=true then none else if 32<=a.aJ.length then none
   else some (⟨a.id,a.cls,a.aJ++[⟨bR ((uq l).takeWhile fP),v⟩]⟩,r))
 else none
def isSp (c:UInt8):Bool:=decide (c=32)
def iw (l:List UInt8):List UInt8:=l.dropWhile isSp
def yR:Nat->At->Bool->List UInt8->Option (At × List UInt8)
 | 0,_,_,_=>none
 | f+1,a,sep,l=>
  if l.head?=some 125 then some (a,l.tail)
  else if l=[]\/sep=false then none
  else (match bU a l with
   | none=>none
   | some (a',l')=>yR f a' (decide (l'.head?=some 32)) (iw l'))
def Di (l:List UInt8):Option (At × List UInt8):=
 if l.head?=some 123 then yR l.length ⟨bR [],[],[]⟩ true (iw l.tail) else none
theorem yw (p:UInt8->Bool):∀ (n r:List UInt8),(∀ c∈n,p c=true)->(∀ c,r.head?=some c->p c=false)->(n++r).takeWhile p=n/\(n++r).dropWhile p=r
 | [],r,_,h2=>by
  cases r with
  | nil=>exact ⟨rfl,rfl⟩
  | cons c r=>exact ⟨by simp [h2 c rfl],by simp [h2 c rfl]⟩
 | c::n,r,h1,h2=>by
  have hc:=h1 c (by simp);obtain ⟨k1,k2⟩:=yw p n r (fun x hx=>h1 x (by simp [hx])) h2;rw [jpx,List.takeWhile_cons,List.dropWhile_cons,hc];simp [k1,k2]
theorem fH (p:UInt8->Bool) (l:List UInt8):(∀ c∈l.takeWhile p,p c=true)/\(∀ c,(l.dropWhile p).head?=some c->p c=false):=by
 induction l with
 | nil=>simp
 | cons x l ih=>
  rw [List.takeWhile_cons,List.dropWhile_cons];cases h:p x with
  | true=>
   refine ⟨fun c hc=>?_,fun c hc=>ih.2 c (by simpa using hc)⟩;simp at hc;rcases hc with rfl | hc
   ·exact h
   ·exact ih.1 c hc
  | false=>exact ⟨by simp,fun c hc=>by simp at hc;rw [<- hc];exact h⟩
theorem vC (p:UInt8->Bool) (l r':List UInt8) (h:r'.head?=(l.dropWhile p).head?):(l.takeWhile p++r').takeWhile p=l.takeWhile p/\(l.takeWhile p++r').dropWhile p=r':=
 yw p _ _ (fH p l).1 (fun c hc=>(fH p l).2 c (by rw [<- h];exact hc))
theorem pX:∀ (n:Nat) (l acc v r:List UInt8),l.length<=n->bI l acc=some (v,r)->∃ p,l=p++r/\p≠[]/\∀ r',bI (p++r') acc=some (v,r')
 | n,[],acc,v,r,_,h=>by rw [bI] at h;cases h
 | 0,c::l,acc,v,r,hn,h=>by simp at hn
 | n+1,c::l,acc,v,r,hn,h=>by
  simp only [List.length_cons] at hn;rw [bI.eq_def] at h;simp only at h;by_cases h1:c=34
  ·rw [if_pos h1] at h;injection h with h
   injection h with h2 h3
   subst h2 h3;exact ⟨[c],rfl,by simp,fun r'=>by rw [List.singleton_append,bI.eq_def];simp only;rw [if_pos h1]⟩
  ·rw [if_neg h1] at h;by_cases h2:c=92
   ·rw [if_pos h2] at h;cases l with
    | nil=>cases h
    | cons d l'=>
     simp only at h;by_cases h3:d=34\/d=92
     ·rw [if_pos h3] at h;obtain ⟨p,e1,e2,e3⟩:=pX n l' (acc++[d]) v r (by simp at hn;omega) h;refine ⟨c::d::p,by rw [e1];rfl,by simp,fun r'=>?_⟩;rw [jpx,jpx,bI.eq_def];simp only;rw [if_neg h1,if_pos h2,if_pos h3];exact e3 r'
     ·rw [if_neg h3] at h;cases h
   ·rw [if_neg h2] at h;obtain ⟨p,e1,e2,e3⟩:=pX n l (acc++[c]) v r (by omega) h;refine ⟨c::p,by rw [e1];rfl,by simp,fun r'=>?_⟩;rw [jpx,bI.eq_def];simp only;rw [if_neg h1,if_neg h2];exact e3 r'
theorem nX (l:List UInt8) (h:fO (bR l)=true):l≠[]:=by rintro rfl;revert h;decide
theorem I6 (l r:List UInt8) (v:ByteArray) (h:dS l=some (v,r)):∃ p,l=p++r/\p≠[]/\∀ r',r'.head?=r.head?->dS (p++r')=some (v,r'):=by
 unfold dS at h;by_cases h1:l.head?=some 34
 ·rw [if_pos h1] at h;cases l with
  | nil=>simp at h1
  | cons c l=>
   obtain rfl:c=34:=by simpa using h1
   rw [List.tail_cons] at h;cases hq:bI l [] with
   | none=>rw [hq] at h;cases h
   | some z=>
    obtain ⟨v1,r1⟩:=z;rw [hq] at h;simp only at h;by_cases h2:iA (bR v1)=true
    ·rw [if_pos h2] at h;injection h with h
     injection h with h3 h4
     subst h3 h4;obtain ⟨p,e1,e2,e3⟩:=pX _ l [] v1 r1 (joz _) hq;refine ⟨34::p,by rw [e1];rfl,by simp,fun r' _=>?_⟩;unfold dS;rw [jpx,List.head?_cons,if_pos rfl,List.tail_cons,e3 r'];simp only;rw [if_pos h2]
    ·rw [if_neg h2] at h;cases h
 ·rw [if_neg h1] at h;by_cases h2:fO (bR (l.takeWhile fP))=true
  ·rw [if_pos h2] at h;injection h with h
   injection h with h3 h4
   subst h3 h4;refine ⟨l.takeWhile fP,(List.takeWhile_append_dropWhile).symm,nX _ h2,fun r' hr=>?_⟩;obtain ⟨k1,k2⟩:=vC fP l r' hr;unfold dS;have hh:(l.takeWhile fP++r').head?=l.head?:=by
    cases l with
    | nil=>exact absurd rfl (nX _ h2)
    | cons c l=>
     have hne:=nX _ h2;rw [List.takeWhile_cons] at hne ⊢;cases hc:fP c with
     | true=>simp
     | false=>rw [hc] at hne;simp at hne
   rw [hh,if_neg h1,k1,k2,if_pos h2]
  ·rw [if_neg h2] at h;cases h
theorem nI (p r r':List UInt8) (h:p≠[]):(p++r).head?=(p++r').head?:=by
 cases p with
 | nil=>exact absurd rfl h
 | cons c p=>rfl
theorem Bj (a a':At) (l r:List UInt8) (h:bU a l=some (a',r)):∃ p,l=p++r/\p≠[]/\∀ r',r'.head?=r.head?->bU a (p++r')=some (a',r'):=by
 unfold bU at h;by_cases h1:fO (bR ((uq l).takeWhile fP))=false
 ·rw [if_pos h1] at h;cases h
 rw [if_neg h1] at h;have h1':fO (bR ((uq l).takeWhile fP))=true:=by simpa using h1
 have hN:=nX _ h1';by_cases h2:l.head?=some 35
 ·rw [if_pos h2] at h;by_cases h3:eP a.id=false
  ·rw [if_pos h3] at h;cases h
  rw [if_neg h3] at h;injection h with h
  injection h with e1 e2
  cases l with
  | nil=>simp at h2
  | cons c l=>
   obtain rfl:c=35:=by simpa using h2
   have hA:∀ x,uq (35::x)=x:=fun x=>by simp [uq]
   rw [hA] at e1 e2 h1 hN;refine ⟨35::l.takeWhile fP,?_,by simp,fun r' hr=>?_⟩
   ·rw [<- e2,jpx,List.takeWhile_append_dropWhile]
   ·obtain ⟨k1,k2⟩:=vC fP l r' (by rw [hr,e2]);unfold bU;rw [jpx,hA,k1,k2,if_neg h1,List.head?_cons,if_pos rfl,if_neg h3,e1]
 rw [if_neg h2] at h;by_cases h3:l.head?=some 46
 ·rw [if_pos h3] at h;by_cases h4:fu a.cls (bR ((uq l).takeWhile fP))=true
  ·rw [if_pos h4] at h;cases h
  rw [if_neg h4] at h;by_cases h5:32<=a.cls.length
  ·rw [if_pos h5] at h;cases h
  rw [if_neg h5] at h;injection h with h
  injection h with e1 e2
  cases l with
  | nil=>simp at h3
  | cons c l=>
   obtain rfl:c=46:=by simpa using h3
   have hA:∀ x,uq (46::x)=x:=fun x=>by simp [uq]
   rw [hA] at e1 e2 h1 hN h4;refine ⟨46::l.takeWhile fP,?_,by simp,fun r' hr=>?_⟩
   ·rw [<- e2,jpx,List.takeWhile_append_dropWhile]
   ·obtain ⟨k1,k2⟩:=vC fP l r' (by rw [hr,e2]);unfold bU;rw [jpx,hA,k1,k2,if_neg h1,List.head?_cons,if_neg (by decide),if_pos rfl,if_neg h4,if_neg h5,e1]
 rw [if_neg h3] at h;have hA:uq l=l:=by unfold uq;rw [if_neg (by rintro (h | h);exact h2 h;exact h3 h)]
 rw [hA] at h h1 hN;by_cases h4:(l.dropWhile fP).head?=some 61
 ·rw [if_pos h4] at h;cases hv:dS (l.dropWhile fP).tail with
  | none=>rw [hv] at h;cases h
  | some z=>
   obtain ⟨v,r1⟩:=z;rw [hv] at h;simp only at h;by_cases h5:fu (keysOf a) (bR (l.takeWhile fP))=true
   ·rw [if_pos h5] at h;cases h
   rw [if_neg h5] at h;by_cases h6:32<=a.aJ.length
   ·rw [if_pos h6] at h;cases h
   rw [if_neg h6] at h;injection h with h
   injection h with e1 e2
   subst e2;obtain ⟨p1,q1,q2,q3⟩:=I6 _ _ _ hv;have hD:l.dropWhile fP=61::(l.dropWhile fP).tail:=by
    cases hd:l.dropWhile fP with
    | nil=>rw [hd] at h4;simp at h4
    | cons c m=>
     rw [hd] at h4;obtain rfl:c=61:=by simpa using h4
     rfl
   refine ⟨l.takeWhile fP++61::p1,?_,by simp,fun r' hr=>?_⟩
   ·rw [List.append_assoc,jpx,<- q1,<- hD,List.takeWhile_append_dropWhile]
   ·have hrr:(l.takeWhile fP++61::p1)++r'=l.takeWhile fP++(61::(p1++r')):=by simp
    obtain ⟨k1,k2⟩:=vC fP l (61::(p1++r')) (by rw [h4];rfl);have hh:(l.takeWhile fP++(61::(p1++r'))).head?=l.head?:=by
     conv=>rhs;rw [<- List.takeWhile_append_dropWhile (p:=fP) (l:=l)]
     exact nI _ _ _ hN
    have hA':uq (l.takeWhile fP++(61::(p1++r')))=l.takeWhile fP++(61::(p1++r')):=by unfold uq;rw [hh,if_neg (by rintro (h | h);exact h2 h;exact h3 h)]
    unfold bU;rw [hrr,hA',k1,k2,hh,if_neg h1,if_neg h2,if_neg h3,List.head?_cons,if_pos rfl,List.tail_cons,q3 r' hr];simp only;rw [if_neg h5,if_neg h6,e1]
 ·rw [if_neg h4] at h;cases h
theorem yx:∀ (f:Nat) (a a':At) (sep:Bool) (l r:List UInt8),yR f a sep l=some (a',r) -> ∃ p,l=p++125::r/\∀ r' f',p.length+r'.length+1<=f'->yR f' a sep (p++125::r')=some (a',r')
 | 0,a,a',sep,l,r,h=>by rw [yR] at h;cases h
 | f+1,a,a',sep,l,r,h=>by
  rw [yR] at h;by_cases h1:l.head?=some 125
  ·rw [if_pos h1] at h;injection h with h
   injection h with e1 e2
   subst e1 e2;cases l with
   | nil=>simp at h1
   | cons c l=>
    obtain rfl:c=125:=by simpa using h1
    refine ⟨[],rfl,fun r' f' hf=>?_⟩;obtain ⟨g,rfl⟩:∃ g,f'=g+1:=⟨f'-1,by omega⟩;rw [yR,List.nil_append,List.head?_cons,if_pos rfl];rfl
  rw [if_neg h1] at h;by_cases h2:l=[]\/sep=false
  ·rw [if_pos h2] at h;cases h
  rw [if_neg h2] at h;cases hi:bU a l with
  | none=>rw [hi] at h;cases h
  | some z=>
   obtain ⟨a1,l1⟩:=z;rw [hi] at h;simp only at h;obtain ⟨p1,q1,q2,q3⟩:=Bj _ _ _ _ hi;obtain ⟨p2,k1,k2⟩:=yx f a1 a' _ _ r h;have hl1:l1=l1.takeWhile isSp++(p2++125::r):=by rw [<- k1];exact (List.takeWhile_append_dropWhile).symm
   have hh:∀ r',(l1.takeWhile isSp++(p2++125::r')).head?=l1.head?:=fun r'=>by
    conv=>rhs;rw [hl1]
    have e:∀ x,l1.takeWhile isSp++(p2++125::x)=(l1.takeWhile isSp++p2++[125])++x:=fun x=>by simp
    rw [e,e];exact nI _ _ _ (by simp)
   have hs:∀ r',iw (l1.takeWhile isSp++(p2++125::r'))=p2++125::r':=fun r'=>by
    refine (yw isSp _ _ (fH isSp l1).1 (fun c hc=>(fH isSp l1).2 c ?_)).2;rw [<- hc];show (iw l1).head?=_;rw [k1];have e:∀ x,p2++125::x=(p2++[125])++x:=fun x=>by simp
    rw [e r',e r];exact nI _ _ _ (by simp)
   refine ⟨p1++l1.takeWhile isSp++p2,?_,fun r' f' hf=>?_⟩
   ·rw [q1,List.append_assoc,List.append_assoc,<- hl1]
   ·obtain ⟨g,rfl⟩:∃ g,f'=g+1:=⟨f'-1,by omega⟩;have hp1:0<p1.length:=List.length_pos_iff.2 q2;have e:p1++l1.takeWhile isSp++p2++125::r'=p1++(l1.takeWhile isSp++(p2++125::r')):=by simp
    have ZC:(p1++(l1.takeWhile isSp++(p2++125::r'))).head?=l.head?:=by rw [q1];exact nI _ _ _ q2
    rw [e,yR,ZC,if_neg h1,if_neg,q3 _ (hh r')]
    ·simp only;rw [hh r',hs r'];refine k2 r' g ?_;simp only [jp4] at hf;omega
    ·rintro (h3 | h3)
     ·simp at h3
     ·exact h2 (.inr h3)
def eX (l:List UInt8):List UInt8:=(l.reverse.dropWhile isSp).reverse
theorem Bo (p r:List UInt8) (hr:∀ c∈r,isSp c=true) (hp:∀ c,p.getLast?=some c->isSp c=false):eX (p++r)=p:=by unfold eX;rw [List.reverse_append,(yw isSp r.reverse p.reverse (fun c hc=>hr c (by simpa using hc)) (fun c hc=>hp c (by simpa using hc))).2,List.reverse_reverse]
theorem nC (l:List UInt8):∃ r,l=eX l++r/\∀ c∈r,isSp c=true:=by refine ⟨(l.reverse.takeWhile isSp).reverse,?_,fun c hc=>(fH isSp l.reverse).1 c (by simpa using hc)⟩;unfold eX;rw [<- List.reverse_append,List.takeWhile_append_dropWhile,List.reverse_reverse]
theorem yA (l r:List UInt8) (a:At) (h:Di l=some (a,r)):∃ p,l=p++125::r/\∀ r',Di (p++125::r')=some (a,r'):=by
 unfold Di at h;by_cases h1:l.head?=some 123
 ·rw [if_pos h1] at h;cases l with
  | nil=>simp at h1
  | cons c l=>
   obtain rfl:c=123:=by simpa using h1
   rw [List.tail_cons] at h;obtain ⟨p2,k1,k2⟩:=yx _ _ _ _ _ _ h;have hl:l=l.takeWhile isSp++(p2++125::r):=by rw [<- k1];exact (List.takeWhile_append_dropWhile).symm
   have hs:∀ r',iw (l.takeWhile isSp++(p2++125::r'))=p2++125::r':=fun r'=>by
    refine (yw isSp _ _ (fH isSp l).1 (fun c hc=>(fH isSp l).2 c ?_)).2;rw [<- hc];show (iw l).head?=_;rw [k1];have e:∀ x,p2++125::x=(p2++[125])++x:=fun x=>by simp
    rw [e r',e r];exact nI _ _ _ (by simp)
   refine ⟨123::(l.takeWhile isSp++p2),?_,fun r'=>?_⟩
   ·conv=>lhs;rw [hl]
    simp
   ·have e:123::(l.takeWhile isSp++p2)++125::r'=123::(l.takeWhile isSp++(p2++125::r')):=by simp
    unfold Di;rw [e,List.head?_cons,if_pos rfl,List.tail_cons,hs r'];refine k2 r' _ ?_;simp;omega
 ·rw [if_neg h1] at h;cases h
def I7 (l:List UInt8):Bool:=match Di l with
 | none=>false
 | some (_,r)=>r.all isSp
def IU (l:List UInt8):Bool:=match Di (eX l) with
 | none=>false
 | some (_,r)=>r.isEmpty
theorem zK (l:List UInt8):I7 l=IU l:=by
 rw [jp3];unfold I7 IU;constructor
 ·intro h;cases hp:Di l with
  | none=>rw [hp] at h;cases h
  | some z=>
   obtain ⟨a,r⟩:=z;rw [hp] at h;simp only at h;obtain ⟨p,e1,e2⟩:=yA _ _ _ hp;have ht:eX l=p++[125]:=by
    have e:l=(p++[125])++r:=by rw [e1];simp
    rw [e];refine Bo _ _ (List.all_eq_true.1 h) (fun c hc=>?_);simp at hc;subst hc;decide
   rw [ht,e2 []];rfl
 ·intro h;cases hp:Di (eX l) with
  | none=>rw [hp] at h;cases h
  | some z=>
   obtain ⟨a,r⟩:=z;rw [hp] at h;simp only at h;obtain rfl:r=[]:=by simpa using h
   obtain ⟨p,e1,e2⟩:=yA _ _ _ hp;obtain ⟨sp,k1,k2⟩:=nC l;have e:l=p++125::sp:=by rw [k1,e1];simp
   rw [e,e2 sp];exact List.all_eq_true.2 k2
def nD (l:List UInt8):Bool:=
 decide ((l.takeWhile isSp).length<=3)&&decide ((iw l).take 2=[36,36])&&((iw ((iw l).drop 2)).isEmpty||I7 (iw ((iw l).drop 2)))
def xW:List UInt8->List UInt8->List (List UInt8)
 | _,[]=>[]
 | acc,c::l=>if c=10 then acc::xW [] l else xW (acc++[c]) l
def AL (s:ByteArray):Bool:=(xW [] s.data.toList).any nD
end Go.Proofs.YtdneicipdlofiaaGreatDoor

