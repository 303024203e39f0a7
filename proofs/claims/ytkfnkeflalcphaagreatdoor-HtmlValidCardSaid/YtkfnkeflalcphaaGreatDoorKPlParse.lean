/- Plain part: the errors of layer 4: what is not well-formed in inlines and blocks. Plain part: merged inlines: what Merge returns; it keeps the plain text, and changes nothing the second time, nor a line without errors. Plain part: groups of texts in Merge. Plain part: clean texts one after the other are clean. Plain part: entry lines, as the program and as the reference make them. Plain part: attributes in braces, read off a list of bytes; what is read does not depend on what stands behind the closing brace. -/
import Derived.Test.YtkfnkeflalcphaaGreatDoorKSame
import Derived.Test.YtkfnkeflalcphaaGreatDoorKRowE
import Derived.Lib.RuneCount
namespace Go.Proofs.YtkfnkeflalcphaaGreatDoor
open List renaming cons_append->joj
set_option linter.unusedVariables false
set_option linter.unusedSimpArgs false
def jX (p:Nat × Nat):Bool:=(decide (p.1=10)||(decide (32<=p.1)&&!decide (p.1=127)))&&!(decide (p.1=65533)&&decide (p.2=1))
def fJ (s:ByteArray):Bool:=(pts s).all jX
def Wx (s:ByteArray):Bool:=s.data.toList.all fun c=>!decide (c=10)
def fH (s:ByteArray):Bool:=fJ s&&Wx s
def trimS (s:ByteArray):Bool:=decide (s.data.toList=[])||(!decide (s.data.toList.head?=some 32)&&!decide (s.data.toList.getLast?=some 32))
def eD (s:ByteArray) (bs:List UInt8):Bool:=s.data.toList.any fun c=>bs.contains c
def vQ (p:Nat × Nat):Bool:=qK p.1||Nj p.1||[32,45,95,46,58].contains p.1
def eU (s:ByteArray):Bool:=decide (1<=s.size)&&decide (s.size<=60)&&decide (Ag s=s)&&(pts s).all vQ
def q01 (s:ByteArray):Bool:=decide (s.data.toList=[])
def At.none (a:At):Bool:=q01 a.id&&a.cls.isEmpty&&a.aP.isEmpty
def dQ (seen:List ByteArray):List ByteArray->Nat
 | []=>0
 | c::l=>if iU c=false then 6 else if hasB seen c=true then 7 else dQ (seen++[c]) l
def dI (seen:List ByteArray):List Pr->Nat
 | []=>0
 | p::l=>if iU p.key=false then 6 else if fH p.val=false then 17 else if hasB seen p.key=true then 7 else dI (seen++[p.key]) l
def At.err (a:At):Nat:=
 if q01 a.id=false/\iU a.id=false then 6
 else if dQ [] a.cls≠0 then dQ [] a.cls
 else if dI [] a.aP≠0 then dI [] a.aP
 else if 32<a.cls.length\/32<a.aP.length then 3 else 0
mutual
def aj.Qt (ks:List Int):aj->Bool
 | .mk k _ _ _ _ _ _ kids=>ks.contains k||aj.eF ks kids
def aj.eF (ks:List Int):List aj->Bool
 | []=>false
 | x::l=>x.Qt ks||aj.eF ks l
end
def qM:List Int:=[9,16,12,14,13]
def l7:List Int:=[2,3]
def D6 (k:Int) (t d ti:ByteArray) (a:At) (ar:List ByteArray) (ci:List Ci) (ks:List aj):Bool:=
 decide (1<=k)&&decide (k<=16)&&(([1,4,5,9,10,12,14,15]:List Int).contains k||q01 t)&&(([9,10,16]:List Int).contains k||q01 d)&&(([9,10,14]:List Int).contains k||q01 ti) &&
 (([10,11]:List Int).contains k||a.none)&&(([6,7,8,9,10,11]:List Int).contains k||ks.isEmpty)&&(decide (k=15)||ar.isEmpty)&&(decide (k=13)||ci.isEmpty)
def mq (s:ByteArray):Nat:=(s.data.toList.takeWhile fun c=>jY c.toNat).length
def pE (s:ByteArray):Bool:=decide (2<=mq s)&&decide (mq s<=20)&&decide (s.data.toList[mq s]?=some 58)&&fH s&&!eD s [32,60,62]
def nJ (s:ByteArray):Bool:=!fH s||!trimS s||eD s [91,93,59,64,123,36,96]
def mD:List Ci->Nat
 | []=>0
 | c::l=>if iU c.key=false then 6 else if nJ c.pre=true\/nJ c.suf=true then 17 else mD l
def lg (l:List Ci):Nat:=if l.isEmpty=true then 8 else mD l
def gQ (k:Int) (t d ti:ByteArray) (a:At) (ks:List aj):Nat:=
 if q01 t=false/\(q01 d=false\/q01 ti=false) then 5
 else if q01 t=false/\eU t=false then 6
 else if fH d=false\/fH ti=false then 17
 else if k=9/\aj.eF qM ks=true then 5
 else if k=10 then a.err else 0
def jK (s:ByteArray):Bool:=!fH s||eD s [124,123,125]
def EO:List UInt8:=[112,97,103,101]
def jL (k:Int) (t ti:ByteArray) (ar:List ByteArray):Nat:=
 if iU t=false then 6
 else if k=14/\q01 ti=false/\ti.data.toList≠EO then 5
 else if 8<ar.length then 3
 else if ar.any jK then 17 else 0
def sF (before:Int) (first last:Bool) (k:Int) (t d ti:ByteArray) (a:At) (ar:List ByteArray) (ci:List Ci) (ks:List aj):Nat:=
 if D6 k t d ti a ar ci ks=false then 5
 else if k=1\/k=4\/k=5 then (if q01 t=true\/fH t=false then 17 else if k≠5/\before=k then 5 else 0)
 else if k=2 then (if before=2\/before=3\/first=true\/last=true then 5 else 0)
 else if k=3 then (if last=true then 5 else 0)
 else if k=6\/k=7\/k=8 then (if ks.isEmpty=true then 8 else 0)
 else if k=9\/k=10 then gQ k t d ti a ks
 else if k=11 then (if a.none=true then 8 else a.err)
 else if k=12\/k=14\/k=15 then jL k t ti ar
 else if k=13 then lg ci
 else if pE d=true then 0 else 5
def aj.kd:aj->Int
 | .mk k _ _ _ _ _ _ _=>k
mutual
def aj.err (before:Int) (first last:Bool) (dp:Nat):aj->Nat
 | .mk k t d ti a ar ci ks=>if sF before first last k t d ti a ar ci ks≠0 then sF before first last k t d ti a ar ci ks else aj.aR 0 true (dp+1) ks
def aj.aR (before:Int) (st:Bool) (dp:Nat):List aj->Nat
 | []=>0
 | x::l=>if 15<dp then 11 else if x.err before (decide (dp=0)&&st) (decide (dp=0)&&l.isEmpty) dp≠0 then x.err before (decide (dp=0)&&st) (decide (dp=0)&&l.isEmpty) dp
   else aj.aR x.kd false dp l
end
def vF (l:List aj):Nat:=aj.aR 0 true 0 l
def D7 (k lv:Int) (i t d ti:ByteArray) (a:At) (li:List aj) (ks:List ah):Bool:=
 decide (1<=k)&&decide (k<=15)&&(([2,8]:List Int).contains k||decide (lv=0))&&(([3,10,13,14,15]:List Int).contains k||q01 i)&&(([3,4]:List Int).contains k||q01 t) &&
 (decide (k=15)||(q01 d&&q01 ti))&&(([2,4,13]:List Int).contains k||a.none)&&(([1,2,12]:List Int).contains k||li.isEmpty)&&(([6,7,8,9,10,11,13,14]:List Int).contains k||ks.isEmpty)
def gV (k par:Int):Bool:=
 if par=7\/par=8 then decide (k=9) else if par=10 then decide (k=11) else if par=11 then decide (k=12) else !([9,11,12]:List Int).contains k
def jJ (s:ByteArray):Bool:=q01 s||(fJ s&&decide (s.data.toList.getLast?=some 10))
def ah.xW:ah->Nat
 | .mk _ _ _ _ _ _ _ _ ks=>ks.length
def jT (i:ByteArray) (ks:List ah):Nat:=
 if 32<i.size then 3 else if q01 i=true then 5 else if i.data.toList.any (fun c=>!([45,108,99,114]:List UInt8).contains c) then 5
 else if ks.isEmpty=true then 8 else if ks.any (fun b=>!decide (b.xW=i.size)) then 15 else 0
def qN (cl:ByteArray->Bool) (k lv:Int) (i t d ti:ByteArray) (a:At) (li:List aj) (ks:List ah):Nat:=
 if k=1 then (if li.isEmpty=true then 8 else vF li)
 else if k=2 then (if lv<1\/6<lv then 9 else if a.err≠0 then a.err else if aj.eF l7 li=true then 5 else vF li)
 else if k=12 then (if aj.eF l7 li=true then 5 else vF li)
 else if k=3 then (if fH i=false\/trimS i=false\/jJ t=false then 17 else 0)
 else if k=4 then (if jJ t=false then 17 else if cl t=true then 5 else a.err)
 else if k=7\/k=8 then (if ks.isEmpty=true then 8 else if k=8/\(lv<0\/999999999<lv) then 9 else 0)
 else if k=10 then jT i ks
 else if k=13\/k=14 then (if iU i=false then 6 else a.err)
 else if k=15 then (if eU i=false then 6 else if fH d=false\/fH ti=false then 17 else 0)
 else 0
mutual
def ah.err (cl:ByteArray->Bool) (par:Int) (dp:Nat):ah->Nat
 | .mk k lv i t d ti a li ks=>if 15<dp then 11 else if D7 k lv i t d ti a li ks=false\/gV k par=false then 5
   else if qN cl k lv i t d ti a li ks≠0 then qN cl k lv i t d ti a li ks else ah.aR cl k (dp+1) ks
def ah.aR (cl:ByteArray->Bool) (par:Int) (dp:Nat):List ah->Nat
 | []=>0
 | x::l=>if x.err cl par dp≠0 then x.err cl par dp else ah.aR cl par dp l
end
def eG (seen:List ByteArray):List Pr->Nat
 | []=>0
 | p::l=>if iU p.key=false then 6 else if fH p.val=false\/trimS p.val=false then 17 else if hasB seen p.key=true then 7 else eG (seen++[p.key]) l
theorem xM {α:Type} {l:List α} {y:α} (h:l.getLast?=some y):l=l.dropLast++[y]:=by obtain ⟨ys,rfl⟩:=List.getLast?_eq_some_iff.1 h;simp
theorem decodeN_more (n N b0 b1 b2 b3 c1 c2 c3:Nat) (hn:1<=n) (hN:n<=N) (h1:1<n->c1=b1) (h2:2<n->c2=b2) (h3:3<n->c3=b3) (h:Lib.decodeN n b0 b1 b2 b3≠(65533,1)) : Lib.decodeN N b0 c1 c2 c3=Lib.decodeN n b0 b1 b2 b3/\(Lib.decodeN n b0 b1 b2 b3).2<=n:=by
 by_cases a0:b0<128
 ·have e1:∀ m x y z,Lib.decodeN m b0 x y z=(b0,1):=fun m x y z=>by unfold Lib.decodeN;rw [if_pos a0]
  rw [e1,e1];exact ⟨rfl,hn⟩
 by_cases a1:b0/32=6/\(1<n/\b1/64=2)
 ·obtain ⟨p1,p2,p3⟩:=a1;obtain rfl:=h1 p2;have e1:∀ m y z,1<m->Lib.decodeN m b0 c1 y z=if b0%32*64+c1%64≥128 then (b0%32*64+c1%64,2) else (65533,1):=fun m y z hm=>by
   unfold Lib.decodeN;rw [if_neg a0,if_pos ⟨p1,hm,p3⟩]
  rw [e1 N c2 c3 (by omega),e1 n b2 b3 p2];refine ⟨rfl,?_⟩;split
  ·exact p2
  ·exact hn
 by_cases a2:b0/16=14/\(1<n/\b1/64=2)/\(2<n/\b2/64=2)
 ·obtain ⟨p1,⟨p2,p3⟩,p4,p5⟩:=a2;obtain rfl:=h1 p2;obtain rfl:=h2 p4;have e1:∀ m z,1<m->2<m->Lib.decodeN m b0 c1 c2 z=Lib.decodeN 3 b0 c1 c2 0:=fun m z hm hm2=>by
   unfold Lib.decodeN;rw [if_neg a0,if_neg a0,if_neg (show ¬ (b0/32=6/\_) from fun h=>by omega),if_neg (show ¬ (b0/32=6/\_) from fun h=>by omega),if_pos (show b0/16=14/\(1<m/\c1/64=2)/\(2<m/\c2/64=2) from ⟨p1,⟨hm,p3⟩,hm2,p5⟩),if_pos (show b0/16=14/\(1<3/\c1/64=2)/\(2<3/\c2/64=2) from ⟨p1,⟨by omega,p3⟩,by omega,p5⟩)]
  have e2:(Lib.decodeN 3 b0 c1 c2 0).2<=3:=by
   unfold Lib.decodeN;rw [if_neg a0,if_neg (show ¬ (b0/32=6/\_) from fun h=>by omega),if_pos ⟨p1,⟨by omega,p3⟩,by omega,p5⟩];split
   ·exact Nat.le_refl 3
   ·exact (by decide:1<=3)
  rw [e1 N c3 (by omega) (by omega),e1 n b3 p2 p4];exact ⟨rfl,by omega⟩
 by_cases a3:b0/8=30/\(1<n/\b1/64=2)/\(2<n/\b2/64=2)/\(3<n/\b3/64=2)
 ·obtain ⟨p1,⟨p2,p3⟩,⟨p4,p5⟩,p6,p7⟩:=a3;obtain rfl:=h1 p2;obtain rfl:=h2 p4;obtain rfl:=h3 p6;have e1:∀ m,1<m->2<m->3<m->Lib.decodeN m b0 c1 c2 c3=Lib.decodeN 4 b0 c1 c2 c3:=fun m hm hm2 MZ=>by
   unfold Lib.decodeN;rw [if_neg a0,if_neg a0,if_neg (show ¬ (b0/32=6/\_) from fun h=>by omega),if_neg (show ¬ (b0/32=6/\_) from fun h=>by omega),if_neg (show ¬ (b0/16=14/\_) from fun h=>by omega),if_neg (show ¬ (b0/16=14/\_) from fun h=>by omega),
    if_pos (show b0/8=30/\(1<m/\c1/64=2)/\(2<m/\c2/64=2)/\(3<m/\c3/64=2) from ⟨p1,⟨hm,p3⟩,⟨hm2,p5⟩,MZ,p7⟩),if_pos (show b0/8=30/\(1<4/\c1/64=2)/\(2<4/\c2/64=2)/\(3<4/\c3/64=2) from ⟨p1,⟨by omega,p3⟩,⟨by omega,p5⟩,by omega,p7⟩)]
  have e2:(Lib.decodeN 4 b0 c1 c2 c3).2<=4:=by
   unfold Lib.decodeN;rw [if_neg a0,if_neg (show ¬ (b0/32=6/\_) from fun h=>by omega),if_neg (show ¬ (b0/16=14/\_) from fun h=>by omega),if_pos ⟨p1,⟨by omega,p3⟩,⟨by omega,p5⟩,by omega,p7⟩];split
   ·exact Nat.le_refl 4
   ·exact (by decide:1<=4)
  rw [e1 N (by omega) (by omega) (by omega),e1 n p2 p4 p6];exact ⟨rfl,by omega⟩
 ·refine absurd ?_ h;unfold Lib.decodeN;rw [if_neg a0,if_neg a1,if_neg a2,if_neg a3]
theorem Gg:jX (65533,1)=false:=by decide
theorem Ui (l m:List UInt8) (i:Nat) (h:i<l.length):(l++m).getD i 0=l.getD i 0:=by rw [List.getD_eq_getElem?_getD,List.getD_eq_getElem?_getD,List.getElem?_append_left h]
theorem l6 (l m:List UInt8) (i:Nat):(l++m).getD (l.length+i) 0=m.getD i 0:=by rw [List.getD_eq_getElem?_getD,List.getD_eq_getElem?_getD,List.getElem?_append_right (by omega),Nat.add_sub_cancel_left]
theorem M8 (s t:ByteArray):(s++t).data.toList=s.data.toList++t.data.toList:=by simp [ByteArray.data_append]
theorem nD (s:ByteArray):s.data.toList.length=s.size:=by simp
theorem Qu (s t:ByteArray) (i:Nat) (hi:i<s.size) (hok:jX (Utf8.decode s i)=true):Utf8.decode (s++t) i=Utf8.decode s i/\i+(Utf8.decode s i).2<=s.size:=by
 have hl:=nD s;have hne:Utf8.decode s i≠(65533,1):=fun e=>by rw [e,Gg] at hok;cases hok
 rw [Lib.decode_N] at hne ⊢;have hb:=decodeN_more (s.data.toList.length-i) ((s.data.toList++t.data.toList).length-i) (s.data.toList.getD i 0).toNat (s.data.toList.getD (i+1) 0).toNat (s.data.toList.getD (i+2) 0).toNat (s.data.toList.getD (i+3) 0).toNat
  ((s.data.toList++t.data.toList).getD (i+1) 0).toNat ((s.data.toList++t.data.toList).getD (i+2) 0).toNat ((s.data.toList++t.data.toList).getD (i+3) 0).toNat (by omega) (by rw [List.length_append];omega)
  (fun h=>by rw [Ui _ _ _ (by omega)]) (fun h=>by rw [Ui _ _ _ (by omega)]) (fun h=>by rw [Ui _ _ _ (by omega)]) (by rw [Lib.decode_N] at *;exact hne)
 rw [Lib.decode_N,M8,Ui s.data.toList _ i (by omega)];refine ⟨hb.1,?_⟩;have:=hb.2;omega
theorem Qv (s t:ByteArray) (i:Nat):Utf8.decode (s++t) (s.size+i)=Utf8.decode t i:=by have hl:=nD s;rw [Lib.decode_N,Lib.decode_N,M8,<- hl,Nat.add_assoc,Nat.add_assoc,Nat.add_assoc,l6,l6,l6,l6,List.length_append,Nat.add_sub_add_left]
theorem yF (s t:ByteArray):∀ (f i:Nat),bR (s++t) f (s.size+i)=bR t f i
 | 0,_=>rfl
 | f+1,i=>by
  rw [bR,bR,ByteArray.size_append];by_cases h:i<t.size
  ·rw [if_pos h,if_pos (by omega),Qv,Nat.add_assoc,yF s t f]
  ·rw [if_neg h,if_neg (by omega)]
theorem yG (s:ByteArray):∀ (f g i:Nat),s.size<=i+f->s.size<=i+g->bR s f i=bR s g i
 | 0,g,i,hf,hg=>by rw [jH s g i (by omega)];rfl
 | f+1,0,i,hf,hg=>by rw [jH s (f+1) i (by omega)];rfl
 | f+1,g+1,i,hf,hg=>by
  rw [bR,bR];by_cases h:i<s.size
  ·have hw:=Lib.decode_width_pos s i h;rw [if_pos h,if_pos h,yG s f g _ (by omega) (by omega)]
  ·rw [if_neg h,if_neg h]
theorem yH (s t:ByteArray):∀ (f i F:Nat),i<=s.size->s.size<=i+f->(bR s f i).all jX=true->s.size+t.size<=i+F->bR (s++t) F i=bR s f i++bR t t.size 0
 | f,i,F,hi,hf,hok,hF=>by
  by_cases h:i<s.size
  ·cases f with
   | zero=>omega
   | succ f=>
    cases F with
    | zero=>omega
    | succ F=>
     rw [bR,if_pos h,List.all_cons,Bool.and_eq_true] at hok;obtain ⟨hd,hw⟩:=Qu s t i h hok.1;have hw1:=Lib.decode_width_pos s i h;rw [bR,bR,if_pos h,if_pos (by rw [ByteArray.size_append];omega),hd,yH s t f _ F hw (by omega) hok.2 (by omega),joj]
  ·have e:i=s.size:=by omega
   subst e;rw [jH s f _ h,List.nil_append];have h2:=yF s t F 0;rw [Nat.add_zero] at h2;rw [h2];exact yG t F t.size 0 (by omega) (by omega)
theorem lY (s t:ByteArray) (hs:fJ s=true) (ht:fJ t=true):fJ (s++t)=true:=by unfold fJ at hs ht ⊢;unfold pts at hs ht ⊢;rw [yH s t s.size 0 (s++t).size (by omega) (by omega) hs (by rw [ByteArray.size_append];omega),List.all_append,hs,ht];rfl
def dH (s:ByteArray):Prop:=∀ c∈s.data.toList,32<=c.toNat/\c.toNat<127
theorem DI (s:ByteArray) (h:dH s):∀ (f i:Nat),(bR s f i).all jX=true
 | 0,_=>rfl
 | f+1,i=>by
  rw [bR];split
  ·rename_i hi
   have hm:s[i]∈s.data.toList:=by
    have:s[i]=s.data.toList[i]'(by simpa using hi):=by show s.data[i]=_;simp
    rw [this];exact List.getElem_mem _
   obtain ⟨h1,h2⟩:=h _ hm;rw [decode_ascii s i hi (by omega),List.all_cons,DI s h f];simp [jX];omega
  ·rfl
theorem Qi (s:ByteArray) (h:dH s):fH s=true:=by unfold fH fJ pts;rw [DI s h,Bool.true_and];unfold Wx;rw [List.all_eq_true];intro c hc;have:=(h c hc).1;simp;intro e;rw [e] at this;simp at this
theorem vG (s t:ByteArray) (hs:dH s) (ht:dH t):dH (s++t):=by
 intro c hc;rw [M8] at hc;rcases List.mem_append.1 hc with hc | hc
 ·exact hs c hc
 ·exact ht c hc
def bV:List UInt8->List UInt8->Option (List UInt8 × List UInt8)
 | [],_=>none
 | c::l,acc=>
  if c=34 then some (acc,l)
  else if c=92 then (match l with
   | []=>none
   | d::l'=>if d=34\/d=92 then bV l' (acc++[d]) else none)
  else bV l (acc++[c])
def dn (l:List UInt8):ByteArray:=⟨l.toArray⟩
def eH (l:List UInt8):Option (ByteArray × List UInt8):=
 if l.head?=some 34 then (match bV l.tail [] with
  | none=>none
  | some (v,r)=>if fH (dn v)=true then some (dn v,r) else none)
 else if iU (dn (l.takeWhile gP))=true then some (dn (l.takeWhile gP),l.dropWhile gP) else none
def uG (l:List UInt8):List UInt8:=if l.head?=some 35\/l.head?=some 46 then l.tail else l
def keysOf (a:At):List ByteArray:=a.aP.map Pr.key
def dB (a:At) (l:List UInt8):Option (At × List UInt8):=
 if iU (dn ((uG l).takeWhile gP))=false then none
 else if l.head?=some 35 then (if q01 a.id=false then none else some (⟨dn ((uG l).takeWhile gP),a.cls,a.aP⟩,(uG l).dropWhile gP))
 else if l.head?=some 46 then (if hasB a.cls (dn ((uG l).takeWhile gP))=true then none else if 32<=a.cls.length then none
  else some (⟨a.id,a.cls++[dn ((uG l).takeWhile gP)],a.aP⟩,(uG l).dropWhile gP))
 else if ((uG l).dropWhile gP).head?=some 61 then (match eH ((uG l).dropWhile gP).tail with
  | none=>none
  | some (v,r)=>if hasB (keysOf a) (dn ((uG l).takeWhile gP))=true then none else if 32<=a.aP.length then none
   else some (⟨a.id,a.cls,a.aP++[⟨dn ((uG l).takeWhile gP),v⟩]⟩,r))
 else none
def isSp (c:UInt8):Bool:=decide (c=32)
def iT (l:List UInt8):List UInt8:=l.dropWhile isSp
def zy:Nat->At->Bool->List UInt8->Option (At × List UInt8)
 | 0,_,_,_=>none
 | f+1,a,sep,l=>
  if l.head?=some 125 then some (a,l.tail)
  else if l=[]\/sep=false then none
  else (match dB a l with
   | none=>none
   | some (a',l')=>zy f a' (decide (l'.head?=some 32)) (iT l'))
def DJ (l:List UInt8):Option (At × List UInt8):=
 if l.head?=some 123 then zy l.length ⟨dn [],[],[]⟩ true (iT l.tail) else none
theorem yJ (p:UInt8->Bool):∀ (n r:List UInt8),(∀ c∈n,p c=true)->(∀ c,r.head?=some c->p c=false)->(n++r).takeWhile p=n/\(n++r).dropWhile p=r
 | [],r,_,h2=>by
  cases r with
  | nil=>exact ⟨rfl,rfl⟩
  | cons c r=>exact ⟨by simp [h2 c rfl],by simp [h2 c rfl]⟩
 | c::n,r,h1,h2=>by
  have hc:=h1 c (by simp);obtain ⟨k1,k2⟩:=yJ p n r (fun x hx=>h1 x (by simp [hx])) h2;rw [joj,List.takeWhile_cons,List.dropWhile_cons,hc];simp [k1,k2]
theorem fZ (p:UInt8->Bool) (l:List UInt8):(∀ c∈l.takeWhile p,p c=true)/\(∀ c,(l.dropWhile p).head?=some c->p c=false):=by
 induction l with
 | nil=>simp
 | cons x l ih=>
  rw [List.takeWhile_cons,List.dropWhile_cons];cases h:p x with
  | true=>
   refine ⟨fun c hc=>?_,fun c hc=>ih.2 c (by simpa using hc)⟩;simp at hc;rcases hc with rfl | hc
   ·exact h
   ·exact ih.1 c hc
  | false=>exact ⟨by simp,fun c hc=>by simp at hc;rw [<- hc];exact h⟩
theorem vH (p:UInt8->Bool) (l r':List UInt8) (h:r'.head?=(l.dropWhile p).head?):(l.takeWhile p++r').takeWhile p=l.takeWhile p/\(l.takeWhile p++r').dropWhile p=r':=
 yJ p _ _ (fZ p l).1 (fun c hc=>(fZ p l).2 c (by rw [<- h];exact hc))
theorem qw:∀ (n:Nat) (l acc v r:List UInt8),l.length<=n->bV l acc=some (v,r)->∃ p,l=p++r/\p≠[]/\∀ r',bV (p++r') acc=some (v,r')
 | n,[],acc,v,r,_,h=>by rw [bV] at h;cases h
 | 0,c::l,acc,v,r,hn,h=>by simp at hn
 | n+1,c::l,acc,v,r,hn,h=>by
  simp only [List.length_cons] at hn;rw [bV.eq_def] at h;simp only at h;by_cases h1:c=34
  ·rw [if_pos h1] at h;injection h with h
   injection h with h2 h3
   subst h2 h3;exact ⟨[c],rfl,by simp,fun r'=>by rw [List.singleton_append,bV.eq_def];simp only;rw [if_pos h1]⟩
  ·rw [if_neg h1] at h;by_cases h2:c=92
   ·rw [if_pos h2] at h;cases l with
    | nil=>cases h
    | cons d l'=>
     simp only at h;by_cases h3:d=34\/d=92
     ·rw [if_pos h3] at h;obtain ⟨p,e1,e2,e3⟩:=qw n l' (acc++[d]) v r (by simp at hn;omega) h;refine ⟨c::d::p,by rw [e1];rfl,by simp,fun r'=>?_⟩;rw [joj,joj,bV.eq_def];simp only;rw [if_neg h1,if_pos h2,if_pos h3];exact e3 r'
     ·rw [if_neg h3] at h;cases h
   ·rw [if_neg h2] at h;obtain ⟨p,e1,e2,e3⟩:=qw n l (acc++[c]) v r (by omega) h;refine ⟨c::p,by rw [e1];rfl,by simp,fun r'=>?_⟩;rw [joj,bV.eq_def];simp only;rw [if_neg h1,if_neg h2];exact e3 r'
theorem oM (l:List UInt8) (h:iU (dn l)=true):l≠[]:=by rintro rfl;revert h;decide
theorem Je (l r:List UInt8) (v:ByteArray) (h:eH l=some (v,r)):∃ p,l=p++r/\p≠[]/\∀ r',r'.head?=r.head?->eH (p++r')=some (v,r'):=by
 unfold eH at h;by_cases h1:l.head?=some 34
 ·rw [if_pos h1] at h;cases l with
  | nil=>simp at h1
  | cons c l=>
   obtain rfl:c=34:=by simpa using h1
   rw [List.tail_cons] at h;cases hq:bV l [] with
   | none=>rw [hq] at h;cases h
   | some z=>
    obtain ⟨v1,r1⟩:=z;rw [hq] at h;simp only at h;by_cases h2:fH (dn v1)=true
    ·rw [if_pos h2] at h;injection h with h
     injection h with h3 h4
     subst h3 h4;obtain ⟨p,e1,e2,e3⟩:=qw _ l [] v1 r1 (Nat.le_refl _) hq;refine ⟨34::p,by rw [e1];rfl,by simp,fun r' _=>?_⟩;unfold eH;rw [joj,List.head?_cons,if_pos rfl,List.tail_cons,e3 r'];simp only;rw [if_pos h2]
    ·rw [if_neg h2] at h;cases h
 ·rw [if_neg h1] at h;by_cases h2:iU (dn (l.takeWhile gP))=true
  ·rw [if_pos h2] at h;injection h with h
   injection h with h3 h4
   subst h3 h4;refine ⟨l.takeWhile gP,(List.takeWhile_append_dropWhile).symm,oM _ h2,fun r' hr=>?_⟩;obtain ⟨k1,k2⟩:=vH gP l r' hr;unfold eH;have hh:(l.takeWhile gP++r').head?=l.head?:=by
    cases l with
    | nil=>exact absurd rfl (oM _ h2)
    | cons c l=>
     have hne:=oM _ h2;rw [List.takeWhile_cons] at hne ⊢;cases hc:gP c with
     | true=>simp
     | false=>rw [hc] at hne;simp at hne
   rw [hh,if_neg h1,k1,k2,if_pos h2]
  ·rw [if_neg h2] at h;cases h
theorem oh (p r r':List UInt8) (h:p≠[]):(p++r).head?=(p++r').head?:=by
 cases p with
 | nil=>exact absurd rfl h
 | cons c p=>rfl
theorem BD (a a':At) (l r:List UInt8) (h:dB a l=some (a',r)):∃ p,l=p++r/\p≠[]/\∀ r',r'.head?=r.head?->dB a (p++r')=some (a',r'):=by
 unfold dB at h;by_cases h1:iU (dn ((uG l).takeWhile gP))=false
 ·rw [if_pos h1] at h;cases h
 rw [if_neg h1] at h;have h1':iU (dn ((uG l).takeWhile gP))=true:=by simpa using h1
 have hN:=oM _ h1';by_cases h2:l.head?=some 35
 ·rw [if_pos h2] at h;by_cases h3:q01 a.id=false
  ·rw [if_pos h3] at h;cases h
  rw [if_neg h3] at h;injection h with h
  injection h with e1 e2
  cases l with
  | nil=>simp at h2
  | cons c l=>
   obtain rfl:c=35:=by simpa using h2
   have hA:∀ x,uG (35::x)=x:=fun x=>by simp [uG]
   rw [hA] at e1 e2 h1 hN;refine ⟨35::l.takeWhile gP,?_,by simp,fun r' hr=>?_⟩
   ·rw [<- e2,joj,List.takeWhile_append_dropWhile]
   ·obtain ⟨k1,k2⟩:=vH gP l r' (by rw [hr,e2]);unfold dB;rw [joj,hA,k1,k2,if_neg h1,List.head?_cons,if_pos rfl,if_neg h3,e1]
 rw [if_neg h2] at h;by_cases h3:l.head?=some 46
 ·rw [if_pos h3] at h;by_cases h4:hasB a.cls (dn ((uG l).takeWhile gP))=true
  ·rw [if_pos h4] at h;cases h
  rw [if_neg h4] at h;by_cases h5:32<=a.cls.length
  ·rw [if_pos h5] at h;cases h
  rw [if_neg h5] at h;injection h with h
  injection h with e1 e2
  cases l with
  | nil=>simp at h3
  | cons c l=>
   obtain rfl:c=46:=by simpa using h3
   have hA:∀ x,uG (46::x)=x:=fun x=>by simp [uG]
   rw [hA] at e1 e2 h1 hN h4;refine ⟨46::l.takeWhile gP,?_,by simp,fun r' hr=>?_⟩
   ·rw [<- e2,joj,List.takeWhile_append_dropWhile]
   ·obtain ⟨k1,k2⟩:=vH gP l r' (by rw [hr,e2]);unfold dB;rw [joj,hA,k1,k2,if_neg h1,List.head?_cons,if_neg (by decide),if_pos rfl,if_neg h4,if_neg h5,e1]
 rw [if_neg h3] at h;have hA:uG l=l:=by unfold uG;rw [if_neg (by rintro (h | h);exact h2 h;exact h3 h)]
 rw [hA] at h h1 hN;by_cases h4:(l.dropWhile gP).head?=some 61
 ·rw [if_pos h4] at h;cases hv:eH (l.dropWhile gP).tail with
  | none=>rw [hv] at h;cases h
  | some z=>
   obtain ⟨v,r1⟩:=z;rw [hv] at h;simp only at h;by_cases h5:hasB (keysOf a) (dn (l.takeWhile gP))=true
   ·rw [if_pos h5] at h;cases h
   rw [if_neg h5] at h;by_cases h6:32<=a.aP.length
   ·rw [if_pos h6] at h;cases h
   rw [if_neg h6] at h;injection h with h
   injection h with e1 e2
   subst e2;obtain ⟨p1,q1,q2,q3⟩:=Je _ _ _ hv;have hD:l.dropWhile gP=61::(l.dropWhile gP).tail:=by
    cases hd:l.dropWhile gP with
    | nil=>rw [hd] at h4;simp at h4
    | cons c m=>
     rw [hd] at h4;obtain rfl:c=61:=by simpa using h4
     rfl
   refine ⟨l.takeWhile gP++61::p1,?_,by simp,fun r' hr=>?_⟩
   ·rw [List.append_assoc,joj,<- q1,<- hD,List.takeWhile_append_dropWhile]
   ·have hrr:(l.takeWhile gP++61::p1)++r'=l.takeWhile gP++(61::(p1++r')):=by simp
    obtain ⟨k1,k2⟩:=vH gP l (61::(p1++r')) (by rw [h4];rfl);have hh:(l.takeWhile gP++(61::(p1++r'))).head?=l.head?:=by
     conv=>rhs;rw [<- List.takeWhile_append_dropWhile (p:=gP) (l:=l)]
     exact oh _ _ _ hN
    have hA':uG (l.takeWhile gP++(61::(p1++r')))=l.takeWhile gP++(61::(p1++r')):=by unfold uG;rw [hh,if_neg (by rintro (h | h);exact h2 h;exact h3 h)]
    unfold dB;rw [hrr,hA',k1,k2,hh,if_neg h1,if_neg h2,if_neg h3,List.head?_cons,if_pos rfl,List.tail_cons,q3 r' hr];simp only;rw [if_neg h5,if_neg h6,e1]
 ·rw [if_neg h4] at h;cases h
theorem yK:∀ (f:Nat) (a a':At) (sep:Bool) (l r:List UInt8),zy f a sep l=some (a',r) -> ∃ p,l=p++125::r/\∀ r' f',p.length+r'.length+1<=f'->zy f' a sep (p++125::r')=some (a',r')
 | 0,a,a',sep,l,r,h=>by rw [zy] at h;cases h
 | f+1,a,a',sep,l,r,h=>by
  rw [zy] at h;by_cases h1:l.head?=some 125
  ·rw [if_pos h1] at h;injection h with h
   injection h with e1 e2
   subst e1 e2;cases l with
   | nil=>simp at h1
   | cons c l=>
    obtain rfl:c=125:=by simpa using h1
    refine ⟨[],rfl,fun r' f' hf=>?_⟩;obtain ⟨g,rfl⟩:∃ g,f'=g+1:=⟨f'-1,by omega⟩;rw [zy,List.nil_append,List.head?_cons,if_pos rfl];rfl
  rw [if_neg h1] at h;by_cases h2:l=[]\/sep=false
  ·rw [if_pos h2] at h;cases h
  rw [if_neg h2] at h;cases hi:dB a l with
  | none=>rw [hi] at h;cases h
  | some z=>
   obtain ⟨a1,l1⟩:=z;rw [hi] at h;simp only at h;obtain ⟨p1,q1,q2,q3⟩:=BD _ _ _ _ hi;obtain ⟨p2,k1,k2⟩:=yK f a1 a' _ _ r h;have hl1:l1=l1.takeWhile isSp++(p2++125::r):=by rw [<- k1];exact (List.takeWhile_append_dropWhile).symm
   have hh:∀ r',(l1.takeWhile isSp++(p2++125::r')).head?=l1.head?:=fun r'=>by
    conv=>rhs;rw [hl1]
    have e:∀ x,l1.takeWhile isSp++(p2++125::x)=(l1.takeWhile isSp++p2++[125])++x:=fun x=>by simp
    rw [e,e];exact oh _ _ _ (by simp)
   have hs:∀ r',iT (l1.takeWhile isSp++(p2++125::r'))=p2++125::r':=fun r'=>by
    refine (yJ isSp _ _ (fZ isSp l1).1 (fun c hc=>(fZ isSp l1).2 c ?_)).2;rw [<- hc];show (iT l1).head?=_;rw [k1];have e:∀ x,p2++125::x=(p2++[125])++x:=fun x=>by simp
    rw [e r',e r];exact oh _ _ _ (by simp)
   refine ⟨p1++l1.takeWhile isSp++p2,?_,fun r' f' hf=>?_⟩
   ·rw [q1,List.append_assoc,List.append_assoc,<- hl1]
   ·obtain ⟨g,rfl⟩:∃ g,f'=g+1:=⟨f'-1,by omega⟩;have hp1:0<p1.length:=List.length_pos_iff.2 q2;have e:p1++l1.takeWhile isSp++p2++125::r'=p1++(l1.takeWhile isSp++(p2++125::r')):=by simp
    have hh2:(p1++(l1.takeWhile isSp++(p2++125::r'))).head?=l.head?:=by rw [q1];exact oh _ _ _ q2
    rw [e,zy,hh2,if_neg h1,if_neg,q3 _ (hh r')]
    ·simp only;rw [hh r',hs r'];refine k2 r' g ?_;simp only [List.length_append] at hf;omega
    ·rintro (h3 | h3)
     ·simp at h3
     ·exact h2 (.inr h3)
def fF (l:List UInt8):List UInt8:=(l.reverse.dropWhile isSp).reverse
theorem BG (p r:List UInt8) (hr:∀ c∈r,isSp c=true) (hp:∀ c,p.getLast?=some c->isSp c=false):fF (p++r)=p:=by unfold fF;rw [List.reverse_append,(yJ isSp r.reverse p.reverse (fun c hc=>hr c (by simpa using hc)) (fun c hc=>hp c (by simpa using hc))).2,List.reverse_reverse]
theorem om (l:List UInt8):∃ r,l=fF l++r/\∀ c∈r,isSp c=true:=by refine ⟨(l.reverse.takeWhile isSp).reverse,?_,fun c hc=>(fZ isSp l.reverse).1 c (by simpa using hc)⟩;unfold fF;rw [<- List.reverse_append,List.takeWhile_append_dropWhile,List.reverse_reverse]
theorem yL (l r:List UInt8) (a:At) (h:DJ l=some (a,r)):∃ p,l=p++125::r/\∀ r',DJ (p++125::r')=some (a,r'):=by
 unfold DJ at h;by_cases h1:l.head?=some 123
 ·rw [if_pos h1] at h;cases l with
  | nil=>simp at h1
  | cons c l=>
   obtain rfl:c=123:=by simpa using h1
   rw [List.tail_cons] at h;obtain ⟨p2,k1,k2⟩:=yK _ _ _ _ _ _ h;have hl:l=l.takeWhile isSp++(p2++125::r):=by rw [<- k1];exact (List.takeWhile_append_dropWhile).symm
   have hs:∀ r',iT (l.takeWhile isSp++(p2++125::r'))=p2++125::r':=fun r'=>by
    refine (yJ isSp _ _ (fZ isSp l).1 (fun c hc=>(fZ isSp l).2 c ?_)).2;rw [<- hc];show (iT l).head?=_;rw [k1];have e:∀ x,p2++125::x=(p2++[125])++x:=fun x=>by simp
    rw [e r',e r];exact oh _ _ _ (by simp)
   refine ⟨123::(l.takeWhile isSp++p2),?_,fun r'=>?_⟩
   ·conv=>lhs;rw [hl]
    simp
   ·have e:123::(l.takeWhile isSp++p2)++125::r'=123::(l.takeWhile isSp++(p2++125::r')):=by simp
    unfold DJ;rw [e,List.head?_cons,if_pos rfl,List.tail_cons,hs r'];refine k2 r' _ ?_;simp;omega
 ·rw [if_neg h1] at h;cases h
def Jf (l:List UInt8):Bool:=match DJ l with
 | none=>false
 | some (_,r)=>r.all isSp
def Jg (l:List UInt8):Bool:=match DJ (fF l) with
 | none=>false
 | some (_,r)=>r.isEmpty
theorem zX (l:List UInt8):Jf l=Jg l:=by
 rw [Bool.eq_iff_iff];unfold Jf Jg;constructor
 ·intro h;cases hp:DJ l with
  | none=>rw [hp] at h;cases h
  | some z=>
   obtain ⟨a,r⟩:=z;rw [hp] at h;simp only at h;obtain ⟨p,e1,e2⟩:=yL _ _ _ hp;have ht:fF l=p++[125]:=by
    have e:l=(p++[125])++r:=by rw [e1];simp
    rw [e];refine BG _ _ (List.all_eq_true.1 h) (fun c hc=>?_);simp at hc;subst hc;decide
   rw [ht,e2 []];rfl
 ·intro h;cases hp:DJ (fF l) with
  | none=>rw [hp] at h;cases h
  | some z=>
   obtain ⟨a,r⟩:=z;rw [hp] at h;simp only at h;obtain rfl:r=[]:=by simpa using h
   obtain ⟨p,e1,e2⟩:=yL _ _ _ hp;obtain ⟨sp,k1,k2⟩:=om l;have e:l=p++125::sp:=by rw [k1,e1];simp
   rw [e,e2 sp];exact List.all_eq_true.2 k2
def oo (l:List UInt8):Bool:=
 decide ((l.takeWhile isSp).length<=3)&&decide ((iT l).take 2=[36,36])&&((iT ((iT l).drop 2)).isEmpty||Jf (iT ((iT l).drop 2)))
def yM:List UInt8->List UInt8->List (List UInt8)
 | _,[]=>[]
 | acc,c::l=>if c=10 then acc::yM [] l else yM (acc++[c]) l
def qE (s:ByteArray):Bool:=(yM [] s.data.toList).any oo
end Go.Proofs.YtkfnkeflalcphaaGreatDoor

