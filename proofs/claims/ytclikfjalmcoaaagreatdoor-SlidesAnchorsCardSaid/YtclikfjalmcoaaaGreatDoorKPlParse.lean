/- Plain part: the errors of layer 4: what is not well-formed in inlines and blocks. Plain part: merged inlines: what Merge returns; it keeps the plain text, and changes nothing the second time, nor a line without errors. Plain part: groups of texts in Merge. Plain part: clean texts one after the other are clean. Plain part: entry lines, as the program and as the reference make them. Plain part: attributes in braces, read off a list of bytes; what is read does not depend on what stands behind the closing brace. -/
import Derived.Test.YtclikfjalmcoaaaGreatDoorKSame
import Derived.Test.YtclikfjalmcoaaaGreatDoorKRowE
import Derived.Lib.RuneCount
namespace Go.Proofs.YtclikfjalmcoaaaGreatDoor
open List renaming cons_append->jj6
set_option linter.unusedVariables false
set_option linter.unusedSimpArgs false
def JH (p:Nat × Nat):Bool:=(decide (p.1=10)||(decide (32<=p.1)&&!decide (p.1=127)))&&!(decide (p.1=65533)&&decide (p.2=1))
def kW (s:ByteArray):Bool:=(pts s).all JH
def XV (s:ByteArray):Bool:=s.data.toList.all fun c=>!decide (c=10)
def iH (s:ByteArray):Bool:=kW s&&XV s
def trimS (s:ByteArray):Bool:=decide (s.data.toList=[])||(!decide (s.data.toList.head?=some 32)&&!decide (s.data.toList.getLast?=some 32))
def dZ (s:ByteArray) (bs:List UInt8):Bool:=s.data.toList.any fun c=>bs.contains c
def uH (p:Nat × Nat):Bool:=pF p.1||LB p.1||[32,45,95,46,58].contains p.1
def eT (s:ByteArray):Bool:=decide (1<=s.size)&&decide (s.size<=60)&&decide (yZ s=s)&&(pts s).all uH
def bI (s:ByteArray):Bool:=decide (s.data.toList=[])
def At.none (a:At):Bool:=bI a.id&&a.cls.isEmpty&&a.aR.isEmpty
def fu (seen:List ByteArray):List ByteArray->Nat
 | []=>0
 | c::l=>if jA c=false then 6 else if hasB seen c=true then 7 else fu (seen++[c]) l
def dJ (seen:List ByteArray):List Pr->Nat
 | []=>0
 | p::l=>if jA p.key=false then 6 else if iH p.val=false then 17 else if hasB seen p.key=true then 7 else dJ (seen++[p.key]) l
def At.err (a:At):Nat:=
 if bI a.id=false/\jA a.id=false then 6
 else if fu [] a.cls≠0 then fu [] a.cls
 else if dJ [] a.aR≠0 then dJ [] a.aR
 else if 32<a.cls.length\/32<a.aR.length then 3 else 0
mutual
def aj.NW (ks:List Int):aj->Bool
 | .mk k _ _ _ _ _ _ kids=>ks.contains k||aj.eu ks kids
def aj.eu (ks:List Int):List aj->Bool
 | []=>false
 | x::l=>x.NW ks||aj.eu ks l
end
def pI:List Int:=[9,16,12,14,13]
def kP:List Int:=[2,3]
def Fb (k:Int) (t d ti:ByteArray) (a:At) (ar:List ByteArray) (ci:List Ci) (ks:List aj):Bool:=
 decide (1<=k)&&decide (k<=16)&&(([1,4,5,9,10,12,14,15]:List Int).contains k||bI t)&&(([9,10,16]:List Int).contains k||bI d)&&(([9,10,14]:List Int).contains k||bI ti) &&
 (([10,11]:List Int).contains k||a.none)&&(([6,7,8,9,10,11]:List Int).contains k||ks.isEmpty)&&(decide (k=15)||ar.isEmpty)&&(decide (k=13)||ci.isEmpty)
def kX (s:ByteArray):Nat:=(s.data.toList.takeWhile fun c=>jS c.toNat).length
def uK (s:ByteArray):Bool:=decide (2<=kX s)&&decide (kX s<=20)&&decide (s.data.toList[kX s]?=some 58)&&iH s&&!dZ s [32,60,62]
def l6 (s:ByteArray):Bool:=!iH s||!trimS s||dZ s [91,93,59,64,123,36,96]
def kZ:List Ci->Nat
 | []=>0
 | c::l=>if jA c.key=false then 6 else if l6 c.pre=true\/l6 c.suf=true then 17 else kZ l
def j4 (l:List Ci):Nat:=if l.isEmpty=true then 8 else kZ l
def iY (k:Int) (t d ti:ByteArray) (a:At) (ks:List aj):Nat:=
 if bI t=false/\(bI d=false\/bI ti=false) then 5
 else if bI t=false/\eT t=false then 6
 else if iH d=false\/iH ti=false then 17
 else if k=9/\aj.eu pI ks=true then 5
 else if k=10 then a.err else 0
def jf (s:ByteArray):Bool:=!iH s||dZ s [124,123,125]
def Du:List UInt8:=[112,97,103,101]
def j5 (k:Int) (t ti:ByteArray) (ar:List ByteArray):Nat:=
 if jA t=false then 6
 else if k=14/\bI ti=false/\ti.data.toList≠Du then 5
 else if 8<ar.length then 3
 else if ar.any jf then 17 else 0
def tu (before:Int) (first last:Bool) (k:Int) (t d ti:ByteArray) (a:At) (ar:List ByteArray) (ci:List Ci) (ks:List aj):Nat:=
 if Fb k t d ti a ar ci ks=false then 5
 else if k=1\/k=4\/k=5 then (if bI t=true\/iH t=false then 17 else if k≠5/\before=k then 5 else 0)
 else if k=2 then (if before=2\/before=3\/first=true\/last=true then 5 else 0)
 else if k=3 then (if last=true then 5 else 0)
 else if k=6\/k=7\/k=8 then (if ks.isEmpty=true then 8 else 0)
 else if k=9\/k=10 then iY k t d ti a ks
 else if k=11 then (if a.none=true then 8 else a.err)
 else if k=12\/k=14\/k=15 then j5 k t ti ar
 else if k=13 then j4 ci
 else if uK d=true then 0 else 5
def aj.kd:aj->Int
 | .mk k _ _ _ _ _ _ _=>k
mutual
def aj.err (before:Int) (first last:Bool) (dp:Nat):aj->Nat
 | .mk k t d ti a ar ci ks=>if tu before first last k t d ti a ar ci ks≠0 then tu before first last k t d ti a ar ci ks else aj.aX 0 true (dp+1) ks
def aj.aX (before:Int) (st:Bool) (dp:Nat):List aj->Nat
 | []=>0
 | x::l=>if 15<dp then 11 else if x.err before (decide (dp=0)&&st) (decide (dp=0)&&l.isEmpty) dp≠0 then x.err before (decide (dp=0)&&st) (decide (dp=0)&&l.isEmpty) dp
   else aj.aX x.kd false dp l
end
def Fq (l:List aj):Nat:=aj.aX 0 true 0 l
def yu (k lv:Int) (i t d ti:ByteArray) (a:At) (li:List aj) (ks:List ah):Bool:=
 decide (1<=k)&&decide (k<=15)&&(([2,8]:List Int).contains k||decide (lv=0))&&(([3,10,13,14,15]:List Int).contains k||bI i)&&(([3,4]:List Int).contains k||bI t) &&
 (decide (k=15)||(bI d&&bI ti))&&(([2,4,13]:List Int).contains k||a.none)&&(([1,2,12]:List Int).contains k||li.isEmpty)&&(([6,7,8,9,10,11,13,14]:List Int).contains k||ks.isEmpty)
def gN (k par:Int):Bool:=
 if par=7\/par=8 then decide (k=9) else if par=10 then decide (k=11) else if par=11 then decide (k=12) else !([9,11,12]:List Int).contains k
def lI (s:ByteArray):Bool:=bI s||(kW s&&decide (s.data.toList.getLast?=some 10))
def ah.wP:ah->Nat
 | .mk _ _ _ _ _ _ _ _ ks=>ks.length
def jo (i:ByteArray) (ks:List ah):Nat:=
 if 32<i.size then 3 else if bI i=true then 5 else if i.data.toList.any (fun c=>!([45,108,99,114]:List UInt8).contains c) then 5
 else if ks.isEmpty=true then 8 else if ks.any (fun b=>!decide (b.wP=i.size)) then 15 else 0
def tQ (cl:ByteArray->Bool) (k lv:Int) (i t d ti:ByteArray) (a:At) (li:List aj) (ks:List ah):Nat:=
 if k=1 then (if li.isEmpty=true then 8 else Fq li)
 else if k=2 then (if lv<1\/6<lv then 9 else if a.err≠0 then a.err else if aj.eu kP li=true then 5 else Fq li)
 else if k=12 then (if aj.eu kP li=true then 5 else Fq li)
 else if k=3 then (if iH i=false\/trimS i=false\/lI t=false then 17 else 0)
 else if k=4 then (if lI t=false then 17 else if cl t=true then 5 else a.err)
 else if k=7\/k=8 then (if ks.isEmpty=true then 8 else if k=8/\(lv<0\/999999999<lv) then 9 else 0)
 else if k=10 then jo i ks
 else if k=13\/k=14 then (if jA i=false then 6 else a.err)
 else if k=15 then (if eT i=false then 6 else if iH d=false\/iH ti=false then 17 else 0)
 else 0
mutual
def ah.err (cl:ByteArray->Bool) (par:Int) (dp:Nat):ah->Nat
 | .mk k lv i t d ti a li ks=>if 15<dp then 11 else if yu k lv i t d ti a li ks=false\/gN k par=false then 5
   else if tQ cl k lv i t d ti a li ks≠0 then tQ cl k lv i t d ti a li ks else ah.aX cl k (dp+1) ks
def ah.aX (cl:ByteArray->Bool) (par:Int) (dp:Nat):List ah->Nat
 | []=>0
 | x::l=>if x.err cl par dp≠0 then x.err cl par dp else ah.aX cl par dp l
end
def eB (seen:List ByteArray):List Pr->Nat
 | []=>0
 | p::l=>if jA p.key=false then 6 else if iH p.val=false\/trimS p.val=false then 17 else if hasB seen p.key=true then 7 else eB (seen++[p.key]) l
theorem Gg {α:Type} {l:List α} {y:α} (h:l.getLast?=some y):l=l.dropLast++[y]:=by obtain ⟨ys,rfl⟩:=List.getLast?_eq_some_iff.1 h;simp
def cu:List UInt8->List UInt8->Option (List UInt8 × List UInt8)
 | [],_=>none
 | c::l,acc=>
  if c=34 then some (acc,l)
  else if c=92 then (match l with
   | []=>none
   | d::l'=>if d=34\/d=92 then cu l' (acc++[d]) else none)
  else cu l (acc++[c])
def dx (l:List UInt8):ByteArray:=⟨l.toArray⟩
def eG (l:List UInt8):Option (ByteArray × List UInt8):=
 if l.head?=some 34 then (match cu l.tail [] with
  | none=>none
  | some (v,r)=>if iH (dx v)=true then some (dx v,r) else none)
 else if jA (dx (l.takeWhile iF))=true then some (dx (l.takeWhile iF),l.dropWhile iF) else none
def sQ (l:List UInt8):List UInt8:=if l.head?=some 35\/l.head?=some 46 then l.tail else l
def keysOf (a:At):List ByteArray:=a.aR.map Pr.key
def dA (a:At) (l:List UInt8):Option (At × List UInt8):=
 if jA (dx ((sQ l).takeWhile iF))=false then none
 else if l.head?=some 35 then (if bI a.id=false then none else some (⟨dx ((sQ l).takeWhile iF),a.cls,a.aR⟩,(sQ l).dropWhile iF))
 else if l.head?=some 46 then (if hasB a.cls (dx ((sQ l).takeWhile iF))=true then none else if 32<=a.cls.length then none
  else some (⟨a.id,a.cls++[dx ((sQ l).takeWhile iF)],a.aR⟩,(sQ l).dropWhile iF))
 else if ((sQ l).dropWhile iF).head?=some 61 then (match eG ((sQ l).dropWhile iF).tail with
  | none=>none
  | some (v,r)=>if hasB (keysOf a) (dx ((sQ l).takeWhile iF))=true then none else if 32<=a.aR.length then none
   else some (⟨a.id,a.cls,a.aR++[⟨dx ((sQ l).takeWhile iF),v⟩]⟩,r))
 else none
def isSp (c:UInt8):Bool:=decide (c=32)
def iK (l:List UInt8):List UInt8:=l.dropWhile isSp
def xV:Nat->At->Bool->List UInt8->Option (At × List UInt8)
 | 0,_,_,_=>none
 | f+1,a,sep,l=>
  if l.head?=some 125 then some (a,l.tail)
  else if l=[]\/sep=false then none
  else (match dA a l with
   | none=>none
   | some (a',l')=>xV f a' (decide (l'.head?=some 32)) (iK l'))
def BQ (l:List UInt8):Option (At × List UInt8):=
 if l.head?=some 123 then xV l.length ⟨dx [],[],[]⟩ true (iK l.tail) else none
theorem wU (p:UInt8->Bool):∀ (n r:List UInt8),(∀ c∈n,p c=true)->(∀ c,r.head?=some c->p c=false)->(n++r).takeWhile p=n/\(n++r).dropWhile p=r
 | [],r,_,h2=>by
  cases r with
  | nil=>exact ⟨rfl,rfl⟩
  | cons c r=>exact ⟨by simp [h2 c rfl],by simp [h2 c rfl]⟩
 | c::n,r,h1,h2=>by
  have hc:=h1 c (by simp);obtain ⟨k1,k2⟩:=wU p n r (fun x hx=>h1 x (by simp [hx])) h2;rw [jj6,List.takeWhile_cons,List.dropWhile_cons,hc];simp [k1,k2]
theorem fZ (p:UInt8->Bool) (l:List UInt8):(∀ c∈l.takeWhile p,p c=true)/\(∀ c,(l.dropWhile p).head?=some c->p c=false):=by
 induction l with
 | nil=>simp
 | cons x l ih=>
  rw [List.takeWhile_cons,List.dropWhile_cons];cases h:p x with
  | true=>
   refine ⟨fun c hc=>?_,fun c hc=>ih.2 c (by simpa using hc)⟩;simp at hc;rcases hc with rfl | hc
   ·exact h
   ·exact ih.1 c hc
  | false=>exact ⟨by simp,fun c hc=>by simp at hc;rw [<- hc];exact h⟩
theorem uo (p:UInt8->Bool) (l r':List UInt8) (h:r'.head?=(l.dropWhile p).head?):(l.takeWhile p++r').takeWhile p=l.takeWhile p/\(l.takeWhile p++r').dropWhile p=r':=
 wU p _ _ (fZ p l).1 (fun c hc=>(fZ p l).2 c (by rw [<- h];exact hc))
theorem oP:∀ (n:Nat) (l acc v r:List UInt8),l.length<=n->cu l acc=some (v,r)->∃ p,l=p++r/\p≠[]/\∀ r',cu (p++r') acc=some (v,r')
 | n,[],acc,v,r,_,h=>by rw [cu] at h;cases h
 | 0,c::l,acc,v,r,hn,h=>by simp at hn
 | n+1,c::l,acc,v,r,hn,h=>by
  simp only [List.length_cons] at hn;rw [cu.eq_def] at h;simp only at h;by_cases h1:c=34
  ·rw [if_pos h1] at h;injection h with h
   injection h with h2 h3
   subst h2 h3;exact ⟨[c],rfl,by simp,fun r'=>by rw [List.singleton_append,cu.eq_def];simp only;rw [if_pos h1]⟩
  ·rw [if_neg h1] at h;by_cases h2:c=92
   ·rw [if_pos h2] at h;cases l with
    | nil=>cases h
    | cons d l'=>
     simp only at h;by_cases h3:d=34\/d=92
     ·rw [if_pos h3] at h;obtain ⟨p,e1,e2,e3⟩:=oP n l' (acc++[d]) v r (by simp at hn;omega) h;refine ⟨c::d::p,by rw [e1];rfl,by simp,fun r'=>?_⟩;rw [jj6,jj6,cu.eq_def];simp only;rw [if_neg h1,if_pos h2,if_pos h3];exact e3 r'
     ·rw [if_neg h3] at h;cases h
   ·rw [if_neg h2] at h;obtain ⟨p,e1,e2,e3⟩:=oP n l (acc++[c]) v r (by omega) h;refine ⟨c::p,by rw [e1];rfl,by simp,fun r'=>?_⟩;rw [jj6,cu.eq_def];simp only;rw [if_neg h1,if_neg h2];exact e3 r'
theorem nN (l:List UInt8) (h:jA (dx l)=true):l≠[]:=by rintro rfl;revert h;decide
theorem GI (l r:List UInt8) (v:ByteArray) (h:eG l=some (v,r)):∃ p,l=p++r/\p≠[]/\∀ r',r'.head?=r.head?->eG (p++r')=some (v,r'):=by
 unfold eG at h;by_cases h1:l.head?=some 34
 ·rw [if_pos h1] at h;cases l with
  | nil=>simp at h1
  | cons c l=>
   obtain rfl:c=34:=by simpa using h1
   rw [List.tail_cons] at h;cases hq:cu l [] with
   | none=>rw [hq] at h;cases h
   | some z=>
    obtain ⟨v1,r1⟩:=z;rw [hq] at h;simp only at h;by_cases h2:iH (dx v1)=true
    ·rw [if_pos h2] at h;injection h with h
     injection h with h3 h4
     subst h3 h4;obtain ⟨p,e1,e2,e3⟩:=oP _ l [] v1 r1 (Nat.le_refl _) hq;refine ⟨34::p,by rw [e1];rfl,by simp,fun r' _=>?_⟩;unfold eG;rw [jj6,List.head?_cons,if_pos rfl,List.tail_cons,e3 r'];simp only;rw [if_pos h2]
    ·rw [if_neg h2] at h;cases h
 ·rw [if_neg h1] at h;by_cases h2:jA (dx (l.takeWhile iF))=true
  ·rw [if_pos h2] at h;injection h with h
   injection h with h3 h4
   subst h3 h4;refine ⟨l.takeWhile iF,(List.takeWhile_append_dropWhile).symm,nN _ h2,fun r' hr=>?_⟩;obtain ⟨k1,k2⟩:=uo iF l r' hr;unfold eG;have hh:(l.takeWhile iF++r').head?=l.head?:=by
    cases l with
    | nil=>exact absurd rfl (nN _ h2)
    | cons c l=>
     have hne:=nN _ h2;rw [List.takeWhile_cons] at hne ⊢;cases hc:iF c with
     | true=>simp
     | false=>rw [hc] at hne;simp at hne
   rw [hh,if_neg h1,k1,k2,if_pos h2]
  ·rw [if_neg h2] at h;cases h
theorem mO (p r r':List UInt8) (h:p≠[]):(p++r).head?=(p++r').head?:=by
 cases p with
 | nil=>exact absurd rfl h
 | cons c p=>rfl
theorem zU (a a':At) (l r:List UInt8) (h:dA a l=some (a',r)):∃ p,l=p++r/\p≠[]/\∀ r',r'.head?=r.head?->dA a (p++r')=some (a',r'):=by
 unfold dA at h;by_cases h1:jA (dx ((sQ l).takeWhile iF))=false
 ·rw [if_pos h1] at h;cases h
 rw [if_neg h1] at h;have h1':jA (dx ((sQ l).takeWhile iF))=true:=by simpa using h1
 have hN:=nN _ h1';by_cases h2:l.head?=some 35
 ·rw [if_pos h2] at h;by_cases h3:bI a.id=false
  ·rw [if_pos h3] at h;cases h
  rw [if_neg h3] at h;injection h with h
  injection h with e1 e2
  cases l with
  | nil=>simp at h2
  | cons c l=>
   obtain rfl:c=35:=by simpa using h2
   have hA:∀ x,sQ (35::x)=x:=fun x=>by simp [sQ]
   rw [hA] at e1 e2 h1 hN;refine ⟨35::l.takeWhile iF,?_,by simp,fun r' hr=>?_⟩
   ·rw [<- e2,jj6,List.takeWhile_append_dropWhile]
   ·obtain ⟨k1,k2⟩:=uo iF l r' (by rw [hr,e2]);unfold dA;rw [jj6,hA,k1,k2,if_neg h1,List.head?_cons,if_pos rfl,if_neg h3,e1]
 rw [if_neg h2] at h;by_cases h3:l.head?=some 46
 ·rw [if_pos h3] at h;by_cases h4:hasB a.cls (dx ((sQ l).takeWhile iF))=true
  ·rw [if_pos h4] at h;cases h
  rw [if_neg h4] at h;by_cases h5:32<=a.cls.length
  ·rw [if_pos h5] at h;cases h
  rw [if_neg h5] at h;injection h with h
  injection h with e1 e2
  cases l with
  | nil=>simp at h3
  | cons c l=>
   obtain rfl:c=46:=by simpa using h3
   have hA:∀ x,sQ (46::x)=x:=fun x=>by simp [sQ]
   rw [hA] at e1 e2 h1 hN h4;refine ⟨46::l.takeWhile iF,?_,by simp,fun r' hr=>?_⟩
   ·rw [<- e2,jj6,List.takeWhile_append_dropWhile]
   ·obtain ⟨k1,k2⟩:=uo iF l r' (by rw [hr,e2]);unfold dA;rw [jj6,hA,k1,k2,if_neg h1,List.head?_cons,if_neg (by decide),if_pos rfl,if_neg h4,if_neg h5,e1]
 rw [if_neg h3] at h;have hA:sQ l=l:=by unfold sQ;rw [if_neg (by rintro (h | h);exact h2 h;exact h3 h)]
 rw [hA] at h h1 hN;by_cases h4:(l.dropWhile iF).head?=some 61
 ·rw [if_pos h4] at h;cases hv:eG (l.dropWhile iF).tail with
  | none=>rw [hv] at h;cases h
  | some z=>
   obtain ⟨v,r1⟩:=z;rw [hv] at h;simp only at h;by_cases h5:hasB (keysOf a) (dx (l.takeWhile iF))=true
   ·rw [if_pos h5] at h;cases h
   rw [if_neg h5] at h;by_cases h6:32<=a.aR.length
   ·rw [if_pos h6] at h;cases h
   rw [if_neg h6] at h;injection h with h
   injection h with e1 e2
   subst e2;obtain ⟨p1,q1,q2,q3⟩:=GI _ _ _ hv;have hD:l.dropWhile iF=61::(l.dropWhile iF).tail:=by
    cases hd:l.dropWhile iF with
    | nil=>rw [hd] at h4;simp at h4
    | cons c m=>
     rw [hd] at h4;obtain rfl:c=61:=by simpa using h4
     rfl
   refine ⟨l.takeWhile iF++61::p1,?_,by simp,fun r' hr=>?_⟩
   ·rw [List.append_assoc,jj6,<- q1,<- hD,List.takeWhile_append_dropWhile]
   ·have hrr:(l.takeWhile iF++61::p1)++r'=l.takeWhile iF++(61::(p1++r')):=by simp
    obtain ⟨k1,k2⟩:=uo iF l (61::(p1++r')) (by rw [h4];rfl);have hh:(l.takeWhile iF++(61::(p1++r'))).head?=l.head?:=by
     conv=>rhs;rw [<- List.takeWhile_append_dropWhile (p:=iF) (l:=l)]
     exact mO _ _ _ hN
    have hA':sQ (l.takeWhile iF++(61::(p1++r')))=l.takeWhile iF++(61::(p1++r')):=by unfold sQ;rw [hh,if_neg (by rintro (h | h);exact h2 h;exact h3 h)]
    unfold dA;rw [hrr,hA',k1,k2,hh,if_neg h1,if_neg h2,if_neg h3,List.head?_cons,if_pos rfl,List.tail_cons,q3 r' hr];simp only;rw [if_neg h5,if_neg h6,e1]
 ·rw [if_neg h4] at h;cases h
theorem wV:∀ (f:Nat) (a a':At) (sep:Bool) (l r:List UInt8),xV f a sep l=some (a',r) -> ∃ p,l=p++125::r/\∀ r' f',p.length+r'.length+1<=f'->xV f' a sep (p++125::r')=some (a',r')
 | 0,a,a',sep,l,r,h=>by rw [xV] at h;cases h
 | f+1,a,a',sep,l,r,h=>by
  rw [xV] at h;by_cases h1:l.head?=some 125
  ·rw [if_pos h1] at h;injection h with h
   injection h with e1 e2
   subst e1 e2;cases l with
   | nil=>simp at h1
   | cons c l=>
    obtain rfl:c=125:=by simpa using h1
    refine ⟨[],rfl,fun r' f' hf=>?_⟩;obtain ⟨g,rfl⟩:∃ g,f'=g+1:=⟨f'-1,by omega⟩;rw [xV,List.nil_append,List.head?_cons,if_pos rfl];rfl
  rw [if_neg h1] at h;by_cases h2:l=[]\/sep=false
  ·rw [if_pos h2] at h;cases h
  rw [if_neg h2] at h;cases hi:dA a l with
  | none=>rw [hi] at h;cases h
  | some z=>
   obtain ⟨a1,l1⟩:=z;rw [hi] at h;simp only at h;obtain ⟨p1,q1,q2,q3⟩:=zU _ _ _ _ hi;obtain ⟨p2,k1,k2⟩:=wV f a1 a' _ _ r h;have hl1:l1=l1.takeWhile isSp++(p2++125::r):=by rw [<- k1];exact (List.takeWhile_append_dropWhile).symm
   have hh:∀ r',(l1.takeWhile isSp++(p2++125::r')).head?=l1.head?:=fun r'=>by
    conv=>rhs;rw [hl1]
    have e:∀ x,l1.takeWhile isSp++(p2++125::x)=(l1.takeWhile isSp++p2++[125])++x:=fun x=>by simp
    rw [e,e];exact mO _ _ _ (by simp)
   have hs:∀ r',iK (l1.takeWhile isSp++(p2++125::r'))=p2++125::r':=fun r'=>by
    refine (wU isSp _ _ (fZ isSp l1).1 (fun c hc=>(fZ isSp l1).2 c ?_)).2;rw [<- hc];show (iK l1).head?=_;rw [k1];have e:∀ x,p2++125::x=(p2++[125])++x:=fun x=>by simp
    rw [e r',e r];exact mO _ _ _ (by simp)
   refine ⟨p1++l1.takeWhile isSp++p2,?_,fun r' f' hf=>?_⟩
   ·rw [q1,List.append_assoc,List.append_assoc,<- hl1]
   ·obtain ⟨g,rfl⟩:∃ g,f'=g+1:=⟨f'-1,by omega⟩;have hp1:0<p1.length:=List.length_pos_iff.2 q2;have e:p1++l1.takeWhile isSp++p2++125::r'=p1++(l1.takeWhile isSp++(p2++125::r')):=by simp
    have hh2:(p1++(l1.takeWhile isSp++(p2++125::r'))).head?=l.head?:=by rw [q1];exact mO _ _ _ q2
    rw [e,xV,hh2,if_neg h1,if_neg,q3 _ (hh r')]
    ·simp only;rw [hh r',hs r'];refine k2 r' g ?_;simp only [List.length_append] at hf;omega
    ·rintro (h3 | h3)
     ·simp at h3
     ·exact h2 (.inr h3)
def fG (l:List UInt8):List UInt8:=(l.reverse.dropWhile isSp).reverse
theorem zV (p r:List UInt8) (hr:∀ c∈r,isSp c=true) (hp:∀ c,p.getLast?=some c->isSp c=false):fG (p++r)=p:=by unfold fG;rw [List.reverse_append,(wU isSp r.reverse p.reverse (fun c hc=>hr c (by simpa using hc)) (fun c hc=>hp c (by simpa using hc))).2,List.reverse_reverse]
theorem mP (l:List UInt8):∃ r,l=fG l++r/\∀ c∈r,isSp c=true:=by refine ⟨(l.reverse.takeWhile isSp).reverse,?_,fun c hc=>(fZ isSp l.reverse).1 c (by simpa using hc)⟩;unfold fG;rw [<- List.reverse_append,List.takeWhile_append_dropWhile,List.reverse_reverse]
theorem wW (l r:List UInt8) (a:At) (h:BQ l=some (a,r)):∃ p,l=p++125::r/\∀ r',BQ (p++125::r')=some (a,r'):=by
 unfold BQ at h;by_cases h1:l.head?=some 123
 ·rw [if_pos h1] at h;cases l with
  | nil=>simp at h1
  | cons c l=>
   obtain rfl:c=123:=by simpa using h1
   rw [List.tail_cons] at h;obtain ⟨p2,k1,k2⟩:=wV _ _ _ _ _ _ h;have hl:l=l.takeWhile isSp++(p2++125::r):=by rw [<- k1];exact (List.takeWhile_append_dropWhile).symm
   have hs:∀ r',iK (l.takeWhile isSp++(p2++125::r'))=p2++125::r':=fun r'=>by
    refine (wU isSp _ _ (fZ isSp l).1 (fun c hc=>(fZ isSp l).2 c ?_)).2;rw [<- hc];show (iK l).head?=_;rw [k1];have e:∀ x,p2++125::x=(p2++[125])++x:=fun x=>by simp
    rw [e r',e r];exact mO _ _ _ (by simp)
   refine ⟨123::(l.takeWhile isSp++p2),?_,fun r'=>?_⟩
   ·conv=>lhs;rw [hl]
    simp
   ·have e:123::(l.takeWhile isSp++p2)++125::r'=123::(l.takeWhile isSp++(p2++125::r')):=by simp
    unfold BQ;rw [e,List.head?_cons,if_pos rfl,List.tail_cons,hs r'];refine k2 r' _ ?_;simp;omega
 ·rw [if_neg h1] at h;cases h
def GJ (l:List UInt8):Bool:=match BQ l with
 | none=>false
 | some (_,r)=>r.all isSp
def GK (l:List UInt8):Bool:=match BQ (fG l) with
 | none=>false
 | some (_,r)=>r.isEmpty
theorem yO (l:List UInt8):GJ l=GK l:=by
 rw [Bool.eq_iff_iff];unfold GJ GK;constructor
 ·intro h;cases hp:BQ l with
  | none=>rw [hp] at h;cases h
  | some z=>
   obtain ⟨a,r⟩:=z;rw [hp] at h;simp only at h;obtain ⟨p,e1,e2⟩:=wW _ _ _ hp;have ht:fG l=p++[125]:=by
    have e:l=(p++[125])++r:=by rw [e1];simp
    rw [e];refine zV _ _ (List.all_eq_true.1 h) (fun c hc=>?_);simp at hc;subst hc;decide
   rw [ht,e2 []];rfl
 ·intro h;cases hp:BQ (fG l) with
  | none=>rw [hp] at h;cases h
  | some z=>
   obtain ⟨a,r⟩:=z;rw [hp] at h;simp only at h;obtain rfl:r=[]:=by simpa using h
   obtain ⟨p,e1,e2⟩:=wW _ _ _ hp;obtain ⟨sp,k1,k2⟩:=mP l;have e:l=p++125::sp:=by rw [k1,e1];simp
   rw [e,e2 sp];exact List.all_eq_true.2 k2
def mQ (l:List UInt8):Bool:=
 decide ((l.takeWhile isSp).length<=3)&&decide ((iK l).take 2=[36,36])&&((iK ((iK l).drop 2)).isEmpty||GJ (iK ((iK l).drop 2)))
def wX:List UInt8->List UInt8->List (List UInt8)
 | _,[]=>[]
 | acc,c::l=>if c=10 then acc::wX [] l else wX (acc++[c]) l
def pV (s:ByteArray):Bool:=(wX [] s.data.toList).any mQ
end Go.Proofs.YtclikfjalmcoaaaGreatDoor

