/- Plain part: the errors of layer 4: what is not well-formed in inlines and blocks. Plain part: merged inlines: what Merge returns; it keeps the plain text, and changes nothing the second time, nor a line without errors. Plain part: groups of texts in Merge. Plain part: clean texts one after the other are clean. Plain part: entry lines, as the program and as the reference make them. Plain part: attributes in braces, read off a list of bytes; what is read does not depend on what stands behind the closing brace. -/
import Derived.Test.YtclikfjalmcoaaaGreatDoorKSame
import Derived.Test.YtclikfjalmcoaaaGreatDoorKCtC
import Derived.Lib.RuneCount
namespace Go.Proofs.YtclikfjalmcoaaaGreatDoor
open List renaming cons_append->ji0
set_option linter.unusedVariables false
set_option linter.unusedSimpArgs false
def sH (p:Nat × Nat):Bool:=(decide (p.1=10)||(decide (32<=p.1)&&!decide (p.1=127)))&&!(decide (p.1=65533)&&decide (p.2=1))
def fH (s:ByteArray):Bool:=(pts s).all sH
def zn (s:ByteArray):Bool:=s.data.toList.all fun c=>!decide (c=10)
def eB (s:ByteArray):Bool:=fH s&&zn s
def trimS (s:ByteArray):Bool:=decide (s.data.toList=[])||(!decide (s.data.toList.head?=some 32)&&!decide (s.data.toList.getLast?=some 32))
def oG (s:ByteArray) (bs:List UInt8):Bool:=s.data.toList.any fun c=>bs.contains c
def jU (p:Nat × Nat):Bool:=iD p.1||BQ p.1||[32,45,95,46,58].contains p.1
def tV (s:ByteArray):Bool:=decide (1<=s.size)&&decide (s.size<=60)&&decide (nu s=s)&&(pts s).all jU
def aT (s:ByteArray):Bool:=decide (s.data.toList=[])
def At.none (a:At):Bool:=aT a.id&&a.cls.isEmpty&&a.aF.isEmpty
def qA (seen:List ByteArray):List ByteArray->Nat
 | []=>0
 | c::l=>if fP c=false then 6 else if fF seen c=true then 7 else qA (seen++[c]) l
def mO (seen:List ByteArray):List Pr->Nat
 | []=>0
 | p::l=>if fP p.key=false then 6 else if eB p.val=false then 17 else if fF seen p.key=true then 7 else mO (seen++[p.key]) l
def At.err (a:At):Nat:=
 if aT a.id=false/\fP a.id=false then 6
 else if qA [] a.cls≠0 then qA [] a.cls
 else if mO [] a.aF≠0 then mO [] a.aF
 else if 32<a.cls.length\/32<a.aF.length then 3 else 0
mutual
def aj.Iz (ks:List Int):aj->Bool
 | .mk k _ _ _ _ _ _ kids=>ks.contains k||aj.cO ks kids
def aj.cO (ks:List Int):List aj->Bool
 | []=>false
 | x::l=>x.Iz ks||aj.cO ks l
end
def bX:List Int:=[9,16,12,14,13]
def dJ:List Int:=[2,3]
def vW (k:Int) (t d ti:ByteArray) (a:At) (ar:List ByteArray) (ci:List Ci) (ks:List aj):Bool:=
 decide (1<=k)&&decide (k<=16)&&(([1,4,5,9,10,12,14,15]:List Int).contains k||aT t)&&(([9,10,16]:List Int).contains k||aT d)&&(([9,10,14]:List Int).contains k||aT ti) &&
 (([10,11]:List Int).contains k||a.none)&&(([6,7,8,9,10,11]:List Int).contains k||ks.isEmpty)&&(decide (k=15)||ar.isEmpty)&&(decide (k=13)||ci.isEmpty)
def gH (s:ByteArray):Nat:=(s.data.toList.takeWhile fun c=>dM c.toNat).length
def mI (s:ByteArray):Bool:=decide (2<=gH s)&&decide (gH s<=20)&&decide (s.data.toList[gH s]?=some 58)&&eB s&&!oG s [32,60,62]
def gW (s:ByteArray):Bool:=!eB s||!trimS s||oG s [91,93,59,64,123,36,96]
def eU:List Ci->Nat
 | []=>0
 | c::l=>if fP c.key=false then 6 else if gW c.pre=true\/gW c.suf=true then 17 else eU l
def MO (l:List Ci):Nat:=if l.isEmpty=true then 8 else eU l
def q1z (k:Int) (t d ti:ByteArray) (a:At) (ks:List aj):Nat:=
 if aT t=false/\(aT d=false\/aT ti=false) then 5
 else if aT t=false/\tV t=false then 6
 else if eB d=false\/eB ti=false then 17
 else if k=9/\aj.cO bX ks=true then 5
 else if k=10 then a.err else 0
def uS (s:ByteArray):Bool:=!eB s||oG s [124,123,125]
def nI:List UInt8:=[112,97,103,101]
def MP (k:Int) (t ti:ByteArray) (ar:List ByteArray):Nat:=
 if fP t=false then 6
 else if k=14/\aT ti=false/\ti.data.toList≠nI then 5
 else if 8<ar.length then 3
 else if ar.any uS then 17 else 0
def oI (before:Int) (first last:Bool) (k:Int) (t d ti:ByteArray) (a:At) (ar:List ByteArray) (ci:List Ci) (ks:List aj):Nat:=
 if vW k t d ti a ar ci ks=false then 5
 else if k=1\/k=4\/k=5 then (if aT t=true\/eB t=false then 17 else if k≠5/\before=k then 5 else 0)
 else if k=2 then (if before=2\/before=3\/first=true\/last=true then 5 else 0)
 else if k=3 then (if last=true then 5 else 0)
 else if k=6\/k=7\/k=8 then (if ks.isEmpty=true then 8 else 0)
 else if k=9\/k=10 then q1z k t d ti a ks
 else if k=11 then (if a.none=true then 8 else a.err)
 else if k=12\/k=14\/k=15 then MP k t ti ar
 else if k=13 then MO ci
 else if mI d=true then 0 else 5
def aj.kd:aj->Int
 | .mk k _ _ _ _ _ _ _=>k
mutual
def aj.err (before:Int) (first last:Bool) (dp:Nat):aj->Nat
 | .mk k t d ti a ar ci ks=>if oI before first last k t d ti a ar ci ks≠0 then oI before first last k t d ti a ar ci ks else aj.aS 0 true (dp+1) ks
def aj.aS (before:Int) (st:Bool) (dp:Nat):List aj->Nat
 | []=>0
 | x::l=>if 15<dp then 11 else if x.err before (decide (dp=0)&&st) (decide (dp=0)&&l.isEmpty) dp≠0 then x.err before (decide (dp=0)&&st) (decide (dp=0)&&l.isEmpty) dp
   else aj.aS x.kd false dp l
end
def qh (l:List aj):Nat:=aj.aS 0 true 0 l
def Dx (k lv:Int) (i t d ti:ByteArray) (a:At) (li:List aj) (ks:List au):Bool:=
 decide (1<=k)&&decide (k<=15)&&(([2,8]:List Int).contains k||decide (lv=0))&&(([3,10,13,14,15]:List Int).contains k||aT i)&&(([3,4]:List Int).contains k||aT t) &&
 (decide (k=15)||(aT d&&aT ti))&&(([2,4,13]:List Int).contains k||a.none)&&(([1,2,12]:List Int).contains k||li.isEmpty)&&(([6,7,8,9,10,11,13,14]:List Int).contains k||ks.isEmpty)
def gV (k par:Int):Bool:=
 if par=7\/par=8 then decide (k=9) else if par=10 then decide (k=11) else if par=11 then decide (k=12) else !([9,11,12]:List Int).contains k
def mH (s:ByteArray):Bool:=aT s||(fH s&&decide (s.data.toList.getLast?=some 10))
def au.wG:au->Nat
 | .mk _ _ _ _ _ _ _ _ ks=>ks.length
def jE (i:ByteArray) (ks:List au):Nat:=
 if 32<i.size then 3 else if aT i=true then 5 else if i.data.toList.any (fun c=>!([45,108,99,114]:List UInt8).contains c) then 5
 else if ks.isEmpty=true then 8 else if ks.any (fun b=>!decide (b.wG=i.size)) then 15 else 0
def vD (cl:ByteArray->Bool) (k lv:Int) (i t d ti:ByteArray) (a:At) (li:List aj) (ks:List au):Nat:=
 if k=1 then (if li.isEmpty=true then 8 else qh li)
 else if k=2 then (if lv<1\/6<lv then 9 else if a.err≠0 then a.err else if aj.cO dJ li=true then 5 else qh li)
 else if k=12 then (if aj.cO dJ li=true then 5 else qh li)
 else if k=3 then (if eB i=false\/trimS i=false\/mH t=false then 17 else 0)
 else if k=4 then (if mH t=false then 17 else if cl t=true then 5 else a.err)
 else if k=7\/k=8 then (if ks.isEmpty=true then 8 else if k=8/\(lv<0\/999999999<lv) then 9 else 0)
 else if k=10 then jE i ks
 else if k=13\/k=14 then (if fP i=false then 6 else a.err)
 else if k=15 then (if tV i=false then 6 else if eB d=false\/eB ti=false then 17 else 0)
 else 0
mutual
def au.err (cl:ByteArray->Bool) (par:Int) (dp:Nat):au->Nat
 | .mk k lv i t d ti a li ks=>if 15<dp then 11 else if Dx k lv i t d ti a li ks=false\/gV k par=false then 5
   else if vD cl k lv i t d ti a li ks≠0 then vD cl k lv i t d ti a li ks else au.aS cl k (dp+1) ks
def au.aS (cl:ByteArray->Bool) (par:Int) (dp:Nat):List au->Nat
 | []=>0
 | x::l=>if x.err cl par dp≠0 then x.err cl par dp else au.aS cl par dp l
end
def eX (seen:List ByteArray):List Pr->Nat
 | []=>0
 | p::l=>if fP p.key=false then 6 else if eB p.val=false\/trimS p.val=false then 17 else if fF seen p.key=true then 7 else eX (seen++[p.key]) l
def bZ:List UInt8->List UInt8->Option (List UInt8 × List UInt8)
 | [],_=>none
 | c::l,acc=>
  if c=34 then some (acc,l)
  else if c=92 then (match l with
   | []=>none
   | d::l'=>if d=34\/d=92 then bZ l' (acc++[d]) else none)
  else bZ l (acc++[c])
def dA (l:List UInt8):ByteArray:=⟨l.toArray⟩
def fq (l:List UInt8):Option (ByteArray × List UInt8):=
 if l.head?=some 34 then (match bZ l.tail [] with
  | none=>none
  | some (v,r)=>if eB (dA v)=true then some (dA v,r) else none)
 else if fP (dA (l.takeWhile gU))=true then some (dA (l.takeWhile gU),l.dropWhile gU) else none
def uI (l:List UInt8):List UInt8:=if l.head?=some 35\/l.head?=some 46 then l.tail else l
def keysOf (a:At):List ByteArray:=a.aF.map Pr.key
def dH (a:At) (l:List UInt8):Option (At × List UInt8):=
 if fP (dA ((uI l).takeWhile gU))=false then none
 else if l.head?=some 35 then (if aT a.id=false then none else some (⟨dA ((uI l).takeWhile gU),a.cls,a.aF⟩,(uI l).dropWhile gU))
 else if l.head?=some 46 then (if fF a.cls (dA ((uI l).takeWhile gU))=true then none else if 32<=a.cls.length then none
  else some (⟨a.id,a.cls++[dA ((uI l).takeWhile gU)],a.aF⟩,(uI l).dropWhile gU))
 else if ((uI l).dropWhile gU).head?=some 61 then (match fq ((uI l).dropWhile gU).tail with
  | none=>none
  | some (v,r)=>if fF (keysOf a) (dA ((uI l).takeWhile gU))=true then none else if 32<=a.aF.length then none
   else some (⟨a.id,a.cls,a.aF++[⟨dA ((uI l).takeWhile gU),v⟩]⟩,r))
 else none
def isSp (c:UInt8):Bool:=decide (c=32)
def iX (l:List UInt8):List UInt8:=l.dropWhile isSp
def zh:Nat->At->Bool->List UInt8->Option (At × List UInt8)
 | 0,_,_,_=>none
 | f+1,a,sep,l=>
  if l.head?=some 125 then some (a,l.tail)
  else if l=[]\/sep=false then none
  else (match dH a l with
   | none=>none
   | some (a',l')=>zh f a' (decide (l'.head?=some 32)) (iX l'))
def Dm (l:List UInt8):Option (At × List UInt8):=
 if l.head?=some 123 then zh l.length ⟨dA [],[],[]⟩ true (iX l.tail) else none
theorem yj (p:UInt8->Bool):∀ (n r:List UInt8),(∀ c∈n,p c=true)->(∀ c,r.head?=some c->p c=false)->(n++r).takeWhile p=n/\(n++r).dropWhile p=r
 | [],r,_,h2=>by
  cases r with
  | nil=>exact ⟨rfl,rfl⟩
  | cons c r=>exact ⟨by simp [h2 c rfl],by simp [h2 c rfl]⟩
 | c::n,r,h1,h2=>by
  have hc:=h1 c (by simp);obtain ⟨k1,k2⟩:=yj p n r (fun x hx=>h1 x (by simp [hx])) h2;rw [ji0,List.takeWhile_cons,List.dropWhile_cons,hc];simp [k1,k2]
theorem gM (p:UInt8->Bool) (l:List UInt8):(∀ c∈l.takeWhile p,p c=true)/\(∀ c,(l.dropWhile p).head?=some c->p c=false):=by
 induction l with
 | nil=>simp
 | cons x l ih=>
  rw [List.takeWhile_cons,List.dropWhile_cons];cases h:p x with
  | true=>
   refine ⟨fun c hc=>?_,fun c hc=>ih.2 c (by simpa using hc)⟩;simp at hc;rcases hc with rfl | hc
   ·exact h
   ·exact ih.1 c hc
  | false=>exact ⟨by simp,fun c hc=>by simp at hc;rw [<- hc];exact h⟩
theorem vO (p:UInt8->Bool) (l r':List UInt8) (h:r'.head?=(l.dropWhile p).head?):(l.takeWhile p++r').takeWhile p=l.takeWhile p/\(l.takeWhile p++r').dropWhile p=r':=
 yj p _ _ (gM p l).1 (fun c hc=>(gM p l).2 c (by rw [<- h];exact hc))
theorem qD:∀ (n:Nat) (l acc v r:List UInt8),l.length<=n->bZ l acc=some (v,r)->∃ p,l=p++r/\p≠[]/\∀ r',bZ (p++r') acc=some (v,r')
 | n,[],acc,v,r,_,h=>by rw [bZ] at h;cases h
 | 0,c::l,acc,v,r,hn,h=>by simp at hn
 | n+1,c::l,acc,v,r,hn,h=>by
  simp only [List.length_cons] at hn;rw [bZ.eq_def] at h;simp only at h;by_cases h1:c=34
  ·rw [if_pos h1] at h;injection h with h
   injection h with h2 h3
   subst h2 h3;exact ⟨[c],rfl,by simp,fun r'=>by rw [List.singleton_append,bZ.eq_def];simp only;rw [if_pos h1]⟩
  ·rw [if_neg h1] at h;by_cases h2:c=92
   ·rw [if_pos h2] at h;cases l with
    | nil=>cases h
    | cons d l'=>
     simp only at h;by_cases h3:d=34\/d=92
     ·rw [if_pos h3] at h;obtain ⟨p,e1,e2,e3⟩:=qD n l' (acc++[d]) v r (by simp at hn;omega) h;refine ⟨c::d::p,by rw [e1];rfl,by simp,fun r'=>?_⟩;rw [ji0,ji0,bZ.eq_def];simp only;rw [if_neg h1,if_pos h2,if_pos h3];exact e3 r'
     ·rw [if_neg h3] at h;cases h
   ·rw [if_neg h2] at h;obtain ⟨p,e1,e2,e3⟩:=qD n l (acc++[c]) v r (by omega) h;refine ⟨c::p,by rw [e1];rfl,by simp,fun r'=>?_⟩;rw [ji0,bZ.eq_def];simp only;rw [if_neg h1,if_neg h2];exact e3 r'
theorem oW (l:List UInt8) (h:fP (dA l)=true):l≠[]:=by rintro rfl;revert h;decide
theorem IE (l r:List UInt8) (v:ByteArray) (h:fq l=some (v,r)):∃ p,l=p++r/\p≠[]/\∀ r',r'.head?=r.head?->fq (p++r')=some (v,r'):=by
 unfold fq at h;by_cases h1:l.head?=some 34
 ·rw [if_pos h1] at h;cases l with
  | nil=>simp at h1
  | cons c l=>
   obtain rfl:c=34:=by simpa using h1
   rw [List.tail_cons] at h;cases hq:bZ l [] with
   | none=>rw [hq] at h;cases h
   | some z=>
    obtain ⟨v1,r1⟩:=z;rw [hq] at h;simp only at h;by_cases h2:eB (dA v1)=true
    ·rw [if_pos h2] at h;injection h with h
     injection h with h3 h4
     subst h3 h4;obtain ⟨p,e1,e2,e3⟩:=qD _ l [] v1 r1 (Nat.le_refl _) hq;refine ⟨34::p,by rw [e1];rfl,by simp,fun r' _=>?_⟩;unfold fq;rw [ji0,List.head?_cons,if_pos rfl,List.tail_cons,e3 r'];simp only;rw [if_pos h2]
    ·rw [if_neg h2] at h;cases h
 ·rw [if_neg h1] at h;by_cases h2:fP (dA (l.takeWhile gU))=true
  ·rw [if_pos h2] at h;injection h with h
   injection h with h3 h4
   subst h3 h4;refine ⟨l.takeWhile gU,(List.takeWhile_append_dropWhile).symm,oW _ h2,fun r' hr=>?_⟩;obtain ⟨k1,k2⟩:=vO gU l r' hr;unfold fq;have hh:(l.takeWhile gU++r').head?=l.head?:=by
    cases l with
    | nil=>exact absurd rfl (oW _ h2)
    | cons c l=>
     have hne:=oW _ h2;rw [List.takeWhile_cons] at hne ⊢;cases hc:gU c with
     | true=>simp
     | false=>rw [hc] at hne;simp at hne
   rw [hh,if_neg h1,k1,k2,if_pos h2]
  ·rw [if_neg h2] at h;cases h
theorem oo (p r r':List UInt8) (h:p≠[]):(p++r).head?=(p++r').head?:=by
 cases p with
 | nil=>exact absurd rfl h
 | cons c p=>rfl
theorem Bg (a a':At) (l r:List UInt8) (h:dH a l=some (a',r)):∃ p,l=p++r/\p≠[]/\∀ r',r'.head?=r.head?->dH a (p++r')=some (a',r'):=by
 unfold dH at h;by_cases h1:fP (dA ((uI l).takeWhile gU))=false
 ·rw [if_pos h1] at h;cases h
 rw [if_neg h1] at h;have h1':fP (dA ((uI l).takeWhile gU))=true:=by simpa using h1
 have hN:=oW _ h1';by_cases h2:l.head?=some 35
 ·rw [if_pos h2] at h;by_cases h3:aT a.id=false
  ·rw [if_pos h3] at h;cases h
  rw [if_neg h3] at h;injection h with h
  injection h with e1 e2
  cases l with
  | nil=>simp at h2
  | cons c l=>
   obtain rfl:c=35:=by simpa using h2
   have hA:∀ x,uI (35::x)=x:=fun x=>by simp [uI]
   rw [hA] at e1 e2 h1 hN;refine ⟨35::l.takeWhile gU,?_,by simp,fun r' hr=>?_⟩
   ·rw [<- e2,ji0,List.takeWhile_append_dropWhile]
   ·obtain ⟨k1,k2⟩:=vO gU l r' (by rw [hr,e2]);unfold dH;rw [ji0,hA,k1,k2,if_neg h1,List.head?_cons,if_pos rfl,if_neg h3,e1]
 rw [if_neg h2] at h;by_cases h3:l.head?=some 46
 ·rw [if_pos h3] at h;by_cases h4:fF a.cls (dA ((uI l).takeWhile gU))=true
  ·rw [if_pos h4] at h;cases h
  rw [if_neg h4] at h;by_cases h5:32<=a.cls.length
  ·rw [if_pos h5] at h;cases h
  rw [if_neg h5] at h;injection h with h
  injection h with e1 e2
  cases l with
  | nil=>simp at h3
  | cons c l=>
   obtain rfl:c=46:=by simpa using h3
   have hA:∀ x,uI (46::x)=x:=fun x=>by simp [uI]
   rw [hA] at e1 e2 h1 hN h4;refine ⟨46::l.takeWhile gU,?_,by simp,fun r' hr=>?_⟩
   ·rw [<- e2,ji0,List.takeWhile_append_dropWhile]
   ·obtain ⟨k1,k2⟩:=vO gU l r' (by rw [hr,e2]);unfold dH;rw [ji0,hA,k1,k2,if_neg h1,List.head?_cons,if_neg (by decide),if_pos rfl,if_neg h4,if_neg h5,e1]
 rw [if_neg h3] at h;have hA:uI l=l:=by unfold uI;rw [if_neg (by rintro (h | h);exact h2 h;exact h3 h)]
 rw [hA] at h h1 hN;by_cases h4:(l.dropWhile gU).head?=some 61
 ·rw [if_pos h4] at h;cases hv:fq (l.dropWhile gU).tail with
  | none=>rw [hv] at h;cases h
  | some z=>
   obtain ⟨v,r1⟩:=z;rw [hv] at h;simp only at h;by_cases h5:fF (keysOf a) (dA (l.takeWhile gU))=true
   ·rw [if_pos h5] at h;cases h
   rw [if_neg h5] at h;by_cases h6:32<=a.aF.length
   ·rw [if_pos h6] at h;cases h
   rw [if_neg h6] at h;injection h with h
   injection h with e1 e2
   subst e2;obtain ⟨p1,q1,q2,q3⟩:=IE _ _ _ hv;have hD:l.dropWhile gU=61::(l.dropWhile gU).tail:=by
    cases hd:l.dropWhile gU with
    | nil=>rw [hd] at h4;simp at h4
    | cons c m=>
     rw [hd] at h4;obtain rfl:c=61:=by simpa using h4
     rfl
   refine ⟨l.takeWhile gU++61::p1,?_,by simp,fun r' hr=>?_⟩
   ·rw [List.append_assoc,ji0,<- q1,<- hD,List.takeWhile_append_dropWhile]
   ·have hrr:(l.takeWhile gU++61::p1)++r'=l.takeWhile gU++(61::(p1++r')):=by simp
    obtain ⟨k1,k2⟩:=vO gU l (61::(p1++r')) (by rw [h4];rfl);have hh:(l.takeWhile gU++(61::(p1++r'))).head?=l.head?:=by
     conv=>rhs;rw [<- List.takeWhile_append_dropWhile (p:=gU) (l:=l)]
     exact oo _ _ _ hN
    have hA':uI (l.takeWhile gU++(61::(p1++r')))=l.takeWhile gU++(61::(p1++r')):=by unfold uI;rw [hh,if_neg (by rintro (h | h);exact h2 h;exact h3 h)]
    unfold dH;rw [hrr,hA',k1,k2,hh,if_neg h1,if_neg h2,if_neg h3,List.head?_cons,if_pos rfl,List.tail_cons,q3 r' hr];simp only;rw [if_neg h5,if_neg h6,e1]
 ·rw [if_neg h4] at h;cases h
theorem yu:∀ (f:Nat) (a a':At) (sep:Bool) (l r:List UInt8),zh f a sep l=some (a',r) -> ∃ p,l=p++125::r/\∀ r' f',p.length+r'.length+1<=f'->zh f' a sep (p++125::r')=some (a',r')
 | 0,a,a',sep,l,r,h=>by rw [zh] at h;cases h
 | f+1,a,a',sep,l,r,h=>by
  rw [zh] at h;by_cases h1:l.head?=some 125
  ·rw [if_pos h1] at h;injection h with h
   injection h with e1 e2
   subst e1 e2;cases l with
   | nil=>simp at h1
   | cons c l=>
    obtain rfl:c=125:=by simpa using h1
    refine ⟨[],rfl,fun r' f' hf=>?_⟩;obtain ⟨g,rfl⟩:∃ g,f'=g+1:=⟨f'-1,by omega⟩;rw [zh,List.nil_append,List.head?_cons,if_pos rfl];rfl
  rw [if_neg h1] at h;by_cases h2:l=[]\/sep=false
  ·rw [if_pos h2] at h;cases h
  rw [if_neg h2] at h;cases hi:dH a l with
  | none=>rw [hi] at h;cases h
  | some z=>
   obtain ⟨a1,l1⟩:=z;rw [hi] at h;simp only at h;obtain ⟨p1,q1,q2,q3⟩:=Bg _ _ _ _ hi;obtain ⟨p2,k1,k2⟩:=yu f a1 a' _ _ r h;have hl1:l1=l1.takeWhile isSp++(p2++125::r):=by rw [<- k1];exact (List.takeWhile_append_dropWhile).symm
   have hh:∀ r',(l1.takeWhile isSp++(p2++125::r')).head?=l1.head?:=fun r'=>by
    conv=>rhs;rw [hl1]
    have e:∀ x,l1.takeWhile isSp++(p2++125::x)=(l1.takeWhile isSp++p2++[125])++x:=fun x=>by simp
    rw [e,e];exact oo _ _ _ (by simp)
   have hs:∀ r',iX (l1.takeWhile isSp++(p2++125::r'))=p2++125::r':=fun r'=>by
    refine (yj isSp _ _ (gM isSp l1).1 (fun c hc=>(gM isSp l1).2 c ?_)).2;rw [<- hc];show (iX l1).head?=_;rw [k1];have e:∀ x,p2++125::x=(p2++[125])++x:=fun x=>by simp
    rw [e r',e r];exact oo _ _ _ (by simp)
   refine ⟨p1++l1.takeWhile isSp++p2,?_,fun r' f' hf=>?_⟩
   ·rw [q1,List.append_assoc,List.append_assoc,<- hl1]
   ·obtain ⟨g,rfl⟩:∃ g,f'=g+1:=⟨f'-1,by omega⟩;have hp1:0<p1.length:=List.length_pos_iff.2 q2;have e:p1++l1.takeWhile isSp++p2++125::r'=p1++(l1.takeWhile isSp++(p2++125::r')):=by simp
    have hh2:(p1++(l1.takeWhile isSp++(p2++125::r'))).head?=l.head?:=by rw [q1];exact oo _ _ _ q2
    rw [e,zh,hh2,if_neg h1,if_neg,q3 _ (hh r')]
    ·simp only;rw [hh r',hs r'];refine k2 r' g ?_;simp only [List.length_append] at hf;omega
    ·rintro (h3 | h3)
     ·simp at h3
     ·exact h2 (.inr h3)
def fV (l:List UInt8):List UInt8:=(l.reverse.dropWhile isSp).reverse
theorem Bj (p r:List UInt8) (hr:∀ c∈r,isSp c=true) (hp:∀ c,p.getLast?=some c->isSp c=false):fV (p++r)=p:=by unfold fV;rw [List.reverse_append,(yj isSp r.reverse p.reverse (fun c hc=>hr c (by simpa using hc)) (fun c hc=>hp c (by simpa using hc))).2,List.reverse_reverse]
theorem oq (l:List UInt8):∃ r,l=fV l++r/\∀ c∈r,isSp c=true:=by refine ⟨(l.reverse.takeWhile isSp).reverse,?_,fun c hc=>(gM isSp l.reverse).1 c (by simpa using hc)⟩;unfold fV;rw [<- List.reverse_append,List.takeWhile_append_dropWhile,List.reverse_reverse]
theorem yw (l r:List UInt8) (a:At) (h:Dm l=some (a,r)):∃ p,l=p++125::r/\∀ r',Dm (p++125::r')=some (a,r'):=by
 unfold Dm at h;by_cases h1:l.head?=some 123
 ·rw [if_pos h1] at h;cases l with
  | nil=>simp at h1
  | cons c l=>
   obtain rfl:c=123:=by simpa using h1
   rw [List.tail_cons] at h;obtain ⟨p2,k1,k2⟩:=yu _ _ _ _ _ _ h;have hl:l=l.takeWhile isSp++(p2++125::r):=by rw [<- k1];exact (List.takeWhile_append_dropWhile).symm
   have hs:∀ r',iX (l.takeWhile isSp++(p2++125::r'))=p2++125::r':=fun r'=>by
    refine (yj isSp _ _ (gM isSp l).1 (fun c hc=>(gM isSp l).2 c ?_)).2;rw [<- hc];show (iX l).head?=_;rw [k1];have e:∀ x,p2++125::x=(p2++[125])++x:=fun x=>by simp
    rw [e r',e r];exact oo _ _ _ (by simp)
   refine ⟨123::(l.takeWhile isSp++p2),?_,fun r'=>?_⟩
   ·conv=>lhs;rw [hl]
    simp
   ·have e:123::(l.takeWhile isSp++p2)++125::r'=123::(l.takeWhile isSp++(p2++125::r')):=by simp
    unfold Dm;rw [e,List.head?_cons,if_pos rfl,List.tail_cons,hs r'];refine k2 r' _ ?_;simp;omega
 ·rw [if_neg h1] at h;cases h
def IG (l:List UInt8):Bool:=match Dm l with
 | none=>false
 | some (_,r)=>r.all isSp
def II (l:List UInt8):Bool:=match Dm (fV l) with
 | none=>false
 | some (_,r)=>r.isEmpty
theorem zP (l:List UInt8):IG l=II l:=by
 rw [Bool.eq_iff_iff];unfold IG II;constructor
 ·intro h;cases hp:Dm l with
  | none=>rw [hp] at h;cases h
  | some z=>
   obtain ⟨a,r⟩:=z;rw [hp] at h;simp only at h;obtain ⟨p,e1,e2⟩:=yw _ _ _ hp;have ht:fV l=p++[125]:=by
    have e:l=(p++[125])++r:=by rw [e1];simp
    rw [e];refine Bj _ _ (List.all_eq_true.1 h) (fun c hc=>?_);simp at hc;subst hc;decide
   rw [ht,e2 []];rfl
 ·intro h;cases hp:Dm (fV l) with
  | none=>rw [hp] at h;cases h
  | some z=>
   obtain ⟨a,r⟩:=z;rw [hp] at h;simp only at h;obtain rfl:r=[]:=by simpa using h
   obtain ⟨p,e1,e2⟩:=yw _ _ _ hp;obtain ⟨sp,k1,k2⟩:=oq l;have e:l=p++125::sp:=by rw [k1,e1];simp
   rw [e,e2 sp];exact List.all_eq_true.2 k2
def ou (l:List UInt8):Bool:=
 decide ((l.takeWhile isSp).length<=3)&&decide ((iX l).take 2=[36,36])&&((iX ((iX l).drop 2)).isEmpty||IG (iX ((iX l).drop 2)))
def yx:List UInt8->List UInt8->List (List UInt8)
 | _,[]=>[]
 | acc,c::l=>if c=10 then acc::yx [] l else yx (acc++[c]) l
def tq (s:ByteArray):Bool:=(yx [] s.data.toList).any ou
end Go.Proofs.YtclikfjalmcoaaaGreatDoor

