/- Plain part: the errors of layer 4: what is not well-formed in inlines and blocks. Plain part: merged inlines: what Merge returns; it keeps the plain text, and changes nothing the second time, nor a line without errors. Plain part: groups of texts in Merge. Plain part: clean texts one after the other are clean. Plain part: entry lines, as the program and as the reference make them. Plain part: attributes in braces, read off a list of bytes; what is read does not depend on what stands behind the closing brace. -/
import Derived.Test.YtclikfjalmcoaaaGreatDoorKSame
import Derived.Test.YtclikfjalmcoaaaGreatDoorKCtC
import Derived.Lib.RuneCount
namespace Go.Proofs.YtclikfjalmcoaaaGreatDoor
open List renaming cons_append->jf6
set_option linter.unusedVariables false
set_option linter.unusedSimpArgs false
def GN (p:Nat × Nat):Bool:=(decide (p.1=10)||(decide (32<=p.1)&&!decide (p.1=127)))&&!(decide (p.1=65533)&&decide (p.2=1))
def jX (s:ByteArray):Bool:=(pts s).all GN
def Ud (s:ByteArray):Bool:=s.data.toList.all fun c=>!decide (c=10)
def gU (s:ByteArray):Bool:=jX s&&Ud s
def trimS (s:ByteArray):Bool:=decide (s.data.toList=[])||(!decide (s.data.toList.head?=some 32)&&!decide (s.data.toList.getLast?=some 32))
def dL (s:ByteArray) (bs:List UInt8):Bool:=s.data.toList.any fun c=>bs.contains c
def sJ (p:Nat × Nat):Bool:=nY p.1||Jf p.1||[32,45,95,46,58].contains p.1
def dW (s:ByteArray):Bool:=decide (1<=s.size)&&decide (s.size<=60)&&decide (wW s=s)&&(pts s).all sJ
def q01 (s:ByteArray):Bool:=decide (s.data.toList=[])
def At.none (a:At):Bool:=q01 a.id&&a.cls.isEmpty&&a.aP.isEmpty
def eu (seen:List ByteArray):List ByteArray->Nat
 | []=>0
 | c::l=>if je c=false then 6 else if hasB seen c=true then 7 else eu (seen++[c]) l
def dn (seen:List ByteArray):List Pr->Nat
 | []=>0
 | p::l=>if je p.key=false then 6 else if gU p.val=false then 17 else if hasB seen p.key=true then 7 else dn (seen++[p.key]) l
def At.err (a:At):Nat:=
 if q01 a.id=false/\je a.id=false then 6
 else if eu [] a.cls≠0 then eu [] a.cls
 else if dn [] a.aP≠0 then dn [] a.aP
 else if 32<a.cls.length\/32<a.aP.length then 3 else 0
mutual
def aj.Lr (ks:List Int):aj->Bool
 | .mk k _ _ _ _ _ _ kids=>ks.contains k||aj.dM ks kids
def aj.dM (ks:List Int):List aj->Bool
 | []=>false
 | x::l=>x.Lr ks||aj.dM ks l
end
def oh:List Int:=[9,16,12,14,13]
def jS:List Int:=[2,3]
def Df (k:Int) (t d ti:ByteArray) (a:At) (ar:List ByteArray) (ci:List Ci) (ks:List aj):Bool:=
 decide (1<=k)&&decide (k<=16)&&(([1,4,5,9,10,12,14,15]:List Int).contains k||q01 t)&&(([9,10,16]:List Int).contains k||q01 d)&&(([9,10,14]:List Int).contains k||q01 ti) &&
 (([10,11]:List Int).contains k||a.none)&&(([6,7,8,9,10,11]:List Int).contains k||ks.isEmpty)&&(decide (k=15)||ar.isEmpty)&&(decide (k=13)||ci.isEmpty)
def jY (s:ByteArray):Nat:=(s.data.toList.takeWhile fun c=>jw c.toNat).length
def sN (s:ByteArray):Bool:=decide (2<=jY s)&&decide (jY s<=20)&&decide (s.data.toList[jY s]?=some 58)&&gU s&&!dL s [32,60,62]
def kT (s:ByteArray):Bool:=!gU s||!trimS s||dL s [91,93,59,64,123,36,96]
def jZ:List Ci->Nat
 | []=>0
 | c::l=>if je c.key=false then 6 else if kT c.pre=true\/kT c.suf=true then 17 else jZ l
def jJ (l:List Ci):Nat:=if l.isEmpty=true then 8 else jZ l
def iJ (k:Int) (t d ti:ByteArray) (a:At) (ks:List aj):Nat:=
 if q01 t=false/\(q01 d=false\/q01 ti=false) then 5
 else if q01 t=false/\dW t=false then 6
 else if gU d=false\/gU ti=false then 17
 else if k=9/\aj.dM oh ks=true then 5
 else if k=10 then a.err else 0
def iO (s:ByteArray):Bool:=!gU s||dL s [124,123,125]
def AQ:List UInt8:=[112,97,103,101]
def jK (k:Int) (t ti:ByteArray) (ar:List ByteArray):Nat:=
 if je t=false then 6
 else if k=14/\q01 ti=false/\ti.data.toList≠AQ then 5
 else if 8<ar.length then 3
 else if ar.any iO then 17 else 0
def rJ (before:Int) (first last:Bool) (k:Int) (t d ti:ByteArray) (a:At) (ar:List ByteArray) (ci:List Ci) (ks:List aj):Nat:=
 if Df k t d ti a ar ci ks=false then 5
 else if k=1\/k=4\/k=5 then (if q01 t=true\/gU t=false then 17 else if k≠5/\before=k then 5 else 0)
 else if k=2 then (if before=2\/before=3\/first=true\/last=true then 5 else 0)
 else if k=3 then (if last=true then 5 else 0)
 else if k=6\/k=7\/k=8 then (if ks.isEmpty=true then 8 else 0)
 else if k=9\/k=10 then iJ k t d ti a ks
 else if k=11 then (if a.none=true then 8 else a.err)
 else if k=12\/k=14\/k=15 then jK k t ti ar
 else if k=13 then jJ ci
 else if sN d=true then 0 else 5
def aj.kd:aj->Int
 | .mk k _ _ _ _ _ _ _=>k
mutual
def aj.err (before:Int) (first last:Bool) (dp:Nat):aj->Nat
 | .mk k t d ti a ar ci ks=>if rJ before first last k t d ti a ar ci ks≠0 then rJ before first last k t d ti a ar ci ks else aj.aQ 0 true (dp+1) ks
def aj.aQ (before:Int) (st:Bool) (dp:Nat):List aj->Nat
 | []=>0
 | x::l=>if 15<dp then 11 else if x.err before (decide (dp=0)&&st) (decide (dp=0)&&l.isEmpty) dp≠0 then x.err before (decide (dp=0)&&st) (decide (dp=0)&&l.isEmpty) dp
   else aj.aQ x.kd false dp l
end
def uR (l:List aj):Nat:=aj.aQ 0 true 0 l
def wm (k lv:Int) (i t d ti:ByteArray) (a:At) (li:List aj) (ks:List ah):Bool:=
 decide (1<=k)&&decide (k<=15)&&(([2,8]:List Int).contains k||decide (lv=0))&&(([3,10,13,14,15]:List Int).contains k||q01 i)&&(([3,4]:List Int).contains k||q01 t) &&
 (decide (k=15)||(q01 d&&q01 ti))&&(([2,4,13]:List Int).contains k||a.none)&&(([1,2,12]:List Int).contains k||li.isEmpty)&&(([6,7,8,9,10,11,13,14]:List Int).contains k||ks.isEmpty)
def dA (k par:Int):Bool:=
 if par=7\/par=8 then decide (k=9) else if par=10 then decide (k=11) else if par=11 then decide (k=12) else !([9,11,12]:List Int).contains k
def kC (s:ByteArray):Bool:=q01 s||(jX s&&decide (s.data.toList.getLast?=some 10))
def ah.uT:ah->Nat
 | .mk _ _ _ _ _ _ _ _ ks=>ks.length
def iY (i:ByteArray) (ks:List ah):Nat:=
 if 32<i.size then 3 else if q01 i=true then 5 else if i.data.toList.any (fun c=>!([45,108,99,114]:List UInt8).contains c) then 5
 else if ks.isEmpty=true then 8 else if ks.any (fun b=>!decide (b.uT=i.size)) then 15 else 0
def rV (cl:ByteArray->Bool) (k lv:Int) (i t d ti:ByteArray) (a:At) (li:List aj) (ks:List ah):Nat:=
 if k=1 then (if li.isEmpty=true then 8 else uR li)
 else if k=2 then (if lv<1\/6<lv then 9 else if a.err≠0 then a.err else if aj.dM jS li=true then 5 else uR li)
 else if k=12 then (if aj.dM jS li=true then 5 else uR li)
 else if k=3 then (if gU i=false\/trimS i=false\/kC t=false then 17 else 0)
 else if k=4 then (if kC t=false then 17 else if cl t=true then 5 else a.err)
 else if k=7\/k=8 then (if ks.isEmpty=true then 8 else if k=8/\(lv<0\/999999999<lv) then 9 else 0)
 else if k=10 then iY i ks
 else if k=13\/k=14 then (if je i=false then 6 else a.err)
 else if k=15 then (if dW i=false then 6 else if gU d=false\/gU ti=false then 17 else 0)
 else 0
mutual
def ah.err (cl:ByteArray->Bool) (par:Int) (dp:Nat):ah->Nat
 | .mk k lv i t d ti a li ks=>if 15<dp then 11 else if wm k lv i t d ti a li ks=false\/dA k par=false then 5
   else if rV cl k lv i t d ti a li ks≠0 then rV cl k lv i t d ti a li ks else ah.aQ cl k (dp+1) ks
def ah.aQ (cl:ByteArray->Bool) (par:Int) (dp:Nat):List ah->Nat
 | []=>0
 | x::l=>if x.err cl par dp≠0 then x.err cl par dp else ah.aQ cl par dp l
end
def dN (seen:List ByteArray):List Pr->Nat
 | []=>0
 | p::l=>if je p.key=false then 6 else if gU p.val=false\/trimS p.val=false then 17 else if hasB seen p.key=true then 7 else dN (seen++[p.key]) l
theorem EJ {α:Type} {l:List α} {y:α} (h:l.getLast?=some y):l=l.dropLast++[y]:=by obtain ⟨ys,rfl⟩:=List.getLast?_eq_some_iff.1 h;simp
def bK:List UInt8->List UInt8->Option (List UInt8 × List UInt8)
 | [],_=>none
 | c::l,acc=>
  if c=34 then some (acc,l)
  else if c=92 then (match l with
   | []=>none
   | d::l'=>if d=34\/d=92 then bK l' (acc++[d]) else none)
  else bK l (acc++[c])
def bV (l:List UInt8):ByteArray:=⟨l.toArray⟩
def dP (l:List UInt8):Option (ByteArray × List UInt8):=
 if l.head?=some 34 then (match bK l.tail [] with
  | none=>none
  | some (v,r)=>if gU (bV v)=true then some (bV v,r) else none)
 else if je (bV (l.takeWhile gQ))=true then some (bV (l.takeWhile gQ),l.dropWhile gQ) else none
def rz (l:List UInt8):List UInt8:=if l.head?=some 35\/l.head?=some 46 then l.tail else l
def keysOf (a:At):List ByteArray:=a.aP.map Pr.key
def bY (a:At) (l:List UInt8):Option (At × List UInt8):=
 if je (bV ((rz l).takeWhile gQ))=false then none
 else if l.head?=some 35 then (if q01 a.id=false then none else some (⟨bV ((rz l).takeWhile gQ),a.cls,a.aP⟩,(rz l).dropWhile gQ))
 else if l.head?=some 46 then (if hasB a.cls (bV ((rz l).takeWhile gQ))=true then none else if 32<=a.cls.length then none
  else some (⟨a.id,a.cls++[bV ((rz l).takeWhile gQ)],a.aP⟩,(rz l).dropWhile gQ))
 else if ((rz l).dropWhile gQ).head?=some 61 then (match dP ((rz l).dropWhile gQ).tail with
  | none=>none
  | some (v,r)=>if hasB (keysOf a) (bV ((rz l).takeWhile gQ))=true then none else if 32<=a.aP.length then none
   else some (⟨a.id,a.cls,a.aP++[⟨bV ((rz l).takeWhile gQ),v⟩]⟩,r))
 else none
def isSp (c:UInt8):Bool:=decide (c=32)
def gX (l:List UInt8):List UInt8:=l.dropWhile isSp
def vS:Nat->At->Bool->List UInt8->Option (At × List UInt8)
 | 0,_,_,_=>none
 | f+1,a,sep,l=>
  if l.head?=some 125 then some (a,l.tail)
  else if l=[]\/sep=false then none
  else (match bY a l with
   | none=>none
   | some (a',l')=>vS f a' (decide (l'.head?=some 32)) (gX l'))
def zy (l:List UInt8):Option (At × List UInt8):=
 if l.head?=some 123 then vS l.length ⟨bV [],[],[]⟩ true (gX l.tail) else none
theorem vv (p:UInt8->Bool):∀ (n r:List UInt8),(∀ c∈n,p c=true)->(∀ c,r.head?=some c->p c=false)->(n++r).takeWhile p=n/\(n++r).dropWhile p=r
 | [],r,_,h2=>by
  cases r with
  | nil=>exact ⟨rfl,rfl⟩
  | cons c r=>exact ⟨by simp [h2 c rfl],by simp [h2 c rfl]⟩
 | c::n,r,h1,h2=>by
  have hc:=h1 c (by simp);obtain ⟨k1,k2⟩:=vv p n r (fun x hx=>h1 x (by simp [hx])) h2;rw [jf6,List.takeWhile_cons,List.dropWhile_cons,hc];simp [k1,k2]
theorem fE (p:UInt8->Bool) (l:List UInt8):(∀ c∈l.takeWhile p,p c=true)/\(∀ c,(l.dropWhile p).head?=some c->p c=false):=by
 induction l with
 | nil=>simp
 | cons x l ih=>
  rw [List.takeWhile_cons,List.dropWhile_cons];cases h:p x with
  | true=>
   refine ⟨fun c hc=>?_,fun c hc=>ih.2 c (by simpa using hc)⟩;simp at hc;rcases hc with rfl | hc
   ·exact h
   ·exact ih.1 c hc
  | false=>exact ⟨by simp,fun c hc=>by simp at hc;rw [<- hc];exact h⟩
theorem sw (p:UInt8->Bool) (l r':List UInt8) (h:r'.head?=(l.dropWhile p).head?):(l.takeWhile p++r').takeWhile p=l.takeWhile p/\(l.takeWhile p++r').dropWhile p=r':=
 vv p _ _ (fE p l).1 (fun c hc=>(fE p l).2 c (by rw [<- h];exact hc))
theorem nI:∀ (n:Nat) (l acc v r:List UInt8),l.length<=n->bK l acc=some (v,r)->∃ p,l=p++r/\p≠[]/\∀ r',bK (p++r') acc=some (v,r')
 | n,[],acc,v,r,_,h=>by rw [bK] at h;cases h
 | 0,c::l,acc,v,r,hn,h=>by simp at hn
 | n+1,c::l,acc,v,r,hn,h=>by
  simp only [List.length_cons] at hn;rw [bK.eq_def] at h;simp only at h;by_cases h1:c=34
  ·rw [if_pos h1] at h;injection h with h
   injection h with h2 h3
   subst h2 h3;exact ⟨[c],rfl,by simp,fun r'=>by rw [List.singleton_append,bK.eq_def];simp only;rw [if_pos h1]⟩
  ·rw [if_neg h1] at h;by_cases h2:c=92
   ·rw [if_pos h2] at h;cases l with
    | nil=>cases h
    | cons d l'=>
     simp only at h;by_cases h3:d=34\/d=92
     ·rw [if_pos h3] at h;obtain ⟨p,e1,e2,e3⟩:=nI n l' (acc++[d]) v r (by simp at hn;omega) h;refine ⟨c::d::p,by rw [e1];rfl,by simp,fun r'=>?_⟩;rw [jf6,jf6,bK.eq_def];simp only;rw [if_neg h1,if_pos h2,if_pos h3];exact e3 r'
     ·rw [if_neg h3] at h;cases h
   ·rw [if_neg h2] at h;obtain ⟨p,e1,e2,e3⟩:=nI n l (acc++[c]) v r (by omega) h;refine ⟨c::p,by rw [e1];rfl,by simp,fun r'=>?_⟩;rw [jf6,bK.eq_def];simp only;rw [if_neg h1,if_neg h2];exact e3 r'
theorem mo (l:List UInt8) (h:je (bV l)=true):l≠[]:=by rintro rfl;revert h;decide
theorem EK (l r:List UInt8) (v:ByteArray) (h:dP l=some (v,r)):∃ p,l=p++r/\p≠[]/\∀ r',r'.head?=r.head?->dP (p++r')=some (v,r'):=by
 unfold dP at h;by_cases h1:l.head?=some 34
 ·rw [if_pos h1] at h;cases l with
  | nil=>simp at h1
  | cons c l=>
   obtain rfl:c=34:=by simpa using h1
   rw [List.tail_cons] at h;cases hq:bK l [] with
   | none=>rw [hq] at h;cases h
   | some z=>
    obtain ⟨v1,r1⟩:=z;rw [hq] at h;simp only at h;by_cases h2:gU (bV v1)=true
    ·rw [if_pos h2] at h;injection h with h
     injection h with h3 h4
     subst h3 h4;obtain ⟨p,e1,e2,e3⟩:=nI _ l [] v1 r1 (Nat.le_refl _) hq;refine ⟨34::p,by rw [e1];rfl,by simp,fun r' _=>?_⟩;unfold dP;rw [jf6,List.head?_cons,if_pos rfl,List.tail_cons,e3 r'];simp only;rw [if_pos h2]
    ·rw [if_neg h2] at h;cases h
 ·rw [if_neg h1] at h;by_cases h2:je (bV (l.takeWhile gQ))=true
  ·rw [if_pos h2] at h;injection h with h
   injection h with h3 h4
   subst h3 h4;refine ⟨l.takeWhile gQ,(List.takeWhile_append_dropWhile).symm,mo _ h2,fun r' hr=>?_⟩;obtain ⟨k1,k2⟩:=sw gQ l r' hr;unfold dP;have hh:(l.takeWhile gQ++r').head?=l.head?:=by
    cases l with
    | nil=>exact absurd rfl (mo _ h2)
    | cons c l=>
     have hne:=mo _ h2;rw [List.takeWhile_cons] at hne ⊢;cases hc:gQ c with
     | true=>simp
     | false=>rw [hc] at hne;simp at hne
   rw [hh,if_neg h1,k1,k2,if_pos h2]
  ·rw [if_neg h2] at h;cases h
theorem lJ (p r r':List UInt8) (h:p≠[]):(p++r).head?=(p++r').head?:=by
 cases p with
 | nil=>exact absurd rfl h
 | cons c p=>rfl
theorem xQ (a a':At) (l r:List UInt8) (h:bY a l=some (a',r)):∃ p,l=p++r/\p≠[]/\∀ r',r'.head?=r.head?->bY a (p++r')=some (a',r'):=by
 unfold bY at h;by_cases h1:je (bV ((rz l).takeWhile gQ))=false
 ·rw [if_pos h1] at h;cases h
 rw [if_neg h1] at h;have h1':je (bV ((rz l).takeWhile gQ))=true:=by simpa using h1
 have hN:=mo _ h1';by_cases h2:l.head?=some 35
 ·rw [if_pos h2] at h;by_cases h3:q01 a.id=false
  ·rw [if_pos h3] at h;cases h
  rw [if_neg h3] at h;injection h with h
  injection h with e1 e2
  cases l with
  | nil=>simp at h2
  | cons c l=>
   obtain rfl:c=35:=by simpa using h2
   have hA:∀ x,rz (35::x)=x:=fun x=>by simp [rz]
   rw [hA] at e1 e2 h1 hN;refine ⟨35::l.takeWhile gQ,?_,by simp,fun r' hr=>?_⟩
   ·rw [<- e2,jf6,List.takeWhile_append_dropWhile]
   ·obtain ⟨k1,k2⟩:=sw gQ l r' (by rw [hr,e2]);unfold bY;rw [jf6,hA,k1,k2,if_neg h1,List.head?_cons,if_pos rfl,if_neg h3,e1]
 rw [if_neg h2] at h;by_cases h3:l.head?=some 46
 ·rw [if_pos h3] at h;by_cases h4:hasB a.cls (bV ((rz l).takeWhile gQ))=true
  ·rw [if_pos h4] at h;cases h
  rw [if_neg h4] at h;by_cases h5:32<=a.cls.length
  ·rw [if_pos h5] at h;cases h
  rw [if_neg h5] at h;injection h with h
  injection h with e1 e2
  cases l with
  | nil=>simp at h3
  | cons c l=>
   obtain rfl:c=46:=by simpa using h3
   have hA:∀ x,rz (46::x)=x:=fun x=>by simp [rz]
   rw [hA] at e1 e2 h1 hN h4;refine ⟨46::l.takeWhile gQ,?_,by simp,fun r' hr=>?_⟩
   ·rw [<- e2,jf6,List.takeWhile_append_dropWhile]
   ·obtain ⟨k1,k2⟩:=sw gQ l r' (by rw [hr,e2]);unfold bY;rw [jf6,hA,k1,k2,if_neg h1,List.head?_cons,if_neg (by decide),if_pos rfl,if_neg h4,if_neg h5,e1]
 rw [if_neg h3] at h;have hA:rz l=l:=by unfold rz;rw [if_neg (by rintro (h | h);exact h2 h;exact h3 h)]
 rw [hA] at h h1 hN;by_cases h4:(l.dropWhile gQ).head?=some 61
 ·rw [if_pos h4] at h;cases hv:dP (l.dropWhile gQ).tail with
  | none=>rw [hv] at h;cases h
  | some z=>
   obtain ⟨v,r1⟩:=z;rw [hv] at h;simp only at h;by_cases h5:hasB (keysOf a) (bV (l.takeWhile gQ))=true
   ·rw [if_pos h5] at h;cases h
   rw [if_neg h5] at h;by_cases h6:32<=a.aP.length
   ·rw [if_pos h6] at h;cases h
   rw [if_neg h6] at h;injection h with h
   injection h with e1 e2
   subst e2;obtain ⟨p1,q1,q2,q3⟩:=EK _ _ _ hv;have hD:l.dropWhile gQ=61::(l.dropWhile gQ).tail:=by
    cases hd:l.dropWhile gQ with
    | nil=>rw [hd] at h4;simp at h4
    | cons c m=>
     rw [hd] at h4;obtain rfl:c=61:=by simpa using h4
     rfl
   refine ⟨l.takeWhile gQ++61::p1,?_,by simp,fun r' hr=>?_⟩
   ·rw [List.append_assoc,jf6,<- q1,<- hD,List.takeWhile_append_dropWhile]
   ·have hrr:(l.takeWhile gQ++61::p1)++r'=l.takeWhile gQ++(61::(p1++r')):=by simp
    obtain ⟨k1,k2⟩:=sw gQ l (61::(p1++r')) (by rw [h4];rfl);have hh:(l.takeWhile gQ++(61::(p1++r'))).head?=l.head?:=by
     conv=>rhs;rw [<- List.takeWhile_append_dropWhile (p:=gQ) (l:=l)]
     exact lJ _ _ _ hN
    have hA':rz (l.takeWhile gQ++(61::(p1++r')))=l.takeWhile gQ++(61::(p1++r')):=by unfold rz;rw [hh,if_neg (by rintro (h | h);exact h2 h;exact h3 h)]
    unfold bY;rw [hrr,hA',k1,k2,hh,if_neg h1,if_neg h2,if_neg h3,List.head?_cons,if_pos rfl,List.tail_cons,q3 r' hr];simp only;rw [if_neg h5,if_neg h6,e1]
 ·rw [if_neg h4] at h;cases h
theorem vw:∀ (f:Nat) (a a':At) (sep:Bool) (l r:List UInt8),vS f a sep l=some (a',r) -> ∃ p,l=p++125::r/\∀ r' f',p.length+r'.length+1<=f'->vS f' a sep (p++125::r')=some (a',r')
 | 0,a,a',sep,l,r,h=>by rw [vS] at h;cases h
 | f+1,a,a',sep,l,r,h=>by
  rw [vS] at h;by_cases h1:l.head?=some 125
  ·rw [if_pos h1] at h;injection h with h
   injection h with e1 e2
   subst e1 e2;cases l with
   | nil=>simp at h1
   | cons c l=>
    obtain rfl:c=125:=by simpa using h1
    refine ⟨[],rfl,fun r' f' hf=>?_⟩;obtain ⟨g,rfl⟩:∃ g,f'=g+1:=⟨f'-1,by omega⟩;rw [vS,List.nil_append,List.head?_cons,if_pos rfl];rfl
  rw [if_neg h1] at h;by_cases h2:l=[]\/sep=false
  ·rw [if_pos h2] at h;cases h
  rw [if_neg h2] at h;cases hi:bY a l with
  | none=>rw [hi] at h;cases h
  | some z=>
   obtain ⟨a1,l1⟩:=z;rw [hi] at h;simp only at h;obtain ⟨p1,q1,q2,q3⟩:=xQ _ _ _ _ hi;obtain ⟨p2,k1,k2⟩:=vw f a1 a' _ _ r h;have hl1:l1=l1.takeWhile isSp++(p2++125::r):=by rw [<- k1];exact (List.takeWhile_append_dropWhile).symm
   have hh:∀ r',(l1.takeWhile isSp++(p2++125::r')).head?=l1.head?:=fun r'=>by
    conv=>rhs;rw [hl1]
    have e:∀ x,l1.takeWhile isSp++(p2++125::x)=(l1.takeWhile isSp++p2++[125])++x:=fun x=>by simp
    rw [e,e];exact lJ _ _ _ (by simp)
   have hs:∀ r',gX (l1.takeWhile isSp++(p2++125::r'))=p2++125::r':=fun r'=>by
    refine (vv isSp _ _ (fE isSp l1).1 (fun c hc=>(fE isSp l1).2 c ?_)).2;rw [<- hc];show (gX l1).head?=_;rw [k1];have e:∀ x,p2++125::x=(p2++[125])++x:=fun x=>by simp
    rw [e r',e r];exact lJ _ _ _ (by simp)
   refine ⟨p1++l1.takeWhile isSp++p2,?_,fun r' f' hf=>?_⟩
   ·rw [q1,List.append_assoc,List.append_assoc,<- hl1]
   ·obtain ⟨g,rfl⟩:∃ g,f'=g+1:=⟨f'-1,by omega⟩;have hp1:0<p1.length:=List.length_pos_iff.2 q2;have e:p1++l1.takeWhile isSp++p2++125::r'=p1++(l1.takeWhile isSp++(p2++125::r')):=by simp
    have hh2:(p1++(l1.takeWhile isSp++(p2++125::r'))).head?=l.head?:=by rw [q1];exact lJ _ _ _ q2
    rw [e,vS,hh2,if_neg h1,if_neg,q3 _ (hh r')]
    ·simp only;rw [hh r',hs r'];refine k2 r' g ?_;simp only [List.length_append] at hf;omega
    ·rintro (h3 | h3)
     ·simp at h3
     ·exact h2 (.inr h3)
def eG (l:List UInt8):List UInt8:=(l.reverse.dropWhile isSp).reverse
theorem xR (p r:List UInt8) (hr:∀ c∈r,isSp c=true) (hp:∀ c,p.getLast?=some c->isSp c=false):eG (p++r)=p:=by unfold eG;rw [List.reverse_append,(vv isSp r.reverse p.reverse (fun c hc=>hr c (by simpa using hc)) (fun c hc=>hp c (by simpa using hc))).2,List.reverse_reverse]
theorem lK (l:List UInt8):∃ r,l=eG l++r/\∀ c∈r,isSp c=true:=by refine ⟨(l.reverse.takeWhile isSp).reverse,?_,fun c hc=>(fE isSp l.reverse).1 c (by simpa using hc)⟩;unfold eG;rw [<- List.reverse_append,List.takeWhile_append_dropWhile,List.reverse_reverse]
theorem vB (l r:List UInt8) (a:At) (h:zy l=some (a,r)):∃ p,l=p++125::r/\∀ r',zy (p++125::r')=some (a,r'):=by
 unfold zy at h;by_cases h1:l.head?=some 123
 ·rw [if_pos h1] at h;cases l with
  | nil=>simp at h1
  | cons c l=>
   obtain rfl:c=123:=by simpa using h1
   rw [List.tail_cons] at h;obtain ⟨p2,k1,k2⟩:=vw _ _ _ _ _ _ h;have hl:l=l.takeWhile isSp++(p2++125::r):=by rw [<- k1];exact (List.takeWhile_append_dropWhile).symm
   have hs:∀ r',gX (l.takeWhile isSp++(p2++125::r'))=p2++125::r':=fun r'=>by
    refine (vv isSp _ _ (fE isSp l).1 (fun c hc=>(fE isSp l).2 c ?_)).2;rw [<- hc];show (gX l).head?=_;rw [k1];have e:∀ x,p2++125::x=(p2++[125])++x:=fun x=>by simp
    rw [e r',e r];exact lJ _ _ _ (by simp)
   refine ⟨123::(l.takeWhile isSp++p2),?_,fun r'=>?_⟩
   ·conv=>lhs;rw [hl]
    simp
   ·have e:123::(l.takeWhile isSp++p2)++125::r'=123::(l.takeWhile isSp++(p2++125::r')):=by simp
    unfold zy;rw [e,List.head?_cons,if_pos rfl,List.tail_cons,hs r'];refine k2 r' _ ?_;simp;omega
 ·rw [if_neg h1] at h;cases h
def EL (l:List UInt8):Bool:=match zy l with
 | none=>false
 | some (_,r)=>r.all isSp
def EM (l:List UInt8):Bool:=match zy (eG l) with
 | none=>false
 | some (_,r)=>r.isEmpty
theorem wK (l:List UInt8):EL l=EM l:=by
 rw [Bool.eq_iff_iff];unfold EL EM;constructor
 ·intro h;cases hp:zy l with
  | none=>rw [hp] at h;cases h
  | some z=>
   obtain ⟨a,r⟩:=z;rw [hp] at h;simp only at h;obtain ⟨p,e1,e2⟩:=vB _ _ _ hp;have ht:eG l=p++[125]:=by
    have e:l=(p++[125])++r:=by rw [e1];simp
    rw [e];refine xR _ _ (List.all_eq_true.1 h) (fun c hc=>?_);simp at hc;subst hc;decide
   rw [ht,e2 []];rfl
 ·intro h;cases hp:zy (eG l) with
  | none=>rw [hp] at h;cases h
  | some z=>
   obtain ⟨a,r⟩:=z;rw [hp] at h;simp only at h;obtain rfl:r=[]:=by simpa using h
   obtain ⟨p,e1,e2⟩:=vB _ _ _ hp;obtain ⟨sp,k1,k2⟩:=lK l;have e:l=p++125::sp:=by rw [k1,e1];simp
   rw [e,e2 sp];exact List.all_eq_true.2 k2
def lM (l:List UInt8):Bool:=
 decide ((l.takeWhile isSp).length<=3)&&decide ((gX l).take 2=[36,36])&&((gX ((gX l).drop 2)).isEmpty||EL (gX ((gX l).drop 2)))
def vC:List UInt8->List UInt8->List (List UInt8)
 | _,[]=>[]
 | acc,c::l=>if c=10 then acc::vC [] l else vC (acc++[c]) l
def oL (s:ByteArray):Bool:=(vC [] s.data.toList).any lM
end Go.Proofs.YtclikfjalmcoaaaGreatDoor

