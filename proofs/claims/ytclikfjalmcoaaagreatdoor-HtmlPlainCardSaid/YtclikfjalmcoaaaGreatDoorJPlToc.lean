/- Plain part: the errors of layer 4: what is not well-formed in inlines and blocks. Plain part: merged inlines: what Merge returns; it keeps the plain text, and changes nothing the second time, nor a line without errors. Plain part: groups of texts in Merge. Plain part: clean texts one after the other are clean. Plain part: entry lines, as the program and as the reference make them. -/
import Derived.Test.YtclikfjalmcoaaaGreatDoorJSame
import Derived.Test.YtclikfjalmcoaaaGreatDoorJCtC
import Derived.Lib.RuneCount
namespace Go.Proofs.YtclikfjalmcoaaaGreatDoor
set_option linter.unusedVariables false
set_option linter.unusedSimpArgs false
def Hw (p:Nat × Nat):Bool:=(decide (p.1=10)||(decide (32<=p.1)&&!decide (p.1=127)))&&!(decide (p.1=65533)&&decide (p.2=1))
def ku (s:ByteArray):Bool:=(pts s).all Hw
def TD (s:ByteArray):Bool:=s.data.toList.all fun c=>!decide (c=10)
def fP (s:ByteArray):Bool:=ku s&&TD s
def trimS (s:ByteArray):Bool:=decide (s.data.toList=[])||(!decide (s.data.toList.head?=some 32)&&!decide (s.data.toList.getLast?=some 32))
def q24 (s:ByteArray) (bs:List UInt8):Bool:=s.data.toList.any fun c=>bs.contains c
def tY (p:Nat × Nat):Bool:=oO p.1||Jw p.1||[32,45,95,46,58].contains p.1
def eG (s:ByteArray):Bool:=decide (1<=s.size)&&decide (s.size<=60)&&decide (xU s=s)&&(pts s).all tY
def aW (s:ByteArray):Bool:=decide (s.data.toList=[])
def At.none (a:At):Bool:=aW a.id&&a.cls.isEmpty&&a.aH.isEmpty
def dA (seen:List ByteArray):List ByteArray->Nat
 | []=>0
 | c::l=>if iQ c=false then 6 else if hasB seen c=true then 7 else dA (seen++[c]) l
def sU (seen:List ByteArray):List Pr->Nat
 | []=>0
 | p::l=>if iQ p.key=false then 6 else if fP p.val=false then 17 else if hasB seen p.key=true then 7 else sU (seen++[p.key]) l
def At.err (a:At):Nat:=
 if aW a.id=false/\iQ a.id=false then 6
 else if dA [] a.cls≠0 then dA [] a.cls
 else if sU [] a.aH≠0 then sU [] a.aH
 else if 32<a.cls.length\/32<a.aH.length then 3 else 0
mutual
def ah.Lx (ks:List Int):ah->Bool
 | .mk k _ _ _ _ _ _ kids=>ks.contains k||ah.dW ks kids
def ah.dW (ks:List Int):List ah->Bool
 | []=>false
 | x::l=>x.Lx ks||ah.dW ks l
end
def oW:List Int:=[9,16,12,14,13]
def j6:List Int:=[2,3]
def BJ (k:Int) (t d ti:ByteArray) (a:At) (ar:List ByteArray) (ci:List Ci) (ks:List ah):Bool:=
 decide (1<=k)&&decide (k<=16)&&(([1,4,5,9,10,12,14,15]:List Int).contains k||aW t)&&(([9,10,16]:List Int).contains k||aW d)&&(([9,10,14]:List Int).contains k||aW ti) &&
 (([10,11]:List Int).contains k||a.none)&&(([6,7,8,9,10,11]:List Int).contains k||ks.isEmpty)&&(decide (k=15)||ar.isEmpty)&&(decide (k=13)||ci.isEmpty)
def kC (s:ByteArray):Nat:=(s.data.toList.takeWhile fun c=>jD c.toNat).length
def uh (s:ByteArray):Bool:=decide (2<=kC s)&&decide (kC s<=20)&&decide (s.data.toList[kC s]?=some 58)&&fP s&&!q24 s [32,60,62]
def lU (s:ByteArray):Bool:=!fP s||!trimS s||q24 s [91,93,59,64,123,36,96]
def kD:List Ci->Nat
 | []=>0
 | c::l=>if iQ c.key=false then 6 else if lU c.pre=true\/lU c.suf=true then 17 else kD l
def jN (l:List Ci):Nat:=if l.isEmpty=true then 8 else kD l
def iF (k:Int) (t d ti:ByteArray) (a:At) (ks:List ah):Nat:=
 if aW t=false/\(aW d=false\/aW ti=false) then 5
 else if aW t=false/\eG t=false then 6
 else if fP d=false\/fP ti=false then 17
 else if k=9/\ah.dW oW ks=true then 5
 else if k=10 then a.err else 0
def dK (s:ByteArray):Bool:=!fP s||q24 s [124,123,125]
def BI:List UInt8:=[112,97,103,101]
def jO (k:Int) (t ti:ByteArray) (ar:List ByteArray):Nat:=
 if iQ t=false then 6
 else if k=14/\aW ti=false/\ti.data.toList≠BI then 5
 else if 8<ar.length then 3
 else if ar.any dK then 17 else 0
def rM (before:Int) (first last:Bool) (k:Int) (t d ti:ByteArray) (a:At) (ar:List ByteArray) (ci:List Ci) (ks:List ah):Nat:=
 if BJ k t d ti a ar ci ks=false then 5
 else if k=1\/k=4\/k=5 then (if aW t=true\/fP t=false then 17 else if k≠5/\before=k then 5 else 0)
 else if k=2 then (if before=2\/before=3\/first=true\/last=true then 5 else 0)
 else if k=3 then (if last=true then 5 else 0)
 else if k=6\/k=7\/k=8 then (if ks.isEmpty=true then 8 else 0)
 else if k=9\/k=10 then iF k t d ti a ks
 else if k=11 then (if a.none=true then 8 else a.err)
 else if k=12\/k=14\/k=15 then jO k t ti ar
 else if k=13 then jN ci
 else if uh d=true then 0 else 5
def ah.kd:ah->Int
 | .mk k _ _ _ _ _ _ _=>k
mutual
def ah.err (before:Int) (first last:Bool) (dp:Nat):ah->Nat
 | .mk k t d ti a ar ci ks=>if rM before first last k t d ti a ar ci ks≠0 then rM before first last k t d ti a ar ci ks else ah.aP 0 true (dp+1) ks
def ah.aP (before:Int) (st:Bool) (dp:Nat):List ah->Nat
 | []=>0
 | x::l=>if 15<dp then 11 else if x.err before (decide (dp=0)&&st) (decide (dp=0)&&l.isEmpty) dp≠0 then x.err before (decide (dp=0)&&st) (decide (dp=0)&&l.isEmpty) dp
   else ah.aP x.kd false dp l
end
def tJ (l:List ah):Nat:=ah.aP 0 true 0 l
def AQ (k lv:Int) (i t d ti:ByteArray) (a:At) (li:List ah) (ks:List au):Bool:=
 decide (1<=k)&&decide (k<=15)&&(([2,8]:List Int).contains k||decide (lv=0))&&(([3,10,13,14,15]:List Int).contains k||aW i)&&(([3,4]:List Int).contains k||aW t) &&
 (decide (k=15)||(aW d&&aW ti))&&(([2,4,13]:List Int).contains k||a.none)&&(([1,2,12]:List Int).contains k||li.isEmpty)&&(([6,7,8,9,10,11,13,14]:List Int).contains k||ks.isEmpty)
def fU (k par:Int):Bool:=
 if par=7\/par=8 then decide (k=9) else if par=10 then decide (k=11) else if par=11 then decide (k=12) else !([9,11,12]:List Int).contains k
def kZ (s:ByteArray):Bool:=aW s||(ku s&&decide (s.data.toList.getLast?=some 10))
def au.vL:au->Nat
 | .mk _ _ _ _ _ _ _ _ ks=>ks.length
def jf (i:ByteArray) (ks:List au):Nat:=
 if 32<i.size then 3 else if aW i=true then 5 else if i.data.toList.any (fun c=>!([45,108,99,114]:List UInt8).contains c) then 5
 else if ks.isEmpty=true then 8 else if ks.any (fun b=>!decide (b.vL=i.size)) then 15 else 0
def sZ (cl:ByteArray->Bool) (k lv:Int) (i t d ti:ByteArray) (a:At) (li:List ah) (ks:List au):Nat:=
 if k=1 then (if li.isEmpty=true then 8 else tJ li)
 else if k=2 then (if lv<1\/6<lv then 9 else if a.err≠0 then a.err else if ah.dW j6 li=true then 5 else tJ li)
 else if k=12 then (if ah.dW j6 li=true then 5 else tJ li)
 else if k=3 then (if fP i=false\/trimS i=false\/kZ t=false then 17 else 0)
 else if k=4 then (if kZ t=false then 17 else if cl t=true then 5 else a.err)
 else if k=7\/k=8 then (if ks.isEmpty=true then 8 else if k=8/\(lv<0\/999999999<lv) then 9 else 0)
 else if k=10 then jf i ks
 else if k=13\/k=14 then (if iQ i=false then 6 else a.err)
 else if k=15 then (if eG i=false then 6 else if fP d=false\/fP ti=false then 17 else 0)
 else 0
mutual
def au.err (cl:ByteArray->Bool) (par:Int) (dp:Nat):au->Nat
 | .mk k lv i t d ti a li ks=>if 15<dp then 11 else if AQ k lv i t d ti a li ks=false\/fU k par=false then 5
   else if sZ cl k lv i t d ti a li ks≠0 then sZ cl k lv i t d ti a li ks else au.aP cl k (dp+1) ks
def au.aP (cl:ByteArray->Bool) (par:Int) (dp:Nat):List au->Nat
 | []=>0
 | x::l=>if x.err cl par dp≠0 then x.err cl par dp else au.aP cl par dp l
end
def dX (seen:List ByteArray):List Pr->Nat
 | []=>0
 | p::l=>if iQ p.key=false then 6 else if fP p.val=false\/trimS p.val=false then 17 else if hasB seen p.key=true then 7 else dX (seen++[p.key]) l
theorem Fp {α:Type} {l:List α} {y:α} (h:l.getLast?=some y):l=l.dropLast++[y]:=by obtain ⟨ys,rfl⟩:=List.getLast?_eq_some_iff.1 h;simp
end Go.Proofs.YtclikfjalmcoaaaGreatDoor

