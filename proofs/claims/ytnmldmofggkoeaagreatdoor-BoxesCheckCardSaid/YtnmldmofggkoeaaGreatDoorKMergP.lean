/- Plain part: the errors of layer 4: what is not well-formed in inlines and blocks. Plain part: merged inlines: what Merge returns; it keeps the plain text, and changes nothing the second time, nor a line without errors. Plain part: groups of texts in Merge. -/
import Derived.Test.YtnmldmofggkoeaaGreatDoorKSame
import Derived.Test.YtnmldmofggkoeaaGreatDoorKRowE
namespace Go.Proofs.YtnmldmofggkoeaaGreatDoor
set_option linter.unusedVariables false
set_option linter.unusedSimpArgs false
def lS (p:Nat × Nat):Bool:=(decide (p.1=10)||(decide (32<=p.1)&&!decide (p.1=127)))&&!(decide (p.1=65533)&&decide (p.2=1))
def bE (s:ByteArray):Bool:=(pts s).all lS
def Ny (s:ByteArray):Bool:=s.data.toList.all fun c=>!decide (c=10)
def iw (s:ByteArray):Bool:=bE s&&Ny s
def trimS (s:ByteArray):Bool:=decide (s.data.toList=[])||(!decide (s.data.toList.head?=some 32)&&!decide (s.data.toList.getLast?=some 32))
def bI (s:ByteArray) (bs:List UInt8):Bool:=s.data.toList.any fun c=>bs.contains c
def oH (p:Nat × Nat):Bool:=kR p.1||Ef p.1||[32,45,95,46,58].contains p.1
def bV (s:ByteArray):Bool:=decide (1<=s.size)&&decide (s.size<=60)&&decide (qF s=s)&&(pts s).all oH
def eY (s:ByteArray):Bool:=decide (s.data.toList=[])
def At.none (a:At):Bool:=eY a.id&&a.cls.isEmpty&&a.aS.isEmpty
def jZ (seen:List ByteArray):List ByteArray->Nat
 | []=>0
 | c::l=>if iA c=false then 6 else if hasB seen c=true then 7 else jZ (seen++[c]) l
def bM (seen:List ByteArray):List Pr->Nat
 | []=>0
 | p::l=>if iA p.key=false then 6 else if iw p.val=false then 17 else if hasB seen p.key=true then 7 else bM (seen++[p.key]) l
def At.err (a:At):Nat:=
 if eY a.id=false/\iA a.id=false then 6
 else if jZ [] a.cls≠0 then jZ [] a.cls
 else if bM [] a.aS≠0 then bM [] a.aS
 else if 32<a.cls.length\/32<a.aS.length then 3 else 0
mutual
def ah.EH (ks:List Int):ah->Bool
 | .mk k _ _ _ _ _ _ kids=>ks.contains k||ah.bJ ks kids
def ah.bJ (ks:List Int):List ah->Bool
 | []=>false
 | x::l=>x.EH ks||ah.bJ ks l
end
def kS:List Int:=[9,16,12,14,13]
def gD:List Int:=[2,3]
def Bc (k:Int) (t d ti:ByteArray) (a:At) (ar:List ByteArray) (ci:List Ci) (ks:List ah):Bool:=
 decide (1<=k)&&decide (k<=16)&&(([1,4,5,9,10,12,14,15]:List Int).contains k||eY t)&&(([9,10,16]:List Int).contains k||eY d)&&(([9,10,14]:List Int).contains k||eY ti) &&
 (([10,11]:List Int).contains k||a.none)&&(([6,7,8,9,10,11]:List Int).contains k||ks.isEmpty)&&(decide (k=15)||ar.isEmpty)&&(decide (k=13)||ci.isEmpty)
def gQ (s:ByteArray):Nat:=(s.data.toList.takeWhile fun c=>dB c.toNat).length
def oK (s:ByteArray):Bool:=decide (2<=gQ s)&&decide (gQ s<=20)&&decide (s.data.toList[gQ s]?=some 58)&&iw s&&!bI s [32,60,62]
def iX (s:ByteArray):Bool:=!iw s||!trimS s||bI s [91,93,59,64,123,36,96]
def gT:List Ci->Nat
 | []=>0
 | c::l=>if iA c.key=false then 6 else if iX c.pre=true\/iX c.suf=true then 17 else gT l
def gy (l:List Ci):Nat:=if l.isEmpty=true then 8 else gT l
def eB (k:Int) (t d ti:ByteArray) (a:At) (ks:List ah):Nat:=
 if eY t=false/\(eY d=false\/eY ti=false) then 5
 else if eY t=false/\bV t=false then 6
 else if iw d=false\/iw ti=false then 17
 else if k=9/\ah.bJ kS ks=true then 5
 else if k=10 then a.err else 0
def eT (s:ByteArray):Bool:=!iw s||bI s [124,123,125]
def vO:List UInt8:=[112,97,103,101]
def gB (k:Int) (t ti:ByteArray) (ar:List ByteArray):Nat:=
 if iA t=false then 6
 else if k=14/\eY ti=false/\ti.data.toList≠vO then 5
 else if 8<ar.length then 3
 else if ar.any eT then 17 else 0
def aW (before:Int) (first last:Bool) (k:Int) (t d ti:ByteArray) (a:At) (ar:List ByteArray) (ci:List Ci) (ks:List ah):Nat:=
 if Bc k t d ti a ar ci ks=false then 5
 else if k=1\/k=4\/k=5 then (if eY t=true\/iw t=false then 17 else if k≠5/\before=k then 5 else 0)
 else if k=2 then (if before=2\/before=3\/first=true\/last=true then 5 else 0)
 else if k=3 then (if last=true then 5 else 0)
 else if k=6\/k=7\/k=8 then (if ks.isEmpty=true then 8 else 0)
 else if k=9\/k=10 then eB k t d ti a ks
 else if k=11 then (if a.none=true then 8 else a.err)
 else if k=12\/k=14\/k=15 then gB k t ti ar
 else if k=13 then gy ci
 else if oK d=true then 0 else 5
def ah.kd:ah->Int
 | .mk k _ _ _ _ _ _ _=>k
mutual
def ah.err (before:Int) (first last:Bool) (dp:Nat):ah->Nat
 | .mk k t d ti a ar ci ks=>if aW before first last k t d ti a ar ci ks≠0 then aW before first last k t d ti a ar ci ks else ah.aQ 0 true (dp+1) ks
def ah.aQ (before:Int) (st:Bool) (dp:Nat):List ah->Nat
 | []=>0
 | x::l=>if 15<dp then 11 else if x.err before (decide (dp=0)&&st) (decide (dp=0)&&l.isEmpty) dp≠0 then x.err before (decide (dp=0)&&st) (decide (dp=0)&&l.isEmpty) dp
   else ah.aQ x.kd false dp l
end
def dn (l:List ah):Nat:=ah.aQ 0 true 0 l
def bQ (k lv:Int) (i t d ti:ByteArray) (a:At) (li:List ah) (ks:List aj):Bool:=
 decide (1<=k)&&decide (k<=15)&&(([2,8]:List Int).contains k||decide (lv=0))&&(([3,10,13,14,15]:List Int).contains k||eY i)&&(([3,4]:List Int).contains k||eY t) &&
 (decide (k=15)||(eY d&&eY ti))&&(([2,4,13]:List Int).contains k||a.none)&&(([1,2,12]:List Int).contains k||li.isEmpty)&&(([6,7,8,9,10,11,13,14]:List Int).contains k||ks.isEmpty)
def jS (k par:Int):Bool:=
 if par=7\/par=8 then decide (k=9) else if par=10 then decide (k=11) else if par=11 then decide (k=12) else !([9,11,12]:List Int).contains k
def mq (s:ByteArray):Bool:=eY s||(bE s&&decide (s.data.toList.getLast?=some 10))
def aj.vQ:aj->Nat
 | .mk _ _ _ _ _ _ _ _ ks=>ks.length
def gF (i:ByteArray) (ks:List aj):Nat:=
 if 32<i.size then 3 else if eY i=true then 5 else if i.data.toList.any (fun c=>!([45,108,99,114]:List UInt8).contains c) then 5
 else if ks.isEmpty=true then 8 else if ks.any (fun b=>!decide (b.vQ=i.size)) then 15 else 0
def eU (cl:ByteArray->Bool) (k lv:Int) (i t d ti:ByteArray) (a:At) (li:List ah) (ks:List aj):Nat:=
 if k=1 then (if li.isEmpty=true then 8 else dn li)
 else if k=2 then (if lv<1\/6<lv then 9 else if a.err≠0 then a.err else if ah.bJ gD li=true then 5 else dn li)
 else if k=12 then (if ah.bJ gD li=true then 5 else dn li)
 else if k=3 then (if iw i=false\/trimS i=false\/mq t=false then 17 else 0)
 else if k=4 then (if mq t=false then 17 else if cl t=true then 5 else a.err)
 else if k=7\/k=8 then (if ks.isEmpty=true then 8 else if k=8/\(lv<0\/999999999<lv) then 9 else 0)
 else if k=10 then gF i ks
 else if k=13\/k=14 then (if iA i=false then 6 else a.err)
 else if k=15 then (if bV i=false then 6 else if iw d=false\/iw ti=false then 17 else 0)
 else 0
mutual
def aj.err (cl:ByteArray->Bool) (par:Int) (dp:Nat):aj->Nat
 | .mk k lv i t d ti a li ks=>if 15<dp then 11 else if bQ k lv i t d ti a li ks=false\/jS k par=false then 5
   else if eU cl k lv i t d ti a li ks≠0 then eU cl k lv i t d ti a li ks else aj.aQ cl k (dp+1) ks
def aj.aQ (cl:ByteArray->Bool) (par:Int) (dp:Nat):List aj->Nat
 | []=>0
 | x::l=>if x.err cl par dp≠0 then x.err cl par dp else aj.aQ cl par dp l
end
def bK (seen:List ByteArray):List Pr->Nat
 | []=>0
 | p::l=>if iA p.key=false then 6 else if iw p.val=false\/trimS p.val=false then 17 else if hasB seen p.key=true then 7 else bK (seen++[p.key]) l
end Go.Proofs.YtnmldmofggkoeaaGreatDoor

